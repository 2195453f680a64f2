/- What the proof of this law needs besides: texts of ours, one behind the other. -/
import Derived.Test.YtcaogllnbpmcgaaMAllFnFewestSpies1
import Derived.Test.YtcaogllnbpmcgaaPx6
import Derived.Test.YtcaogllnbpmcgaaPx2
import Derived.Test.YtcaogllnbpmcgaaPx4
import Derived.Test.YtcaogllnbpmcgaaPx3
import Derived.Test.YtcaogllnbpmcgaaPx10
import Derived.Test.YtcaogllnbpmcgaaPx9
import Derived.Test.YtcaogllnbpmcgaaPx7
import Derived.Test.YtcaogllnbpmcgaaPx5
import Derived.Test.YtcaogllnbpmcgaaMBase
import Derived.Laws.MakeOwn
import Derived.Test.YtcaogllnbpmcgaaWKept
import Derived.Lib.Hide
/- The program's StoryOk tells whether it is a story. -/
set_option linter.unusedVariables false
set_option linter.unusedSimpArgs false
namespace Go.Proofs.Ytcaogllnbpmcgaa.M
open Go Go.RowKit Go.Proofs.YtcaogllnbpmcgaaW.PrintWords Go.Proofs.Ytcaogllnbpmcgaa.P
theorem impl_storyOk_l (n : Int) (s : List Cl) (hs : s.length < 4611686018427387904) : ∀ d i : Nat, i + d = s.length →
    Tells (fun k => impl_StoryOk.l0 k n s s (s.length : Int) (i : Int)) ((∀ j, i ≤ j → j < s.length → ClaimP n (s.getD j zC).f0 (s.getD j zC).f1) ∧ (1 ≤ n ∧ n ≤ 4) ∧ s.length ≤ 6) := by
  intro d
  induction d with
  | zero =>
    intro i hi
    refine Tells.step (fun k => by rw [impl_StoryOk.l0]) ?_
    refine Tells.neg (by omega) ?_
    refine Tells.bindc (peopleOkT n) ?_
    refine Tells.ite (fun h => Tells.dec ?_) (fun h => Tells.no fun h' => h (decide_eq_true h'.2.1))
    have h := of_decide_eq_true h
    exact ⟨fun h' => ⟨fun j h1 h2 => by omega, h, by omega⟩, fun h' => by omega⟩
  | succ d ih =>
    intro i hi
    refine Tells.step (fun k => by rw [impl_StoryOk.l0]) ?_
    rw [rdC, w64s (i := i) (by omega)]
    refine Tells.pos (by omega) ?_
    refine Tells.pos (by omega) ?_
    refine Tells.pos (by omega) ?_
    obtain ⟨b, hb, hi'⟩ := impl_claimOk n (s.getD i zC).f0 (s.getD i zC).f1
    refine Tells.bind hb ?_
    refine Tells.ite (fun h => ?_) (fun h => Tells.no fun h' => h (hi'.2 (h'.1 i (Nat.le_refl _) (by omega))))
    refine (ih (i + 1) (by omega)).iff ?_
    constructor
    · intro h'
      refine ⟨fun j h1 h2 => ?_, h'.2⟩
      rcases Nat.eq_or_lt_of_le h1 with e | e
      · exact e ▸ hi'.1 h
      · exact h'.1 j e h2
    · exact fun h' => ⟨fun j h1 h2 => h'.1 j (by omega) h2, h'.2⟩
theorem impl_storyOk (n : Int) (s : List Cl) (hs : s.length < 4611686018427387904) : Tells (fun k => impl_StoryOk.f k n s) (StoryP n s) := by
  unfold impl_StoryOk.f
  refine (impl_storyOk_l n s hs s.length 0 (by omega)).iff ?_
  exact ⟨fun h => ⟨fun j hj => h.1 j (by omega) hj, h.2⟩, fun h => ⟨fun j _ hj => h.1 j hj, h.2⟩⟩
end Go.Proofs.Ytcaogllnbpmcgaa.M

/- The reference's TermOk tells whether a row is a term. -/
set_option linter.unusedVariables false
set_option linter.unusedSimpArgs false
namespace Go.Proofs.Ytcaogllnbpmcgaa.M
open Go Go.RowKit Go.Proofs.YtcaogllnbpmcgaaW.PrintWords Go.Proofs.Ytcaogllnbpmcgaa.P
theorem l1InT (a b c : Int) : spec_l1In.f a b c = some (decide (b ≤ a ∧ a ≤ c)) := by
  unfold spec_l1In.f
  by_cases h : a ≥ b
  · rw [if_pos h]
    simp [h]
  · rw [if_neg h]
    simp
    intro h'
    omega
/-- No mark is beyond the machine's whole numbers. -/
def M64 (s : List Mk) : Prop := ∀ i : Nat, (s.getD i zM).f1 ≤ 9223372036854775807
theorem spec_termOk_l (n : Int) (hb : n ≤ 9223372036854775807) (s : List Mk) (h64 : M64 s) (hs : s.length < 4611686018427387904) : ∀ d i p : Nat, i + d = s.length → p ≤ i →
    Tells (fun k => spec_TermOk.l0 k n s (p : Int) (i : Int)) (foldP n p (s.drop i) = some 1 ∧ (1 ≤ n ∧ n ≤ 4) ∧ s.length ≤ 15) := by
  intro d
  induction d with
  | zero =>
    intro i p hi hp
    refine Tells.step (fun k => by rw [spec_TermOk.l0]) ?_
    refine Tells.neg (by omega) ?_
    rw [List.drop_eq_nil_of_le (by omega)]
    refine Tells.bindc (l1InT n 1 4) ?_
    simp only [foldP, Option.some.injEq]
    refine Tells.ite (fun h => ?_) (fun h => Tells.no fun h' => h (decide_eq_true h'.2.1))
    have hn := of_decide_eq_true h
    refine Tells.ite (fun h1 => Tells.dec ?_) (fun h1 => Tells.no fun h' => h1 (by omega))
    exact ⟨fun h => ⟨by omega, hn, by omega⟩, fun h => by omega⟩
  | succ d ih =>
    intro i p hi hp
    refine Tells.step (fun k => by rw [spec_TermOk.l0]) ?_
    rw [foldP_drop n p s i (by omega), rdM]
    refine Tells.pos (by omega) ?_
    refine Tells.pos (by omega) ?_
    have hm64 := h64 i
    generalize hm : s.getD i zM = m at hm64
    have go : ∀ q, q ≤ i + 1 → stepP n p m = some q → Tells (fun k => spec_TermOk.l0 k n s (q : Int) ((i + 1 : Nat) : Int)) ((stepP n p m).bind (fun q => foldP n q (s.drop (i + 1))) = some 1 ∧ (1 ≤ n ∧ n ≤ 4) ∧ s.length ≤ 15) := fun q hq e => by
      rw [e]
      exact ih (i + 1) q (by omega) hq
    have no : stepP n p m = none → Tells (fun _ => some false) ((stepP n p m).bind (fun q => foldP n q (s.drop (i + 1))) = some 1 ∧ (1 ≤ n ∧ n ≤ 4) ∧ s.length ≤ 15) := fun e => by
      rw [e]
      exact Tells.no (by simp)
    have j3 : m.f0 ≠ 0 → m.f0 ≠ 1 → ¬ (m.f0 = 2 ∧ m.f1 = 0 ∧ 1 ≤ p) → Tells (fun k => spec_TermOk.j3 k n s (p : Int) (i : Int) false) ((stepP n p m).bind (fun q => foldP n q (s.drop (i + 1))) = some 1 ∧ (1 ≤ n ∧ n ≤ 4) ∧ s.length ≤ 15) := fun h0 h1 h2 => by
      refine Tells.step (fun k => by rw [spec_TermOk.j3]) ?_
      rw [rdM, hm, w64s (by omega)]
      refine Tells.neg (by decide) ?_
      refine Tells.pos (by omega) ?_
      refine Tells.pos (by omega) ?_
      refine Tells.bindc (l1InT m.f0 3 5) ?_
      have bad : ¬ (3 ≤ m.f0 ∧ m.f0 ≤ 5 ∧ m.f1 = 0 ∧ 2 ≤ p) → stepP n p m = none := fun hb => by
        unfold stepP
        rw [if_neg h0, if_neg h1]
        by_cases h2' : m.f0 = 2
        · rw [if_pos h2', if_neg (fun h => h2 ⟨h2', h.1, h.2⟩)]
        · rw [if_neg h2']
          by_cases h3 : 3 ≤ m.f0 ∧ m.f0 ≤ 5
          · rw [if_pos h3, if_neg (fun h => hb ⟨h3.1, h3.2, h.1, h.2⟩)]
          · rw [if_neg h3]
      refine Tells.ite (fun h3 => ?_) (fun h3 => no (bad fun h => h3 (decide_eq_true ⟨h.1, h.2.1⟩)))
      have h3 := of_decide_eq_true h3
      refine Tells.ite (fun h4 => ?_) (fun h4 => no (bad fun h => h4 h.2.2.1))
      refine Tells.ite (fun h5 => ?_) (fun h5 => no (bad fun h => h5 (by omega)))
      rw [w64 (x := (p : Int) - 1) (by omega) (by omega), show (p : Int) - 1 = ((p - 1 : Nat) : Int) by omega]
      exact go (p - 1) (by omega) (by unfold stepP; rw [if_neg h0, if_neg h1, if_neg (by omega), if_pos h3, if_pos ⟨h4, by omega⟩])
    have j2 : m.f0 ≠ 0 → ¬ (m.f0 = 1 ∧ 0 ≤ m.f1 ∧ m.f1 ≤ n + 1) → Tells (fun k => spec_TermOk.j2 k n s (p : Int) (i : Int) false) ((stepP n p m).bind (fun q => foldP n q (s.drop (i + 1))) = some 1 ∧ (1 ≤ n ∧ n ≤ 4) ∧ s.length ≤ 15) := fun h0 h1 => by
      refine Tells.step (fun k => by rw [spec_TermOk.j2]) ?_
      rw [rdM, hm]
      refine Tells.neg (by decide) ?_
      refine Tells.pos (by omega) ?_
      refine Tells.pos (by omega) ?_
      by_cases h11 : m.f0 = 1
      · have e : stepP n p m = none := by
          unfold stepP
          rw [if_neg h0, if_pos h11, if_neg (fun h => h1 ⟨h11, h⟩)]
        refine Tells.neg (by simp [h11]) ?_
        refine Tells.step (fun k => by rw [spec_TermOk.j3]) ?_
        rw [rdM, hm]
        refine Tells.neg (by decide) ?_
        refine Tells.pos (by omega) ?_
        refine Tells.pos (by omega) ?_
        refine Tells.bindc (l1InT m.f0 3 5) ?_
        refine Tells.neg (fun h => by have := of_decide_eq_true h; omega) ?_
        exact no e
      refine Tells.ite (fun h2 => ?_) (fun h2 => j3 h0 h11 fun h => h2 (by simp [h.1, h.2.1]))
      have h2 : m.f0 = 2 ∧ m.f1 = 0 := by simpa using h2
      by_cases hp1 : (p : Int) ≥ 1
      · rw [decide_eq_true hp1]
        refine Tells.step (fun k => by rw [spec_TermOk.j3]) ?_
        rw [w64s (by omega)]
        refine Tells.pos rfl ?_
        exact go p (by omega) (by unfold stepP; rw [if_neg h0, if_neg h11, if_pos h2.1, if_pos ⟨h2.2, by omega⟩])
      · rw [decide_eq_false hp1]
        exact j3 h0 h11 fun h => hp1 (by omega)
    have j2t : m.f0 = 1 → 0 ≤ m.f1 → m.f1 ≤ n + 1 → Tells (fun k => spec_TermOk.j2 k n s (p : Int) (i : Int) true) ((stepP n p m).bind (fun q => foldP n q (s.drop (i + 1))) = some 1 ∧ (1 ≤ n ∧ n ≤ 4) ∧ s.length ≤ 15) := fun h0 h1 h2 => by
      refine Tells.step (fun k => by rw [spec_TermOk.j2]) ?_
      rw [w64s (by omega), w64s (by omega)]
      refine Tells.pos rfl ?_
      exact go (p + 1) (by omega) (by unfold stepP; rw [if_neg (by omega), if_pos h0, if_pos ⟨h1, h2⟩])
    have j1 : ¬ (m.f0 = 0 ∧ 0 ≤ m.f1 ∧ m.f1 < n) → Tells (fun k => spec_TermOk.j1 k n s (p : Int) (i : Int) false) ((stepP n p m).bind (fun q => foldP n q (s.drop (i + 1))) = some 1 ∧ (1 ≤ n ∧ n ≤ 4) ∧ s.length ≤ 15) := fun h0 => by
      refine Tells.step (fun k => by rw [spec_TermOk.j1]) ?_
      rw [rdM, hm]
      refine Tells.neg (by decide) ?_
      refine Tells.pos (by omega) ?_
      refine Tells.pos (by omega) ?_
      by_cases h00 : m.f0 = 0
      · have e : stepP n p m = none := by
          unfold stepP
          rw [if_pos h00, if_neg (fun h => h0 ⟨h00, h⟩)]
        refine Tells.neg (by omega) ?_
        refine Tells.step (fun k => by rw [spec_TermOk.j2]) ?_
        rw [rdM, hm]
        refine Tells.neg (by decide) ?_
        refine Tells.pos (by omega) ?_
        refine Tells.pos (by omega) ?_
        refine Tells.neg (by simp [h00]) ?_
        refine Tells.step (fun k => by rw [spec_TermOk.j3]) ?_
        rw [rdM, hm]
        refine Tells.neg (by decide) ?_
        refine Tells.pos (by omega) ?_
        refine Tells.pos (by omega) ?_
        refine Tells.bindc (l1InT m.f0 3 5) ?_
        refine Tells.neg (fun h => by have := of_decide_eq_true h; omega) ?_
        exact no e
      refine Tells.ite (fun h1 => ?_) (fun h1 => j2 h00 fun h => h1 h.1)
      refine Tells.ite (fun h2 => ?_) (fun h2 => j2 h00 fun h => h2 h.2.1)
      refine Tells.ite (fun h3 => j2t h1 h2 (by omega)) (fun h3 => ?_)
      by_cases h4 : wrap64 (m.f1 - 1) = n
      · rw [show (wrap64 (m.f1 - 1) == n) = true by simp [h4]]
        exact j2t h1 h2 (by rw [w64 (by omega) (by omega)] at h4; omega)
      · rw [show (wrap64 (m.f1 - 1) == n) = false by simp [h4]]
        exact j2 h00 fun h => h4 (by rw [w64 (by omega) (by omega)]; omega)
    refine Tells.ite (fun h0 => ?_) (fun h0 => j1 fun h => h0 h.1)
    refine Tells.ite (fun h1 => ?_) (fun h1 => j1 fun h => h1 h.2.1)
    by_cases h2 : m.f1 < n
    · rw [decide_eq_true h2]
      refine Tells.step (fun k => by rw [spec_TermOk.j1]) ?_
      rw [w64s (by omega), w64s (by omega)]
      refine Tells.pos rfl ?_
      exact go (p + 1) (by omega) (by unfold stepP; rw [if_pos h0, if_pos ⟨h1, h2⟩])
    · rw [decide_eq_false h2]
      exact j1 fun h => h2 h.2.2
theorem spec_termOk (n : Int) (hb : n ≤ 9223372036854775807) (s : List Mk) (h64 : M64 s) (hs : s.length < 4611686018427387904) : Tells (fun k => spec_TermOk.f k n s) (TermP n s) := by
  unfold spec_TermOk.f
  refine (spec_termOk_l n hb s h64 hs s.length 0 0 (by omega) (by omega)).iff ?_
  rw [List.drop_zero]
  exact ⟨fun h => ⟨h.2.1, h.2.2, h.1⟩, fun h => ⟨h.2.2, h.1, h.2.1⟩⟩
end Go.Proofs.Ytcaogllnbpmcgaa.M

/- The reference's ClaimOk. -/
set_option linter.unusedVariables false
set_option linter.unusedSimpArgs false
namespace Go.Proofs.Ytcaogllnbpmcgaa.M
open Go Go.RowKit Go.Proofs.YtcaogllnbpmcgaaW.PrintWords Go.Proofs.Ytcaogllnbpmcgaa.P
theorem spec_claimOk (n : Int) (hn : n ≤ 9223372036854775807) (who : Int) (l : List Mk) (h64 : M64 l) (hl : l.length < 4611686018427387904) : Tells (fun k => spec_ClaimOk.f k n who l) (ClaimP n who l) := by
  unfold spec_ClaimOk.f
  refine Tells.ite (fun h0 => ?_) (fun h0 => Tells.no fun h' => h0 h'.1)
  refine Tells.ite (fun h1 => ?_) (fun h1 => Tells.no fun h' => h1 h'.2.1)
  obtain ⟨b, hb, hi⟩ := spec_termOk n hn l h64 hl
  refine Tells.bind hb ?_
  refine Tells.ite (fun h2 => Tells.dec ?_) (fun h2 => Tells.no fun h' => h2 (hi.2 h'.2.2.1))
  exact ⟨fun h => ⟨h0, h1, hi.1 h2, by omega⟩, fun h => by have := h.2.2.2; omega⟩
/-- Nothing in the story is beyond the machine's numbers. -/
def S64 (s : List Cl) : Prop := s.length < 4611686018427387904 ∧ ∀ i, M64 (s.getD i zC).f1 ∧ (s.getD i zC).f1.length < 4611686018427387904
end Go.Proofs.Ytcaogllnbpmcgaa.M

/- The reference's way, from the last mark, tells the tree's value. -/
set_option linter.unusedVariables false
set_option linter.unusedSimpArgs false
namespace Go.Proofs.Ytcaogllnbpmcgaa.M
open Go Go.RowKit Go.Proofs.YtcaogllnbpmcgaaW.PrintWords Go.Proofs.Ytcaogllnbpmcgaa.P
theorem spec_headsE (w : Nat) (hw : w < 16) : Ev (fun k => spec_l1Heads.f k (w : Int)) ((heads w : Nat) : Int) := by
  have h : ∀ w : Fin 16, spec_l1Heads.f 10 (w.val : Int) = some ((heads w.val : Nat) : Int) := by decide +kernel
  exact Ev.of (fun k => spec_l1Heads.mono (w : Int) k) (h ⟨w, hw⟩)
theorem starts_l (n : Int) (L : List Mk) (hL : L.length ≤ 1000) (r : Int) (t : Tm) : ∀ (pre post : List Mk) (d : Nat), t.Ok n → L = pre ++ t.enc ++ post → d ≤ 1000000 - t.enc.length →
    Ev (fun k => spec_l2Starts.l0 k L (d : Int) ((pre.length : Int) - 1)) r → Ev (fun k => spec_l2Starts.l0 k L ((d + 1 : Nat) : Int) (((pre.length + t.enc.length : Nat) : Int) - 1)) r := by
  induction t with
  | leaf m =>
    intro pre post d ht hl hd h
    refine Ev.step (fun k => by rw [spec_l2Starts.l0]) ?_
    have hlen : L.length = pre.length + 1 + post.length := by rw [hl]; simp [Tm.enc]; omega
    have hget : L.getD pre.length zM = m := by
      rw [hl]
      simp only [Tm.enc, List.append_assoc, List.singleton_append]
      exact getD_at zM pre m post
    have e : ((pre.length + (Tm.leaf m).enc.length : Nat) : Int) - 1 = (pre.length : Int) := by simp [Tm.enc]
    simp only [Tm.enc, List.length_singleton] at hd
    rw [e, rdM, hget, w64 (x := ((d + 1 : Nat) : Int) - 1) (by omega) (by omega), w64 (x := (pre.length : Int) - 1) (by omega) (by omega), show ((d + 1 : Nat) : Int) - 1 = (d : Int) by omega]
    refine ev_pos (by omega) ?_
    refine ev_pos (by omega) ?_
    refine ev_pos (by omega) ?_
    refine ev_pos (by rcases ht with h | h <;> omega) ?_
    exact h
  | neg t ih =>
    intro pre post d ht hl hd h
    refine Ev.step (fun k => by rw [spec_l2Starts.l0]) ?_
    have hlen : L.length = pre.length + t.enc.length + 1 + post.length := by rw [hl]; simp [Tm.enc]; omega
    have hget : L.getD (pre.length + t.enc.length) zM = ⟨2, 0⟩ := by
      rw [hl]
      simp only [Tm.enc, List.append_assoc, List.singleton_append]
      rw [← List.append_assoc]
      have := getD_at zM (pre ++ t.enc) ⟨2, 0⟩ post
      rwa [List.length_append] at this
    have e : ((pre.length + (Tm.neg t).enc.length : Nat) : Int) - 1 = ((pre.length + t.enc.length : Nat) : Int) := by simp [Tm.enc]; omega
    simp only [Tm.enc, List.length_append, List.length_singleton] at hd
    rw [e, rdM, hget, w64 (x := ((pre.length + t.enc.length : Nat) : Int) - 1) (by omega) (by omega)]
    refine ev_pos (by omega) ?_
    refine ev_pos (by omega) ?_
    refine ev_pos (by omega) ?_
    refine ev_neg (by decide) ?_
    refine ev_neg (by decide) ?_
    exact ih pre (⟨2, 0⟩ :: post) d ht (by rw [hl]; simp [Tm.enc]) (by omega) h
  | bin c a b iha ihb =>
    intro pre post d ht hl hd h
    obtain ⟨hc, ha, hb⟩ := ht
    refine Ev.step (fun k => by rw [spec_l2Starts.l0]) ?_
    have hlen : L.length = pre.length + a.enc.length + b.enc.length + 1 + post.length := by rw [hl]; simp [Tm.enc]; omega
    have hget : L.getD (pre.length + a.enc.length + b.enc.length) zM = ⟨c, 0⟩ := by
      rw [hl]
      simp only [Tm.enc, List.append_assoc, List.singleton_append]
      rw [← List.append_assoc, ← List.append_assoc]
      have := getD_at zM ((pre ++ a.enc) ++ b.enc) ⟨c, 0⟩ post
      rwa [List.length_append, List.length_append] at this
    have e : ((pre.length + (Tm.bin c a b).enc.length : Nat) : Int) - 1 = ((pre.length + a.enc.length + b.enc.length : Nat) : Int) := by simp [Tm.enc]; omega
    simp only [Tm.enc, List.length_append, List.length_singleton] at hd
    rw [e, rdM, hget, w64 (x := ((pre.length + a.enc.length + b.enc.length : Nat) : Int) - 1) (by omega) (by omega), w64s (by omega)]
    refine ev_pos (by omega) ?_
    refine ev_pos (by omega) ?_
    refine ev_pos (by omega) ?_
    refine ev_neg (by dsimp only; omega) ?_
    refine ev_pos (by dsimp only; omega) ?_
    have h2 := iha pre (b.enc ++ ⟨c, 0⟩ :: post) d ha (by rw [hl]; simp [Tm.enc]) (by omega) h
    rw [← List.length_append] at h2 ⊢
    exact ihb (pre ++ a.enc) (⟨c, 0⟩ :: post) (d + 1) hb (by rw [hl]; simp [Tm.enc]) (by omega) h2
theorem spec_holdsE (n : Int) (hn : n ≤ 4) (w : Nat) (hw : w < 16) (t : Tm) : t.Ok n → t.enc.length ≤ 1000 → Ev (fun k => spec_l3Holds.f k t.enc (w : Int)) (t.val w) := by
  induction t with
  | leaf m =>
    intro ht hl
    refine Ev.step (fun k => by rw [spec_l3Holds.f]) ?_
    have e : wrap64 (((Tm.leaf m).enc.length : Int) - 1) = ((0 : Nat) : Int) := by simp [Tm.enc, wrap64]
    have g : (Tm.leaf m).enc.getD 0 zM = m := rfl
    rw [e, rdM, g]
    have hlen : (Tm.leaf m).enc.length = 1 := rfl
    refine ev_pos (by omega) ?_
    refine ev_pos (by omega) ?_
    simp only [Tm.val]
    rcases ht with ⟨h0, h1, h2⟩ | ⟨h0, h1, h2⟩
    · refine ev_pos h0 ?_
      refine ev_pos h1 (ev_ret ?_)
      rw [if_pos h0, show m.f1 = ((m.f1.toNat : Nat) : Int) by omega, shr_tmod2 w m.f1.toNat (by omega), beq_one, Int.toNat_natCast]
    · refine ev_neg (by omega) ?_
      refine ev_pos h0 ?_
      refine ev_bind (spec_headsE w hw) (ev_ret ?_)
      rw [if_neg (by omega)]
  | neg t ih =>
    intro ht hl
    refine Ev.step (fun k => by rw [spec_l3Holds.f]) ?_
    have hlen : (Tm.neg t).enc.length = t.enc.length + 1 := by simp [Tm.enc]
    have g : (Tm.neg t).enc.getD t.enc.length zM = ⟨2, 0⟩ := getD_last zM t.enc ⟨2, 0⟩
    rw [hlen, w64 (x := ((t.enc.length + 1 : Nat) : Int) - 1) (by omega) (by omega), show ((t.enc.length + 1 : Nat) : Int) - 1 = (t.enc.length : Int) by omega, rdM, g, Int.toNat_natCast]
    have tk : (Tm.neg t).enc.take t.enc.length = t.enc := by simp [Tm.enc]
    rw [tk]
    refine ev_pos (by omega) ?_
    refine ev_pos (by omega) ?_
    refine ev_neg (by decide) ?_
    refine ev_neg (by decide) ?_
    refine ev_pos rfl ?_
    refine ev_pos (by omega) ?_
    exact ev_bind (ih ht (by omega)) (ev_ret rfl)
  | bin c a b iha ihb =>
    intro ht hl
    obtain ⟨hc, ha, hb⟩ := ht
    refine Ev.step (fun k => by rw [spec_l3Holds.f]) ?_
    have hbp := b.enc_pos
    have hlen : (Tm.bin c a b).enc.length = a.enc.length + b.enc.length + 1 := by simp [Tm.enc]; omega
    have g : (Tm.bin c a b).enc.getD (a.enc.length + b.enc.length) zM = ⟨c, 0⟩ := by
      have := getD_last zM (a.enc ++ b.enc) ⟨c, 0⟩
      rwa [List.length_append] at this
    rw [hlen, w64 (x := ((a.enc.length + b.enc.length + 1 : Nat) : Int) - 1) (by omega) (by omega), show ((a.enc.length + b.enc.length + 1 : Nat) : Int) - 1 = ((a.enc.length + b.enc.length : Nat) : Int) by omega, rdM, g,
      w64 (x := ((a.enc.length + b.enc.length : Nat) : Int) - 1) (by omega) (by omega), Int.toNat_natCast]
    have tk : (Tm.bin c a b).enc.take (a.enc.length + b.enc.length) = a.enc ++ b.enc := by
      rw [← List.length_append]
      exact List.take_left
    rw [tk]
    refine ev_pos (by omega) ?_
    refine ev_pos (by omega) ?_
    refine ev_neg (by dsimp only; omega) ?_
    refine ev_neg (by dsimp only; omega) ?_
    refine ev_neg (by dsimp only; omega) ?_
    have hst : Ev (fun k => spec_l2Starts.f k (Tm.bin c a b).enc (((a.enc.length + b.enc.length : Nat) : Int) - 1)) (a.enc.length : Int) := by
      unfold spec_l2Starts.f
      refine starts_l n (Tm.bin c a b).enc (by omega) (a.enc.length : Int) b a.enc [⟨c, 0⟩] 0 hb rfl (by omega) ?_
      refine Ev.step (fun k => by rw [spec_l2Starts.l0]) ?_
      refine ev_neg (by omega) (ev_ret ?_)
      rw [w64 (by omega) (by omega)]
      omega
    refine ev_bind hst ?_
    rw [Int.toNat_natCast]
    have tk2 : (Tm.bin c a b).enc.take a.enc.length = a.enc := by simp [Tm.enc]
    rw [tk2, List.drop_left]
    refine ev_pos (by omega) ?_
    refine ev_pos (by omega) ?_
    refine ev_bind (iha ha (by omega)) ?_
    refine ev_pos (by omega) ?_
    refine ev_pos (by omega) ?_
    refine ev_bind (ihb hb (by omega)) ?_
    simp only [Tm.val]
    rcases hc with rfl | rfl | rfl
    · refine ev_pos rfl ?_
      by_cases hv : a.val w = true
      · exact ev_pos hv (ev_ret (by simp [op2, hv]))
      · exact ev_neg hv (ev_ret (by simp [op2, hv]))
    · refine ev_neg (by decide) (ev_pos rfl ?_)
      by_cases hv : a.val w = true
      · exact ev_pos hv (ev_ret (by simp [op2, hv]))
      · exact ev_neg hv (ev_ret (by simp [op2, hv]))
    · refine ev_neg (by decide) (ev_neg (by decide) (ev_ret (by simp [op2])))
end Go.Proofs.Ytcaogllnbpmcgaa.M

/- The reference's ClaimOk, StoryOk and l4May. -/
set_option linter.unusedVariables false
set_option linter.unusedSimpArgs false
namespace Go.Proofs.Ytcaogllnbpmcgaa.M
open Go Go.RowKit Go.Proofs.YtcaogllnbpmcgaaW.PrintWords Go.Proofs.Ytcaogllnbpmcgaa.P
theorem spec_holdsT {n : Int} {l : List Mk} (h : TermP n l) (w : Nat) (hw : w < 16) : Ev (fun k => spec_l3Holds.f k l (w : Int)) (holdB l w) := by
  obtain ⟨t, ht, rfl⟩ := h.tree
  rw [holdB_enc n w t ht]
  exact spec_holdsE n h.1.2 w hw t ht (by have := h.2.1; omega)
theorem spec_mayE {n : Int} {l : List Mk} (h : TermP n l) (who : Int) (h0 : 0 ≤ who) (h4 : who < 4) (w : Nat) (hw : w < 16) : Ev (fun k => spec_l4May.f k who l (w : Int)) (mayB who.toNat l w) := by
  unfold spec_l4May.f
  refine ev_pos h0 ?_
  refine ev_bind (spec_holdsT h w hw) (ev_ret ?_)
  rw [show who = ((who.toNat : Nat) : Int) by omega, shr_tmod2 w who.toNat (by omega), beq_one]
  unfold mayB
  rw [Int.toNat_natCast]

end Go.Proofs.Ytcaogllnbpmcgaa.M

/- The reference's StoryOk tells whether it is a story. -/
set_option linter.unusedVariables false
set_option linter.unusedSimpArgs false
namespace Go.Proofs.Ytcaogllnbpmcgaa.M
open Go Go.RowKit Go.Proofs.YtcaogllnbpmcgaaW.PrintWords Go.Proofs.Ytcaogllnbpmcgaa.P
theorem spec_storyOk_l (n : Int) (hn : n ≤ 9223372036854775807) (s : List Cl) (hs : S64 s) : ∀ d i : Nat, i + d = s.length →
    Tells (fun k => spec_StoryOk.l0 k n s (i : Int)) ((∀ j, i ≤ j → j < s.length → ClaimP n (s.getD j zC).f0 (s.getD j zC).f1) ∧ (1 ≤ n ∧ n ≤ 4) ∧ s.length ≤ 6) := by
  intro d
  have hsl := hs.1
  induction d with
  | zero =>
    intro i hi
    refine Tells.step (fun k => by rw [spec_StoryOk.l0]) ?_
    refine Tells.neg (by omega) ?_
    refine Tells.bindc (l1InT n 1 4) ?_
    refine Tells.ite (fun h => Tells.dec ?_) (fun h => Tells.no fun h' => h (decide_eq_true h'.2.1))
    have h := of_decide_eq_true h
    exact ⟨fun h' => ⟨fun j h1 h2 => by omega, h, by omega⟩, fun h' => by omega⟩
  | succ d ih =>
    intro i hi
    refine Tells.step (fun k => by rw [spec_StoryOk.l0]) ?_
    rw [rdC, w64s (i := i) (by omega)]
    refine Tells.pos (by omega) ?_
    refine Tells.pos (by omega) ?_
    obtain ⟨b, hb, hi'⟩ := spec_claimOk n hn (s.getD i zC).f0 (s.getD i zC).f1 (hs.2 i).1 (hs.2 i).2
    refine Tells.bind hb ?_
    refine Tells.ite (fun h => ?_) (fun h => Tells.no fun h' => h (hi'.2 (h'.1 i (Nat.le_refl _) (by omega))))
    refine (ih (i + 1) (by omega)).iff ?_
    constructor
    · intro h'
      refine ⟨fun j h1 h2 => ?_, h'.2⟩
      rcases Nat.eq_or_lt_of_le h1 with e | e
      · exact e ▸ hi'.1 h
      · exact h'.1 j e h2
    · exact fun h' => ⟨fun j h1 h2 => h'.1 j (by omega) h2, h'.2⟩
theorem spec_storyOk (n : Int) (hn : n ≤ 9223372036854775807) (s : List Cl) (hs : S64 s) : Tells (fun k => spec_StoryOk.f k n s) (StoryP n s) := by
  unfold spec_StoryOk.f
  refine (spec_storyOk_l n hn s hs s.length 0 (by omega)).iff ?_
  exact ⟨fun h => ⟨fun j hj => h.1 j (by omega) hj, h.2⟩, fun h => ⟨fun j _ hj => h.1 j hj, h.2⟩⟩
end Go.Proofs.Ytcaogllnbpmcgaa.M

/- Kinds: both KindsOk, the world of kinds, whether a claim and a story may be made by kinds. -/
set_option linter.unusedVariables false
set_option linter.unusedSimpArgs false
namespace Go.Proofs.Ytcaogllnbpmcgaa.M
open Go Go.RowKit Go.Proofs.YtcaogllnbpmcgaaW.PrintWords Go.Proofs.Ytcaogllnbpmcgaa.P
def KindsP (ks : List Int) : Prop := (∀ i, i < ks.length → 0 ≤ ks.getD i 0 ∧ ks.getD i 0 ≤ 2) ∧ 1 ≤ ks.length ∧ ks.length ≤ 4
/-- The world of kinds. -/
def worldK (ks : List Int) : Nat := tabN (fun j => ks.getD j 0 == 1) ks.length
theorem worldK_lt (ks : List Int) (h : ks.length ≤ 4) : worldK ks < 16 := Nat.lt_of_lt_of_le (tabN_lt _ _) (pwm4 h)
def spyB (ks : List Int) (who : Int) (l : List Mk) : Bool := ks.getD who.toNat 0 == 2 || mayB who.toNat l (worldK ks)
def spiesP (ks : List Int) (s : List Cl) : Prop := KindsP ks ∧ StoryP ks.length s ∧ ∀ i, i < s.length → spyB ks (s.getD i zC).f0 (s.getD i zC).f1 = true
theorem from_next {P : Nat → Prop} {n i : Nat} (h0 : P i) : (∀ j, i + 1 ≤ j → j < n → P j) → ∀ j, i ≤ j → j < n → P j := fun h j h1 h2 => by
  rcases Nat.eq_or_lt_of_le h1 with e | e
  · exact e ▸ h0
  · exact h j e h2
theorem impl_kinds_l (ks : List Int) (hk : ks.length < 4611686018427387904) : ∀ d i : Nat, i + d = ks.length →
    Tells (fun k => impl_KindsOk.l0 k ks ks (ks.length : Int) (i : Int)) ((∀ j, i ≤ j → j < ks.length → 0 ≤ ks.getD j 0 ∧ ks.getD j 0 ≤ 2) ∧ 1 ≤ ks.length ∧ ks.length ≤ 4) := by
  intro d
  induction d with
  | zero =>
    intro i hi
    refine Tells.step (fun k => by rw [impl_KindsOk.l0]) ?_
    refine Tells.neg (by omega) ?_
    refine Tells.bindc (peopleOkT _) ?_
    exact Tells.dec ⟨fun h => ⟨fun j h1 h2 => by omega, by omega⟩, fun h => by omega⟩
  | succ d ih =>
    intro i hi
    refine Tells.step (fun k => by rw [impl_KindsOk.l0]) ?_
    rw [rdN, w64s (i := i) (by omega)]
    refine Tells.pos (by omega) ?_
    refine Tells.pos (by omega) ?_
    refine Tells.pos (by omega) ?_
    have go : 0 ≤ ks.getD i 0 ∧ ks.getD i 0 ≤ 2 → Tells (fun k => impl_KindsOk.l0 k ks ks (ks.length : Int) ((i + 1 : Nat) : Int)) ((∀ j, i ≤ j → j < ks.length → 0 ≤ ks.getD j 0 ∧ ks.getD j 0 ≤ 2) ∧ 1 ≤ ks.length ∧ ks.length ≤ 4) := fun h =>
      (ih (i + 1) (by omega)).iff ⟨fun h' => ⟨from_next h h'.1, h'.2⟩, fun h' => ⟨fun j h1 h2 => h'.1 j (by omega) h2, h'.2⟩⟩
    refine Tells.ite (fun h => go (by omega)) (fun h0 => ?_)
    refine Tells.ite (fun h => go (by omega)) (fun h1 => ?_)
    refine Tells.ite (fun h => go (by omega)) (fun h2 => ?_)
    exact Tells.no fun h' => by have := h'.1 i (Nat.le_refl _) (by omega); omega
theorem impl_kinds (ks : List Int) (hk : ks.length < 4611686018427387904) : Tells (fun k => impl_KindsOk.f k ks) (KindsP ks) := by
  unfold impl_KindsOk.f
  refine (impl_kinds_l ks hk ks.length 0 (by omega)).iff ?_
  exact ⟨fun h => ⟨fun j hj => h.1 j (by omega) hj, h.2⟩, fun h => ⟨fun j _ hj => h.1 j hj, h.2⟩⟩
theorem spec_kinds_l (ks : List Int) (hk : ks.length < 4611686018427387904) : ∀ d i : Nat, i + d = ks.length →
    Tells (fun k => spec_KindsOk.l0 k ks (i : Int)) ((∀ j, i ≤ j → j < ks.length → 0 ≤ ks.getD j 0 ∧ ks.getD j 0 ≤ 2) ∧ 1 ≤ ks.length ∧ ks.length ≤ 4) := by
  intro d
  induction d with
  | zero =>
    intro i hi
    refine Tells.step (fun k => by rw [spec_KindsOk.l0]) ?_
    refine Tells.neg (by omega) ?_
    refine Tells.bindc (l1InT _ _ _) ?_
    exact Tells.dec ⟨fun h => ⟨fun j h1 h2 => by omega, by omega⟩, fun h => by omega⟩
  | succ d ih =>
    intro i hi
    refine Tells.step (fun k => by rw [spec_KindsOk.l0]) ?_
    rw [rdN, w64s (i := i) (by omega)]
    refine Tells.pos (by omega) ?_
    refine Tells.pos (by omega) ?_
    refine Tells.bindc (l1InT _ _ _) ?_
    refine Tells.ite (fun h => ?_) (fun h => Tells.no fun h' => h (decide_eq_true (h'.1 i (Nat.le_refl _) (by omega))))
    have h := of_decide_eq_true h
    exact (ih (i + 1) (by omega)).iff ⟨fun h' => ⟨from_next h h'.1, h'.2⟩, fun h' => ⟨fun j h1 h2 => h'.1 j (by omega) h2, h'.2⟩⟩
theorem spec_kinds (ks : List Int) (hk : ks.length < 4611686018427387904) : Tells (fun k => spec_KindsOk.f k ks) (KindsP ks) := by
  unfold spec_KindsOk.f
  refine (spec_kinds_l ks hk ks.length 0 (by omega)).iff ?_
  exact ⟨fun h => ⟨fun j hj => h.1 j (by omega) hj, h.2⟩, fun h => ⟨fun j _ hj => h.1 j hj, h.2⟩⟩
theorem tabStep (p : Nat → Bool) (j : Nat) (hj : j ≤ 16) (h : p j = true) : Go.bits .or .i64 (tabN p j : Int) (pw j : Int) = ((tabN p (j + 1) : Nat) : Int) := by
  rw [or_pw p j hj]
  simp [tabN, h]
theorem tabStay (p : Nat → Bool) (j : Nat) (h : p j = false) : tabN p j = tabN p (j + 1) := by simp [tabN, h]
theorem impl_worldK_l (ks : List Int) (hk : ks.length ≤ 4) : ∀ d i : Nat, i + d = ks.length →
    Ev (fun k => impl_WorldOfKinds.l0 k ((tabN (fun j => ks.getD j 0 == 1) i : Nat) : Int) ks (ks.length : Int) (i : Int)) ((worldK ks : Nat) : Int) := by
  intro d
  induction d with
  | zero =>
    intro i hi
    refine Ev.step (fun k => by rw [impl_WorldOfKinds.l0]) ?_
    refine ev_neg (by omega) (ev_ret ?_)
    rw [show i = ks.length by omega]
    rfl
  | succ d ih =>
    intro i hi
    refine Ev.step (fun k => by rw [impl_WorldOfKinds.l0]) ?_
    rw [rdN, w64s (i := i) (by omega), shl_nat i (by omega)]
    refine ev_pos (by omega) ?_
    refine ev_pos (by omega) ?_
    refine ev_pos (by omega) ?_
    by_cases h : ks.getD i 0 = 1
    · refine ev_pos h ?_
      rw [tabStep (fun j => ks.getD j 0 == 1) i (by omega) (beq_iff_eq.2 h)]
      exact ih (i + 1) (by omega)
    · refine ev_neg h ?_
      rw [tabStay (fun j => ks.getD j 0 == 1) i (beq_eq_false_iff_ne.2 h)]
      exact ih (i + 1) (by omega)
theorem impl_worldKE (ks : List Int) (h : KindsP ks) : Ev (fun k => impl_WorldOfKinds.f k ks) ((worldK ks : Nat) : Int) := by
  have hl := h.2.2
  unfold impl_WorldOfKinds.f
  refine ev_bind ((impl_kinds ks (by omega)).ev (b := true) ⟨fun _ => h, fun _ => rfl⟩) ?_
  refine ev_pos rfl ?_
  exact impl_worldK_l ks hl ks.length 0 (by omega)
theorem spec_worldK_l (ks : List Int) (hk : ks.length ≤ 4) : ∀ d i : Nat, i + d = ks.length →
    Ev (fun k => spec_l9World.l0 k ks ((tabN (fun j => ks.getD j 0 == 1) i : Nat) : Int) (i : Int)) ((worldK ks : Nat) : Int) := by
  intro d
  induction d with
  | zero =>
    intro i hi
    refine Ev.step (fun k => by rw [spec_l9World.l0]) ?_
    refine ev_neg (by omega) (ev_ret ?_)
    rw [show i = ks.length by omega]
    rfl
  | succ d ih =>
    intro i hi
    refine Ev.step (fun k => by rw [spec_l9World.l0]) ?_
    rw [rdN, w64s (i := i) (by omega), shl_nat i (by omega)]
    refine ev_pos (by omega) ?_
    refine ev_pos (by omega) ?_
    by_cases h : ks.getD i 0 = 1
    · refine ev_pos h ?_
      rw [tabStep (fun j => ks.getD j 0 == 1) i (by omega) (beq_iff_eq.2 h)]
      exact ih (i + 1) (by omega)
    · refine ev_neg h ?_
      rw [tabStay (fun j => ks.getD j 0 == 1) i (beq_eq_false_iff_ne.2 h)]
      exact ih (i + 1) (by omega)
theorem spec_worldKE (ks : List Int) (h : KindsP ks) : Ev (fun k => spec_l9World.f k ks) ((worldK ks : Nat) : Int) :=
  spec_worldK_l ks h.2.2 ks.length 0 (by omega)
theorem impl_spySaysE (ks : List Int) (who : Int) (l : List Mk) (h : KindsP ks) (hc : ClaimP ks.length who l) : Ev (fun k => impl_SpySays.f k ks who l) (spyB ks who l) := by
  have hl := h.2.2
  unfold impl_SpySays.f
  refine ev_bind ((impl_kinds ks (by omega)).ev (b := true) ⟨fun _ => h, fun _ => rfl⟩) ?_
  refine ev_pos rfl ?_
  refine ev_bind ((impl_claimOk (ks.length : Int) who l).ev (b := true) ⟨fun _ => hc, fun _ => rfl⟩) ?_
  refine Ev.step (fun k => by rw [impl_SpySays.j0]) ?_
  obtain ⟨h0, h1, ht, _⟩ := hc
  refine ev_neg (by decide) ?_
  refine ev_pos h0 ?_
  refine ev_pos h1 ?_
  unfold spyB
  rw [show rd ks who = ks.getD who.toNat 0 from rfl]
  by_cases h2 : ks.getD who.toNat 0 = 2
  · refine ev_pos h2 (ev_ret ?_)
    rw [beq_iff_eq.2 h2, Bool.true_or]
  · refine ev_neg h2 ?_
    refine ev_bind (impl_worldKE ks h) ?_
    refine ev_bind (impl_mayE ht who h0 (by omega) _ (worldK_lt ks hl)) (ev_ret ?_)
    rw [beq_eq_false_iff_ne.2 h2, Bool.false_or]
theorem spec_spySaysE (ks : List Int) (who : Int) (l : List Mk) (h : KindsP ks) (h64 : M64 l) (hc : ClaimP ks.length who l) : Ev (fun k => spec_SpySays.f k ks who l) (spyB ks who l) := by
  have hl := h.2.2
  have hll := hc.2.2.2
  unfold spec_SpySays.f
  refine ev_bind ((spec_kinds ks (by omega)).ev (b := true) ⟨fun _ => h, fun _ => rfl⟩) ?_
  refine ev_pos rfl ?_
  refine ev_bind ((spec_claimOk (ks.length : Int) (by omega) who l h64 (by omega)).ev (b := true) ⟨fun _ => hc, fun _ => rfl⟩) ?_
  refine Ev.step (fun k => by rw [spec_SpySays.j0]) ?_
  obtain ⟨h0, h1, ht, _⟩ := hc
  refine ev_neg (by decide) ?_
  refine ev_pos h0 ?_
  refine ev_pos h1 ?_
  unfold spyB
  rw [show rd ks who = ks.getD who.toNat 0 from rfl]
  by_cases h2 : ks.getD who.toNat 0 = 2
  · refine ev_pos h2 (ev_ret ?_)
    rw [beq_iff_eq.2 h2, Bool.true_or]
  · refine ev_neg h2 ?_
    refine ev_bind (spec_worldKE ks h) ?_
    refine ev_bind (spec_mayE ht who h0 (by omega) _ (worldK_lt ks hl)) (ev_ret ?_)
    rw [beq_eq_false_iff_ne.2 h2, Bool.false_or]
theorem impl_spies_l (ks : List Int) (s : List Cl) (h : KindsP ks) (hs : StoryP ks.length s) : ∀ d i : Nat, i + d = s.length →
    Tells (fun k => impl_SpyStory.l0 k ks s (s.length : Int) (i : Int)) (∀ j, i ≤ j → j < s.length → spyB ks (s.getD j zC).f0 (s.getD j zC).f1 = true) := by
  intro d
  have hl := hs.2.2
  induction d with
  | zero =>
    intro i hi
    refine Tells.step (fun k => by rw [impl_SpyStory.l0]) ?_
    exact Tells.neg (by omega) (Tells.yes fun j h1 h2 => by omega)
  | succ d ih =>
    intro i hi
    refine Tells.step (fun k => by rw [impl_SpyStory.l0]) ?_
    rw [rdC, w64s (i := i) (by omega)]
    refine Tells.pos (by omega) ?_
    refine Tells.pos (by omega) ?_
    refine Tells.pos (by omega) ?_
    refine Tells.bind (impl_spySaysE ks _ _ h (hs.1 i (by omega))) ?_
    refine Tells.ite (fun h0 => ?_) (fun h0 => Tells.no fun h' => h0 (h' i (Nat.le_refl _) (by omega)))
    exact (ih (i + 1) (by omega)).iff ⟨fun h' => from_next (P := fun j => spyB ks (s.getD j zC).f0 (s.getD j zC).f1 = true) h0 h', fun h' j h1 h2 => h' j (by omega) h2⟩
theorem impl_spies (ks : List Int) (hk : ks.length < 4611686018427387904) (s : List Cl) (hs : s.length < 4611686018427387904) : Tells (fun k => impl_SpyStory.f k ks s) (spiesP ks s) := by
  unfold impl_SpyStory.f
  have no : ¬ spiesP ks s → Tells (fun k => impl_SpyStory.j0 k ks s true) (spiesP ks s) := fun h => by
    refine Tells.step (fun k => by rw [impl_SpyStory.j0]) ?_
    exact Tells.pos rfl (Tells.no h)
  obtain ⟨b, hb, hi⟩ := impl_kinds ks hk
  refine Tells.bind hb ?_
  refine Tells.ite (fun h => ?_) (fun h => no fun h' => h (hi.2 h'.1))
  obtain ⟨c, hc, hj⟩ := impl_storyOk (ks.length : Int) s hs
  refine Tells.bind hc ?_
  cases c with
  | false => exact no fun h' => by have := hj.2 h'.2.1; cases this
  | true =>
    refine Tells.step (fun k => by rw [impl_SpyStory.j0]) ?_
    refine Tells.neg (by decide) ?_
    refine (impl_spies_l ks s (hi.1 h) (hj.1 rfl) s.length 0 (by omega)).iff ?_
    exact ⟨fun h' => ⟨hi.1 h, hj.1 rfl, fun i hi => h' i (by omega) hi⟩, fun h' j _ hj => h'.2.2 j hj⟩
theorem spec_spies_l (ks : List Int) (s : List Cl) (h : KindsP ks) (h64 : S64 s) (hs : StoryP ks.length s) : ∀ d i : Nat, i + d = s.length →
    Tells (fun k => spec_SpyStory.l0 k ks s (i : Int)) (∀ j, i ≤ j → j < s.length → spyB ks (s.getD j zC).f0 (s.getD j zC).f1 = true) := by
  intro d
  have hl := hs.2.2
  induction d with
  | zero =>
    intro i hi
    refine Tells.step (fun k => by rw [spec_SpyStory.l0]) ?_
    exact Tells.neg (by omega) (Tells.yes fun j h1 h2 => by omega)
  | succ d ih =>
    intro i hi
    refine Tells.step (fun k => by rw [spec_SpyStory.l0]) ?_
    rw [rdC, w64s (i := i) (by omega)]
    refine Tells.pos (by omega) ?_
    refine Tells.pos (by omega) ?_
    refine Tells.bind (spec_spySaysE ks _ _ h (h64.2 i).1 (hs.1 i (by omega))) ?_
    refine Tells.ite (fun h0 => ?_) (fun h0 => Tells.no fun h' => h0 (h' i (Nat.le_refl _) (by omega)))
    exact (ih (i + 1) (by omega)).iff ⟨fun h' => from_next (P := fun j => spyB ks (s.getD j zC).f0 (s.getD j zC).f1 = true) h0 h', fun h' j h1 h2 => h' j (by omega) h2⟩
theorem spec_spies (ks : List Int) (hk : ks.length < 4611686018427387904) (s : List Cl) (hs : S64 s) : Tells (fun k => spec_SpyStory.f k ks s) (spiesP ks s) := by
  unfold spec_SpyStory.f
  have no : ¬ spiesP ks s → Tells (fun k => spec_SpyStory.j0 k ks s true) (spiesP ks s) := fun h => by
    refine Tells.step (fun k => by rw [spec_SpyStory.j0]) ?_
    exact Tells.pos rfl (Tells.no h)
  obtain ⟨b, hb, hi⟩ := spec_kinds ks hk
  refine Tells.bind hb ?_
  refine Tells.ite (fun h => ?_) (fun h => no fun h' => h (hi.2 h'.1))
  obtain ⟨c, hc, hj⟩ := spec_storyOk (ks.length : Int) (by omega) s hs
  refine Tells.bind hc ?_
  cases c with
  | false => exact no fun h' => by have := hj.2 h'.2.1; cases this
  | true =>
    refine Tells.step (fun k => by rw [spec_SpyStory.j0]) ?_
    refine Tells.neg (by decide) ?_
    refine (spec_spies_l ks s (hi.1 h) hs (hj.1 rfl) s.length 0 (by omega)).iff ?_
    exact ⟨fun h' => ⟨hi.1 h, hj.1 rfl, fun i hi => h' i (by omega) hi⟩, fun h' j _ hj => h'.2.2 j hj⟩
end Go.Proofs.Ytcaogllnbpmcgaa.M

/- Rows of kinds counted by their spies: in plain numbers. -/
set_option linter.unusedVariables false
set_option linter.unusedSimpArgs false
namespace Go.Proofs.Ytcaogllnbpmcgaa.M
open Go
def cntK (p : List Int → Bool) : Nat → List Int → Int → Nat
  | 0, pre, left => if left = 0 ∧ p pre = true then 1 else 0
  | d + 1, pre, left => cntK p d (pre ++ [0]) left + cntK p d (pre ++ [1]) left + cntK p d (pre ++ [2]) (left - 1)
/-- How many spies a row has. -/
def spyL : List Int → Nat
  | [] => 0
  | k :: l => (if k = 2 then 1 else 0) + spyL l
/-- The kinds of a number, the first one counting least. -/
def digK : Nat → Nat → List Int
  | 0, _ => []
  | d + 1, m => ((m % 3 : Nat) : Int) :: digK d (m / 3)
/-- How many of the first numbers a test lets by. -/
def rowsN (q : Nat → Bool) : Nat → Nat
  | 0 => 0
  | m + 1 => rowsN q m + if q m then 1 else 0
def p3 : Nat → Nat
  | 0 => 1
  | d + 1 => p3 d * 3
theorem rowsS (q : Nat → Bool) (m : Nat) : rowsN q (m + 1) = rowsN q m + if q m then 1 else 0 := rfl
theorem p3_le {n : Nat} (h : n ≤ 4) : p3 n ≤ 81 := by
  rcases (by omega : n = 0 ∨ n = 1 ∨ n = 2 ∨ n = 3 ∨ n = 4) with rfl | rfl | rfl | rfl | rfl <;> decide
theorem rows3 (q : Nat → Bool) : ∀ m, rowsN q (m * 3) = rowsN (fun i => q (3 * i)) m + rowsN (fun i => q (3 * i + 1)) m + rowsN (fun i => q (3 * i + 2)) m
  | 0 => rfl
  | m + 1 => by
    rw [show (m + 1) * 3 = m * 3 + 1 + 1 + 1 by omega]
    rw [rowsS, rowsS, rowsS, rowsS, rowsS, rowsS, rows3 q m, show m * 3 + 1 + 1 = 3 * m + 2 by omega, show m * 3 + 1 = 3 * m + 1 by omega, show m * 3 = 3 * m by omega]
    omega
theorem rows_congr {q q' : Nat → Bool} : ∀ m, (∀ i, i < m → q i = q' i) → rowsN q m = rowsN q' m
  | 0, _ => rfl
  | m + 1, h => by
    unfold rowsN
    rw [rows_congr m (fun i hi => h i (by omega)), h m (by omega)]
theorem rows_le (q : Nat → Bool) : ∀ m, rowsN q m ≤ m
  | 0 => Nat.le_refl _
  | m + 1 => by
    have := rows_le q m
    unfold rowsN
    split <;> omega
theorem dig3 (d m r : Nat) (hr : r < 3) : digK (d + 1) (3 * m + r) = (r : Int) :: digK d m := by
  show (((3 * m + r) % 3 : Nat) : Int) :: digK d ((3 * m + r) / 3) = _
  rw [show (3 * m + r) % 3 = r by omega, show (3 * m + r) / 3 = m by omega]
theorem cnt_rows (p : List Int → Bool) : ∀ (d : Nat) (pre : List Int) (left : Int), cntK p d pre left = rowsN (fun m => decide ((spyL (digK d m) : Int) = left) && p (pre ++ digK d m)) (p3 d) := by
  intro d
  induction d with
  | zero =>
    intro pre left
    unfold cntK p3 rowsN rowsN digK spyL
    rw [List.append_nil]
    by_cases h : left = 0
    · subst h
      cases p pre <;> simp
    · rw [if_neg (fun h' => h h'.1), decide_eq_false (fun h' => h (by omega))]
      rfl
  | succ d ih =>
    intro pre left
    unfold cntK p3
    rw [rows3, ih, ih, ih]
    congr 1
    · congr 1
      · refine rows_congr _ fun i hi => ?_
        show _ = (decide ((spyL (digK (d + 1) (3 * i + 0)) : Int) = left) && p (pre ++ digK (d + 1) (3 * i + 0)))
        rw [dig3 d i 0 (by decide), List.append_assoc]
        show _ = (decide ((((if (0 : Int) = 2 then 1 else 0) + spyL (digK d i) : Nat) : Int) = left) && p (pre ++ 0 :: digK d i))
        rw [if_neg (by decide), Nat.zero_add]
        rfl
      · refine rows_congr _ fun i hi => ?_
        rw [dig3 d i 1 (by decide), List.append_assoc]
        show _ = (decide ((((if (1 : Int) = 2 then 1 else 0) + spyL (digK d i) : Nat) : Int) = left) && p (pre ++ 1 :: digK d i))
        rw [if_neg (by decide), Nat.zero_add]
        rfl
    · refine rows_congr _ fun i hi => ?_
      rw [dig3 d i 2 (by decide), List.append_assoc]
      show _ = (decide ((((if (2 : Int) = 2 then 1 else 0) + spyL (digK d i) : Nat) : Int) = left) && p (pre ++ 2 :: digK d i))
      rw [if_pos rfl]
      congr 1
      rw [Bool.eq_iff_iff, decide_eq_true_eq, decide_eq_true_eq]
      omega
def kinds3 (l : List Int) : Prop := ∀ x ∈ l, x = 0 ∨ x = 1 ∨ x = 2
theorem cnt_pos (p : List Int → Bool) : ∀ (d : Nat) (pre : List Int) (left : Int), 0 < cntK p d pre left ↔ ∃ t : List Int, t.length = d ∧ kinds3 t ∧ (spyL t : Int) = left ∧ p (pre ++ t) = true := by
  intro d
  induction d with
  | zero =>
    intro pre left
    unfold cntK
    constructor
    · intro h
      by_cases h' : left = 0 ∧ p pre = true
      · exact ⟨[], rfl, (fun x hx => by cases hx), h'.1.symm, (by rw [List.append_nil]; exact h'.2)⟩
      · rw [if_neg h'] at h; omega
    · rintro ⟨t, ht, _, hs, hp⟩
      obtain rfl := List.length_eq_zero_iff.1 ht
      rw [List.append_nil] at hp
      rw [if_pos ⟨hs.symm, hp⟩]
      decide
  | succ d ih =>
    intro pre left
    unfold cntK
    constructor
    · intro h
      have : 0 < cntK p d (pre ++ [0]) left ∨ 0 < cntK p d (pre ++ [1]) left ∨ 0 < cntK p d (pre ++ [2]) (left - 1) := by omega
      rcases this with h | h | h <;> obtain ⟨t, ht, hk, hs, hp⟩ := (ih _ _).1 h
      · refine ⟨0 :: t, by simp [ht], fun x hx => ?_, by unfold spyL; rw [if_neg (by decide)]; omega, by rwa [List.append_assoc] at hp⟩
        rcases List.mem_cons.1 hx with rfl | hx
        · exact .inl rfl
        · exact hk x hx
      · refine ⟨1 :: t, by simp [ht], fun x hx => ?_, by unfold spyL; rw [if_neg (by decide)]; omega, by rwa [List.append_assoc] at hp⟩
        rcases List.mem_cons.1 hx with rfl | hx
        · exact .inr (.inl rfl)
        · exact hk x hx
      · refine ⟨2 :: t, by simp [ht], fun x hx => ?_, by unfold spyL; rw [if_pos rfl]; omega, by rwa [List.append_assoc] at hp⟩
        rcases List.mem_cons.1 hx with rfl | hx
        · exact .inr (.inr rfl)
        · exact hk x hx
    · rintro ⟨t, ht, hk, hs, hp⟩
      cases t with
      | nil => simp at ht
      | cons x t =>
        have hx := hk x (by simp)
        have hk' : kinds3 t := fun y hy => hk y (by simp [hy])
        have ht' : t.length = d := by simpa using ht
        unfold spyL at hs
        rcases hx with rfl | rfl | rfl
        · have := (ih (pre ++ [0]) left).2 ⟨t, ht', hk', by rw [if_neg (by decide)] at hs; omega, by rw [List.append_assoc]; exact hp⟩
          omega
        · have := (ih (pre ++ [1]) left).2 ⟨t, ht', hk', by rw [if_neg (by decide)] at hs; omega, by rw [List.append_assoc]; exact hp⟩
          omega
        · have := (ih (pre ++ [2]) (left - 1)).2 ⟨t, ht', hk', by rw [if_pos rfl] at hs; omega, by rw [List.append_assoc]; exact hp⟩
          omega
theorem cnt_le (p : List Int → Bool) (d : Nat) (pre : List Int) (left : Int) : cntK p d pre left ≤ p3 d := by
  rw [cnt_rows]
  exact rows_le _ _
theorem cnt_neg (p : List Int → Bool) (d : Nat) (pre : List Int) (left : Int) (h : left < 0) : cntK p d pre left = 0 := by
  refine Classical.byContradiction fun h' => ?_
  obtain ⟨t, _, _, hs, _⟩ := (cnt_pos p d pre left).1 (by omega)
  omega
theorem spyL_le : ∀ t : List Int, spyL t ≤ t.length
  | [] => Nat.le_refl _
  | k :: t => by
    have := spyL_le t
    unfold spyL
    rw [List.length_cons]
    split <;> omega
theorem cnt_big (p : List Int → Bool) (d : Nat) (pre : List Int) (left : Int) (h : (d : Int) < left) : cntK p d pre left = 0 := by
  refine Classical.byContradiction fun h' => ?_
  obtain ⟨t, ht, _, hs, _⟩ := (cnt_pos p d pre left).1 (by omega)
  have := spyL_le t
  omega
/-- All spies: one row. -/
theorem cnt_all (p : List Int → Bool) : ∀ (d : Nat) (pre : List Int), p (pre ++ List.replicate d 2) = true → cntK p d pre (d : Int) = 1 := by
  intro d
  induction d with
  | zero =>
    intro pre h
    unfold cntK
    rw [List.replicate_zero, List.append_nil] at h
    rw [if_pos ⟨rfl, h⟩]
  | succ d ih =>
    intro pre h
    unfold cntK
    rw [cnt_big p d _ _ (by omega), cnt_big p d _ _ (by omega), show ((d + 1 : Nat) : Int) - 1 = (d : Int) by omega, ih]
    rw [List.append_assoc]
    exact h
/-- The kinds of a world. -/
def bitK : Nat → Nat → List Int
  | 0, _ => []
  | d + 1, m => ((m % 2 : Nat) : Int) :: bitK d (m / 2)
theorem rows2 (q : Nat → Bool) : ∀ m, rowsN q (m * 2) = rowsN (fun i => q (2 * i)) m + rowsN (fun i => q (2 * i + 1)) m
  | 0 => rfl
  | m + 1 => by
    rw [show (m + 1) * 2 = m * 2 + 1 + 1 by omega]
    rw [rowsS, rowsS, rowsS, rowsS, rows2 q m, show m * 2 + 1 = 2 * m + 1 by omega, show m * 2 = 2 * m by omega]
    omega
theorem bit2 (d m r : Nat) (hr : r < 2) : bitK (d + 1) (2 * m + r) = (r : Int) :: bitK d m := by
  show (((2 * m + r) % 2 : Nat) : Int) :: bitK d ((2 * m + r) / 2) = _
  rw [show (2 * m + r) % 2 = r by omega, show (2 * m + r) / 2 = m by omega]
/-- No spies: as many rows as worlds. -/
theorem cnt_none (p : List Int → Bool) : ∀ (d : Nat) (pre : List Int), cntK p d pre 0 = rowsN (fun w => p (pre ++ bitK d w)) (2 ^ d) := by
  intro d
  induction d with
  | zero =>
    intro pre
    unfold cntK
    rw [Nat.pow_zero]
    unfold rowsN rowsN bitK
    rw [List.append_nil]
    cases p pre <;> simp
  | succ d ih =>
    intro pre
    unfold cntK
    rw [cnt_neg p d _ (0 - 1) (by decide), Nat.pow_succ, rows2, ih, ih, Nat.add_zero]
    congr 1
    · refine rows_congr _ fun i hi => ?_
      show _ = p (pre ++ bitK (d + 1) (2 * i + 0))
      rw [bit2 d i 0 (by decide), List.append_assoc]
      rfl
    · refine rows_congr _ fun i hi => ?_
      rw [bit2 d i 1 (by decide), List.append_assoc]
      rfl
theorem bitK_len : ∀ d w, (bitK d w).length = d
  | 0, _ => rfl
  | d + 1, w => by unfold bitK; rw [List.length_cons, bitK_len d]
theorem digK_len : ∀ d w, (digK d w).length = d
  | 0, _ => rfl
  | d + 1, w => by unfold digK; rw [List.length_cons, digK_len d]
theorem digK_kinds : ∀ d w, kinds3 (digK d w)
  | 0, _ => fun x hx => by cases hx
  | d + 1, w => fun x hx => by
    unfold digK at hx
    rcases List.mem_cons.1 hx with rfl | hx
    · omega
    · exact digK_kinds d _ x hx
theorem bitK_get : ∀ d w j, j < d → (bitK d w).getD j 0 = ((w / 2 ^ j % 2 : Nat) : Int)
  | 0, _, _, h => absurd h (by omega)
  | d + 1, w, 0, _ => by
    unfold bitK
    rw [Nat.pow_zero, Nat.div_one]
    rfl
  | d + 1, w, j + 1, h => by
    unfold bitK
    rw [List.getD_cons_succ, bitK_get d (w / 2) j (by omega), Nat.div_div_eq_div_mul, Nat.pow_succ, Nat.mul_comm 2]
theorem bitK_spies : ∀ d w, spyL (bitK d w) = 0
  | 0, _ => rfl
  | d + 1, w => by
    unfold bitK spyL
    rw [bitK_spies d, if_neg (by omega)]
/-- The digits of a row. -/
def numK : List Int → Nat
  | [] => 0
  | k :: l => k.toNat + 3 * numK l
theorem numK_lt : ∀ t : List Int, kinds3 t → numK t < p3 t.length
  | [], _ => by decide
  | k :: t, h => by
    have h1 := numK_lt t fun x hx => h x (by simp [hx])
    have h2 := h k (by simp)
    rw [List.length_cons]
    unfold numK p3
    rcases h2 with rfl | rfl | rfl <;> simp <;> omega
theorem dig_num : ∀ t : List Int, kinds3 t → digK t.length (numK t) = t
  | [], _ => rfl
  | k :: t, h => by
    have h1 := dig_num t fun x hx => h x (by simp [hx])
    have h2 := h k (by simp)
    rw [List.length_cons]
    unfold numK
    have e : k.toNat < 3 := by rcases h2 with rfl | rfl | rfl <;> decide
    rw [Nat.add_comm k.toNat, dig3 _ _ _ e, h1]
    congr 1
    rcases h2 with rfl | rfl | rfl <;> rfl
/-- The least number of spies among the first rows. -/
def bestN (n : Nat) (p : List Int → Bool) : Nat → Nat
  | 0 => n
  | m + 1 => if p (digK n m) = true then min (bestN n p m) (spyL (digK n m)) else bestN n p m
theorem best_le (n : Nat) (p : List Int → Bool) : ∀ M m, m < M → p (digK n m) = true → bestN n p M ≤ spyL (digK n m)
  | 0, _, h, _ => absurd h (by omega)
  | M + 1, m, h, hp => by
    unfold bestN
    rcases Nat.lt_succ_iff_lt_or_eq.1 h with h | rfl
    · have := best_le n p M m h hp
      split <;> omega
    · rw [if_pos hp]; omega
theorem best_at (n : Nat) (p : List Int → Bool) : ∀ M, bestN n p M = n ∨ ∃ m, m < M ∧ p (digK n m) = true ∧ spyL (digK n m) = bestN n p M
  | 0 => .inl rfl
  | M + 1 => by
    unfold bestN
    have h := best_at n p M
    have h' : bestN n p M = n ∨ ∃ m, m < M + 1 ∧ p (digK n m) = true ∧ spyL (digK n m) = bestN n p M := h.imp id fun ⟨m, a, b, c⟩ => ⟨m, by omega, b, c⟩
    by_cases hp : p (digK n M) = true
    · rw [if_pos hp]
      by_cases hl : bestN n p M ≤ spyL (digK n M)
      · rw [Nat.min_eq_left hl]; exact h'
      · rw [Nat.min_eq_right (by omega)]
        exact .inr ⟨M, by omega, hp, rfl⟩
    · rw [if_neg hp]; exact h'
theorem best_n (n : Nat) (p : List Int → Bool) : ∀ M, bestN n p M ≤ n
  | 0 => Nat.le_refl _
  | M + 1 => by
    have := best_n n p M
    unfold bestN
    split <;> omega
theorem best_least (n : Nat) (p : List Int → Bool) (t : List Int) (ht : t.length = n) (hk : kinds3 t) (hp : p t = true) : bestN n p (p3 n) ≤ spyL t := by
  have h := best_le n p (p3 n) (numK t) (by rw [← ht]; exact numK_lt t hk)
  rw [← ht, dig_num t hk] at h
  rw [← ht]
  exact h hp
theorem best_some (n : Nat) (p : List Int → Bool) (h : p (List.replicate n 2) = true) : ∃ t : List Int, t.length = n ∧ kinds3 t ∧ p t = true ∧ spyL t = bestN n p (p3 n) := by
  rcases best_at n p (p3 n) with e | ⟨m, hm, hp, hs⟩
  · refine ⟨List.replicate n 2, by simp, fun x hx => .inr (.inr (List.eq_of_mem_replicate hx)), h, ?_⟩
    rw [e]
    clear h e
    induction n with
    | zero => rfl
    | succ n ih => rw [List.replicate_succ]; unfold spyL; rw [ih]; simp; omega
  · exact ⟨digK n m, digK_len _ _, digK_kinds _ _, hp, hs⟩
theorem best_cnt (n : Nat) (p : List Int → Bool) (h : p (List.replicate n 2) = true) : 0 < cntK p n [] (bestN n p (p3 n) : Nat) := by
  obtain ⟨t, ht, hk, hp, hs⟩ := best_some n p h
  exact (cnt_pos p n [] _).2 ⟨t, ht, hk, by rw [hs], hp⟩
theorem best_cnt0 (n : Nat) (p : List Int → Bool) (j : Nat) (hj : j < bestN n p (p3 n)) : cntK p n [] (j : Int) = 0 := by
  refine Classical.byContradiction fun h' => ?_
  obtain ⟨t, ht, hk, hs, hp⟩ := (cnt_pos p n [] j).1 (by omega)
  have := best_least n p t ht hk hp
  omega
end Go.Proofs.Ytcaogllnbpmcgaa.M

/- Rows of kinds by which a story may be told; those who make claims as spies. -/
set_option linter.unusedVariables false
set_option linter.unusedSimpArgs false
namespace Go.Proofs.Ytcaogllnbpmcgaa.M
open Go Go.RowKit Go.Proofs.YtcaogllnbpmcgaaW.PrintWords Go.Proofs.Ytcaogllnbpmcgaa.P
/-- By such kinds the story may be told. -/
noncomputable def spB (s : List Cl) (ks : List Int) : Bool := @decide (spiesP ks s) (Classical.propDecidable _)
theorem spB_iff (s : List Cl) (ks : List Int) : spB s ks = true ↔ spiesP ks s := by
  unfold spB
  exact @decide_eq_true_iff _ (Classical.propDecidable _)
theorem two_get (n j : Nat) : (List.replicate n (2 : Int)).getD j 0 = if j < n then 2 else 0 := by
  by_cases h : j < n
  · rw [if_pos h, getD_lt _ _ _ (by simpa using h), List.getElem_replicate]
  · rw [if_neg h, List.getD_eq_getElem?_getD, List.getElem?_eq_none (by simpa using h)]
    rfl
theorem kinds3_P (ks : List Int) (h : kinds3 ks) (h1 : 1 ≤ ks.length) (h4 : ks.length ≤ 4) : KindsP ks :=
  ⟨fun i hi => by
    have := h _ (getD_mem ks 0 i hi)
    omega, h1, h4⟩
theorem all_two (n : Nat) (s : List Cl) (h : StoryP (n : Int) s) : spiesP (List.replicate n 2) s := by
  have h1 := h.2.1
  refine ⟨kinds3_P _ (fun x hx => .inr (.inr (List.eq_of_mem_replicate hx))) (by rw [List.length_replicate]; omega) (by rw [List.length_replicate]; omega), by rw [List.length_replicate]; exact h, fun i hi => ?_⟩
  have hc := h.1 i hi
  have h3 := hc.1
  have h4 := hc.2.1
  unfold spyB
  rw [two_get, if_pos (by omega)]
  rfl
theorem all_twoB (n : Nat) (s : List Cl) (h : StoryP (n : Int) s) : spB s (List.replicate n 2) = true := (spB_iff _ _).2 (all_two n s h)
/-- Without spies: by kinds just if all claims may be made in the world. -/
theorem no_two (ks : List Int) (s : List Cl) (hk : KindsP ks) (hs : StoryP ks.length s) (hno : ∀ i, i < ks.length → ks.getD i 0 ≠ 2) : spiesP ks s ↔ ∀ c ∈ s, mayB c.f0.toNat c.f1 (worldK ks) = true := by
  have one : ∀ c : Cl, ClaimP ks.length c.f0 c.f1 → (spyB ks c.f0 c.f1 = mayB c.f0.toNat c.f1 (worldK ks)) := fun c hc => by
    have h1 := hc.1
    have h2 := hc.2.1
    have h3 : ks.getD c.f0.toNat 0 ≠ 2 := hno _ (by omega)
    unfold spyB
    rw [show (ks.getD c.f0.toNat 0 == 2) = false from beq_eq_false_iff_ne.mpr h3, Bool.false_or]
  constructor
  · intro h c hc
    obtain ⟨i, hi, rfl⟩ := List.getElem_of_mem hc
    have h3 := h.2.2 i hi
    have h4 := hs.1 i hi
    rw [getD_lt s zC i hi] at h3 h4
    rw [← one _ h4]
    exact h3
  · intro h
    refine ⟨hk, hs, fun i hi => ?_⟩
    rw [one _ (hs.1 i hi)]
    exact h _ (getD_mem s zC i hi)
theorem bitK_kinds (n w : Nat) (h1 : 1 ≤ n) (h4 : n ≤ 4) : KindsP (bitK n w) := by
  refine ⟨fun i hi => ?_, by rw [bitK_len]; exact ⟨h1, h4⟩⟩
  rw [bitK_len] at hi
  rw [bitK_get n w i hi]
  omega
theorem bitK_two (n w : Nat) : ∀ i, i < (bitK n w).length → (bitK n w).getD i 0 ≠ 2 := fun i hi => by
  rw [bitK_len] at hi
  rw [bitK_get n w i hi]
  omega
/-- The fewest spies. -/
noncomputable def fewS (n : Nat) (s : List Cl) : Nat := bestN n (spB s) (p3 n)
theorem few_le (n : Nat) (s : List Cl) : fewS n s ≤ n := best_n _ _ _
theorem few_least (n : Nat) (s : List Cl) (ks : List Int) (hl : ks.length = n) (hk : kinds3 ks) (h : spiesP ks s) : fewS n s ≤ spyL ks := best_least n _ ks hl hk ((spB_iff _ _).2 h)
/-- SpyRows told. -/
noncomputable def spyRowsF (n : Int) (s : List Cl) (left : Int) : Int := @ite _ (StoryP n s ∧ 0 ≤ left ∧ left ≤ n) (Classical.propDecidable _) ((cntK (spB s) n.toNat [] left : Nat) : Int) (-1)
/-- FewestSpies told. -/
noncomputable def fewF (n : Int) (s : List Cl) : Int := @ite _ (StoryP n s) (Classical.propDecidable _) ((fewS n.toNat s : Nat) : Int) (-1)
theorem spyRowsF_no (n : Int) (s : List Cl) (left : Int) (h : ¬ (StoryP n s ∧ 0 ≤ left ∧ left ≤ n)) : spyRowsF n s left = -1 := by
  unfold spyRowsF
  rw [if_neg h]
theorem spyRowsF_yes (n : Int) (s : List Cl) (left : Int) (h : StoryP n s ∧ 0 ≤ left ∧ left ≤ n) : spyRowsF n s left = ((cntK (spB s) n.toNat [] left : Nat) : Int) := by
  unfold spyRowsF
  rw [if_pos h]
theorem fewF_no (n : Int) (s : List Cl) (h : ¬ StoryP n s) : fewF n s = -1 := by
  unfold fewF
  rw [if_neg h]
theorem fewF_yes (n : Int) (s : List Cl) (h : StoryP n s) : fewF n s = ((fewS n.toNat s : Nat) : Int) := by
  unfold fewF
  rw [if_pos h]
/-- Who makes claims, counted. -/
def makes (s : List Cl) (k : Nat) : Bool := s.any fun c => c.f0 == (k : Int)
def whoS (s : List Cl) : Nat → Nat
  | 0 => 0
  | k + 1 => whoS s k + if makes s k then 1 else 0
def kindsW (s : List Cl) (n : Nat) : List Int := (List.range n).map fun k => if makes s k then 2 else 0
theorem spyL_app : ∀ a b : List Int, spyL (a ++ b) = spyL a + spyL b
  | [], b => by rw [List.nil_append]; show spyL b = 0 + spyL b; omega
  | x :: a, b => by
    rw [List.cons_append]
    show (if x = 2 then 1 else 0) + spyL (a ++ b) = (if x = 2 then 1 else 0) + spyL a + spyL b
    rw [spyL_app a b]
    omega
theorem kindsW_spies (s : List Cl) : ∀ n, spyL (kindsW s n) = whoS s n
  | 0 => rfl
  | n + 1 => by
    have := kindsW_spies s n
    unfold kindsW at this ⊢
    rw [List.range_succ, List.map_append, spyL_app, this]
    show whoS s n + ((if (if makes s n = true then (2 : Int) else 0) = 2 then 1 else 0) + 0) = whoS s n + _
    by_cases h : makes s n = true
    · rw [if_pos h, if_pos rfl, if_pos h]
    · rw [if_neg h, if_neg (by decide), if_neg h]
theorem kindsW_len (s : List Cl) (n : Nat) : (kindsW s n).length = n := by simp [kindsW]
theorem kindsW_3 (s : List Cl) (n : Nat) : kinds3 (kindsW s n) := fun x hx => by
  unfold kindsW at hx
  obtain ⟨k, _, rfl⟩ := List.mem_map.1 hx
  by_cases h : makes s k = true
  · rw [if_pos h]; exact .inr (.inr rfl)
  · rw [if_neg h]; exact .inl rfl
theorem kindsW_get (s : List Cl) (n k : Nat) (hk : k < n) : (kindsW s n).getD k 0 = if makes s k then 2 else 0 := by
  rw [getD_lt _ _ _ (by rw [kindsW_len]; exact hk)]
  simp [kindsW]
theorem kindsW_ok (n : Nat) (s : List Cl) (h : StoryP (n : Int) s) : spiesP (kindsW s n) s := by
  have hn := h.2.1
  refine ⟨kinds3_P _ (kindsW_3 s n) (by rw [kindsW_len]; omega) (by rw [kindsW_len]; omega), by rw [kindsW_len]; exact h, fun i hi => ?_⟩
  have hc := h.1 i hi
  have h3 := hc.1
  have h4 := hc.2.1
  have hm : makes s (s.getD i zC).f0.toNat = true := by
    unfold makes
    rw [List.any_eq_true]
    exact ⟨_, getD_mem s zC i hi, beq_iff_eq.2 (by omega)⟩
  unfold spyB
  rw [kindsW_get s n _ (by omega), if_pos hm]
  rfl
theorem few_who (n : Nat) (s : List Cl) (h : StoryP (n : Int) s) : fewS n s ≤ whoS s n := by
  have := few_least n s (kindsW s n) (kindsW_len s n) (kindsW_3 s n) (kindsW_ok n s h)
  rwa [kindsW_spies] at this
theorem few_less (n : Nat) (s : List Cl) (h : StoryP (n : Int) s) (k : Nat) : StoryP (n : Int) (s.take k) ∧ fewS n (s.take k) ≤ fewS n s := by
  have hg : ∀ i, i < (s.take k).length → i < s.length ∧ (s.take k).getD i zC = s.getD i zC := fun i hi => by
    have hi2 : i < s.length := by rw [List.length_take] at hi; omega
    refine ⟨hi2, ?_⟩
    rw [getD_lt _ _ _ hi, getD_lt _ _ _ hi2, List.getElem_take]
  have hS : StoryP (n : Int) (s.take k) := ⟨fun i hi => by rw [(hg i hi).2]; exact h.1 i (hg i hi).1, h.2.1, by have := h.2.2; rw [List.length_take]; omega⟩
  refine ⟨hS, ?_⟩
  obtain ⟨t, ht, hk, hp, hs⟩ := best_some n (spB s) (all_twoB n s h)
  have h2 := (spB_iff _ _).1 hp
  rw [show fewS n s = spyL t from hs.symm]
  refine few_least n _ t ht hk ⟨h2.1, by rw [ht]; exact hS, fun i hi => ?_⟩
  rw [(hg i hi).2]
  exact h2.2.2 i (hg i hi).1
end Go.Proofs.Ytcaogllnbpmcgaa.M

/- The closure that tries the rows of kinds, which calls itself: it counts those by which the story may be told. (Function and type numbers of this seat stand in this text.) -/
set_option linter.unusedVariables false
set_option linter.unusedSimpArgs false
namespace Go.Proofs.Ytcaogllnbpmcgaa.M
open Go Go.RowKit Go.Proofs.YtcaogllnbpmcgaaW.PrintWords Go.Proofs.Ytcaogllnbpmcgaa.P
abbrev ptr (b : Nat) : Value := .pointer (some ⟨b, 0, none⟩)
/-- The captured variables, and the row of kinds, in a world. -/
structure Env (n : Nat) (s : List Cl) (A : Option Addr) (c bp bk bs bm bt g : Nat) (w0 W : World) (ks : List Int) (m : Nat) : Prop where
  hp : W.heap[bp]? = some (.cells #[.int .i64 (n : Int)] 3 (0, 0))
  hk : W.heap[bk]? = some (.cells #[.slice (some ⟨g, 0, none⟩) n n] 42 (0, 0))
  hs : W.heap[bs]? = some (.cells #[.slice A s.length c] 25 (0, 0))
  hm : W.heap[bm]? = some (.cells #[.int .i64 (m : Int)] 3 (0, 0))
  ht : W.heap[bt]? = some (.cells #[.func (.func 85) #[] #[ptr bp, ptr bk, ptr bs, ptr bm, ptr bt]] 114 (0, 0))
  hg : W.heap[g]? = some (.cells (ks.map (Value.int .i64)).toArray 3 (0, 0))
  hl : ks.length = n
  hb : Below w0.heap.size w0 W
  hpm : bp ≠ bm
  hpg : bp ≠ g
  hmg : bm ≠ g
  hmB : w0.heap.size ≤ bm
  hgB : w0.heap.size ≤ g
section
variable {n : Nat} {s : List Cl} {A : Option Addr} {c bp bk bs bm bt g : Nat} {w0 W W' : World} {ks : List Int} {m : Nat}
theorem Env.below (h : Env n s A c bp bk bs bm bt g w0 W ks m) (hb : Below W.heap.size W W') : Env n s A c bp bk bs bm bt g w0 W' ks m :=
  ⟨blk_below h.hp hb, blk_below h.hk hb, blk_below h.hs hb, blk_below h.hm hb, blk_below h.ht hb, blk_below h.hg hb, h.hl, below_step h.hb hb, h.hpm, h.hpg, h.hmg, h.hmB, h.hgB⟩
theorem Env.alloc (h : Env n s A c bp bk bs bm bt g w0 W ks m) (o : Obj) : Env n s A c bp bk bs bm bt g w0 (W.alloc o) ks m := h.below (below_alloc (Below.refl _ _) o)
theorem blk_ne_ {w : World} {g g' t t' : Nat} {cs cs' : Array Value} (h : w.heap[g]? = some (.cells cs t (0, 0))) (h' : w.heap[g']? = some (.cells cs' t' (0, 0))) (hne : t ≠ t') : g ≠ g' := by
  rintro rfl
  rw [h] at h'
  injection h' with h'
  injection h' with _ h'
  exact hne h'
theorem Env.store (h : Env n s A c bp bk bs bm bt g w0 W ks m) (i : Nat) (v : Int) (hi : i < n) : Env n s A c bp bk bs bm bt g w0 (W.setCell ⟨g, i, none⟩ (.int .i64 v)) (ks.set i v) m := by
  have ne : ∀ {b t : Nat} {cs : Array Value}, W.heap[b]? = some (.cells cs t (0, 0)) → t ≠ 3 → b ≠ g := fun hb ht => blk_ne_ hb h.hg ht
  refine ⟨blk_far h.hp h.hpg _, blk_far h.hk (ne h.hk (by decide)) _, blk_far h.hs (ne h.hs (by decide)) _, blk_far h.hm h.hmg _, blk_far h.ht (ne h.ht (by decide)) _, ?_, by rw [List.length_set]; exact h.hl, below_set h.hb h.hgB, h.hpm, h.hpg, h.hmg, h.hmB, h.hgB⟩
  refine blk_put h.hg i _ ?_
  rw [List.map_set]
  simp
theorem Env.more (h : Env n s A c bp bk bs bm bt g w0 W ks m) {v : Int} (hv : v = ((m + 1 : Nat) : Int)) : Env n s A c bp bk bs bm bt g w0 (W.setCell ⟨bm, 0, none⟩ (.int .i64 v)) ks (m + 1) := by
  subst hv
  have ne : ∀ {b t : Nat} {cs : Array Value}, W.heap[b]? = some (.cells cs t (0, 0)) → t ≠ 3 → b ≠ bm := fun hb ht => blk_ne_ hb h.hm ht
  exact ⟨blk_far h.hp h.hpm _, blk_far h.hk (ne h.hk (by decide)) _, blk_far h.hs (ne h.hs (by decide)) _, blk_put h.hm 0 _ (by simp), blk_far h.ht (ne h.ht (by decide)) _, blk_far h.hg h.hmg.symm _, h.hl, below_set h.hb h.hmB, h.hpm, h.hpg, h.hmg, h.hmB, h.hgB⟩
theorem Env.kinds (h : Env n s A c bp bk bs bm bt g w0 W ks m) (h4 : n ≤ 4) : Kd.C (Kd.int .i64) W (some ⟨g, 0, none⟩) ks.length ks := by
  refine Kd.C_of_reads (d := 0) ⟨rfl, ?_, fun _ => ⟨_, rfl, fun j hj => ?_⟩⟩
  · have h2 : ks.length = n := h.hl
    omega
  · rw [Addr.add_lit, Nat.zero_add, blk_cell h.hg j]
    simp [List.getElem?_eq_getElem hj, List.getD_eq_getElem?_getD]
/-- Behind a call: counted, the kinds ahead of it as they were, no other block turned. -/
def Tried (n : Nat) (s : List Cl) (A : Option Addr) (c bp bk bs bm bt g : Nat) (w0 W : World) (m q : Nat) (pre : List Int) (e : Ending) (W' : World) : Prop :=
  e = .returned (.tuple #[]) ∧ ∃ ks', Env n s A c bp bk bs bm bt g w0 W' ks' (m + q) ∧ ks'.take pre.length = pre ∧ Kept W W' (fun b => b = g ∨ b = bm)
set_option maxHeartbeats 8000000 in
set_option maxRecDepth 100000 in
theorem try_end (h4 : n ≤ 4) (hC : Kd.C k38 w0 A s.length s) (hc : s.length ≤ c) (h6 : s.length ≤ 6) (left : Int) (hm : m < 1000) (E : Env n s A c bp bk bs bm bt g w0 W ks m) :
    Calls Try.prog 85 #[.int .i64 (n : Int), .int .i64 left, ptr bp, ptr bk, ptr bs, ptr bm, ptr bt] W (Tried n s A c bp bk bs bm bt g w0 W m (if left = 0 ∧ spB s ks = true then 1 else 0) ks) := by
  have hl := E.hl
  subst hl
  have cp := cell_of_one E.hp
  have ck := cell_of_one E.hk
  have cs := cell_of_one E.hs
  have htake : ks.take ks.length = ks := List.take_length
  have e1 : ((ks.length : Int) == (ks.length : Int)) = true := by simp
  by_cases h0 : left = 0
  · subst h0
    obtain ⟨b, ⟨K, hK⟩, hi⟩ := impl_spies ks (by omega) s (by omega)
    have HK := Lib.hid (hK K (Nat.le_refl _))
    have HQ : Hid (spB s ks = b) := Lib.hid (by
      rw [Bool.eq_iff_iff, spB_iff, hi])
    clear hK hi
    cases b with
    | true =>
      rw [if_pos ⟨rfl, HQ.out⟩]
      go_enter Try.func85, Try.ntmps85
      go_wp2_with (go_at_call 86; (refine (impl_SpyStory.calls K _ _ ks A c s true _ (E.kinds h4) (Nat.le_refl _) (Kd.C_below hC E.hb) hc HK.out).mono ?_); rintro e W1 ⟨rfl, hb1⟩; have E1 := E.below hb1; have cm1 := cell_of_one E1.hm; have fm1 := free_of_one E1.hm; have HM := Lib.hid hm; clear hm; have hm : (m : Int) < 1000 := (by have := HM.out; omega))
      go_end0
      exact ⟨rfl, ks, E1.more (by omega), htake, (Kept.of_below hb1 _).setCell (.inl (.inr rfl)) _⟩
    | false =>
      rw [if_neg (fun h => by rw [HQ.out] at h; exact Bool.noConfusion h.2)]
      go_enter Try.func85, Try.ntmps85
      go_wp2_with (go_at_call 86; (refine (impl_SpyStory.calls K _ _ ks A c s false _ (E.kinds h4) (Nat.le_refl _) (Kd.C_below hC E.hb) hc HK.out).mono ?_); rintro e W1 ⟨rfl, hb1⟩)
      go_end0
      exact ⟨rfl, ks, E.below hb1, htake, Kept.of_below hb1 _⟩
  · have e0 : (left == 0) = false := by rw [beq_eq_false_iff_ne]; exact h0
    rw [if_neg (fun h => h0 h.1)]
    go_enter Try.func85, Try.ntmps85
    go_wp2
    go_end0
    exact ⟨rfl, ks, E, htake, Kept.refl _ _⟩
theorem take_more {ks pre : List Int} {a : Nat} {v : Int} (ha : pre.length = a) (hlt : a < ks.length) (ht : ks.take a = pre) : (ks.set a v).take (pre ++ [v]).length = pre ++ [v] := by
  subst ha
  rw [List.length_append, List.length_singleton]
  refine List.ext_getElem (by simp; omega) fun i h1 h2 => ?_
  rw [List.getElem_take]
  by_cases h : i = pre.length
  · subst h
    rw [List.getElem_set_self, List.getElem_append_right (Nat.le_refl _)]
    simp
  · have hi : i < pre.length := by simp at h2; omega
    rw [List.getElem_set_ne (fun e => h e.symm), List.getElem_append_left hi]
    have : pre[i] = (ks.take pre.length)[i]'(by rw [ht]; exact hi) := by congr 1; exact ht.symm
    rw [this, List.getElem_take]
theorem take_less {ks pre : List Int} {a : Nat} {v : Int} (ha : pre.length = a) (ht : ks.take (pre ++ [v]).length = pre ++ [v]) : ks.take a = pre := by
  subst ha
  have h := congrArg (List.take pre.length) ht
  rw [List.take_take, List.length_append, List.take_append_of_le_length (Nat.le_refl _), List.take_length] at h
  rwa [Nat.min_eq_left (by simp)] at h
def part4 (q0 q1 q2 : Nat) : Nat → Nat
  | 0 => 0
  | 1 => q0
  | 2 => q0 + q1
  | _ => q0 + q1 + q2
set_option maxHeartbeats 16000000 in
set_option maxRecDepth 100000 in
theorem try_more (h4 : n ≤ 4) (d : Nat) (pre : List Int) (a : Nat) (ha : pre.length = a) (hlt : a < n) (left : Int) (hl1 : -100 ≤ left) (hl2 : left ≤ 1000) (q0 q1 q2 : Nat) (hq : m + q0 + q1 + q2 < 1000)
    (I0 : ∀ (W : World) (ks : List Int), Env n s A c bp bk bs bm bt g w0 W ks m → ks.take (pre ++ [0]).length = pre ++ [0] → Calls Try.prog 85 #[.int .i64 ((a : Int) + 1), .int .i64 left, ptr bp, ptr bk, ptr bs, ptr bm, ptr bt] W (Tried n s A c bp bk bs bm bt g w0 W m q0 (pre ++ [0])))
    (I1 : ∀ (W : World) (ks : List Int), Env n s A c bp bk bs bm bt g w0 W ks (m + q0) → ks.take (pre ++ [1]).length = pre ++ [1] → Calls Try.prog 85 #[.int .i64 ((a : Int) + 1), .int .i64 left, ptr bp, ptr bk, ptr bs, ptr bm, ptr bt] W (Tried n s A c bp bk bs bm bt g w0 W (m + q0) q1 (pre ++ [1])))
    (I2 : ∀ (W : World) (ks : List Int), Env n s A c bp bk bs bm bt g w0 W ks (m + q0 + q1) → ks.take (pre ++ [2]).length = pre ++ [2] → Calls Try.prog 85 #[.int .i64 ((a : Int) + 1), .int .i64 (left - 1), ptr bp, ptr bk, ptr bs, ptr bm, ptr bt] W (Tried n s A c bp bk bs bm bt g w0 W (m + q0 + q1) q2 (pre ++ [2])))
    (E : Env n s A c bp bk bs bm bt g w0 W ks m) (ht : ks.take a = pre) :
    Calls Try.prog 85 #[.int .i64 (a : Int), .int .i64 left, ptr bp, ptr bk, ptr bs, ptr bm, ptr bt] W (Tried n s A c bp bk bs bm bt g w0 W m (q0 + q1 + q2) pre) := by
  have cp := cell_of_one E.hp
  have e0 : ((a : Int) == (n : Int)) = false := by rw [beq_eq_false_iff_ne]; omega
  have HQ := Lib.hid hq
  have HA := Lib.hid ha
  have hne1 : W.heap.size ≠ g := by have := blk_lt E.hg; omega
  have hne2 : W.heap.size ≠ bm := by have := blk_lt E.hm; omega
  clear hq ha
  go_enter Try.func85, Try.ntmps85
  go_wp2_with fail
  go_loopw [25] (fun v wr => ∃ (j : Nat) (ks' : List Int), j ≤ 3 ∧ v = .int .i64 (j : Int) ∧ Env n s A c bp bk bs bm bt g w0 wr ks' (m + part4 q0 q1 q2 j) ∧ ks'.take a = pre ∧ Kept W wr (fun b => b = g ∨ b = bm) ∧ wr.heap[W.heap.size]? = some (.cells #[.int .i64 0, .int .i64 1, .int .i64 2] 3 (0, 0))) (fun v _ => 3 - (intOf v).toNat)
  case atStart => exact ⟨0, ks, by omega, rfl, E.alloc _, ht, Kept.of_below (below_alloc (Below.refl _ _) _) _, blk_new _ _⟩
  case round =>
    obtain ⟨j, ks', hj, rfl, E1, ht1, hk1, hr1⟩ := hrel
    have ck := cell_of_one E1.hk
    have ct := cell_of_one E1.ht
    have hl1' := E1.hl
    have fg := blk_frozen E1.hg a
    have xg : wr.cell? ⟨g, a, none⟩ = some (.int .i64 (ks'.getD a 0)) := by
      rw [blk_cell E1.hg a]
      simp [List.getElem?_eq_getElem (show a < ks'.length by omega)]
    have p5 : (0 ≤ (a : Int)) = True := eq_true (by omega)
    have q5 : ((a : Int) < (n : Int)) = True := eq_true (by omega)
    rcases (by omega : j = 0 ∨ j = 1 ∨ j = 2 ∨ j = 3) with rfl | rfl | rfl | rfl
    · have TM := Lib.hid (take_more (v := 0) HA.out (show a < ks'.length by omega) ht1)
      have x0 : wr.cell? ⟨W.heap.size, 0, none⟩ = some (.int .i64 0) := (blk_cell hr1 0).trans rfl
      go_wp2_with (first | ((with_reducible refine gate_store (t := 3) (p := 32) rfl ?_); refine store_event (t := 3) (p := 32) (v := ?vo) (w1 := (wr.setCell ⟨g, a, none⟩ (.int .i64 0))) ?hg ?ho ?hn ?hr ?_; (case ho => rfl); (case hg => rfl); (case hn => rfl); (case hr => first | (go_simp; done) | (go_simp; rfl)); intro w9 hw; have E2 : Env n s A c bp bk bs bm bt g w0 w9 (ks'.set a 0) (m) := (by rw [hw]; exact E1.store a 0 hlt); have hk2 : Kept wr w9 (fun b => b = g ∨ b = bm) := (by rw [hw]; exact (Kept.refl _ _).setCell (.inl (.inl rfl)) _); have ct9 := cell_of_one E2.ht; have T := I0 w9 (ks'.set a 0) E2 TM.out; clear hw) | (go_at_call 85; (refine T.mono ?_); rintro e w3 ⟨rfl, ks3, E3, ht3, hk3⟩))
      go_roundw
      case rel => exact ⟨1, ks3, by omega, by go_num, E3, take_less HA.out ht3, (hk1.then_ hk2 (fun _ h => .inl h)).then_ hk3 (fun _ h => .inl h), blk_kept (blk_kept hr1 hk2 (by omega)) hk3 (by omega)⟩
      case measure => simp [intOf]
    · have TM := Lib.hid (take_more (v := 1) HA.out (show a < ks'.length by omega) ht1)
      have x0 : wr.cell? ⟨W.heap.size, 1, none⟩ = some (.int .i64 1) := (blk_cell hr1 1).trans rfl
      go_wp2_with (first | ((with_reducible refine gate_store (t := 3) (p := 32) rfl ?_); refine store_event (t := 3) (p := 32) (v := ?vo) (w1 := (wr.setCell ⟨g, a, none⟩ (.int .i64 1))) ?hg ?ho ?hn ?hr ?_; (case ho => rfl); (case hg => rfl); (case hn => rfl); (case hr => first | (go_simp; done) | (go_simp; rfl)); intro w9 hw; have E2 : Env n s A c bp bk bs bm bt g w0 w9 (ks'.set a 1) (m + q0) := (by rw [hw]; exact E1.store a 1 hlt); have hk2 : Kept wr w9 (fun b => b = g ∨ b = bm) := (by rw [hw]; exact (Kept.refl _ _).setCell (.inl (.inl rfl)) _); have ct9 := cell_of_one E2.ht; have T := I1 w9 (ks'.set a 1) E2 TM.out; clear hw) | (go_at_call 85; (refine T.mono ?_); rintro e w3 ⟨rfl, ks3, E3, ht3, hk3⟩))
      go_roundw
      case rel => exact ⟨2, ks3, by omega, by go_num, (Nat.add_assoc m q0 q1) ▸ E3, take_less HA.out ht3, (hk1.then_ hk2 (fun _ h => .inl h)).then_ hk3 (fun _ h => .inl h), blk_kept (blk_kept hr1 hk2 (by omega)) hk3 (by omega)⟩
      case measure => simp [intOf]
    · have TM := Lib.hid (take_more (v := 2) HA.out (show a < ks'.length by omega) ht1)
      have x0 : wr.cell? ⟨W.heap.size, 2, none⟩ = some (.int .i64 2) := (blk_cell hr1 2).trans rfl
      go_wp2_with (first | ((with_reducible refine gate_store (t := 3) (p := 32) rfl ?_); refine store_event (t := 3) (p := 32) (v := ?vo) (w1 := (wr.setCell ⟨g, a, none⟩ (.int .i64 2))) ?hg ?ho ?hn ?hr ?_; (case ho => rfl); (case hg => rfl); (case hn => rfl); (case hr => first | (go_simp; done) | (go_simp; rfl)); intro w9 hw; have E2 : Env n s A c bp bk bs bm bt g w0 w9 (ks'.set a 2) (m + q0 + q1) := (by rw [hw, Nat.add_assoc]; exact E1.store a 2 hlt); have hk2 : Kept wr w9 (fun b => b = g ∨ b = bm) := (by rw [hw]; exact (Kept.refl _ _).setCell (.inl (.inl rfl)) _); have ct9 := cell_of_one E2.ht; have T := I2 w9 (ks'.set a 2) E2 TM.out; clear hw) | (go_at_call 85; (refine T.mono ?_); rintro e w3 ⟨rfl, ks3, E3, ht3, hk3⟩))
      go_roundw
      case rel => exact ⟨3, ks3, by omega, by go_num, (show m + q0 + q1 + q2 = m + (q0 + q1 + q2) by omega) ▸ E3, take_less HA.out ht3, (hk1.then_ hk2 (fun _ h => .inl h)).then_ hk3 (fun _ h => .inl h), blk_kept (blk_kept hr1 hk2 (by omega)) hk3 (by omega)⟩
      case measure => simp [intOf]
    · go_wp2_with fail
      go_end0
      exact ⟨rfl, ks', E1, HA.out ▸ ht1, hk1⟩
theorem p3_S (d : Nat) : p3 (d + 1) = p3 d * 3 := rfl
theorem try_calls (h4 : n ≤ 4) (hC : Kd.C k38 w0 A s.length s) (hc : s.length ≤ c) (h6 : s.length ≤ 6) : ∀ (d : Nat) (pre : List Int) (left : Int) (m : Nat) (ks : List Int) (W : World), pre.length + d = n → -100 + (d : Int) ≤ left → left ≤ 1000 → m + p3 d < 1000 →
    Env n s A c bp bk bs bm bt g w0 W ks m → ks.take pre.length = pre →
    Calls Try.prog 85 #[.int .i64 (pre.length : Int), .int .i64 left, ptr bp, ptr bk, ptr bs, ptr bm, ptr bt] W (Tried n s A c bp bk bs bm bt g w0 W m (cntK (spB s) d pre left) pre) := by
  intro d
  induction d with
  | zero =>
    intro pre left m ks W hd hl1 hl2 hm E ht
    have e : ks = pre := by
      have := E.hl
      rw [← ht, List.take_of_length_le (by omega)]
    subst e
    rw [show ks.length = n from E.hl] at *
    have := try_end h4 hC hc h6 left (m := m) (by omega) E
    exact this
  | succ d ih =>
    intro pre left m ks W hd hl1 hl2 hm E ht
    have b0 := cnt_le (spB s) d (pre ++ [0]) left
    have b1 := cnt_le (spB s) d (pre ++ [1]) left
    have b2 := cnt_le (spB s) d (pre ++ [2]) (left - 1)
    rw [p3_S] at hm
    have el : ∀ v : Int, (((pre ++ [v]).length : Nat) : Int) = (pre.length : Int) + 1 := fun v => by rw [List.length_append, List.length_singleton]; omega
    have ln : ∀ v : Int, (pre ++ [v]).length + d = n := fun v => by rw [List.length_append, List.length_singleton]; omega
    show Calls _ _ _ _ (Tried n s A c bp bk bs bm bt g w0 W m (cntK (spB s) d (pre ++ [0]) left + cntK (spB s) d (pre ++ [1]) left + cntK (spB s) d (pre ++ [2]) (left - 1)) pre)
    refine try_more h4 d pre pre.length rfl (by omega) left (by omega) hl2 _ _ _ (by omega) (fun W' ks' E' ht' => ?_) (fun W' ks' E' ht' => ?_) (fun W' ks' E' ht' => ?_) E ht
    · have := ih (pre ++ [0]) left m ks' W' (ln 0) (by omega) hl2 (by omega) E' ht'
      rwa [el 0] at this
    · have := ih (pre ++ [1]) left _ ks' W' (ln 1) (by omega) hl2 (by omega) E' ht'
      rwa [el 1] at this
    · have := ih (pre ++ [2]) (left - 1) _ ks' W' (ln 2) (by omega) (by omega) (by omega) E' ht'
      rwa [el 2] at this
theorem made_zero (n : Nat) (h : n ≤ 4) : madeCells #[.int .i64 0] n = ((List.replicate n (0 : Int)).map (Value.int .i64)).toArray := by
  rcases (by omega : n = 0 ∨ n = 1 ∨ n = 2 ∨ n = 3 ∨ n = 4) with rfl | rfl | rfl | rfl | rfl <;> kernel_rfl
/-- The world in which spyRows begins to try. -/
def startW (n : Nat) (l : Nat) (A : Option Addr) (c : Nat) (w : World) : World :=
  ((((((w.alloc (Obj.cells #[Value.int IntKind.i64 (n : Int)] 3)).alloc (Obj.cells #[Value.slice A l c] 25)).alloc (Obj.cells #[Value.int IntKind.i64 0] 3)).alloc (Obj.cells (madeCells #[Value.int IntKind.i64 0] n) 3)).alloc
    (Obj.cells #[Value.slice (some ⟨w.heap.size + 1 + 1 + 1, 0, none⟩) n n] 42)).alloc
    (Obj.cells #[Value.func (Fn.func 85) #[] #[ptr w.heap.size, ptr (w.heap.size + 1 + 1 + 1 + 1), ptr (w.heap.size + 1), ptr (w.heap.size + 1 + 1), ptr (w.heap.size + 1 + 1 + 1 + 1 + 1)]] 114))
theorem alloc_size (w : World) (o : Obj) : (w.alloc o).heap.size = w.heap.size + 1 := by simp
theorem new_at (w : World) (o : Obj) (k : Nat) (h : k = w.heap.size) : (w.alloc o).heap[k]? = some o := h ▸ blk_new w o
theorem Env.start (h4 : n ≤ 4) (w : World) : Env n s A c w.heap.size (w.heap.size + 1 + 1 + 1 + 1) (w.heap.size + 1) (w.heap.size + 1 + 1) (w.heap.size + 1 + 1 + 1 + 1 + 1) (w.heap.size + 1 + 1 + 1) w (startW n s.length A c w) (List.replicate n 0) 0 := by
  unfold startW
  refine ⟨?_, ?_, ?_, ?_, ?_, ?_, by simp, ?_, by omega, by omega, by omega, by omega, by omega⟩
  · exact blk_alloc (blk_alloc (blk_alloc (blk_alloc (blk_alloc (new_at _ _ _ rfl) _) _) _) _) _
  · exact blk_alloc (new_at _ _ _ (by simp only [alloc_size])) _
  · exact blk_alloc (blk_alloc (blk_alloc (blk_alloc (new_at _ _ _ (by simp only [alloc_size])) _) _) _) _
  · exact blk_alloc (blk_alloc (blk_alloc (new_at _ _ _ (by simp only [alloc_size])) _) _) _
  · exact new_at _ _ _ (by simp only [alloc_size])
  · rw [← made_zero n h4]
    exact blk_alloc (blk_alloc (new_at _ _ _ (by simp only [alloc_size])) _) _
  · exact below_alloc (below_alloc (below_alloc (below_alloc (below_alloc (below_alloc (Below.refl _ _) _) _) _) _) _) _
end
end Go.Proofs.Ytcaogllnbpmcgaa.M

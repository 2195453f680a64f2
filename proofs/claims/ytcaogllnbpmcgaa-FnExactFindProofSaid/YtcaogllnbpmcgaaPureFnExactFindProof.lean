/- The program's FindProof returns what the reference's returns, for all arguments, leaves them as they were and returns memory of its own: no condition. -/
import Derived.Test.YtcaogllnbpmcgaaMAllFnExactFindProof1
import Derived.Test.YtcaogllnbpmcgaaMAllFnExactFindProof2
import Derived.Test.YtcaogllnbpmcgaaPx14
import Derived.Test.YtcaogllnbpmcgaaPx13
import Derived.Test.YtcaogllnbpmcgaaPx16
import Derived.Test.YtcaogllnbpmcgaaPx15
import Derived.Test.YtcaogllnbpmcgaaPx8
import Derived.Test.YtcaogllnbpmcgaaPx17
import Derived.Test.YtcaogllnbpmcgaaPx2
import Derived.Test.YtcaogllnbpmcgaaPx2
import Derived.Test.YtcaogllnbpmcgaaPx2
import Derived.Test.YtcaogllnbpmcgaaPx3
import Derived.Test.YtcaogllnbpmcgaaPx18
import Derived.Test.YtcaogllnbpmcgaaPx19
import Derived.Test.YtcaogllnbpmcgaaPx12
import Derived.Test.YtcaogllnbpmcgaaPx20
/- Tables of claims. -/
set_option linter.unusedVariables false
set_option linter.unusedSimpArgs false
namespace Go.Proofs.Ytcaogllnbpmcgaa.M
open Go Go.RowKit Go.Proofs.YtcaogllnbpmcgaaW.PrintWords Go.Proofs.Ytcaogllnbpmcgaa.P
theorem tabS' (p : Nat → Bool) (j : Nat) (hj : j ≤ 16) (h : p j = true) : Go.bits .or .i64 (tabN p j : Int) (pw j : Int) = ((tabN p (j + 1) : Nat) : Int) := by
  rw [or_pw p j hj]
  simp [tabN, h]
theorem tabZ' (p : Nat → Bool) (j : Nat) (h : p j = false) : tabN p j = tabN p (j + 1) := by simp [tabN, h]
theorem shl_u64' (n : Nat) (hn : n ≤ 4) : shl .u64 1 (n : Int) = (pw n : Int) := by
  rcases (by omega : n = 0 ∨ n = 1 ∨ n = 2 ∨ n = 3 ∨ n = 4) with rfl | rfl | rfl | rfl | rfl <;> decide
theorem shl2' (n : Nat) (hn : n ≤ 4) : shl .i64 1 (shl .u64 1 (n : Int)) = (pw (pw n) : Int) := by
  have := pwm4 hn
  rw [shl_u64' n hn, shl_nat _ (by omega)]
theorem ppw' {n : Nat} (h : n ≤ 4) : pw (pw n) ≤ 65536 := pw16 (pwm4 h)
/-- The table of a claim, and of a story. -/
def tabC (n : Nat) (c : Cl) : Nat := tabN (mayB c.f0.toNat c.f1) (pw n)
def tabS (n : Nat) (s : List Cl) : Nat := s.foldl (fun t c => t &&& tabC n c) (pw (pw n) - 1)
theorem tabC_lt (n : Nat) (hn : n ≤ 4) (c : Cl) : tabC n c < 65536 := Nat.lt_of_lt_of_le (tabN_lt _ _) (ppw' hn)
end Go.Proofs.Ytcaogllnbpmcgaa.M

/- The reference's TermOk tells whether a row is a term. -/
set_option linter.unusedVariables false
set_option linter.unusedSimpArgs false
namespace Go.Proofs.Ytcaogllnbpmcgaa.M
open Go Go.RowKit Go.Proofs.YtcaogllnbpmcgaaW.PrintWords Go.Proofs.Ytcaogllnbpmcgaa.P
theorem l1InT (a b c : Int) : spec_l1In.f a b c = some (decide (b ≤ a ∧ a ≤ c)) := by
  unfold spec_l1In.f
  by_cases h : a ≥ b
  · rw [if_pos h]
    simp [h]
  · rw [if_neg h]
    simp
    intro h'
    omega
/-- No mark is beyond the machine's whole numbers. -/
def M64 (s : List Mk) : Prop := ∀ i : Nat, (s.getD i zM).f1 ≤ 9223372036854775807
theorem spec_termOk_l (n : Int) (hb : n ≤ 9223372036854775807) (s : List Mk) (h64 : M64 s) (hs : s.length < 4611686018427387904) : ∀ d i p : Nat, i + d = s.length → p ≤ i →
    Tells (fun k => spec_TermOk.l0 k n s (p : Int) (i : Int)) (foldP n p (s.drop i) = some 1 ∧ (1 ≤ n ∧ n ≤ 4) ∧ s.length ≤ 15) := by
  intro d
  induction d with
  | zero =>
    intro i p hi hp
    refine Tells.step (fun k => by rw [spec_TermOk.l0]) ?_
    refine Tells.neg (by omega) ?_
    rw [List.drop_eq_nil_of_le (by omega)]
    refine Tells.bindc (l1InT n 1 4) ?_
    simp only [foldP, Option.some.injEq]
    refine Tells.ite (fun h => ?_) (fun h => Tells.no fun h' => h (decide_eq_true h'.2.1))
    have hn := of_decide_eq_true h
    refine Tells.ite (fun h1 => Tells.dec ?_) (fun h1 => Tells.no fun h' => h1 (by omega))
    exact ⟨fun h => ⟨by omega, hn, by omega⟩, fun h => by omega⟩
  | succ d ih =>
    intro i p hi hp
    refine Tells.step (fun k => by rw [spec_TermOk.l0]) ?_
    rw [foldP_drop n p s i (by omega), rdM]
    refine Tells.pos (by omega) ?_
    refine Tells.pos (by omega) ?_
    have hm64 := h64 i
    generalize hm : s.getD i zM = m at hm64
    have go : ∀ q, q ≤ i + 1 → stepP n p m = some q → Tells (fun k => spec_TermOk.l0 k n s (q : Int) ((i + 1 : Nat) : Int)) ((stepP n p m).bind (fun q => foldP n q (s.drop (i + 1))) = some 1 ∧ (1 ≤ n ∧ n ≤ 4) ∧ s.length ≤ 15) := fun q hq e => by
      rw [e]
      exact ih (i + 1) q (by omega) hq
    have no : stepP n p m = none → Tells (fun _ => some false) ((stepP n p m).bind (fun q => foldP n q (s.drop (i + 1))) = some 1 ∧ (1 ≤ n ∧ n ≤ 4) ∧ s.length ≤ 15) := fun e => by
      rw [e]
      exact Tells.no (by simp)
    have j3 : m.f0 ≠ 0 → m.f0 ≠ 1 → ¬ (m.f0 = 2 ∧ m.f1 = 0 ∧ 1 ≤ p) → Tells (fun k => spec_TermOk.j3 k n s (p : Int) (i : Int) false) ((stepP n p m).bind (fun q => foldP n q (s.drop (i + 1))) = some 1 ∧ (1 ≤ n ∧ n ≤ 4) ∧ s.length ≤ 15) := fun h0 h1 h2 => by
      refine Tells.step (fun k => by rw [spec_TermOk.j3]) ?_
      rw [rdM, hm, w64s (by omega)]
      refine Tells.neg (by decide) ?_
      refine Tells.pos (by omega) ?_
      refine Tells.pos (by omega) ?_
      refine Tells.bindc (l1InT m.f0 3 5) ?_
      have bad : ¬ (3 ≤ m.f0 ∧ m.f0 ≤ 5 ∧ m.f1 = 0 ∧ 2 ≤ p) → stepP n p m = none := fun hb => by
        unfold stepP
        rw [if_neg h0, if_neg h1]
        by_cases h2' : m.f0 = 2
        · rw [if_pos h2', if_neg (fun h => h2 ⟨h2', h.1, h.2⟩)]
        · rw [if_neg h2']
          by_cases h3 : 3 ≤ m.f0 ∧ m.f0 ≤ 5
          · rw [if_pos h3, if_neg (fun h => hb ⟨h3.1, h3.2, h.1, h.2⟩)]
          · rw [if_neg h3]
      refine Tells.ite (fun h3 => ?_) (fun h3 => no (bad fun h => h3 (decide_eq_true ⟨h.1, h.2.1⟩)))
      have h3 := of_decide_eq_true h3
      refine Tells.ite (fun h4 => ?_) (fun h4 => no (bad fun h => h4 h.2.2.1))
      refine Tells.ite (fun h5 => ?_) (fun h5 => no (bad fun h => h5 (by omega)))
      rw [w64 (x := (p : Int) - 1) (by omega) (by omega), show (p : Int) - 1 = ((p - 1 : Nat) : Int) by omega]
      exact go (p - 1) (by omega) (by unfold stepP; rw [if_neg h0, if_neg h1, if_neg (by omega), if_pos h3, if_pos ⟨h4, by omega⟩])
    have j2 : m.f0 ≠ 0 → ¬ (m.f0 = 1 ∧ 0 ≤ m.f1 ∧ m.f1 ≤ n + 1) → Tells (fun k => spec_TermOk.j2 k n s (p : Int) (i : Int) false) ((stepP n p m).bind (fun q => foldP n q (s.drop (i + 1))) = some 1 ∧ (1 ≤ n ∧ n ≤ 4) ∧ s.length ≤ 15) := fun h0 h1 => by
      refine Tells.step (fun k => by rw [spec_TermOk.j2]) ?_
      rw [rdM, hm]
      refine Tells.neg (by decide) ?_
      refine Tells.pos (by omega) ?_
      refine Tells.pos (by omega) ?_
      by_cases h11 : m.f0 = 1
      · have e : stepP n p m = none := by
          unfold stepP
          rw [if_neg h0, if_pos h11, if_neg (fun h => h1 ⟨h11, h⟩)]
        refine Tells.neg (by simp [h11]) ?_
        refine Tells.step (fun k => by rw [spec_TermOk.j3]) ?_
        rw [rdM, hm]
        refine Tells.neg (by decide) ?_
        refine Tells.pos (by omega) ?_
        refine Tells.pos (by omega) ?_
        refine Tells.bindc (l1InT m.f0 3 5) ?_
        refine Tells.neg (fun h => by have := of_decide_eq_true h; omega) ?_
        exact no e
      refine Tells.ite (fun h2 => ?_) (fun h2 => j3 h0 h11 fun h => h2 (by simp [h.1, h.2.1]))
      have h2 : m.f0 = 2 ∧ m.f1 = 0 := by simpa using h2
      by_cases hp1 : (p : Int) ≥ 1
      · rw [decide_eq_true hp1]
        refine Tells.step (fun k => by rw [spec_TermOk.j3]) ?_
        rw [w64s (by omega)]
        refine Tells.pos rfl ?_
        exact go p (by omega) (by unfold stepP; rw [if_neg h0, if_neg h11, if_pos h2.1, if_pos ⟨h2.2, by omega⟩])
      · rw [decide_eq_false hp1]
        exact j3 h0 h11 fun h => hp1 (by omega)
    have j2t : m.f0 = 1 → 0 ≤ m.f1 → m.f1 ≤ n + 1 → Tells (fun k => spec_TermOk.j2 k n s (p : Int) (i : Int) true) ((stepP n p m).bind (fun q => foldP n q (s.drop (i + 1))) = some 1 ∧ (1 ≤ n ∧ n ≤ 4) ∧ s.length ≤ 15) := fun h0 h1 h2 => by
      refine Tells.step (fun k => by rw [spec_TermOk.j2]) ?_
      rw [w64s (by omega), w64s (by omega)]
      refine Tells.pos rfl ?_
      exact go (p + 1) (by omega) (by unfold stepP; rw [if_neg (by omega), if_pos h0, if_pos ⟨h1, h2⟩])
    have j1 : ¬ (m.f0 = 0 ∧ 0 ≤ m.f1 ∧ m.f1 < n) → Tells (fun k => spec_TermOk.j1 k n s (p : Int) (i : Int) false) ((stepP n p m).bind (fun q => foldP n q (s.drop (i + 1))) = some 1 ∧ (1 ≤ n ∧ n ≤ 4) ∧ s.length ≤ 15) := fun h0 => by
      refine Tells.step (fun k => by rw [spec_TermOk.j1]) ?_
      rw [rdM, hm]
      refine Tells.neg (by decide) ?_
      refine Tells.pos (by omega) ?_
      refine Tells.pos (by omega) ?_
      by_cases h00 : m.f0 = 0
      · have e : stepP n p m = none := by
          unfold stepP
          rw [if_pos h00, if_neg (fun h => h0 ⟨h00, h⟩)]
        refine Tells.neg (by omega) ?_
        refine Tells.step (fun k => by rw [spec_TermOk.j2]) ?_
        rw [rdM, hm]
        refine Tells.neg (by decide) ?_
        refine Tells.pos (by omega) ?_
        refine Tells.pos (by omega) ?_
        refine Tells.neg (by simp [h00]) ?_
        refine Tells.step (fun k => by rw [spec_TermOk.j3]) ?_
        rw [rdM, hm]
        refine Tells.neg (by decide) ?_
        refine Tells.pos (by omega) ?_
        refine Tells.pos (by omega) ?_
        refine Tells.bindc (l1InT m.f0 3 5) ?_
        refine Tells.neg (fun h => by have := of_decide_eq_true h; omega) ?_
        exact no e
      refine Tells.ite (fun h1 => ?_) (fun h1 => j2 h00 fun h => h1 h.1)
      refine Tells.ite (fun h2 => ?_) (fun h2 => j2 h00 fun h => h2 h.2.1)
      refine Tells.ite (fun h3 => j2t h1 h2 (by omega)) (fun h3 => ?_)
      by_cases h4 : wrap64 (m.f1 - 1) = n
      · rw [show (wrap64 (m.f1 - 1) == n) = true by simp [h4]]
        exact j2t h1 h2 (by rw [w64 (by omega) (by omega)] at h4; omega)
      · rw [show (wrap64 (m.f1 - 1) == n) = false by simp [h4]]
        exact j2 h00 fun h => h4 (by rw [w64 (by omega) (by omega)]; omega)
    refine Tells.ite (fun h0 => ?_) (fun h0 => j1 fun h => h0 h.1)
    refine Tells.ite (fun h1 => ?_) (fun h1 => j1 fun h => h1 h.2.1)
    by_cases h2 : m.f1 < n
    · rw [decide_eq_true h2]
      refine Tells.step (fun k => by rw [spec_TermOk.j1]) ?_
      rw [w64s (by omega), w64s (by omega)]
      refine Tells.pos rfl ?_
      exact go (p + 1) (by omega) (by unfold stepP; rw [if_pos h0, if_pos ⟨h1, h2⟩])
    · rw [decide_eq_false h2]
      exact j1 fun h => h2 h.2.2
theorem spec_termOk (n : Int) (hb : n ≤ 9223372036854775807) (s : List Mk) (h64 : M64 s) (hs : s.length < 4611686018427387904) : Tells (fun k => spec_TermOk.f k n s) (TermP n s) := by
  unfold spec_TermOk.f
  refine (spec_termOk_l n hb s h64 hs s.length 0 0 (by omega) (by omega)).iff ?_
  rw [List.drop_zero]
  exact ⟨fun h => ⟨h.2.1, h.2.2, h.1⟩, fun h => ⟨h.2.2, h.1, h.2.1⟩⟩
end Go.Proofs.Ytcaogllnbpmcgaa.M

/- The reference's ClaimOk. -/
set_option linter.unusedVariables false
set_option linter.unusedSimpArgs false
namespace Go.Proofs.Ytcaogllnbpmcgaa.M
open Go Go.RowKit Go.Proofs.YtcaogllnbpmcgaaW.PrintWords Go.Proofs.Ytcaogllnbpmcgaa.P
theorem spec_claimOk (n : Int) (hn : n ≤ 9223372036854775807) (who : Int) (l : List Mk) (h64 : M64 l) (hl : l.length < 4611686018427387904) : Tells (fun k => spec_ClaimOk.f k n who l) (ClaimP n who l) := by
  unfold spec_ClaimOk.f
  refine Tells.ite (fun h0 => ?_) (fun h0 => Tells.no fun h' => h0 h'.1)
  refine Tells.ite (fun h1 => ?_) (fun h1 => Tells.no fun h' => h1 h'.2.1)
  obtain ⟨b, hb, hi⟩ := spec_termOk n hn l h64 hl
  refine Tells.bind hb ?_
  refine Tells.ite (fun h2 => Tells.dec ?_) (fun h2 => Tells.no fun h' => h2 (hi.2 h'.2.2.1))
  exact ⟨fun h => ⟨h0, h1, hi.1 h2, by omega⟩, fun h => by have := h.2.2.2; omega⟩
/-- Nothing in the story is beyond the machine's numbers. -/
def S64 (s : List Cl) : Prop := s.length < 4611686018427387904 ∧ ∀ i, M64 (s.getD i zC).f1 ∧ (s.getD i zC).f1.length < 4611686018427387904
end Go.Proofs.Ytcaogllnbpmcgaa.M

/- The reference's way, from the last mark, tells the tree's value. -/
set_option linter.unusedVariables false
set_option linter.unusedSimpArgs false
namespace Go.Proofs.Ytcaogllnbpmcgaa.M
open Go Go.RowKit Go.Proofs.YtcaogllnbpmcgaaW.PrintWords Go.Proofs.Ytcaogllnbpmcgaa.P
theorem spec_headsE (w : Nat) (hw : w < 16) : Ev (fun k => spec_l1Heads.f k (w : Int)) ((heads w : Nat) : Int) := by
  have h : ∀ w : Fin 16, spec_l1Heads.f 10 (w.val : Int) = some ((heads w.val : Nat) : Int) := by decide +kernel
  exact Ev.of (fun k => spec_l1Heads.mono (w : Int) k) (h ⟨w, hw⟩)
theorem starts_l (n : Int) (L : List Mk) (hL : L.length ≤ 1000) (r : Int) (t : Tm) : ∀ (pre post : List Mk) (d : Nat), t.Ok n → L = pre ++ t.enc ++ post → d ≤ 1000000 - t.enc.length →
    Ev (fun k => spec_l2Starts.l0 k L (d : Int) ((pre.length : Int) - 1)) r → Ev (fun k => spec_l2Starts.l0 k L ((d + 1 : Nat) : Int) (((pre.length + t.enc.length : Nat) : Int) - 1)) r := by
  induction t with
  | leaf m =>
    intro pre post d ht hl hd h
    refine Ev.step (fun k => by rw [spec_l2Starts.l0]) ?_
    have hlen : L.length = pre.length + 1 + post.length := by rw [hl]; simp [Tm.enc]; omega
    have hget : L.getD pre.length zM = m := by
      rw [hl]
      simp only [Tm.enc, List.append_assoc, List.singleton_append]
      exact getD_at zM pre m post
    have e : ((pre.length + (Tm.leaf m).enc.length : Nat) : Int) - 1 = (pre.length : Int) := by simp [Tm.enc]
    simp only [Tm.enc, List.length_singleton] at hd
    rw [e, rdM, hget, w64 (x := ((d + 1 : Nat) : Int) - 1) (by omega) (by omega), w64 (x := (pre.length : Int) - 1) (by omega) (by omega), show ((d + 1 : Nat) : Int) - 1 = (d : Int) by omega]
    refine ev_pos (by omega) ?_
    refine ev_pos (by omega) ?_
    refine ev_pos (by omega) ?_
    refine ev_pos (by rcases ht with h | h <;> omega) ?_
    exact h
  | neg t ih =>
    intro pre post d ht hl hd h
    refine Ev.step (fun k => by rw [spec_l2Starts.l0]) ?_
    have hlen : L.length = pre.length + t.enc.length + 1 + post.length := by rw [hl]; simp [Tm.enc]; omega
    have hget : L.getD (pre.length + t.enc.length) zM = ⟨2, 0⟩ := by
      rw [hl]
      simp only [Tm.enc, List.append_assoc, List.singleton_append]
      rw [← List.append_assoc]
      have := getD_at zM (pre ++ t.enc) ⟨2, 0⟩ post
      rwa [List.length_append] at this
    have e : ((pre.length + (Tm.neg t).enc.length : Nat) : Int) - 1 = ((pre.length + t.enc.length : Nat) : Int) := by simp [Tm.enc]; omega
    simp only [Tm.enc, List.length_append, List.length_singleton] at hd
    rw [e, rdM, hget, w64 (x := ((pre.length + t.enc.length : Nat) : Int) - 1) (by omega) (by omega)]
    refine ev_pos (by omega) ?_
    refine ev_pos (by omega) ?_
    refine ev_pos (by omega) ?_
    refine ev_neg (by decide) ?_
    refine ev_neg (by decide) ?_
    exact ih pre (⟨2, 0⟩ :: post) d ht (by rw [hl]; simp [Tm.enc]) (by omega) h
  | bin c a b iha ihb =>
    intro pre post d ht hl hd h
    obtain ⟨hc, ha, hb⟩ := ht
    refine Ev.step (fun k => by rw [spec_l2Starts.l0]) ?_
    have hlen : L.length = pre.length + a.enc.length + b.enc.length + 1 + post.length := by rw [hl]; simp [Tm.enc]; omega
    have hget : L.getD (pre.length + a.enc.length + b.enc.length) zM = ⟨c, 0⟩ := by
      rw [hl]
      simp only [Tm.enc, List.append_assoc, List.singleton_append]
      rw [← List.append_assoc, ← List.append_assoc]
      have := getD_at zM ((pre ++ a.enc) ++ b.enc) ⟨c, 0⟩ post
      rwa [List.length_append, List.length_append] at this
    have e : ((pre.length + (Tm.bin c a b).enc.length : Nat) : Int) - 1 = ((pre.length + a.enc.length + b.enc.length : Nat) : Int) := by simp [Tm.enc]; omega
    simp only [Tm.enc, List.length_append, List.length_singleton] at hd
    rw [e, rdM, hget, w64 (x := ((pre.length + a.enc.length + b.enc.length : Nat) : Int) - 1) (by omega) (by omega), w64s (by omega)]
    refine ev_pos (by omega) ?_
    refine ev_pos (by omega) ?_
    refine ev_pos (by omega) ?_
    refine ev_neg (by dsimp only; omega) ?_
    refine ev_pos (by dsimp only; omega) ?_
    have h2 := iha pre (b.enc ++ ⟨c, 0⟩ :: post) d ha (by rw [hl]; simp [Tm.enc]) (by omega) h
    rw [← List.length_append] at h2 ⊢
    exact ihb (pre ++ a.enc) (⟨c, 0⟩ :: post) (d + 1) hb (by rw [hl]; simp [Tm.enc]) (by omega) h2
theorem spec_holdsE (n : Int) (hn : n ≤ 4) (w : Nat) (hw : w < 16) (t : Tm) : t.Ok n → t.enc.length ≤ 1000 → Ev (fun k => spec_l3Holds.f k t.enc (w : Int)) (t.val w) := by
  induction t with
  | leaf m =>
    intro ht hl
    refine Ev.step (fun k => by rw [spec_l3Holds.f]) ?_
    have e : wrap64 (((Tm.leaf m).enc.length : Int) - 1) = ((0 : Nat) : Int) := by simp [Tm.enc, wrap64]
    have g : (Tm.leaf m).enc.getD 0 zM = m := rfl
    rw [e, rdM, g]
    have hlen : (Tm.leaf m).enc.length = 1 := rfl
    refine ev_pos (by omega) ?_
    refine ev_pos (by omega) ?_
    simp only [Tm.val]
    rcases ht with ⟨h0, h1, h2⟩ | ⟨h0, h1, h2⟩
    · refine ev_pos h0 ?_
      refine ev_pos h1 (ev_ret ?_)
      rw [if_pos h0, show m.f1 = ((m.f1.toNat : Nat) : Int) by omega, shr_tmod2 w m.f1.toNat (by omega), beq_one, Int.toNat_natCast]
    · refine ev_neg (by omega) ?_
      refine ev_pos h0 ?_
      refine ev_bind (spec_headsE w hw) (ev_ret ?_)
      rw [if_neg (by omega)]
  | neg t ih =>
    intro ht hl
    refine Ev.step (fun k => by rw [spec_l3Holds.f]) ?_
    have hlen : (Tm.neg t).enc.length = t.enc.length + 1 := by simp [Tm.enc]
    have g : (Tm.neg t).enc.getD t.enc.length zM = ⟨2, 0⟩ := getD_last zM t.enc ⟨2, 0⟩
    rw [hlen, w64 (x := ((t.enc.length + 1 : Nat) : Int) - 1) (by omega) (by omega), show ((t.enc.length + 1 : Nat) : Int) - 1 = (t.enc.length : Int) by omega, rdM, g, Int.toNat_natCast]
    have tk : (Tm.neg t).enc.take t.enc.length = t.enc := by simp [Tm.enc]
    rw [tk]
    refine ev_pos (by omega) ?_
    refine ev_pos (by omega) ?_
    refine ev_neg (by decide) ?_
    refine ev_neg (by decide) ?_
    refine ev_pos rfl ?_
    refine ev_pos (by omega) ?_
    exact ev_bind (ih ht (by omega)) (ev_ret rfl)
  | bin c a b iha ihb =>
    intro ht hl
    obtain ⟨hc, ha, hb⟩ := ht
    refine Ev.step (fun k => by rw [spec_l3Holds.f]) ?_
    have hbp := b.enc_pos
    have hlen : (Tm.bin c a b).enc.length = a.enc.length + b.enc.length + 1 := by simp [Tm.enc]; omega
    have g : (Tm.bin c a b).enc.getD (a.enc.length + b.enc.length) zM = ⟨c, 0⟩ := by
      have := getD_last zM (a.enc ++ b.enc) ⟨c, 0⟩
      rwa [List.length_append] at this
    rw [hlen, w64 (x := ((a.enc.length + b.enc.length + 1 : Nat) : Int) - 1) (by omega) (by omega), show ((a.enc.length + b.enc.length + 1 : Nat) : Int) - 1 = ((a.enc.length + b.enc.length : Nat) : Int) by omega, rdM, g,
      w64 (x := ((a.enc.length + b.enc.length : Nat) : Int) - 1) (by omega) (by omega), Int.toNat_natCast]
    have tk : (Tm.bin c a b).enc.take (a.enc.length + b.enc.length) = a.enc ++ b.enc := by
      rw [← List.length_append]
      exact List.take_left
    rw [tk]
    refine ev_pos (by omega) ?_
    refine ev_pos (by omega) ?_
    refine ev_neg (by dsimp only; omega) ?_
    refine ev_neg (by dsimp only; omega) ?_
    refine ev_neg (by dsimp only; omega) ?_
    have hst : Ev (fun k => spec_l2Starts.f k (Tm.bin c a b).enc (((a.enc.length + b.enc.length : Nat) : Int) - 1)) (a.enc.length : Int) := by
      unfold spec_l2Starts.f
      refine starts_l n (Tm.bin c a b).enc (by omega) (a.enc.length : Int) b a.enc [⟨c, 0⟩] 0 hb rfl (by omega) ?_
      refine Ev.step (fun k => by rw [spec_l2Starts.l0]) ?_
      refine ev_neg (by omega) (ev_ret ?_)
      rw [w64 (by omega) (by omega)]
      omega
    refine ev_bind hst ?_
    rw [Int.toNat_natCast]
    have tk2 : (Tm.bin c a b).enc.take a.enc.length = a.enc := by simp [Tm.enc]
    rw [tk2, List.drop_left]
    refine ev_pos (by omega) ?_
    refine ev_pos (by omega) ?_
    refine ev_bind (iha ha (by omega)) ?_
    refine ev_pos (by omega) ?_
    refine ev_pos (by omega) ?_
    refine ev_bind (ihb hb (by omega)) ?_
    simp only [Tm.val]
    rcases hc with rfl | rfl | rfl
    · refine ev_pos rfl ?_
      by_cases hv : a.val w = true
      · exact ev_pos hv (ev_ret (by simp [op2, hv]))
      · exact ev_neg hv (ev_ret (by simp [op2, hv]))
    · refine ev_neg (by decide) (ev_pos rfl ?_)
      by_cases hv : a.val w = true
      · exact ev_pos hv (ev_ret (by simp [op2, hv]))
      · exact ev_neg hv (ev_ret (by simp [op2, hv]))
    · refine ev_neg (by decide) (ev_neg (by decide) (ev_ret (by simp [op2])))
end Go.Proofs.Ytcaogllnbpmcgaa.M

/- The reference's ClaimOk, StoryOk and l4May. -/
set_option linter.unusedVariables false
set_option linter.unusedSimpArgs false
namespace Go.Proofs.Ytcaogllnbpmcgaa.M
open Go Go.RowKit Go.Proofs.YtcaogllnbpmcgaaW.PrintWords Go.Proofs.Ytcaogllnbpmcgaa.P
theorem spec_holdsT {n : Int} {l : List Mk} (h : TermP n l) (w : Nat) (hw : w < 16) : Ev (fun k => spec_l3Holds.f k l (w : Int)) (holdB l w) := by
  obtain ⟨t, ht, rfl⟩ := h.tree
  rw [holdB_enc n w t ht]
  exact spec_holdsE n h.1.2 w hw t ht (by have := h.2.1; omega)
theorem spec_mayE {n : Int} {l : List Mk} (h : TermP n l) (who : Int) (h0 : 0 ≤ who) (h4 : who < 4) (w : Nat) (hw : w < 16) : Ev (fun k => spec_l4May.f k who l (w : Int)) (mayB who.toNat l w) := by
  unfold spec_l4May.f
  refine ev_pos h0 ?_
  refine ev_bind (spec_holdsT h w hw) (ev_ret ?_)
  rw [show who = ((who.toNat : Nat) : Int) by omega, shr_tmod2 w who.toNat (by omega), beq_one]
  unfold mayB
  rw [Int.toNat_natCast]

end Go.Proofs.Ytcaogllnbpmcgaa.M

/- The tables of terms. -/
set_option linter.unusedVariables false
set_option linter.unusedSimpArgs false
namespace Go.Proofs.Ytcaogllnbpmcgaa.M
open Go Go.RowKit Go.Proofs.YtcaogllnbpmcgaaW.PrintWords Go.Proofs.Ytcaogllnbpmcgaa.P
theorem spec_l3Table_l (n : Nat) (hn : n ≤ 4) (l : List Mk) (h : TermP n l) : ∀ d j, j + d = pw n →
    Ev (fun k => spec_l3Table.l0 k (n : Int) l ((tabN (holdB l) j : Nat) : Int) (j : Int)) ((tabN (holdB l) (pw n) : Nat) : Int) := by
  have hp := pwm4 hn
  intro d
  induction d with
  | zero =>
    intro j hj
    refine Ev.step (fun k => by rw [spec_l3Table.l0]) ?_
    rw [shl_nat n (by omega)]
    refine ev_pos (by omega) ?_
    refine ev_neg (by omega) (ev_ret ?_)
    rw [show j = pw n by omega]
  | succ d ih =>
    intro j hj
    refine Ev.step (fun k => by rw [spec_l3Table.l0]) ?_
    rw [shl_nat n (by omega), shl_nat j (by omega), w64s (by omega)]
    refine ev_pos (by omega) ?_
    refine ev_pos (by omega) ?_
    refine ev_bind (spec_holdsT h j (by omega)) ?_
    by_cases hb : holdB l j = true
    · refine ev_pos hb ?_
      refine ev_pos (by omega) ?_
      rw [tabS' _ j (by omega) hb]
      exact ih (j + 1) (by omega)
    · refine ev_neg hb ?_
      rw [tabZ' _ j (Bool.eq_false_iff.2 hb)]
      exact ih (j + 1) (by omega)
theorem spec_l3TableE (n : Nat) (l : List Mk) (h : TermP n l) : Ev (fun k => spec_l3Table.f k (n : Int) l) ((tabN (holdB l) (pw n) : Nat) : Int) :=
  spec_l3Table_l n (by have := h.1.2; omega) l h (pw n) 0 (by omega)
theorem impl_tableOfE (n : Nat) (l : List Mk) (h : TermP n l) : impl_TableOf.f (n : Int) l = some ((tabN (holdB l) (pw n) : Nat) : Int) := by
  unfold impl_TableOf.f
  rw [if_pos h]
  rfl
end Go.Proofs.Ytcaogllnbpmcgaa.M

/- Tables of claims and stories: the reference's. -/
set_option linter.unusedVariables false
set_option linter.unusedSimpArgs false
namespace Go.Proofs.Ytcaogllnbpmcgaa.M
open Go Go.RowKit Go.Proofs.YtcaogllnbpmcgaaW.PrintWords Go.Proofs.Ytcaogllnbpmcgaa.P
theorem spec_l4Table_l (n : Nat) (hn : n ≤ 4) (who : Int) (l : List Mk) (h : ClaimP n who l) : ∀ d j, j + d = pw n →
    Ev (fun k => spec_l4Table.l0 k (n : Int) ((tabN (mayB who.toNat l) j : Nat) : Int) (j : Int) who l) ((tabN (mayB who.toNat l) (pw n) : Nat) : Int) := by
  have hp := pwm4 hn
  intro d
  induction d with
  | zero =>
    intro j hj
    refine Ev.step (fun k => by rw [spec_l4Table.l0]) ?_
    rw [shl_nat n (by omega)]
    refine ev_pos (by omega) ?_
    refine ev_neg (by omega) (ev_ret ?_)
    rw [show j = pw n by omega]
  | succ d ih =>
    intro j hj
    refine Ev.step (fun k => by rw [spec_l4Table.l0]) ?_
    rw [shl_nat n (by omega), shl_nat j (by omega), w64s (by omega)]
    refine ev_pos (by omega) ?_
    refine ev_pos (by omega) ?_
    refine ev_bind (spec_mayE h.2.2.1 who h.1 (by have := h.2.1; omega) j (by omega)) ?_
    by_cases hb : mayB who.toNat l j = true
    · refine ev_pos hb ?_
      refine ev_pos (by omega) ?_
      rw [tabS' _ j (by omega) hb]
      exact ih (j + 1) (by omega)
    · refine ev_neg hb ?_
      rw [tabZ' _ j (Bool.eq_false_iff.2 hb)]
      exact ih (j + 1) (by omega)
theorem spec_l4TableE (n : Nat) (c : Cl) (h : ClaimP n c.f0 c.f1) : Ev (fun k => spec_l4Table.f k (n : Int) c.f0 c.f1) ((tabC n c : Nat) : Int) :=
  spec_l4Table_l n (by have := h.2.2.1.1.2; omega) c.f0 c.f1 h (pw n) 0 (by omega)
end Go.Proofs.Ytcaogllnbpmcgaa.M

/- What is known of the people, as the reference has it (a row of -1, 0, 1) and as two sets; which worlds agree with it; by what a case is closed. -/
set_option linter.unusedVariables false
set_option linter.unusedSimpArgs false
namespace Go.Proofs.Ytcaogllnbpmcgaa.M
open Go Go.RowKit Go.Proofs.YtcaogllnbpmcgaaW.PrintWords Go.Proofs.Ytcaogllnbpmcgaa.P
def knOf : List Int → Nat
  | [] => 0
  | x :: l => (if x < 0 then 0 else 1) + 2 * knOf l
def wdOf : List Int → Nat
  | [] => 0
  | x :: l => (if x = 1 then 1 else 0) + 2 * wdOf l
def allK : Nat → List (List Int)
  | 0 => [[]]
  | n + 1 => (allK n).flatMap fun l => [(-1) :: l, 0 :: l, 1 :: l]
def KnowP (n : Nat) (ks : List Int) : Prop := ks ∈ allK n
theorem knowP_iff (n : Nat) (ks : List Int) : KnowP n ks ↔ ks.length = n ∧ ∀ x ∈ ks, x = -1 ∨ x = 0 ∨ x = 1 := by
  unfold KnowP
  induction n generalizing ks with
  | zero =>
    simp only [allK, List.mem_singleton]
    constructor
    · rintro rfl; simp
    · exact fun h => List.eq_nil_of_length_eq_zero h.1
  | succ n ih =>
    simp only [allK, List.mem_flatMap]
    constructor
    · rintro ⟨l, hl, h⟩
      have hl' := (ih l).1 hl
      simp only [List.mem_cons, List.not_mem_nil, or_false] at h
      rcases h with rfl | rfl | rfl <;> exact ⟨by simp [hl'.1], fun x hx => by
        rcases List.mem_cons.1 hx with rfl | hx
        · simp
        · exact hl'.2 x hx⟩
    · rintro ⟨hlen, hall⟩
      cases ks with
      | nil => simp at hlen
      | cons x l =>
        refine ⟨l, (ih l).2 ⟨by simpa using hlen, fun y hy => hall y (List.mem_cons_of_mem _ hy)⟩, ?_⟩
        rcases hall x List.mem_cons_self with rfl | rfl | rfl <;> simp
theorem know_len {n : Nat} {ks : List Int} (h : KnowP n ks) : ks.length = n := ((knowP_iff n ks).1 h).1
theorem know_nothing (n : Nat) : KnowP n (List.replicate n (-1)) := (knowP_iff n _).2 ⟨by simp, fun x hx => .inl (List.eq_of_mem_replicate hx)⟩
theorem know_set {n : Nat} {ks : List Int} (h : KnowP n ks) (i : Nat) (x : Int) (hx : x = 0 ∨ x = 1) : KnowP n (ks.set i x) := by
  rw [knowP_iff] at h ⊢
  refine ⟨by rw [List.length_set]; exact h.1, fun y hy => ?_⟩
  rcases List.mem_or_eq_of_mem_set hy with hy | rfl
  · exact h.2 y hy
  · exact .inr hx
theorem nothing_of (n : Nat) (hn : n ≤ 4) : knOf (List.replicate n (-1)) = 0 ∧ wdOf (List.replicate n (-1)) = 0 := by
  rcases (by omega : n = 0 ∨ n = 1 ∨ n = 2 ∨ n = 3 ∨ n = 4) with rfl | rfl | rfl | rfl | rfl <;> decide
theorem know_facts (n : Nat) (hn : n ≤ 4) (ks : List Int) (h : KnowP n ks) : knOf ks < 16 ∧ wdOf ks < 16 ∧ ∀ i, i < n → ((knOf ks).testBit i = decide (0 ≤ ks.getD i 0)) ∧ (ks.getD i 0 < 0 → knOf (ks.set i 0) = knOf ks ||| 2 ^ i ∧ wdOf (ks.set i 0) = wdOf ks ∧ knOf (ks.set i 1) = knOf ks ||| 2 ^ i ∧ wdOf (ks.set i 1) = wdOf ks ||| 2 ^ i) := by
  have F : ∀ n : Fin 5, ∀ ks ∈ allK n.val, knOf ks < 16 ∧ wdOf ks < 16 ∧ ∀ i : Fin n.val, ((knOf ks).testBit i.val = decide (0 ≤ ks.getD i.val 0)) ∧ (ks.getD i.val 0 < 0 → knOf (ks.set i.val 0) = knOf ks ||| 2 ^ i.val ∧ wdOf (ks.set i.val 0) = wdOf ks ∧ knOf (ks.set i.val 1) = knOf ks ||| 2 ^ i.val ∧ wdOf (ks.set i.val 1) = wdOf ks ||| 2 ^ i.val) := by decide +kernel
  obtain ⟨h1, h2, h3⟩ := F ⟨n, by omega⟩ ks h
  exact ⟨h1, h2, fun i hi => h3 ⟨i, hi⟩⟩
theorem spec_nothingE (n : Nat) (hn : n ≤ 4) : Ev (fun k => spec_l11Nothing.f k (n : Int)) (List.replicate n (-1)) := by
  have F : ∀ n : Fin 5, spec_l11Nothing.f 20 (n.val : Int) = some (List.replicate n.val (-1)) := by decide +kernel
  exact Ev.of (fun k => spec_l11Nothing.mono (n : Int) k) (F ⟨n, by omega⟩)
theorem spec_agreeE (n : Nat) (h1 : 1 ≤ n) (hn : n ≤ 4) (ks : List Int) (h : KnowP n ks) : Ev (fun k => spec_l11Agree.f k (n : Int) ks) ((agreeN n (knOf ks) (wdOf ks) : Nat) : Int) := by
  have F : ∀ n : Fin 5, ∀ ks ∈ allK n.val, spec_l11Agree.f 120 (n.val : Int) ks = some ((agreeN n.val (knOf ks) (wdOf ks) : Nat) : Int) := by decide +kernel
  exact Ev.of (fun k => spec_l11Agree.mono (n : Int) ks k) (F ⟨n, by omega⟩ ks h)
def clQ_ (n : Nat) (s : List Cl) (t : List Mk) : Nat → Nat → Int → Bool := Q.clM n s.length (holdT t) (mayT s)
theorem spec_closesE (n : Nat) (s : List Cl) (t : List Mk) (hS : StoryP (n : Int) s) (hT : TermP (n : Int) t) (ks : List Int) (h : KnowP n ks) (tgt : Int) (h0 : tgt < 0) (hlo : -2 - (s.length : Int) ≤ tgt) :
    Ev (fun k => spec_l11Closes.f k (n : Int) s t tgt ks) (clQ_ n s t (knOf ks) (wdOf ks) tgt) := by
  have hn := hS.2.1
  have h6 := hS.2.2
  have hn4 : n ≤ 4 := by omega
  unfold spec_l11Closes.f
  refine ev_bind (spec_agreeE n (by omega) hn4 ks h) ?_
  by_cases hg : tgt = -1
  · refine ev_pos hg (ev_bind (spec_l3TableE n t hT) (ev_ret ?_))
    rw [close_goal n _ _ hn4 (holdB t)]
    unfold clQ_ Q.clM
    rw [if_pos hg]
    rfl
  · refine ev_neg hg ?_
    obtain ⟨i, hi⟩ : ∃ i : Nat, -2 - tgt = (i : Int) := ⟨(-2 - tgt).toNat, by omega⟩
    have e1 : wrap64 (-2 - tgt) = (i : Int) := by
      have := Go.Proofs.Ytcaogllnbpmcgaa.M.w64 (x := -2 - tgt) (by omega) (by omega)
      rw [this, hi]
    have e2 : wrap64 ((s.length : Int) - 1) = (s.length : Int) - 1 := Go.Proofs.Ytcaogllnbpmcgaa.M.w64 (by omega) (by omega)
    refine ev_bindc (l1InT _ _ _) ?_
    rw [e1, e2]
    by_cases hlt : i < s.length
    · refine ev_pos (decide_eq_true (by omega)) (ev_pos (by omega) (ev_pos (by omega) ?_))
      rw [rdC]
      refine ev_bind (spec_l4TableE n _ (hS.1 i hlt)) (ev_ret ?_)
      have := close_claim n (knOf ks) (wdOf ks) hn4 (mayT s i)
      unfold clQ_ Q.clM
      rw [if_neg hg, if_pos (by omega), hi, Int.toNat_natCast]
      exact this
    · refine ev_neg (by rw [decide_eq_true_iff]; omega) (ev_ret ?_)
      unfold clQ_ Q.clM
      rw [if_neg hg, if_neg (by omega)]
end Go.Proofs.Ytcaogllnbpmcgaa.M

/- The reference's FindProof: what grows. -/
set_option linter.unusedVariables false
set_option linter.unusedSimpArgs false
namespace Go.Proofs.Ytcaogllnbpmcgaa.M
open Go Go.RowKit Go.Proofs.YtcaogllnbpmcgaaW.PrintWords Go.Proofs.Ytcaogllnbpmcgaa.P
/-- Of the first k people it is known whether they tell the truth, of no others. -/
def FirstP (n k : Nat) (ks : List Int) : Prop := KnowP n ks ∧ ∀ i, i < n → (0 ≤ ks.getD i 0 ↔ i < k)
theorem first_facts {n k : Nat} {ks : List Int} (hn : n ≤ 4) (hk : k ≤ n) (h : FirstP n k ks) : knOf ks = 2 ^ k - 1 ∧ wdOf ks < 2 ^ k := by
  have F : ∀ n : Fin 5, ∀ k : Fin 5, ∀ ks ∈ allK n.val, k.val ≤ n.val → (∀ i : Fin n.val, (0 ≤ ks.getD i.val 0 ↔ i.val < k.val)) → knOf ks = 2 ^ k.val - 1 ∧ wdOf ks < 2 ^ k.val := by decide +kernel
  exact F ⟨n, by omega⟩ ⟨k, by omega⟩ ks h.1 hk (fun i => h.2 i.val i.isLt)
theorem first_nothing (n : Nat) : FirstP n 0 (List.replicate n (-1)) := by
  refine ⟨know_nothing n, fun i hi => ?_⟩
  rw [List.getD_eq_getElem?_getD, List.getElem?_replicate, if_pos hi]
  show (0 : Int) ≤ -1 ↔ _
  omega
theorem first_next {n k : Nat} {ks : List Int} (hk : k < n) (h : FirstP n k ks) (x : Int) (hx : x = 0 ∨ x = 1) : FirstP n (k + 1) (ks.set k x) := by
  refine ⟨know_set h.1 k x hx, fun i hi => ?_⟩
  have hl := know_len h.1
  rw [List.getD_eq_getElem?_getD, List.getElem?_set]
  by_cases hki : k = i
  · subst hki
    rw [if_pos rfl, if_pos (by omega)]
    show (0 : Int) ≤ x ↔ _
    omega
  · rw [if_neg hki, ← List.getD_eq_getElem?_getD, h.2 i hi]
    omega
theorem first_wd {n k : Nat} {ks : List Int} (hn : n ≤ 4) (hk : k < n) (h : FirstP n k ks) : wdOf (ks.set k 0) = wdOf ks ∧ wdOf (ks.set k 1) = wdOf ks + 2 ^ k := by
  have h0 : ks.getD k 0 < 0 := by have := h.2 k hk; omega
  obtain ⟨_, a, _, b⟩ := ((know_facts n hn ks h.1).2.2 k hk).2 h0
  refine ⟨a, ?_⟩
  rw [b, Q.low_or (first_facts hn (by omega) h).2]
def zG : Q.Sp := ⟨0, -1, -1⟩
/-- What the reference's growing tells: what is told by growQ; where nothing is found, splits all the same. -/
def GrowR (o : Option (List Q.Sp × Int)) (sp : List Q.Sp) (m : Nat) (r : List Q.Sp × Int × Bool) : Prop :=
  (match o with
  | some (a, x) => r = (sp ++ a, x, true)
  | none => r.2.2 = false) ∧ sp.length ≤ r.1.length ∧ r.1.length + 1 ≤ sp.length + m
section
variable (n : Nat) (s : List Cl) (t : List Mk)
theorem grow_who (hn : n ≤ 4) {k : Nat} {ks : List Int} (sp : List Q.Sp) (h : FirstP n k ks) (hk : k ≤ n) (R : List Q.Sp × Int × Bool)
    (hR : Ev (fun j => spec_l11Grow.l1 j (n : Int) s t ks sp (if k < n then (k : Int) else -1) (-1)) R) : Ev (fun j => spec_l11Grow.l1 j (n : Int) s t ks sp (-1) ((n : Int) - 1)) R := by
  have hl := know_len h.1
  have go : ∀ i : Nat, i ≤ n → Ev (fun j => spec_l11Grow.l1 j (n : Int) s t ks sp (if k < i then (if i < n then (i : Int) else -1) else (if k < n then (k : Int) else -1)) ((i : Int) - 1)) R := by
    intro i
    induction i with
    | zero =>
      intro _
      rw [if_neg (by omega)]
      exact hR
    | succ i ih =>
      intro hi
      refine Ev.step (fun j => by rw [spec_l11Grow.l1]) ?_
      have e1 : ((i + 1 : Nat) : Int) - 1 = (i : Int) := by omega
      rw [e1]
      refine ev_pos (by omega) (ev_pos (by omega) (ev_pos (by omega) ?_))
      have ew : wrap64 ((i : Int) - 1) = (i : Int) - 1 := Go.Proofs.Ytcaogllnbpmcgaa.M.w64 (by omega) (by omega)
      rw [rdN, ew]
      have hf := h.2 i (by omega)
      by_cases hki : i < k
      · refine ev_neg (by have := hf.2 hki; omega) ?_
        have := ih (by omega)
        rw [if_neg (by omega)] at this ⊢
        exact this
      · refine ev_pos (by omega) ?_
        have := ih (by omega)
        by_cases hke : k < i
        · rw [if_pos hke, if_pos (by omega)] at this
          exact this
        · obtain rfl : k = i := by omega
          rw [if_neg hke, if_pos (by omega)] at this
          exact this
  have := go n (Nat.le_refl _)
  by_cases hk : k < n
  · rw [if_pos hk, if_neg (Nat.lt_irrefl _)] at this
    exact this
  · rw [if_neg hk, if_neg hk] at this
    exact this
theorem grow_claims (hS : StoryP (n : Int) s) (hT : TermP (n : Int) t) {k : Nat} {ks : List Int} (sp : List Q.Sp) (h : FirstP n k ks) (hk : k ≤ n) (hn : n ≤ 4) (R : List Q.Sp × Int × Bool)
    (h1 : ∀ x, Q.closeC n k (wdOf ks) (mayT s) s.length 0 = some x → R = (sp, x, true))
    (h2 : Q.closeC n k (wdOf ks) (mayT s) s.length 0 = none → Ev (fun j => spec_l11Grow.l1 j (n : Int) s t ks sp (-1) ((n : Int) - 1)) R) :
    Ev (fun j => spec_l11Grow.l0 j (n : Int) s t ks sp (-1) 0) R := by
  have h6 := hS.2.2
  have hf := (first_facts hn hk h).1
  have go : ∀ d i : Nat, i + d = s.length → (Q.closeC n k (wdOf ks) (mayT s) d i = Q.closeC n k (wdOf ks) (mayT s) s.length 0) → Ev (fun j => spec_l11Grow.l0 j (n : Int) s t ks sp (-1) (i : Int)) R := by
    intro d
    induction d with
    | zero =>
      intro i hi hc
      refine Ev.step (fun j => by rw [spec_l11Grow.l0]) (ev_neg (by omega) ?_)
      have ew : wrap64 ((n : Int) - 1) = (n : Int) - 1 := Go.Proofs.Ytcaogllnbpmcgaa.M.w64 (by omega) (by omega)
      rw [ew]
      exact h2 hc.symm
    | succ d ih =>
      intro i hi hc
      have ew : wrap64 (-2 - (i : Int)) = -2 - (i : Int) := Go.Proofs.Ytcaogllnbpmcgaa.M.w64 (by omega) (by omega)
      refine Ev.step (fun j => by rw [spec_l11Grow.l0]) (ev_pos (by omega) ?_)
      rw [ew]
      refine ev_bind (spec_closesE n s t hS hT ks h.1 (-2 - (i : Int)) (by omega) (by omega)) ?_
      have e : clQ_ n s t (knOf ks) (wdOf ks) (-2 - (i : Int)) = Q.goalB n k (wdOf ks) (fun w => !mayT s i w) := by
        unfold clQ_ Q.clM Q.goalB
        rw [if_neg (by omega), if_pos (by omega), hf, show (-2 - (-2 - (i : Int))).toNat = i by omega]
      rw [e]
      have hcc : Q.closeC n k (wdOf ks) (mayT s) (d + 1) i = if Q.goalB n k (wdOf ks) (fun w => !mayT s i w) = true then some (-2 - (i : Int)) else Q.closeC n k (wdOf ks) (mayT s) d (i + 1) := rfl
      by_cases hg : Q.goalB n k (wdOf ks) (fun w => !mayT s i w) = true
      · rw [hcc, if_pos hg] at hc
        exact ev_pos hg (ev_ret (h1 _ hc.symm).symm)
      · rw [hcc, if_neg hg] at hc
        rw [w64s (by omega)]
        exact ev_neg hg (ih (i + 1) (by omega) hc)
  exact go s.length 0 (by omega) rfl
end
section
variable {n : Nat} {s : List Cl} {t : List Mk}
theorem set_mid (sp a : List Q.Sp) (x y : Q.Sp) : (sp ++ x :: a).set sp.length y = sp ++ y :: a := by
  rw [List.set_append_right _ _ (Nat.le_refl _), Nat.sub_self]
  rfl
theorem spec_growE (hS : StoryP (n : Int) s) (hT : TermP (n : Int) t) : ∀ (d k : Nat) (ks : List Int) (sp : List Q.Sp), k + d = n → FirstP n k ks → sp.length + 2 ^ d ≤ 100 →
    ∃ r, Ev (fun j => spec_l11Grow.f j (n : Int) s t ks sp) r ∧ GrowR (Q.growQ n s.length (holdT t) (mayT s) d k (wdOf ks) sp.length) sp (2 ^ d) r := by
  have hn := hS.2.1
  have hn4 : n ≤ 4 := by omega
  intro d
  induction d with
  | zero =>
    intro k ks sp hk hF hsp
    have hg0 := spec_closesE n s t hS hT ks hF.1 (-1) (by omega) (by omega)
    have e : clQ_ n s t (knOf ks) (wdOf ks) (-1) = Q.goalB n k (wdOf ks) (holdT t) := by
      unfold clQ_ Q.clM Q.goalB
      rw [if_pos rfl, (first_facts hn4 (by omega) hF).1]
    rw [e] at hg0
    cases hc : Q.closeP n k (wdOf ks) s.length (holdT t) (mayT s) with
    | some x =>
      rw [Q.growQ_close hc]
      refine ⟨(sp, x, true), ?_, by show (sp, x, true) = (sp ++ [], x, true); rw [List.append_nil], Nat.le_refl _, by simp⟩
      refine Ev.step (fun j => by rw [spec_l11Grow.f]) (ev_bind hg0 ?_)
      unfold Q.closeP at hc
      by_cases hg : Q.goalB n k (wdOf ks) (holdT t) = true
      · rw [if_pos hg] at hc
        cases hc
        exact ev_pos hg (ev_ret rfl)
      · rw [if_neg hg] at hc
        refine ev_neg hg (grow_claims n s t hS hT sp hF (by omega) hn4 _ (fun y hy => ?_) (fun h => ?_))
        · rw [hc] at hy; cases hy; rfl
        · rw [hc] at h; cases h
    | none =>
      rw [Q.growQ_zero hc]
      refine ⟨(sp, -1, false), ?_, rfl, Nat.le_refl _, by simp⟩
      refine Ev.step (fun j => by rw [spec_l11Grow.f]) (ev_bind hg0 ?_)
      unfold Q.closeP at hc
      by_cases hg : Q.goalB n k (wdOf ks) (holdT t) = true
      · rw [if_pos hg] at hc; cases hc
      · rw [if_neg hg] at hc
        refine ev_neg hg (grow_claims n s t hS hT sp hF (by omega) hn4 _ (fun y hy => ?_) (fun h => ?_))
        · rw [hc] at hy; cases hy
        · refine grow_who n s t hn4 sp hF (by omega) _ ?_
          rw [if_neg (by omega)]
          exact Ev.step (fun j => by rw [spec_l11Grow.l1]) (ev_neg (by decide) (ev_pos (by decide) (ev_ret rfl)))
  | succ d ih =>
    intro k ks sp hk hF hsp
    have hg0 := spec_closesE n s t hS hT ks hF.1 (-1) (by omega) (by omega)
    have e : clQ_ n s t (knOf ks) (wdOf ks) (-1) = Q.goalB n k (wdOf ks) (holdT t) := by
      unfold clQ_ Q.clM Q.goalB
      rw [if_pos rfl, (first_facts hn4 (by omega) hF).1]
    rw [e] at hg0
    have hpos := Nat.two_pow_pos d
    have hp2 : 2 ^ (d + 1) = 2 * 2 ^ d := by rw [Nat.pow_succ]; omega
    cases hc : Q.closeP n k (wdOf ks) s.length (holdT t) (mayT s) with
    | some x =>
      rw [Q.growQ_close hc]
      refine ⟨(sp, x, true), ?_, by show (sp, x, true) = (sp ++ [], x, true); rw [List.append_nil], Nat.le_refl _, by show sp.length + 1 ≤ _; omega⟩
      refine Ev.step (fun j => by rw [spec_l11Grow.f]) (ev_bind hg0 ?_)
      unfold Q.closeP at hc
      by_cases hg : Q.goalB n k (wdOf ks) (holdT t) = true
      · rw [if_pos hg] at hc
        cases hc
        exact ev_pos hg (ev_ret rfl)
      · rw [if_neg hg] at hc
        refine ev_neg hg (grow_claims n s t hS hT sp hF (by omega) hn4 _ (fun y hy => ?_) (fun h => ?_))
        · rw [hc] at hy; cases hy; rfl
        · rw [hc] at h; cases h
    | none =>
      have hkn : k < n := by omega
      have hl := know_len hF.1
      obtain ⟨w0, w1⟩ := first_wd hn4 hkn hF
      have hs1 : (sp ++ [(⟨(k : Int), -1, -1⟩ : Q.Sp)]).length = sp.length + 1 := by simp
      obtain ⟨r1, hr1, hG1, hl1, hm1⟩ := ih (k + 1) (ks.set k 0) (sp ++ [⟨(k : Int), -1, -1⟩]) (by omega) (first_next hkn hF 0 (.inl rfl)) (by omega)
      rw [hs1, w0] at hG1
      rw [hs1] at hl1 hm1
      obtain ⟨r2, hr2, hG2, hl2, hm2⟩ := ih (k + 1) (ks.set k 1) r1.1 (by omega) (first_next hkn hF 1 (.inr rfl)) (by omega)
      rw [w1] at hG2
      have step : Ev (fun j => spec_l11Grow.f j (n : Int) s t ks sp) (r2.1.set sp.length ⟨(k : Int), r1.2.1, r2.2.1⟩, (sp.length : Int), r1.2.2 && r2.2.2) := by
        refine Ev.step (fun j => by rw [spec_l11Grow.f]) (ev_bind hg0 ?_)
        unfold Q.closeP at hc
        by_cases hg : Q.goalB n k (wdOf ks) (holdT t) = true
        · rw [if_pos hg] at hc; cases hc
        rw [if_neg hg] at hc
        refine ev_neg hg (grow_claims n s t hS hT sp hF (by omega) hn4 _ (fun y hy => ?_) (fun h => ?_))
        · rw [hc] at hy; cases hy
        refine grow_who n s t hn4 sp hF (by omega) _ ?_
        rw [if_pos hkn]
        refine Ev.step (fun j => by rw [spec_l11Grow.l1]) (ev_neg (by decide) (ev_neg (by omega) ?_))
        simp only [Option.bind_some, List.nil_append, List.length_nil, Nat.zero_add, Int.toNat_natCast]
        refine ev_pos (by omega) (ev_pos (by omega) (ev_pos (by omega) (ev_pos (by omega) (ev_pos (by omega) (ev_pos (by omega) (ev_pos (by omega) ?_))))))
        refine ev_bind hr1 (ev_bind hr2 (ev_pos (by omega) (ev_pos (by omega) ?_)))
        cases hb : r1.2.2 with
        | true => exact ev_pos rfl (ev_ret (by rw [Bool.true_and]))
        | false => exact ev_neg (by decide) (ev_ret (by rw [Bool.false_and]))
      refine ⟨_, step, ?_, ?_, ?_⟩
      · cases e1 : Q.growQ n s.length (holdT t) (mayT s) d (k + 1) (wdOf ks) (sp.length + 1) with
        | none =>
          rw [Q.growQ_no hc e1]
          rw [e1] at hG1
          have hG1 : r1.2.2 = false := hG1
          show (r1.2.2 && r2.2.2) = false
          rw [hG1]
          rfl
        | some q =>
          obtain ⟨a, no⟩ := q
          rw [e1] at hG1
          obtain rfl : r1 = (sp ++ [⟨(k : Int), -1, -1⟩] ++ a, no, true) := hG1
          have hla : (sp ++ [(⟨(k : Int), -1, -1⟩ : Q.Sp)] ++ a).length = sp.length + 1 + a.length := by simp; omega
          dsimp only at hG2
          rw [hla] at hG2
          cases e2 : Q.growQ n s.length (holdT t) (mayT s) d (k + 1) (wdOf ks + 2 ^ k) (sp.length + 1 + a.length) with
          | none =>
            rw [Q.growQ_yes hc e1 e2]
            rw [e2] at hG2
            have hG2 : r2.2.2 = false := hG2
            show (true && r2.2.2) = false
            rw [hG2]
            rfl
          | some q2 =>
            obtain ⟨b, yes⟩ := q2
            rw [Q.growQ_both hc e1 e2]
            rw [e2] at hG2
            obtain rfl : r2 = (sp ++ [⟨(k : Int), -1, -1⟩] ++ a ++ b, yes, true) := hG2
            show (_, _, _) = _
            dsimp only
            rw [show sp ++ [(⟨(k : Int), -1, -1⟩ : Q.Sp)] ++ a ++ b = sp ++ (⟨(k : Int), -1, -1⟩ :: (a ++ b)) by simp, set_mid]
            rfl
      · show sp.length ≤ (r2.1.set _ _).length
        rw [List.length_set]
        omega
      · show (r2.1.set _ _).length + 1 ≤ _
        rw [List.length_set]
        omega
end
end Go.Proofs.Ytcaogllnbpmcgaa.M

/- FindProof: what it tells is a proof, and it tells one exactly if the term follows. -/
set_option linter.unusedVariables false
set_option linter.unusedSimpArgs false
namespace Go.Proofs.Ytcaogllnbpmcgaa.Q
theorem vis_fuel {S : List Sp} {n : Nat} {cl : Nat → Nat → Int → Bool} : ∀ (f : Nat) (tgt : Int) (kn wd : Nat) (l : List Nat), visP S n cl f tgt kn wd = some l →
    ∀ g : Nat, (tgt < 0 → 1 ≤ g) → (0 ≤ tgt → tgt < S.length ∧ (S.length : Int) < g + tgt) → visP S n cl g tgt kn wd = some l := by
  intro f
  induction f with
  | zero => intro tgt kn wd l h; cases h
  | succ f ih =>
    intro tgt kn wd l h g h1 h2
    cases g with
    | zero =>
      by_cases h0 : tgt < 0
      · have := h1 h0; omega
      · have := h2 (by omega); omega
    | succ g =>
      by_cases h0 : tgt < 0
      · rw [vis_neg h0] at h ⊢
        exact h
      · obtain ⟨hn, hs, a, b, ha, hb, rfl⟩ := vis_some h0 h
        have h3 := h2 (by omega)
        have e1 := hs.1
        have e2 := hs.2
        unfold okN at e1 e2
        exact vis_node h0 hn hs (ih _ _ _ _ ha g (by omega) (by omega)) (ih _ _ _ _ hb g (by omega) (by omega))
theorem okI_ok {S : List Sp} {n : Nat} {cl : Nat → Nat → Int → Bool} {fi : Int} (h : okI S n cl fi) : okN S fi (-1) := by
  obtain ⟨c1, _⟩ := chk_iff (S := S) (n := n) (cl := cl) (S.length + 2) fi (-1) 0 0 (List.replicate S.length false) (by simp) (by omega)
  exact (c1.1 h.1).1
theorem grow_small (n m : Nat) (hold : Nat → Bool) (may : Nat → Nat → Bool) : ∀ (d k wd L : Nat) (a : List Sp) (t : Int), growQ n m hold may d k wd L = some (a, t) →
    (-2 - (m : Int) ≤ t ∧ t ≤ (L : Int)) ∧ ∀ y ∈ a, -2 - (m : Int) ≤ y.f1 ∧ -2 - (m : Int) ≤ y.f2 := by
  have hcl : ∀ {k wd : Nat} {t : Int} (L : Nat), closeP n k wd m hold may = some t → -2 - (m : Int) ≤ t ∧ t ≤ (L : Int) := by
    intro k wd t L h
    unfold closeP at h
    by_cases hg : goalB n k wd hold = true
    · rw [if_pos hg] at h
      cases h
      omega
    · rw [if_neg hg] at h
      obtain ⟨j, _, h2, rfl, _⟩ := closeC_some n k wd may m 0 t h
      omega
  intro d
  induction d with
  | zero =>
    intro k wd L a t h
    cases hc : closeP n k wd m hold may with
    | some x =>
      rw [growQ_close hc] at h
      cases h
      exact ⟨hcl L hc, fun y hy => by cases hy⟩
    | none => rw [growQ_zero hc] at h; cases h
  | succ d ih =>
    intro k wd L a t h
    cases hc : closeP n k wd m hold may with
    | some x =>
      rw [growQ_close hc] at h
      cases h
      exact ⟨hcl L hc, fun y hy => by cases hy⟩
    | none =>
      cases e1 : growQ n m hold may d (k + 1) wd (L + 1) with
      | none => rw [growQ_no hc e1] at h; cases h
      | some x =>
        obtain ⟨a1, no⟩ := x
        cases e2 : growQ n m hold may d (k + 1) (wd + 2 ^ k) (L + 1 + a1.length) with
        | none => rw [growQ_yes hc e1 e2] at h; cases h
        | some y =>
          obtain ⟨b, yes⟩ := y
          rw [growQ_both hc e1 e2] at h
          obtain ⟨⟨p1, p2⟩, p3⟩ := ih _ _ _ _ _ e1
          obtain ⟨⟨q1, q2⟩, q3⟩ := ih _ _ _ _ _ e2
          cases h
          refine ⟨by omega, fun z hz => ?_⟩
          rcases List.mem_cons.1 hz with rfl | hz
          · exact ⟨p1, q1⟩
          · rcases List.mem_append.1 hz with hz | hz
            · exact p3 z hz
            · exact q3 z hz
end Go.Proofs.Ytcaogllnbpmcgaa.Q
namespace Go.Proofs.Ytcaogllnbpmcgaa.M
open Go Go.RowKit Go.Proofs.YtcaogllnbpmcgaaW.PrintWords Go.Proofs.Ytcaogllnbpmcgaa.P
section
variable {n : Nat} {s : List Cl} {t : List Mk}
theorem clQ_is : clQ n s t = Q.clM n s.length (holdT t) (mayT s) := rfl
/-- What was grown is a proof. -/
theorem grow_ok (hS : StoryP (n : Int) s) (hT : TermP (n : Int) t) {a : List Q.Sp} {x : Int} (h : grQ n s t n 0 0 0 = some (a, x)) : PrfOk (n : Int) s t x a := by
  have hn := hS.2.1
  unfold grQ at h
  have hlen := Q.grow_len _ _ _ _ _ _ _ _ _ _ h
  have hp : 2 ^ n ≤ 2 ^ 4 := Nat.pow_le_pow_right (by decide) (by omega)
  obtain ⟨v, o⟩ := Q.grow_vis (S := a) n 0 0 0 (n + 1) a x (by omega) (by decide) (by omega) h (by omega) (fun j _ => by rw [Nat.zero_add])
  have v : Q.visP a n (clQ n s t) (n + 1) x 0 0 = some (List.range' 0 a.length) := v
  have hx : x < 0 → a.length = 0 := fun h0 => by
    rw [Q.vis_neg h0] at v
    split at v
    · have := congrArg List.length (Option.some.inj v)
      rw [List.length_range'] at this
      exact this.symm
    · cases v
  have hok : Q.okN a x (-1) := by unfold Q.okN; omega
  refine ⟨hS, hT, by omega, fun h0 => ?_, ?_⟩
  · rcases o with o | o
    · have := hx o; omega
    · exact o.1
  · rw [Int.toNat_natCast, Q.okI_iff x hok]
    refine ⟨_, Q.vis_fuel _ _ _ _ _ v (a.length + 2) (by omega) (fun h0 => by omega), List.nodup_range', fun i hi => ?_⟩
    rw [List.mem_range'_1]
    omega
theorem sure_iff : Q.sureP n s.length 0 0 (holdT t) (mayT s) ↔ ∀ w, w < pw n → (∀ c ∈ s, mayB c.f0.toNat c.f1 w = true) → holdB t w = true := by
  unfold Q.sureP
  constructor
  · intro h w hw hm
    rcases h w hw (by rw [Nat.pow_zero, Nat.mod_one]) with h | ⟨i, hi, h⟩
    · exact h
    · have := hm _ (getD_mem s zC i hi)
      have h : mayB (s.getD i zC).f0.toNat (s.getD i zC).f1 w = false := h
      rw [h] at this
      cases this
  · intro h w hw _
    by_cases hm : ∀ c ∈ s, mayB c.f0.toNat c.f1 w = true
    · exact .inl (h w hw hm)
    · refine .inr (Classical.byContradiction fun hno => hm fun c hc => ?_)
      obtain ⟨i, hi, rfl⟩ := List.getElem_of_mem hc
      cases hb : mayB (s[i]).f0.toNat (s[i]).f1 w with
      | true => rfl
      | false => exact absurd ⟨i, hi, show mayB (s.getD i zC).f0.toNat (s.getD i zC).f1 w = false by rw [getD_lt s zC i hi]; exact hb⟩ hno
/-- One is found just if the term holds in all worlds of the story. -/
theorem found_iff (hn : n ≤ 4) : (grQ n s t n 0 0 0).isSome = true ↔ ∀ w, w < pw n → (∀ c ∈ s, mayB c.f0.toNat c.f1 w = true) → holdB t w = true :=
  (Q.grow_iff n s.length (holdT t) (mayT s) n 0 0 0 (by omega) (by decide)).trans sure_iff
/-- What is proved follows. -/
theorem prf_follows {fi : Int} {S : List Q.Sp} (h : PrfOk (n : Int) s t fi S) : ∀ w, w < pw n → (∀ c ∈ s, mayB c.f0.toNat c.f1 w = true) → holdB t w = true := by
  have h5 := h.2.2.2.2
  rw [Int.toNat_natCast] at h5
  obtain ⟨l, hv, _⟩ := (Q.okI_iff fi (Q.okI_ok h5)).1 h5
  intro w hw hm
  rcases Q.vis_sound (hold := holdT t) (may := mayT s) _ _ _ _ _ hv w hw (Nat.and_zero w) with h | ⟨i, hi, h⟩
  · exact h
  · have := hm _ (getD_mem s zC i hi)
    have h : mayB (s.getD i zC).f0.toNat (s.getD i zC).f1 w = false := h
    rw [h] at this
    cases this
theorem prf_more {fi : Int} {S : List Q.Sp} {c : Cl} (h : PrfOk (n : Int) s t fi S) (hS : StoryP (n : Int) (s ++ [c])) : PrfOk (n : Int) (s ++ [c]) t fi S := by
  obtain ⟨h1, h2, h3, h4, h5⟩ := h
  refine ⟨hS, h2, h3, h4, ?_⟩
  rw [Int.toNat_natCast] at h5 ⊢
  have hok := Q.okI_ok h5
  obtain ⟨l, hv, hl⟩ := (Q.okI_iff fi hok).1 h5
  refine (Q.okI_iff fi hok).2 ⟨l, Q.vis_more (fun kn wd x hx => ?_) _ _ _ _ _ hv, hl⟩
  have hx : Q.clM n s.length (holdT t) (mayT s) kn wd x = true := hx
  show Q.clM n (s ++ [c]).length (holdT t) (mayT (s ++ [c])) kn wd x = true
  unfold Q.clM at hx ⊢
  by_cases hg : x = -1
  · rw [if_pos hg] at hx ⊢
    exact hx
  · rw [if_neg hg] at hx ⊢
    by_cases hi : 0 ≤ -2 - x ∧ -2 - x < (s.length : Int)
    · rw [if_pos hi] at hx
      rw [if_pos (by rw [List.length_append, List.length_singleton]; omega)]
      have e : mayT (s ++ [c]) (-2 - x).toNat = mayT s (-2 - x).toNat := by
        unfold mayT
        rw [List.getD_eq_getElem?_getD, List.getElem?_append_left (by omega), ← List.getD_eq_getElem?_getD]
      rw [e]
      exact hx
    · rw [if_neg hi] at hx; cases hx
end
theorem findF_no {n : Int} {s : List Cl} {t : List Mk} (h : ¬ (StoryP n s ∧ TermP n t)) : findF n s t = (0, [], false) := by
  unfold findF
  rw [if_neg h]
theorem findF_yes {n : Nat} {s : List Cl} {t : List Mk} (hS : StoryP (n : Int) s) (hT : TermP (n : Int) t) : findF (n : Int) s t = findO (grQ n s t n 0 0 0) := by
  unfold findF
  rw [if_pos ⟨hS, hT⟩, Int.toNat_natCast]
/-- The numbers of what is found are small. -/
theorem findF_64 (n : Int) (s : List Cl) (t : List Mk) : (-8 ≤ (findF n s t).1 ∧ (findF n s t).1 ≤ 0) ∧ (findF n s t).2.1.length ≤ 15 ∧ ∀ y ∈ (findF n s t).2.1, -8 ≤ y.f1 ∧ -8 ≤ y.f2 := by
  by_cases h : StoryP n s ∧ TermP n t
  · obtain ⟨hS, hT⟩ := h
    have hn := hS.2.1
    have h6 := hS.2.2
    obtain ⟨m, rfl⟩ : ∃ m : Nat, n = (m : Int) := ⟨n.toNat, by omega⟩
    rw [findF_yes hS hT]
    cases hg : grQ m s t m 0 0 0 with
    | none => exact ⟨by show -8 ≤ (0 : Int) ∧ (0 : Int) ≤ 0; omega, Nat.zero_le _, fun y hy => by cases hy⟩
    | some q =>
      obtain ⟨a, x⟩ := q
      have hg' := hg
      unfold grQ at hg
      obtain ⟨⟨a1, a2⟩, a3⟩ := Q.grow_small _ _ _ _ _ _ _ _ _ _ hg
      have hl := (grow_ok hS hT hg').2.2.1
      exact ⟨⟨by show -8 ≤ x; omega, by show x ≤ 0; omega⟩, hl, fun y hy => by have := a3 y hy; omega⟩
  · rw [findF_no h]
    exact ⟨by show -8 ≤ (0 : Int) ∧ (0 : Int) ≤ 0; omega, Nat.zero_le _, fun y hy => by cases hy⟩
end Go.Proofs.Ytcaogllnbpmcgaa.M

/- The reference's StoryOk tells whether it is a story. -/
set_option linter.unusedVariables false
set_option linter.unusedSimpArgs false
namespace Go.Proofs.Ytcaogllnbpmcgaa.M
open Go Go.RowKit Go.Proofs.YtcaogllnbpmcgaaW.PrintWords Go.Proofs.Ytcaogllnbpmcgaa.P
theorem spec_storyOk_l (n : Int) (hn : n ≤ 9223372036854775807) (s : List Cl) (hs : S64 s) : ∀ d i : Nat, i + d = s.length →
    Tells (fun k => spec_StoryOk.l0 k n s (i : Int)) ((∀ j, i ≤ j → j < s.length → ClaimP n (s.getD j zC).f0 (s.getD j zC).f1) ∧ (1 ≤ n ∧ n ≤ 4) ∧ s.length ≤ 6) := by
  intro d
  have hsl := hs.1
  induction d with
  | zero =>
    intro i hi
    refine Tells.step (fun k => by rw [spec_StoryOk.l0]) ?_
    refine Tells.neg (by omega) ?_
    refine Tells.bindc (l1InT n 1 4) ?_
    refine Tells.ite (fun h => Tells.dec ?_) (fun h => Tells.no fun h' => h (decide_eq_true h'.2.1))
    have h := of_decide_eq_true h
    exact ⟨fun h' => ⟨fun j h1 h2 => by omega, h, by omega⟩, fun h' => by omega⟩
  | succ d ih =>
    intro i hi
    refine Tells.step (fun k => by rw [spec_StoryOk.l0]) ?_
    rw [rdC, w64s (i := i) (by omega)]
    refine Tells.pos (by omega) ?_
    refine Tells.pos (by omega) ?_
    obtain ⟨b, hb, hi'⟩ := spec_claimOk n hn (s.getD i zC).f0 (s.getD i zC).f1 (hs.2 i).1 (hs.2 i).2
    refine Tells.bind hb ?_
    refine Tells.ite (fun h => ?_) (fun h => Tells.no fun h' => h (hi'.2 (h'.1 i (Nat.le_refl _) (by omega))))
    refine (ih (i + 1) (by omega)).iff ?_
    constructor
    · intro h'
      refine ⟨fun j h1 h2 => ?_, h'.2⟩
      rcases Nat.eq_or_lt_of_le h1 with e | e
      · exact e ▸ hi'.1 h
      · exact h'.1 j e h2
    · exact fun h' => ⟨fun j h1 h2 => h'.1 j (by omega) h2, h'.2⟩
theorem spec_storyOk (n : Int) (hn : n ≤ 9223372036854775807) (s : List Cl) (hs : S64 s) : Tells (fun k => spec_StoryOk.f k n s) (StoryP n s) := by
  unfold spec_StoryOk.f
  refine (spec_storyOk_l n hn s hs s.length 0 (by omega)).iff ?_
  exact ⟨fun h => ⟨fun j hj => h.1 j (by omega) hj, h.2⟩, fun h => ⟨fun j _ hj => h.1 j hj, h.2⟩⟩
end Go.Proofs.Ytcaogllnbpmcgaa.M

/- The reference's FindProof tells what the program's tells. -/
set_option linter.unusedVariables false
set_option linter.unusedSimpArgs false
namespace Go.Proofs.Ytcaogllnbpmcgaa.M
open Go Go.RowKit Go.Proofs.YtcaogllnbpmcgaaW.PrintWords Go.Proofs.Ytcaogllnbpmcgaa.P
theorem spec_findE (n : Int) (hnb : n ≤ 9223372036854775807) (s : List Cl) (h64 : S64 s) (t : List Mk) (ht : M64 t) (htl : t.length < 4611686018427387904) : Ev (fun k => spec_FindProof.f k n s t) (findF n s t) := by
  unfold spec_FindProof.f
  have stop : ¬ (StoryP n s ∧ TermP n t) → Ev (fun k => spec_FindProof.j0 k n s t true) (findF n s t) := fun h => by
    rw [findF_no h]
    exact Ev.step (fun k => by rw [spec_FindProof.j0]) (ev_pos rfl (ev_ret rfl))
  by_cases hS : StoryP n s
  case neg => exact ev_bind ((spec_storyOk n hnb s h64).ev (b := false) ⟨fun h => (by cases h), fun h => absurd h hS⟩) (ev_neg (by decide) (stop fun h => hS h.1))
  refine ev_bind ((spec_storyOk n hnb s h64).ev (b := true) ⟨fun _ => hS, fun _ => rfl⟩) (ev_pos rfl ?_)
  by_cases hT : TermP n t
  case neg => exact ev_bind ((spec_termOk n hnb t ht htl).ev (b := false) ⟨fun h => (by cases h), fun h => absurd h hT⟩) (stop fun h => hT h.2)
  refine ev_bind ((spec_termOk n hnb t ht htl).ev (b := true) ⟨fun _ => hT, fun _ => rfl⟩) ?_
  refine Ev.step (fun k => by rw [spec_FindProof.j0]) (ev_neg (by decide) ?_)
  have hn := hS.2.1
  obtain ⟨m, rfl⟩ : ∃ m : Nat, n = (m : Int) := ⟨n.toNat, by omega⟩
  refine ev_bind (spec_nothingE m (by omega)) ?_
  obtain ⟨r, hr, hG, _, _⟩ := spec_growE hS hT m 0 (List.replicate m (-1)) [] (by omega) (first_nothing m) (by have := Nat.pow_le_pow_right (n := 2) (by decide) (show m ≤ 4 by omega); show 0 + 2 ^ m ≤ 100; omega)
  rw [(nothing_of m (by omega)).2, List.length_nil] at hG
  refine ev_bind hr ?_
  rw [findF_yes hS hT]
  unfold grQ
  cases hq : Q.growQ m s.length (holdT t) (mayT s) m 0 0 0 with
  | none =>
    rw [hq] at hG
    have hG : r.2.2 = false := hG
    exact ev_neg (by rw [hG]; decide) (ev_ret rfl)
  | some q =>
    obtain ⟨a, x⟩ := q
    rw [hq] at hG
    obtain rfl : r = ([] ++ a, x, true) := hG
    exact ev_pos rfl (ev_ret rfl)
end Go.Proofs.Ytcaogllnbpmcgaa.M

/- The exact laws' helpers over marks. -/
set_option linter.unusedVariables false
set_option linter.unusedSimpArgs false
namespace Go.Proofs.Ytcaogllnbpmcgaa.M
open Go Go.RowKit Go.Proofs.YtcaogllnbpmcgaaW.PrintWords Go.Proofs.Ytcaogllnbpmcgaa.P
abbrev LMk := S100
abbrev zLM : LMk := z100
theorem rdLM (s : List LMk) (i : Nat) : rd_T100 s (i : Int) = s.getD i zLM := by simp [rd_T100]
def toM (l : LMk) : Mk := ⟨l.f0, l.f1⟩
def toMs (l : List LMk) : List Mk := l.map toM
theorem toMs_len (l : List LMk) : (toMs l).length = l.length := by simp [toMs]
theorem sz_marks (l : List LMk) (a : Int) (hl : l.length ≤ maxLen) (h0 : 0 ≤ a) (h1 : a ≤ 1048576) : ∃ r, laws_szMarkS.f l a = some r ∧ r ≤ a ∧ (0 ≤ r → (l.length : Int) ≤ a) := by
  unfold maxLen at hl
  unfold laws_szMarkS.f
  rw [w64 (by omega) (by omega)]
  by_cases h : a - (l.length : Int) < 0
  · exact ⟨-1, if_pos h, by omega, fun h => absurd h (by decide)⟩
  · exact ⟨_, if_neg h, by omega, fun _ => by omega⟩
theorem to_marks_l (l : List LMk) (hn : l.length ≤ 1048576) : ∀ d i (x : List Mk), i + d = l.length → x.length = l.length → (∀ j, j < i → x.getD j zM = toM (l.getD j zLM)) → Ev (fun k => laws_toMarkS.l0 k l x (i : Int)) (toMs l) := by
  intro d
  induction d with
  | zero =>
    intro i x hi hx h
    refine Ev.step (fun k => by rw [laws_toMarkS.l0]) ?_
    refine ev_neg (by omega) (ev_ret (ext_getD zM x (toMs l) (by rw [toMs_len]; exact hx) fun j hj => ?_))
    rw [toMs_len] at hj
    rw [h j (by omega)]
    unfold toMs
    rw [getD_lt _ _ _ hj, getD_lt _ _ _ (by simpa using hj), List.getElem_map]
  | succ d ih =>
    intro i x hi hx h
    refine Ev.step (fun k => by rw [laws_toMarkS.l0]) ?_
    rw [w64s (by omega), rdLM, Int.toNat_natCast]
    refine ev_pos (by omega) ?_
    refine ev_pos (by omega) ?_
    refine ev_bindc (a := ((l.getD i zLM).f0, (l.getD i zLM).f1)) rfl ?_
    refine ev_pos (by omega) ?_
    refine ih (i + 1) _ (by omega) (by simpa using hx) fun j hj => ?_
    rw [set_getD zM x i _ (by omega)]
    split
    · rename_i e
      rw [e]
      rfl
    · exact h j (by omega)
theorem to_marks (l : List LMk) (hn : l.length ≤ 1048576) : Ev (fun k => laws_toMarkS.f k l) (toMs l) := by
  unfold laws_toMarkS.f
  rw [Int.toNat_natCast]
  refine ev_pos (by omega) ?_
  refine ev_pos (by omega) ?_
  exact to_marks_l l hn l.length 0 _ (by omega) (by simp) fun j hj => by omega
theorem wf_le {x : Int} (h : (Lit.int .i64 x).wf = true) : -9223372036854775808 ≤ x ∧ x ≤ 9223372036854775807 := by
  simp [Lit.wf, IntKind.min, IntKind.max, IntKind.bits, IntKind.signed] at h
  omega
theorem toMs64 (l : List LMk) (h : ∀ y1 ∈ l, ((Lit.int .i64 y1.f0).wf = true) ∧ ((Lit.int .i64 y1.f1).wf = true)) : M64 (toMs l) := by
  refine getD_all (toMs l) zM (fun m => m.f1 ≤ 9223372036854775807) (by decide) fun m hm => ?_
  obtain ⟨y, hy, rfl⟩ := List.mem_map.1 hm
  exact (wf_le (h y hy).2).2
end Go.Proofs.Ytcaogllnbpmcgaa.M

/- The exact laws compare proofs. -/
set_option linter.unusedVariables false
set_option linter.unusedSimpArgs false
namespace Go.Proofs.Ytcaogllnbpmcgaa.M
open Go Go.RowKit Go.Proofs.YtcaogllnbpmcgaaW.PrintWords Go.Proofs.Ytcaogllnbpmcgaa.P
theorem eq_splits_l (l : List Q.Sp) (hn : l.length < 4611686018427387904) : ∀ d i, i + d = l.length → Ev (fun k => laws_eqSplitS.l0 k l l (i : Int)) true := by
  intro d
  induction d with
  | zero =>
    intro i hi
    refine Ev.step (fun k => by rw [laws_eqSplitS.l0]) ?_
    exact ev_neg (by omega) (ev_ret rfl)
  | succ d ih =>
    intro i hi
    refine Ev.step (fun k => by rw [laws_eqSplitS.l0]) ?_
    rw [w64s (by omega)]
    refine ev_pos (by omega) ?_
    refine ev_pos (by omega) ?_
    refine ev_pos (by omega) ?_
    refine ev_bindc (a := true) (by unfold laws_eqSplit.f; simp) ?_
    exact ev_pos rfl (ih (i + 1) (by omega))
theorem eq_proof (a : Int) (l : List Q.Sp) (hn : l.length < 4611686018427387904) : Ev (fun k => laws_eqProof.f k a l a l) true := by
  unfold laws_eqProof.f laws_eqSplitS.f
  exact ev_pos rfl (ev_bind (ev_pos rfl (eq_splits_l l hn l.length 0 (by omega))) (ev_pos rfl (ev_ret rfl)))
end Go.Proofs.Ytcaogllnbpmcgaa.M

/- The exact laws' comparing of claims. -/
set_option linter.unusedVariables false
set_option linter.unusedSimpArgs false
namespace Go.Proofs.Ytcaogllnbpmcgaa.M
open Go Go.RowKit Go.Proofs.YtcaogllnbpmcgaaW.PrintWords Go.Proofs.Ytcaogllnbpmcgaa.P
theorem eq_marks_l (l : List Mk) (hn : l.length < 4611686018427387904) : ∀ d i, i + d = l.length → Ev (fun k => laws_eqMarkS.l0 k l l (i : Int)) true := by
  intro d
  induction d with
  | zero =>
    intro i hi
    refine Ev.step (fun k => by rw [laws_eqMarkS.l0]) ?_
    exact ev_neg (by omega) (ev_ret rfl)
  | succ d ih =>
    intro i hi
    refine Ev.step (fun k => by rw [laws_eqMarkS.l0]) ?_
    rw [w64s (by omega)]
    refine ev_pos (by omega) ?_
    refine ev_pos (by omega) ?_
    refine ev_pos (by omega) ?_
    refine ev_bindc (a := true) (by unfold laws_eqMark.f; simp) ?_
    exact ev_pos rfl (ih (i + 1) (by omega))
theorem eq_marks (l : List Mk) (hn : l.length < 4611686018427387904) : Ev (fun k => laws_eqMarkS.f k l l) true := by
  unfold laws_eqMarkS.f
  exact ev_pos rfl (eq_marks_l l hn l.length 0 (by omega))
theorem eq_claims_l (l : List Cl) (hn : l.length < 4611686018427387904) (hm : ∀ j, (l.getD j zC).f1.length < 4611686018427387904) : ∀ d i, i + d = l.length → Ev (fun k => laws_eqClaimS.l0 k l l (i : Int)) true := by
  intro d
  induction d with
  | zero =>
    intro i hi
    refine Ev.step (fun k => by rw [laws_eqClaimS.l0]) ?_
    exact ev_neg (by omega) (ev_ret rfl)
  | succ d ih =>
    intro i hi
    refine Ev.step (fun k => by rw [laws_eqClaimS.l0]) ?_
    rw [w64s (by omega), rdC]
    refine ev_pos (by omega) ?_
    refine ev_pos (by omega) ?_
    refine ev_pos (by omega) ?_
    refine ev_bind (a := true) ?_ ?_
    · unfold laws_eqClaim.f
      refine ev_pos rfl ?_
      exact ev_bind (eq_marks _ (hm i)) (ev_pos rfl (ev_ret rfl))
    · exact ev_pos rfl (ih (i + 1) (by omega))
theorem eq_claims (l : List Cl) (hn : l.length < 4611686018427387904) (hm : ∀ j, (l.getD j zC).f1.length < 4611686018427387904) : Ev (fun k => laws_eqClaimS.f k l l) true := by
  unfold laws_eqClaimS.f
  exact ev_pos rfl (eq_claims_l l hn hm l.length 0 (by omega))
end Go.Proofs.Ytcaogllnbpmcgaa.M

/- The exact laws' helpers over claims: they measure, turn and compare. -/
set_option linter.unusedVariables false
set_option linter.unusedSimpArgs false
namespace Go.Proofs.Ytcaogllnbpmcgaa.M
open Go Go.RowKit Go.Proofs.YtcaogllnbpmcgaaW.PrintWords Go.Proofs.Ytcaogllnbpmcgaa.P
abbrev LCl := S75
abbrev zLC : LCl := z75
theorem rdLC (s : List LCl) (i : Nat) : rd_T75 s (i : Int) = s.getD i zLC := by simp [rd_T75]
def toC (l : LCl) : Cl := ⟨l.f0, toMs l.f1⟩
def toCs (l : List LCl) : List Cl := l.map toC
theorem toCs_len (l : List LCl) : (toCs l).length = l.length := by simp [toCs]
theorem toCs_getD (l : List LCl) (i : Nat) (h : i < l.length) : (toCs l).getD i zC = toC (l.getD i zLC) := by
  unfold toCs
  rw [getD_lt _ _ _ (by simpa using h), getD_lt _ _ _ h, List.getElem_map]

/-! ### they measure -/
theorem sz_claim (who : Int) (l : List LMk) (a : Int) (hl : l.length ≤ maxLen) (h0 : 0 ≤ a) (h1 : a ≤ 1048576) : ∃ r, laws_szClaim.f who l a = some r ∧ r ≤ a ∧ (0 ≤ r → (l.length : Int) ≤ a) := by
  obtain ⟨r, e, hr, hl'⟩ := sz_marks l a hl h0 h1
  unfold laws_szClaim.f
  rw [e, Option.bind_some]
  by_cases h : r < 0
  · exact ⟨-1, if_pos h, by omega, fun h => absurd h (by decide)⟩
  · exact ⟨r, if_neg h, hr, hl'⟩
theorem sz_claims_l (s : List LCl) (hs : s.length ≤ 1048576) (hw : ∀ c ∈ s, c.f1.length ≤ maxLen) : ∀ d i (a : Int), i + d = s.length → 0 ≤ a → a ≤ 1048576 →
    ∃ r, Ev (fun k => laws_szClaimS.l0 k s a (i : Int)) r ∧ r ≤ a ∧ (0 ≤ r → ∀ j, i ≤ j → j < s.length → (s.getD j zLC).f1.length ≤ 1048576) := by
  intro d
  induction d with
  | zero =>
    intro i a hi h0 h1
    refine ⟨a, Ev.step (fun k => by rw [laws_szClaimS.l0]) ?_, Int.le_refl _, fun _ j h1 h2 => by omega⟩
    exact ev_neg (by omega) (ev_ret rfl)
  | succ d ih =>
    intro i a hi h0 h1
    obtain ⟨r, e, hr, hl⟩ := sz_claim (s.getD i zLC).f0 (s.getD i zLC).f1 a (hw _ (getD_mem s zLC i (by omega))) h0 h1
    have E := fun (r' : Int) (h : Ev (fun k => if r < 0 then some (-1) else laws_szClaimS.l0 k s r ((i + 1 : Nat) : Int)) r') => Ev.step (g := fun k => laws_szClaimS.l0 k s a (i : Int)) (r := r') (fun k => by rw [laws_szClaimS.l0]) (by
      rw [rdLC, w64s (i := i) (by omega)]
      refine ev_pos (by omega) ?_
      refine ev_pos (by omega) ?_
      exact ev_bindc e h)
    by_cases h : r < 0
    · exact ⟨-1, E _ (ev_pos h (ev_ret rfl)), by omega, fun h => absurd h (by decide)⟩
    · obtain ⟨r', e', hle, h'⟩ := ih (i + 1) r (by omega) (by omega) (by omega)
      refine ⟨r', E _ (ev_neg h e'), by omega, fun h0 j h1 h2 => ?_⟩
      rcases Nat.eq_or_lt_of_le h1 with e | e
      · subst e
        have := hl (by omega)
        omega
      · exact h' h0 j e h2
/-- A story that the laws don't leave out. -/
def Small (s : List LCl) : Prop := s.length ≤ 1048576 ∧ ∀ j, j < s.length → (s.getD j zLC).f1.length ≤ 1048576
theorem sz_claims2 (s : List LCl) (hs : s.length ≤ maxLen) (hw : ∀ c ∈ s, c.f1.length ≤ maxLen) : ∃ r, Ev (fun k => laws_szClaimS.f k s 1048576) r ∧ r ≤ 1048576 ∧ (0 ≤ r → Small s) := by
  unfold maxLen at hs
  unfold laws_szClaimS.f
  rw [w64 (by omega) (by omega)]
  by_cases h : 1048576 - (s.length : Int) < 0
  · exact ⟨-1, ev_pos h (ev_ret rfl), by omega, fun h => absurd h (by decide)⟩
  · obtain ⟨r, e, hle, h'⟩ := sz_claims_l s (by omega) hw s.length 0 (1048576 - (s.length : Int)) (by omega) (by omega) (by omega)
    exact ⟨r, ev_neg h e, by omega, fun h0 => ⟨by omega, fun j hj => h' h0 j (by omega) hj⟩⟩
theorem sz_claims (s : List LCl) (hs : s.length ≤ maxLen) (hw : ∀ c ∈ s, c.f1.length ≤ maxLen) : ∃ r, Ev (fun k => laws_szClaimS.f k s 1048576) r ∧ (0 ≤ r → Small s) := by
  obtain ⟨r, e, _, h⟩ := sz_claims2 s hs hw
  exact ⟨r, e, h⟩

/-! ### they turn -/
theorem to_claims_l (l : List LCl) (hn : Small l) : ∀ d i (x : List Cl), i + d = l.length → x.length = l.length → (∀ j, j < i → x.getD j zC = toC (l.getD j zLC)) → Ev (fun k => laws_toClaimS.l0 k l x (i : Int)) (toCs l) := by
  intro d
  have hl := hn.1
  induction d with
  | zero =>
    intro i x hi hx h
    refine Ev.step (fun k => by rw [laws_toClaimS.l0]) ?_
    refine ev_neg (by omega) (ev_ret (ext_getD zC x (toCs l) (by rw [toCs_len]; exact hx) fun j hj => ?_))
    rw [toCs_len] at hj
    rw [h j (by omega), toCs_getD l j hj]
  | succ d ih =>
    intro i x hi hx h
    refine Ev.step (fun k => by rw [laws_toClaimS.l0]) ?_
    rw [w64s (by omega), rdLC, Int.toNat_natCast]
    refine ev_pos (by omega) ?_
    refine ev_pos (by omega) ?_
    refine ev_bind (a := ((l.getD i zLC).f0, toMs (l.getD i zLC).f1)) ?_ ?_
    · unfold laws_toClaim.f
      exact ev_bind (to_marks _ (hn.2 i (by omega))) (ev_ret rfl)
    refine ev_pos (by omega) ?_
    refine ih (i + 1) _ (by omega) (by simpa using hx) fun j hj => ?_
    rw [set_getD zC x i _ (by omega)]
    split
    · rename_i e
      rw [e]
      rfl
    · exact h j (by omega)
theorem to_claims (l : List LCl) (hn : Small l) : Ev (fun k => laws_toClaimS.f k l) (toCs l) := by
  have hl := hn.1
  unfold laws_toClaimS.f
  rw [Int.toNat_natCast]
  refine ev_pos (by omega) ?_
  refine ev_pos (by omega) ?_
  exact to_claims_l l hn l.length 0 _ (by omega) (by simp) fun j hj => by omega

/-! ### they compare -/
/-- What came in fits the machine. -/
def CWf (s : List LCl) : Prop := s.length ≤ maxLen ∧ ∀ y0 ∈ s, ((Lit.int .i64 y0.f0).wf = true) ∧ (y0.f1.length ≤ maxLen ∧ ∀ y1 ∈ y0.f1, ((Lit.int .i64 y1.f0).wf = true) ∧ ((Lit.int .i64 y1.f1).wf = true))
theorem toCs64 (s : List LCl) (h : CWf s) (hs : Small s) : S64 (toCs s) := by
  have hl := hs.1
  refine ⟨by rw [toCs_len]; omega, getD_all (toCs s) zC (fun c => M64 c.f1 ∧ c.f1.length < 4611686018427387904) ⟨?_, by decide⟩ fun c hc => ?_⟩
  · intro i
    show (([] : List Mk).getD i zM).f1 ≤ 9223372036854775807
    rw [List.getD_nil]
    decide
  · obtain ⟨y, hy, rfl⟩ := List.mem_map.1 hc
    have h2 := (h.2 y hy).2
    refine ⟨toMs64 _ h2.2, ?_⟩
    show (toMs y.f1).length < _
    rw [toMs_len]
    obtain ⟨j, hj, e⟩ := List.getElem_of_mem hy
    have := hs.2 j hj
    rw [getD_lt _ _ _ hj, e] at this
    omega
end Go.Proofs.Ytcaogllnbpmcgaa.M

/- The exact laws' marking of claims, terms and proofs, and whether a proof is still held. -/
set_option linter.unusedVariables false
set_option linter.unusedSimpArgs false
namespace Go.Proofs.Ytcaogllnbpmcgaa.M
open Go Go.RowKit Go.Proofs.YtcaogllnbpmcgaaW.PrintWords Go.Proofs.Ytcaogllnbpmcgaa.P
theorem at_midX {α : Type} (z : α) (p : List α) (c : α) (s : List α) : (p ++ c :: s).getD p.length z = c := by
  rw [List.getD_eq_getElem?_getD, List.getElem?_append_right (Nat.le_refl _), Nat.sub_self]
  rfl
theorem set_midX {α : Type} (p : List α) (c x : α) (s : List α) : (p ++ c :: s).set p.length x = p ++ x :: s := by
  rw [List.set_append_right _ _ (Nat.le_refl _), Nat.sub_self]
  rfl
theorem step_midX {α : Type} (p : List α) (c : α) (s : List α) : p ++ c :: s = (p ++ [c]) ++ s := by simp
def markedM : List Mk → Int → List Mk
  | [], _ => []
  | _ :: s, a => ⟨a, a + 1⟩ :: markedM s (a + 2)
theorem mark_marks_l : ∀ (s p : List Mk) (a : Int), 0 ≤ a → a + 2 * s.length ≤ 4000000000000000000 → p.length + s.length ≤ 2000000000 → Ev (fun k => laws_markMarkS.l0 k (p ++ s) a (p.length : Int)) (a + 2 * s.length, p ++ markedM s a) := by
  intro s
  induction s with
  | nil =>
    intro p a h0 h1 h2
    refine Ev.step (fun k => by rw [laws_markMarkS.l0]) ?_
    exact ev_neg (by simp) (ev_ret (by simp [markedM]))
  | cons c s ih =>
    intro p a h0 h1 h2
    simp only [List.length_cons] at h1 h2
    have := ih (p ++ [⟨a, a + 1⟩]) (a + 2) (by omega) (by omega) (by simp; omega)
    refine Ev.step (fun k => by rw [laws_markMarkS.l0]) ?_
    refine ev_pos (by simp; omega) (ev_pos (by omega) ?_)
    simp only [Option.bind_some, Int.toNat_natCast, set_midX]
    rw [w64s (by omega), w64 (x := a + 1) (by omega) (by omega), w64 (x := a + 1 + 1) (by omega) (by omega)]
    unfold rd_T47
    simp only [Int.toNat_natCast, at_midX]
    rw [show a + 1 + 1 = a + 2 by omega, step_midX, show p.length + 1 = (p ++ [(⟨a, a + 1⟩ : Mk)]).length by simp]
    refine ev_eq this ?_
    simp only [List.length_cons, markedM, Prod.mk.injEq]
    exact ⟨by omega, by simp⟩
theorem markedM_len : ∀ (s : List Mk) (a : Int), (markedM s a).length = s.length
  | [], _ => rfl
  | _ :: s, a => by simp [markedM, markedM_len s]
def endC : List Cl → Int → Int
  | [], a => a
  | c :: s, a => endC s (a + 1 + 2 * c.f1.length)
def markedC : List Cl → Int → List Cl
  | [], _ => []
  | c :: s, a => ⟨a, markedM c.f1 (a + 1)⟩ :: markedC s (a + 1 + 2 * c.f1.length)
theorem endC_le : ∀ (s : List Cl) (a : Int), a ≤ endC s a
  | [], _ => Int.le_refl _
  | c :: s, a => by
    have := endC_le s (a + 1 + 2 * c.f1.length)
    unfold endC
    omega
theorem mark_claims_l : ∀ (s p : List Cl) (a : Int), 0 ≤ a → endC s a ≤ 3000000000000000000 → p.length + s.length ≤ 1000000000 → (∀ c ∈ s, c.f1.length ≤ 1000000000) → Ev (fun k => laws_markClaimS.l0 k (p ++ s) a (p.length : Int)) (endC s a, p ++ markedC s a) := by
  intro s
  induction s with
  | nil =>
    intro p a h0 h1 h2 h3
    refine Ev.step (fun k => by rw [laws_markClaimS.l0]) ?_
    exact ev_neg (by simp) (ev_ret (by simp [markedC, endC]))
  | cons c s ih =>
    intro p a h0 h1 h2 h3
    simp only [List.length_cons, endC] at h1 h2
    have hc3 := h3 c (by simp)
    have hle := endC_le s (a + 1 + 2 * c.f1.length)
    have := ih (p ++ [⟨a, markedM c.f1 (a + 1)⟩]) (a + 1 + 2 * c.f1.length) (by omega) (by omega) (by simp; omega) (fun x hx => h3 x (by simp [hx]))
    have hm := mark_marks_l c.f1 [] (a + 1) (by omega) (by omega) (by simp; omega)
    refine Ev.step (fun k => by rw [laws_markClaimS.l0]) ?_
    refine ev_pos (by simp; omega) (ev_pos (by omega) ?_)
    unfold rd_T38
    simp only [Int.toNat_natCast, set_midX, at_midX]
    rw [w64s (by omega), w64 (x := a + 1) (by omega) (by omega)]
    refine ev_bind hm ?_
    dsimp only
    rw [step_midX, show p.length + 1 = (p ++ [(⟨a, [] ++ markedM c.f1 (a + 1)⟩ : Cl)]).length by simp]
    refine ev_eq this ?_
    simp only [endC, markedC, Prod.mk.injEq]
    exact ⟨trivial, by simp⟩
theorem endC_small (N : Int) (hN : 0 ≤ N) : ∀ (s : List Cl) (a : Int), (∀ c ∈ s, (c.f1.length : Int) ≤ N) → endC s a ≤ a + s.length * (1 + 2 * N)
  | [], a, _ => by simp [endC]
  | c :: s, a, h => by
    have h1 := h c (by simp)
    have := endC_small N hN s (a + 1 + 2 * c.f1.length) fun x hx => h x (by simp [hx])
    unfold endC
    rw [List.length_cons, Int.natCast_succ, Int.add_mul]
    omega
/-- The marking of a story that the laws don't leave out. -/
theorem mark_story (s : List Cl) (hs : s.length ≤ 1048576) (hl : ∀ c ∈ s, (c.f1.length : Int) ≤ 1048576) : ∃ m x, 1 ≤ m ∧ m ≤ 3000000000000 ∧ Ev (fun k => laws_markClaimS.f k s 1) (m, x) := by
  have h1 := endC_small 1048576 (by decide) s 1 hl
  have h2 := endC_le s 1
  have h3 : (s.length : Int) * (1 + 2 * 1048576) ≤ 1048576 * (1 + 2 * 1048576) := Int.mul_le_mul_of_nonneg_right (by omega) (by decide)
  refine ⟨endC s 1, markedC s 1, h2, by omega, ?_⟩
  unfold laws_markClaimS.f
  exact mark_claims_l s [] 1 (by decide) (by omega) (by simp; omega) (fun c hc => by have := hl c hc; omega)
theorem mark_marks (l : List Mk) (a : Int) (h0 : 0 ≤ a) (h1 : a ≤ 3000000000000) (hl : l.length ≤ 1048576) : ∃ m x, 0 ≤ m ∧ Ev (fun k => laws_markMarkS.f k l a) (m, x) := by
  refine ⟨a + 2 * l.length, markedM l a, by omega, ?_⟩
  unfold laws_markMarkS.f
  exact mark_marks_l l [] a h0 (by omega) (by simp; omega)
def markedS : List Q.Sp → Int → List Q.Sp
  | [], _ => []
  | _ :: s, a => ⟨a, a + 1, a + 2⟩ :: markedS s (a + 3)
theorem mark_splits_l : ∀ (s p : List Q.Sp) (a : Int), 0 ≤ a → a + 3 * s.length ≤ 1000000000 → p.length + s.length ≤ 1000000000 → Ev (fun k => laws_markSplitS.l0 k (p ++ s) a (p.length : Int)) (a + 3 * s.length, p ++ markedS s a) := by
  intro s
  induction s with
  | nil =>
    intro p a h0 h1 h2
    refine Ev.step (fun k => by rw [laws_markSplitS.l0]) ?_
    exact ev_neg (by simp) (ev_ret (by simp [markedS]))
  | cons c s ih =>
    intro p a h0 h1 h2
    simp only [List.length_cons] at h1 h2
    have := ih (p ++ [⟨a, a + 1, a + 2⟩]) (a + 3) (by omega) (by omega) (by simp; omega)
    refine Ev.step (fun k => by rw [laws_markSplitS.l0]) ?_
    refine ev_pos (by simp; omega) (ev_pos (by omega) ?_)
    unfold rd_T93
    simp only [Option.bind_some, Int.toNat_natCast, set_midX, at_midX]
    rw [w64s (by omega), w64 (x := a + 1) (by omega) (by omega), w64 (x := a + 1 + 1) (by omega) (by omega), w64 (x := a + 1 + 1 + 1) (by omega) (by omega)]
    rw [show a + 1 + 1 + 1 = a + 3 by omega, show a + 1 + 1 = a + 2 by omega, step_midX, show p.length + 1 = (p ++ [(⟨a, a + 1, a + 2⟩ : Q.Sp)]).length by simp]
    refine ev_eq this ?_
    simp only [List.length_cons, markedS, Prod.mk.injEq]
    exact ⟨by omega, by simp⟩
theorem held_splits_l : ∀ (s p : List Q.Sp) (a : Int), 0 ≤ a → a + 3 * s.length ≤ 1000000000 → p.length + s.length ≤ 1000000000 → Ev (fun k => laws_heldSplitS.l0 k (p ++ markedS s a) a (p.length : Int)) (a + 3 * s.length) := by
  intro s
  induction s with
  | nil =>
    intro p a h0 h1 h2
    refine Ev.step (fun k => by rw [laws_heldSplitS.l0]) ?_
    exact ev_neg (by simp [markedS]) (ev_ret (by simp))
  | cons c s ih =>
    intro p a h0 h1 h2
    simp only [List.length_cons] at h1 h2
    have := ih (p ++ [⟨a, a + 1, a + 2⟩]) (a + 3) (by omega) (by omega) (by simp; omega)
    refine Ev.step (fun k => by rw [laws_heldSplitS.l0]) ?_
    refine ev_pos (by simp [markedS]; omega) (ev_pos (by omega) ?_)
    unfold rd_T93
    simp only [Int.toNat_natCast, markedS, at_midX]
    rw [w64s (by omega), w64 (x := a + 1) (by omega) (by omega), w64 (x := a + 1 + 1) (by omega) (by omega), w64 (x := a + 1 + 1 + 1) (by omega) (by omega)]
    refine ev_pos (by first | trivial | omega) (ev_pos (by first | trivial | omega) (ev_pos (by first | trivial | omega) ?_))
    rw [show a + 1 + 1 + 1 = a + 3 by omega, step_midX, show p.length + 1 = (p ++ [(⟨a, a + 1, a + 2⟩ : Q.Sp)]).length by simp]
    refine ev_eq this ?_
    simp only [List.length_cons]
    omega
theorem mark_proof (fi : Int) (S : List Q.Sp) (h : S.length ≤ 1000) : Ev (fun k => laws_markProof.f k fi S 1) (1 + 3 * (S.length : Int), markedS S 1) := by
  unfold laws_markProof.f laws_markSplitS.f
  exact ev_bind (mark_splits_l S [] 1 (by decide) (by omega) (by simp; omega)) (ev_ret rfl)
theorem held_proof (fi : Int) (S : List Q.Sp) (h : S.length ≤ 1000) : Ev (fun k => laws_heldProof.f k fi (markedS S 1) 1) (1 + 3 * (S.length : Int)) := by
  unfold laws_heldProof.f laws_heldSplitS.f
  exact ev_bind (held_splits_l S [] 1 (by decide) (by omega) (by simp; omega)) (ev_neg (by omega) (ev_ret rfl))
end Go.Proofs.Ytcaogllnbpmcgaa.M

set_option linter.unusedVariables false
set_option linter.unusedSimpArgs false
namespace Go.Proofs.Ytcaogllnbpmcgaa.Pure
open Go Go.RowKit Go.Proofs.Ytcaogllnbpmcgaa.P Go.Proofs.YtcaogllnbpmcgaaW.PrintWords Go.Proofs.YtcaogllnbpmcgaaW.PrintLast Go.Proofs.Ytcaogllnbpmcgaa.M
theorem impl_findX (n : Int) (s : List Cl) (t : List Mk) (h : s.length < 4611686018427387904) : impl_FindProof.f n s t = some (findF n s t) := by
  unfold impl_FindProof.f
  rw [if_pos h]
theorem FnExactFindProof : laws_FnExactFindProof.Pure := by
  intro n s l wn hs hl
  suffices h_ : Ev (fun k => laws_FnExactFindProof.f k n s l) true by obtain ⟨K, hK⟩ := h_; exact ⟨K, hK K (Nat.le_refl K)⟩
  unfold laws_FnExactFindProof.f
  obtain ⟨r, hr, hr1, hsm⟩ := sz_claims2 s hs.1 fun c hc => (hs.2 c hc).2.1
  refine ev_bind hr ?_
  by_cases h0 : r < 0
  · exact ev_pos h0 (ev_ret rfl)
  refine ev_neg h0 ?_
  obtain ⟨r2, hr2, hr21, hl2⟩ := sz_marks l r hl.1 (by omega) (by omega)
  refine ev_bindc hr2 ?_
  by_cases h2 : r2 < 0
  · exact ev_pos h2 (ev_ret rfl)
  refine ev_neg h2 ?_
  have hsm := hsm (by omega)
  have h64 := toCs64 s hs hsm
  have hlen : l.length ≤ 1048576 := by have := hl2 (by omega); omega
  have hl64 : M64 (toMs l) := toMs64 l hl.2
  have hll : (toMs l).length < 4611686018427387904 := by rw [toMs_len]; omega
  have hcl : ∀ c ∈ toCs s, (c.f1.length : Int) ≤ 1048576 := by
    intro c hc
    unfold toCs at hc
    obtain ⟨x, hx, rfl⟩ := List.mem_map.1 hc
    obtain ⟨j, hj, e⟩ := List.mem_iff_getElem.1 hx
    have := hsm.2 j hj
    rw [getD_lt _ _ _ hj, e] at this
    show ((toMs x.f1).length : Int) ≤ 1048576
    rw [toMs_len]
    omega
  obtain ⟨m1, x1, hm1, hm2, hmk⟩ := mark_story (toCs s) (by rw [toCs_len]; exact hsm.1) hcl
  obtain ⟨m2, x2, hm3, hmm⟩ := mark_marks (toMs l) m1 (by omega) hm2 (by rw [toMs_len]; exact hlen)
  obtain ⟨f1, f2, f3⟩ := findF_64 n (toCs s) (toMs l)
  have hs1 := spec_findE n (wf_le wn).2 (toCs s) h64 (toMs l) hl64 hll
  have hi1 := impl_findX n (toCs s) (toMs l) h64.1
  obtain ⟨g, hg⟩ : ∃ g, findF n (toCs s) (toMs l) = g := ⟨_, rfl⟩
  rw [hg] at f1 f2 f3 hs1 hi1
  obtain ⟨y, S, ok⟩ := g
  dsimp only at f1 f2 f3
  have heq := eq_proof y S (by omega)
  refine ev_bind (to_claims s hsm) ?_
  refine ev_bind (to_marks l hlen) ?_
  refine ev_bind hs1 ?_
  refine ev_bind (to_claims s hsm) ?_
  refine ev_bind (to_marks l hlen) ?_
  refine ev_bindc hi1 ?_
  refine ev_bind heq ?_
  refine ev_pos rfl ?_
  dsimp only
  rw [show (ok != ok) = false by simp]
  refine Ev.step (fun k => by rw [laws_FnExactFindProof.j0]) ?_
  refine ev_neg (by decide) ?_
  refine ev_bind (to_claims s hsm) ?_
  refine ev_bind (eq_claims (toCs s) h64.1 fun j => (h64.2 j).2) ?_
  refine ev_pos rfl ?_
  refine ev_bind (to_marks l hlen) ?_
  refine ev_bind (eq_marks (toMs l) hll) ?_
  refine ev_pos rfl ?_
  refine ev_bind hmk ?_
  dsimp only
  refine ev_bind hmm ?_
  dsimp only
  refine ev_neg (by omega) ?_
  refine ev_bind heq ?_
  refine ev_pos rfl ?_
  rw [show (ok != ok) = false by simp]
  refine Ev.step (fun k => by rw [laws_FnExactFindProof.j1]) ?_
  refine ev_neg (by decide) ?_
  refine ev_bind (mark_proof y S (by omega)) ?_
  dsimp only
  refine ev_bind (held_proof y S (by omega)) ?_
  refine ev_neg (by omega) ?_
  refine ev_pos rfl ?_
  refine ev_bind (to_claims s hsm) ?_
  refine ev_bind (to_marks l hlen) ?_
  refine ev_bindc hi1 ?_
  refine ev_bind heq ?_
  refine ev_pos rfl ?_
  dsimp only
  rw [show (ok != ok) = false by simp]
  refine Ev.step (fun k => by rw [laws_FnExactFindProof.j2]) ?_
  refine ev_neg (by decide) ?_
  refine ev_bind (held_proof y S (by omega)) ?_
  refine ev_neg (by omega) ?_
  exact ev_pos rfl (ev_ret rfl)
end Go.Proofs.Ytcaogllnbpmcgaa.Pure

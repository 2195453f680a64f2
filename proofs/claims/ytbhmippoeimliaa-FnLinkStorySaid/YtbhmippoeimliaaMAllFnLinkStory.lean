/- What the proof of this law needs besides: texts of ours, one behind the other. -/
import Derived.Test.YtbhmippoeimliaaMTerm
import Derived.Test.YtbhmippoeimliaaPx12
import Derived.Test.YtbhmippoeimliaaPx11
import Derived.Test.YtbhmippoeimliaaMHolds
import Derived.Test.YtbhmippoeimliaaPx14
import Derived.Test.YtbhmippoeimliaaPx13
import Derived.Test.YtbhmippoeimliaaMStory
import Derived.Test.YtbhmippoeimliaaMList
import Derived.Test.YtbhmippoeimliaaPx2
import Derived.Test.YtbhmippoeimliaaPx5
import Derived.Test.YtbhmippoeimliaaPx4
import Derived.Test.YtbhmippoeimliaaPx9
import Derived.Test.YtbhmippoeimliaaPx8
import Derived.Test.YtbhmippoeimliaaMWorlds
import Derived.Test.YtbhmippoeimliaaPx10
import Derived.Test.YtbhmippoeimliaaMBase
import Derived.Test.YtbhmippoeimliaaPx16
/- The reference's TermOk tells whether a row is a term. -/
set_option linter.unusedVariables false
set_option linter.unusedSimpArgs false
namespace Go.Proofs.Ytbhmippoeimliaa.M
open Go Go.RowKit Go.Proofs.YtbhmippoeimliaaW.PrintWords Go.Proofs.Ytbhmippoeimliaa.P
theorem l1InT (a b c : Int) : spec_l1In.f a b c = some (decide (b ≤ a ∧ a ≤ c)) := by
  unfold spec_l1In.f
  by_cases h : a ≥ b
  · rw [if_pos h]
    simp [h]
  · rw [if_neg h]
    simp
    intro h'
    omega
/-- No mark is beyond the machine's whole numbers. -/
def M64 (s : List Mk) : Prop := ∀ i : Nat, (s.getD i zM).f1 ≤ 9223372036854775807
theorem spec_termOk_l (n : Int) (hb : n ≤ 9223372036854775807) (s : List Mk) (h64 : M64 s) (hs : s.length < 4611686018427387904) : ∀ d i p : Nat, i + d = s.length → p ≤ i →
    Tells (fun k => spec_TermOk.l0 k n s (p : Int) (i : Int)) (foldP n p (s.drop i) = some 1 ∧ (1 ≤ n ∧ n ≤ 4) ∧ s.length ≤ 15) := by
  intro d
  induction d with
  | zero =>
    intro i p hi hp
    refine Tells.step (fun k => by rw [spec_TermOk.l0]) ?_
    refine Tells.neg (by omega) ?_
    rw [List.drop_eq_nil_of_le (by omega)]
    refine Tells.bindc (l1InT n 1 4) ?_
    simp only [foldP, Option.some.injEq]
    refine Tells.ite (fun h => ?_) (fun h => Tells.no fun h' => h (decide_eq_true h'.2.1))
    have hn := of_decide_eq_true h
    refine Tells.ite (fun h1 => Tells.dec ?_) (fun h1 => Tells.no fun h' => h1 (by omega))
    exact ⟨fun h => ⟨by omega, hn, by omega⟩, fun h => by omega⟩
  | succ d ih =>
    intro i p hi hp
    refine Tells.step (fun k => by rw [spec_TermOk.l0]) ?_
    rw [foldP_drop n p s i (by omega), rdM]
    refine Tells.pos (by omega) ?_
    refine Tells.pos (by omega) ?_
    have hm64 := h64 i
    generalize hm : s.getD i zM = m at hm64
    have go : ∀ q, q ≤ i + 1 → stepP n p m = some q → Tells (fun k => spec_TermOk.l0 k n s (q : Int) ((i + 1 : Nat) : Int)) ((stepP n p m).bind (fun q => foldP n q (s.drop (i + 1))) = some 1 ∧ (1 ≤ n ∧ n ≤ 4) ∧ s.length ≤ 15) := fun q hq e => by
      rw [e]
      exact ih (i + 1) q (by omega) hq
    have no : stepP n p m = none → Tells (fun _ => some false) ((stepP n p m).bind (fun q => foldP n q (s.drop (i + 1))) = some 1 ∧ (1 ≤ n ∧ n ≤ 4) ∧ s.length ≤ 15) := fun e => by
      rw [e]
      exact Tells.no (by simp)
    have j3 : m.f0 ≠ 0 → m.f0 ≠ 1 → ¬ (m.f0 = 2 ∧ m.f1 = 0 ∧ 1 ≤ p) → Tells (fun k => spec_TermOk.j3 k n s (p : Int) (i : Int) false) ((stepP n p m).bind (fun q => foldP n q (s.drop (i + 1))) = some 1 ∧ (1 ≤ n ∧ n ≤ 4) ∧ s.length ≤ 15) := fun h0 h1 h2 => by
      refine Tells.step (fun k => by rw [spec_TermOk.j3]) ?_
      rw [rdM, hm, w64s (by omega)]
      refine Tells.neg (by decide) ?_
      refine Tells.pos (by omega) ?_
      refine Tells.pos (by omega) ?_
      refine Tells.bindc (l1InT m.f0 3 5) ?_
      have bad : ¬ (3 ≤ m.f0 ∧ m.f0 ≤ 5 ∧ m.f1 = 0 ∧ 2 ≤ p) → stepP n p m = none := fun hb => by
        unfold stepP
        rw [if_neg h0, if_neg h1]
        by_cases h2' : m.f0 = 2
        · rw [if_pos h2', if_neg (fun h => h2 ⟨h2', h.1, h.2⟩)]
        · rw [if_neg h2']
          by_cases h3 : 3 ≤ m.f0 ∧ m.f0 ≤ 5
          · rw [if_pos h3, if_neg (fun h => hb ⟨h3.1, h3.2, h.1, h.2⟩)]
          · rw [if_neg h3]
      refine Tells.ite (fun h3 => ?_) (fun h3 => no (bad fun h => h3 (decide_eq_true ⟨h.1, h.2.1⟩)))
      have h3 := of_decide_eq_true h3
      refine Tells.ite (fun h4 => ?_) (fun h4 => no (bad fun h => h4 h.2.2.1))
      refine Tells.ite (fun h5 => ?_) (fun h5 => no (bad fun h => h5 (by omega)))
      rw [w64 (x := (p : Int) - 1) (by omega) (by omega), show (p : Int) - 1 = ((p - 1 : Nat) : Int) by omega]
      exact go (p - 1) (by omega) (by unfold stepP; rw [if_neg h0, if_neg h1, if_neg (by omega), if_pos h3, if_pos ⟨h4, by omega⟩])
    have j2 : m.f0 ≠ 0 → ¬ (m.f0 = 1 ∧ 0 ≤ m.f1 ∧ m.f1 ≤ n + 1) → Tells (fun k => spec_TermOk.j2 k n s (p : Int) (i : Int) false) ((stepP n p m).bind (fun q => foldP n q (s.drop (i + 1))) = some 1 ∧ (1 ≤ n ∧ n ≤ 4) ∧ s.length ≤ 15) := fun h0 h1 => by
      refine Tells.step (fun k => by rw [spec_TermOk.j2]) ?_
      rw [rdM, hm]
      refine Tells.neg (by decide) ?_
      refine Tells.pos (by omega) ?_
      refine Tells.pos (by omega) ?_
      by_cases h11 : m.f0 = 1
      · have e : stepP n p m = none := by
          unfold stepP
          rw [if_neg h0, if_pos h11, if_neg (fun h => h1 ⟨h11, h⟩)]
        refine Tells.neg (by simp [h11]) ?_
        refine Tells.step (fun k => by rw [spec_TermOk.j3]) ?_
        rw [rdM, hm]
        refine Tells.neg (by decide) ?_
        refine Tells.pos (by omega) ?_
        refine Tells.pos (by omega) ?_
        refine Tells.bindc (l1InT m.f0 3 5) ?_
        refine Tells.neg (fun h => by have := of_decide_eq_true h; omega) ?_
        exact no e
      refine Tells.ite (fun h2 => ?_) (fun h2 => j3 h0 h11 fun h => h2 (by simp [h.1, h.2.1]))
      have h2 : m.f0 = 2 ∧ m.f1 = 0 := by simpa using h2
      by_cases hp1 : (p : Int) ≥ 1
      · rw [decide_eq_true hp1]
        refine Tells.step (fun k => by rw [spec_TermOk.j3]) ?_
        rw [w64s (by omega)]
        refine Tells.pos rfl ?_
        exact go p (by omega) (by unfold stepP; rw [if_neg h0, if_neg h11, if_pos h2.1, if_pos ⟨h2.2, by omega⟩])
      · rw [decide_eq_false hp1]
        exact j3 h0 h11 fun h => hp1 (by omega)
    have j2t : m.f0 = 1 → 0 ≤ m.f1 → m.f1 ≤ n + 1 → Tells (fun k => spec_TermOk.j2 k n s (p : Int) (i : Int) true) ((stepP n p m).bind (fun q => foldP n q (s.drop (i + 1))) = some 1 ∧ (1 ≤ n ∧ n ≤ 4) ∧ s.length ≤ 15) := fun h0 h1 h2 => by
      refine Tells.step (fun k => by rw [spec_TermOk.j2]) ?_
      rw [w64s (by omega), w64s (by omega)]
      refine Tells.pos rfl ?_
      exact go (p + 1) (by omega) (by unfold stepP; rw [if_neg (by omega), if_pos h0, if_pos ⟨h1, h2⟩])
    have j1 : ¬ (m.f0 = 0 ∧ 0 ≤ m.f1 ∧ m.f1 < n) → Tells (fun k => spec_TermOk.j1 k n s (p : Int) (i : Int) false) ((stepP n p m).bind (fun q => foldP n q (s.drop (i + 1))) = some 1 ∧ (1 ≤ n ∧ n ≤ 4) ∧ s.length ≤ 15) := fun h0 => by
      refine Tells.step (fun k => by rw [spec_TermOk.j1]) ?_
      rw [rdM, hm]
      refine Tells.neg (by decide) ?_
      refine Tells.pos (by omega) ?_
      refine Tells.pos (by omega) ?_
      by_cases h00 : m.f0 = 0
      · have e : stepP n p m = none := by
          unfold stepP
          rw [if_pos h00, if_neg (fun h => h0 ⟨h00, h⟩)]
        refine Tells.neg (by omega) ?_
        refine Tells.step (fun k => by rw [spec_TermOk.j2]) ?_
        rw [rdM, hm]
        refine Tells.neg (by decide) ?_
        refine Tells.pos (by omega) ?_
        refine Tells.pos (by omega) ?_
        refine Tells.neg (by simp [h00]) ?_
        refine Tells.step (fun k => by rw [spec_TermOk.j3]) ?_
        rw [rdM, hm]
        refine Tells.neg (by decide) ?_
        refine Tells.pos (by omega) ?_
        refine Tells.pos (by omega) ?_
        refine Tells.bindc (l1InT m.f0 3 5) ?_
        refine Tells.neg (fun h => by have := of_decide_eq_true h; omega) ?_
        exact no e
      refine Tells.ite (fun h1 => ?_) (fun h1 => j2 h00 fun h => h1 h.1)
      refine Tells.ite (fun h2 => ?_) (fun h2 => j2 h00 fun h => h2 h.2.1)
      refine Tells.ite (fun h3 => j2t h1 h2 (by omega)) (fun h3 => ?_)
      by_cases h4 : wrap64 (m.f1 - 1) = n
      · rw [show (wrap64 (m.f1 - 1) == n) = true by simp [h4]]
        exact j2t h1 h2 (by rw [w64 (by omega) (by omega)] at h4; omega)
      · rw [show (wrap64 (m.f1 - 1) == n) = false by simp [h4]]
        exact j2 h00 fun h => h4 (by rw [w64 (by omega) (by omega)]; omega)
    refine Tells.ite (fun h0 => ?_) (fun h0 => j1 fun h => h0 h.1)
    refine Tells.ite (fun h1 => ?_) (fun h1 => j1 fun h => h1 h.2.1)
    by_cases h2 : m.f1 < n
    · rw [decide_eq_true h2]
      refine Tells.step (fun k => by rw [spec_TermOk.j1]) ?_
      rw [w64s (by omega), w64s (by omega)]
      refine Tells.pos rfl ?_
      exact go (p + 1) (by omega) (by unfold stepP; rw [if_pos h0, if_pos ⟨h1, h2⟩])
    · rw [decide_eq_false h2]
      exact j1 fun h => h2 h.2.2
theorem spec_termOk (n : Int) (hb : n ≤ 9223372036854775807) (s : List Mk) (h64 : M64 s) (hs : s.length < 4611686018427387904) : Tells (fun k => spec_TermOk.f k n s) (TermP n s) := by
  unfold spec_TermOk.f
  refine (spec_termOk_l n hb s h64 hs s.length 0 0 (by omega) (by omega)).iff ?_
  rw [List.drop_zero]
  exact ⟨fun h => ⟨h.2.1, h.2.2, h.1⟩, fun h => ⟨h.2.2, h.1, h.2.1⟩⟩
end Go.Proofs.Ytbhmippoeimliaa.M

/- The reference's way, from the last mark, tells the tree's value. -/
set_option linter.unusedVariables false
set_option linter.unusedSimpArgs false
namespace Go.Proofs.Ytbhmippoeimliaa.M
open Go Go.RowKit Go.Proofs.YtbhmippoeimliaaW.PrintWords Go.Proofs.Ytbhmippoeimliaa.P
theorem spec_headsE (w : Nat) (hw : w < 16) : Ev (fun k => spec_l1Heads.f k (w : Int)) ((heads w : Nat) : Int) := by
  have h : ∀ w : Fin 16, spec_l1Heads.f 10 (w.val : Int) = some ((heads w.val : Nat) : Int) := by decide +kernel
  exact Ev.of (fun k => spec_l1Heads.mono (w : Int) k) (h ⟨w, hw⟩)
theorem starts_l (n : Int) (L : List Mk) (hL : L.length ≤ 1000) (r : Int) (t : Tm) : ∀ (pre post : List Mk) (d : Nat), t.Ok n → L = pre ++ t.enc ++ post → d ≤ 1000000 - t.enc.length →
    Ev (fun k => spec_l2Starts.l0 k L (d : Int) ((pre.length : Int) - 1)) r → Ev (fun k => spec_l2Starts.l0 k L ((d + 1 : Nat) : Int) (((pre.length + t.enc.length : Nat) : Int) - 1)) r := by
  induction t with
  | leaf m =>
    intro pre post d ht hl hd h
    refine Ev.step (fun k => by rw [spec_l2Starts.l0]) ?_
    have hlen : L.length = pre.length + 1 + post.length := by rw [hl]; simp [Tm.enc]; omega
    have hget : L.getD pre.length zM = m := by
      rw [hl]
      simp only [Tm.enc, List.append_assoc, List.singleton_append]
      exact getD_at zM pre m post
    have e : ((pre.length + (Tm.leaf m).enc.length : Nat) : Int) - 1 = (pre.length : Int) := by simp [Tm.enc]
    simp only [Tm.enc, List.length_singleton] at hd
    rw [e, rdM, hget, w64 (x := ((d + 1 : Nat) : Int) - 1) (by omega) (by omega), w64 (x := (pre.length : Int) - 1) (by omega) (by omega), show ((d + 1 : Nat) : Int) - 1 = (d : Int) by omega]
    refine ev_pos (by omega) ?_
    refine ev_pos (by omega) ?_
    refine ev_pos (by omega) ?_
    refine ev_pos (by rcases ht with h | h <;> omega) ?_
    exact h
  | neg t ih =>
    intro pre post d ht hl hd h
    refine Ev.step (fun k => by rw [spec_l2Starts.l0]) ?_
    have hlen : L.length = pre.length + t.enc.length + 1 + post.length := by rw [hl]; simp [Tm.enc]; omega
    have hget : L.getD (pre.length + t.enc.length) zM = ⟨2, 0⟩ := by
      rw [hl]
      simp only [Tm.enc, List.append_assoc, List.singleton_append]
      rw [← List.append_assoc]
      have := getD_at zM (pre ++ t.enc) ⟨2, 0⟩ post
      rwa [List.length_append] at this
    have e : ((pre.length + (Tm.neg t).enc.length : Nat) : Int) - 1 = ((pre.length + t.enc.length : Nat) : Int) := by simp [Tm.enc]; omega
    simp only [Tm.enc, List.length_append, List.length_singleton] at hd
    rw [e, rdM, hget, w64 (x := ((pre.length + t.enc.length : Nat) : Int) - 1) (by omega) (by omega)]
    refine ev_pos (by omega) ?_
    refine ev_pos (by omega) ?_
    refine ev_pos (by omega) ?_
    refine ev_neg (by decide) ?_
    refine ev_neg (by decide) ?_
    exact ih pre (⟨2, 0⟩ :: post) d ht (by rw [hl]; simp [Tm.enc]) (by omega) h
  | bin c a b iha ihb =>
    intro pre post d ht hl hd h
    obtain ⟨hc, ha, hb⟩ := ht
    refine Ev.step (fun k => by rw [spec_l2Starts.l0]) ?_
    have hlen : L.length = pre.length + a.enc.length + b.enc.length + 1 + post.length := by rw [hl]; simp [Tm.enc]; omega
    have hget : L.getD (pre.length + a.enc.length + b.enc.length) zM = ⟨c, 0⟩ := by
      rw [hl]
      simp only [Tm.enc, List.append_assoc, List.singleton_append]
      rw [← List.append_assoc, ← List.append_assoc]
      have := getD_at zM ((pre ++ a.enc) ++ b.enc) ⟨c, 0⟩ post
      rwa [List.length_append, List.length_append] at this
    have e : ((pre.length + (Tm.bin c a b).enc.length : Nat) : Int) - 1 = ((pre.length + a.enc.length + b.enc.length : Nat) : Int) := by simp [Tm.enc]; omega
    simp only [Tm.enc, List.length_append, List.length_singleton] at hd
    rw [e, rdM, hget, w64 (x := ((pre.length + a.enc.length + b.enc.length : Nat) : Int) - 1) (by omega) (by omega), w64s (by omega)]
    refine ev_pos (by omega) ?_
    refine ev_pos (by omega) ?_
    refine ev_pos (by omega) ?_
    refine ev_neg (by dsimp only; omega) ?_
    refine ev_pos (by dsimp only; omega) ?_
    have h2 := iha pre (b.enc ++ ⟨c, 0⟩ :: post) d ha (by rw [hl]; simp [Tm.enc]) (by omega) h
    rw [← List.length_append] at h2 ⊢
    exact ihb (pre ++ a.enc) (⟨c, 0⟩ :: post) (d + 1) hb (by rw [hl]; simp [Tm.enc]) (by omega) h2
theorem spec_holdsE (n : Int) (hn : n ≤ 4) (w : Nat) (hw : w < 16) (t : Tm) : t.Ok n → t.enc.length ≤ 1000 → Ev (fun k => spec_l3Holds.f k t.enc (w : Int)) (t.val w) := by
  induction t with
  | leaf m =>
    intro ht hl
    refine Ev.step (fun k => by rw [spec_l3Holds.f]) ?_
    have e : wrap64 (((Tm.leaf m).enc.length : Int) - 1) = ((0 : Nat) : Int) := by simp [Tm.enc, wrap64]
    have g : (Tm.leaf m).enc.getD 0 zM = m := rfl
    rw [e, rdM, g]
    have hlen : (Tm.leaf m).enc.length = 1 := rfl
    refine ev_pos (by omega) ?_
    refine ev_pos (by omega) ?_
    simp only [Tm.val]
    rcases ht with ⟨h0, h1, h2⟩ | ⟨h0, h1, h2⟩
    · refine ev_pos h0 ?_
      refine ev_pos h1 (ev_ret ?_)
      rw [if_pos h0, show m.f1 = ((m.f1.toNat : Nat) : Int) by omega, shr_tmod2 w m.f1.toNat (by omega), beq_one, Int.toNat_natCast]
    · refine ev_neg (by omega) ?_
      refine ev_pos h0 ?_
      refine ev_bind (spec_headsE w hw) (ev_ret ?_)
      rw [if_neg (by omega)]
  | neg t ih =>
    intro ht hl
    refine Ev.step (fun k => by rw [spec_l3Holds.f]) ?_
    have hlen : (Tm.neg t).enc.length = t.enc.length + 1 := by simp [Tm.enc]
    have g : (Tm.neg t).enc.getD t.enc.length zM = ⟨2, 0⟩ := getD_last zM t.enc ⟨2, 0⟩
    rw [hlen, w64 (x := ((t.enc.length + 1 : Nat) : Int) - 1) (by omega) (by omega), show ((t.enc.length + 1 : Nat) : Int) - 1 = (t.enc.length : Int) by omega, rdM, g, Int.toNat_natCast]
    have tk : (Tm.neg t).enc.take t.enc.length = t.enc := by simp [Tm.enc]
    rw [tk]
    refine ev_pos (by omega) ?_
    refine ev_pos (by omega) ?_
    refine ev_neg (by decide) ?_
    refine ev_neg (by decide) ?_
    refine ev_pos rfl ?_
    refine ev_pos (by omega) ?_
    exact ev_bind (ih ht (by omega)) (ev_ret rfl)
  | bin c a b iha ihb =>
    intro ht hl
    obtain ⟨hc, ha, hb⟩ := ht
    refine Ev.step (fun k => by rw [spec_l3Holds.f]) ?_
    have hbp := b.enc_pos
    have hlen : (Tm.bin c a b).enc.length = a.enc.length + b.enc.length + 1 := by simp [Tm.enc]; omega
    have g : (Tm.bin c a b).enc.getD (a.enc.length + b.enc.length) zM = ⟨c, 0⟩ := by
      have := getD_last zM (a.enc ++ b.enc) ⟨c, 0⟩
      rwa [List.length_append] at this
    rw [hlen, w64 (x := ((a.enc.length + b.enc.length + 1 : Nat) : Int) - 1) (by omega) (by omega), show ((a.enc.length + b.enc.length + 1 : Nat) : Int) - 1 = ((a.enc.length + b.enc.length : Nat) : Int) by omega, rdM, g,
      w64 (x := ((a.enc.length + b.enc.length : Nat) : Int) - 1) (by omega) (by omega), Int.toNat_natCast]
    have tk : (Tm.bin c a b).enc.take (a.enc.length + b.enc.length) = a.enc ++ b.enc := by
      rw [← List.length_append]
      exact List.take_left
    rw [tk]
    refine ev_pos (by omega) ?_
    refine ev_pos (by omega) ?_
    refine ev_neg (by dsimp only; omega) ?_
    refine ev_neg (by dsimp only; omega) ?_
    refine ev_neg (by dsimp only; omega) ?_
    have hst : Ev (fun k => spec_l2Starts.f k (Tm.bin c a b).enc (((a.enc.length + b.enc.length : Nat) : Int) - 1)) (a.enc.length : Int) := by
      unfold spec_l2Starts.f
      refine starts_l n (Tm.bin c a b).enc (by omega) (a.enc.length : Int) b a.enc [⟨c, 0⟩] 0 hb rfl (by omega) ?_
      refine Ev.step (fun k => by rw [spec_l2Starts.l0]) ?_
      refine ev_neg (by omega) (ev_ret ?_)
      rw [w64 (by omega) (by omega)]
      omega
    refine ev_bind hst ?_
    rw [Int.toNat_natCast]
    have tk2 : (Tm.bin c a b).enc.take a.enc.length = a.enc := by simp [Tm.enc]
    rw [tk2, List.drop_left]
    refine ev_pos (by omega) ?_
    refine ev_pos (by omega) ?_
    refine ev_bind (iha ha (by omega)) ?_
    refine ev_pos (by omega) ?_
    refine ev_pos (by omega) ?_
    refine ev_bind (ihb hb (by omega)) ?_
    simp only [Tm.val]
    rcases hc with rfl | rfl | rfl
    · refine ev_pos rfl ?_
      by_cases hv : a.val w = true
      · exact ev_pos hv (ev_ret (by simp [op2, hv]))
      · exact ev_neg hv (ev_ret (by simp [op2, hv]))
    · refine ev_neg (by decide) (ev_pos rfl ?_)
      by_cases hv : a.val w = true
      · exact ev_pos hv (ev_ret (by simp [op2, hv]))
      · exact ev_neg hv (ev_ret (by simp [op2, hv]))
    · refine ev_neg (by decide) (ev_neg (by decide) (ev_ret (by simp [op2])))
end Go.Proofs.Ytbhmippoeimliaa.M

/- The reference's ClaimOk, StoryOk and l4May. -/
set_option linter.unusedVariables false
set_option linter.unusedSimpArgs false
namespace Go.Proofs.Ytbhmippoeimliaa.M
open Go Go.RowKit Go.Proofs.YtbhmippoeimliaaW.PrintWords Go.Proofs.Ytbhmippoeimliaa.P
theorem spec_holdsT {n : Int} {l : List Mk} (h : TermP n l) (w : Nat) (hw : w < 16) : Ev (fun k => spec_l3Holds.f k l (w : Int)) (holdB l w) := by
  obtain ⟨t, ht, rfl⟩ := h.tree
  rw [holdB_enc n w t ht]
  exact spec_holdsE n h.1.2 w hw t ht (by have := h.2.1; omega)
theorem spec_mayE {n : Int} {l : List Mk} (h : TermP n l) (who : Int) (h0 : 0 ≤ who) (h4 : who < 4) (w : Nat) (hw : w < 16) : Ev (fun k => spec_l4May.f k who l (w : Int)) (mayB who.toNat l w) := by
  unfold spec_l4May.f
  refine ev_pos h0 ?_
  refine ev_bind (spec_holdsT h w hw) (ev_ret ?_)
  rw [show who = ((who.toNat : Nat) : Int) by omega, shr_tmod2 w who.toNat (by omega), beq_one]
  unfold mayB
  rw [Int.toNat_natCast]

theorem spec_claimOk (n : Int) (hn : n ≤ 9223372036854775807) (who : Int) (l : List Mk) (h64 : M64 l) (hl : l.length < 4611686018427387904) : Tells (fun k => spec_ClaimOk.f k n who l) (ClaimP n who l) := by
  unfold spec_ClaimOk.f
  refine Tells.ite (fun h0 => ?_) (fun h0 => Tells.no fun h' => h0 h'.1)
  refine Tells.ite (fun h1 => ?_) (fun h1 => Tells.no fun h' => h1 h'.2.1)
  obtain ⟨b, hb, hi⟩ := spec_termOk n hn l h64 hl
  refine Tells.bind hb ?_
  refine Tells.ite (fun h2 => Tells.dec ?_) (fun h2 => Tells.no fun h' => h2 (hi.2 h'.2.2.1))
  exact ⟨fun h => ⟨h0, h1, hi.1 h2, by omega⟩, fun h => by have := h.2.2.2; omega⟩
/-- Nothing in the story is beyond the machine's numbers. -/
def S64 (s : List Cl) : Prop := s.length < 4611686018427387904 ∧ ∀ i, M64 (s.getD i zC).f1 ∧ (s.getD i zC).f1.length < 4611686018427387904
end Go.Proofs.Ytbhmippoeimliaa.M

/- LinksOk of the program and of the reference tell whether these are links. -/
set_option linter.unusedVariables false
set_option linter.unusedSimpArgs false
namespace Go.Proofs.Ytbhmippoeimliaa.M
open Go Go.RowKit Go.Proofs.YtbhmippoeimliaaW.PrintWords Go.Proofs.Ytbhmippoeimliaa.P
abbrev Lnk := S31
abbrev zL : Lnk := z31
theorem l1InL (a b c : Int) : spec_l1In.f a b c = some (decide (b ≤ a ∧ a ≤ c)) := by
  unfold spec_l1In.f
  by_cases h : a ≥ b
  · rw [if_pos h]
    simp [h]
  · rw [if_neg h]
    simp
    intro h'
    omega
theorem peopleOkL (n : Int) : impl_peopleOk.f n = some (decide (1 ≤ n ∧ n ≤ 4)) := by
  unfold impl_peopleOk.f
  by_cases h : n ≥ 1
  · rw [if_pos h]
    simp [h]
  · rw [if_neg h]
    simp
    intro h'
    omega
theorem rdLnk (s : List Lnk) (i : Nat) : rd_T31 s (i : Int) = s.getD i zL := by simp [rd_T31]
theorem from_succL {P : Nat → Prop} {n j : Nat} (h0 : P j) (h : ∀ j', j + 1 ≤ j' → j' < n → P j') : ∀ j', j ≤ j' → j' < n → P j' := fun j' h1 h2 => by
  rcases Nat.eq_or_lt_of_le h1 with e | e
  · exact e ▸ h0
  · exact h j' e h2
/-- A link of so many people. -/
def LinkIn (n : Int) (l : Lnk) : Prop := 0 ≤ l.f0 ∧ l.f0 < n ∧ 0 ≤ l.f1 ∧ l.f1 < n
def LinksP (n : Int) (s : List Lnk) : Prop := (∀ i, i < s.length → LinkIn n (s.getD i zL)) ∧ (1 ≤ n ∧ n ≤ 4) ∧ s.length ≤ 6
theorem impl_links_l (n : Int) (s : List Lnk) (hn : s.length < 4611686018427387904) : ∀ d i : Nat, i + d = s.length →
    Tells (fun k => impl_LinksOk.l0 k n s s (s.length : Int) (i : Int)) ((∀ i', i ≤ i' → i' < s.length → LinkIn n (s.getD i' zL)) ∧ (1 ≤ n ∧ n ≤ 4) ∧ s.length ≤ 6) := by
  intro d
  induction d with
  | zero =>
    intro i hi
    refine Tells.step (fun k => by rw [impl_LinksOk.l0]) ?_
    refine Tells.neg (by omega) ?_
    refine Tells.bindc (peopleOkL n) ?_
    refine Tells.ite (fun h => Tells.dec ?_) (fun h => Tells.no fun h' => h (decide_eq_true h'.2.1))
    have h := of_decide_eq_true h
    exact ⟨fun h' => ⟨fun i' h1 h2 => by omega, h, by omega⟩, fun h' => by omega⟩
  | succ d ih =>
    intro i hi
    refine Tells.step (fun k => by rw [impl_LinksOk.l0]) ?_
    rw [rdLnk, w64s (by omega)]
    refine Tells.pos (by omega) ?_
    refine Tells.pos (by omega) ?_
    refine Tells.pos (by omega) ?_
    have no : ¬ LinkIn n (s.getD i zL) → Tells (fun _ => some false) ((∀ i', i ≤ i' → i' < s.length → LinkIn n (s.getD i' zL)) ∧ (1 ≤ n ∧ n ≤ 4) ∧ s.length ≤ 6) := fun h => Tells.no fun h' => h (h'.1 i (Nat.le_refl _) (by omega))
    refine Tells.ite (fun h => no fun h' => by have := h'.1; omega) (fun h1 => ?_)
    refine Tells.ite (fun h => no fun h' => by have := h'.2.1; omega) (fun h2 => ?_)
    refine Tells.ite (fun h => no fun h' => by have := h'.2.2.1; omega) (fun h3 => ?_)
    refine Tells.ite (fun h => no fun h' => by have := h'.2.2.2; omega) (fun h4 => ?_)
    refine (ih (i + 1) (by omega)).iff ⟨fun h => ⟨from_succL ⟨by omega, by omega, by omega, by omega⟩ h.1, h.2⟩, fun h => ⟨fun i' a b => h.1 i' (by omega) b, h.2⟩⟩
theorem impl_links (n : Int) (s : List Lnk) (hn : s.length < 4611686018427387904) : Tells (fun k => impl_LinksOk.f k n s) (LinksP n s) :=
  Tells.iff (impl_links_l n s hn s.length 0 (by omega)) ⟨fun h => ⟨fun i hi => h.1 i (by omega) hi, h.2⟩, fun h => ⟨fun i _ hi => h.1 i hi, h.2⟩⟩
theorem spec_links_l (n : Int) (s : List Lnk) (hn : s.length < 4611686018427387904) : ∀ d i : Nat, i + d = s.length →
    Tells (fun k => spec_LinksOk.l0 k n s (i : Int)) ((∀ i', i ≤ i' → i' < s.length → LinkIn n (s.getD i' zL)) ∧ (1 ≤ n ∧ n ≤ 4) ∧ s.length ≤ 6) := by
  intro d
  induction d with
  | zero =>
    intro i hi
    refine Tells.step (fun k => by rw [spec_LinksOk.l0]) ?_
    refine Tells.neg (by omega) ?_
    refine Tells.bindc (l1InL _ _ _) ?_
    refine Tells.ite (fun h => Tells.dec ?_) (fun h => Tells.no fun h' => h (decide_eq_true h'.2.1))
    have h := of_decide_eq_true h
    exact ⟨fun h' => ⟨fun i' h1 h2 => by omega, h, by omega⟩, fun h' => by omega⟩
  | succ d ih =>
    intro i hi
    refine Tells.step (fun k => by rw [spec_LinksOk.l0]) ?_
    rw [rdLnk, w64s (by omega)]
    refine Tells.pos (by omega) ?_
    refine Tells.pos (by omega) ?_
    have no : ¬ LinkIn n (s.getD i zL) → Tells (fun _ => some false) ((∀ i', i ≤ i' → i' < s.length → LinkIn n (s.getD i' zL)) ∧ (1 ≤ n ∧ n ≤ 4) ∧ s.length ≤ 6) := fun h => Tells.no fun h' => h (h'.1 i (Nat.le_refl _) (by omega))
    refine Tells.ite (fun h => no fun h' => by have := h'.1; omega) (fun h1 => ?_)
    refine Tells.ite (fun h => no fun h' => by have := h'.2.1; omega) (fun h2 => ?_)
    refine Tells.ite (fun h => no fun h' => by have := h'.2.2.1; omega) (fun h3 => ?_)
    refine Tells.ite (fun h => no fun h' => by have := h'.2.2.2; omega) (fun h4 => ?_)
    refine (ih (i + 1) (by omega)).iff ⟨fun h => ⟨from_succL ⟨by omega, by omega, by omega, by omega⟩ h.1, h.2⟩, fun h => ⟨fun i' a b => h.1 i' (by omega) b, h.2⟩⟩
theorem spec_links (n : Int) (s : List Lnk) (hn : s.length < 4611686018427387904) : Tells (fun k => spec_LinksOk.f k n s) (LinksP n s) :=
  Tells.iff (spec_links_l n s hn s.length 0 (by omega)) ⟨fun h => ⟨fun i hi => h.1 i (by omega) hi, h.2⟩, fun h => ⟨fun i _ hi => h.1 i hi, h.2⟩⟩
open Classical in
noncomputable def linksB (n : Int) (s : List Lnk) : Bool := decide (LinksP n s)
theorem linksB_iff (n : Int) (s : List Lnk) : linksB n s = true ↔ LinksP n s := by simp [linksB]
theorem impl_linksE (n : Int) (s : List Lnk) (hn : s.length < 4611686018427387904) : Ev (fun k => impl_LinksOk.f k n s) (linksB n s) := (impl_links n s hn).ev (linksB_iff n s)
theorem spec_linksE (n : Int) (s : List Lnk) (hn : s.length < 4611686018427387904) : Ev (fun k => spec_LinksOk.f k n s) (linksB n s) := (spec_links n s hn).ev (linksB_iff n s)
end Go.Proofs.Ytbhmippoeimliaa.M

/- The story of links: both LinkStory tell it. -/
set_option linter.unusedVariables false
set_option linter.unusedSimpArgs false
namespace Go.Proofs.Ytbhmippoeimliaa.M
open Go Go.RowKit Go.Proofs.YtbhmippoeimliaaW.PrintWords Go.Proofs.Ytbhmippoeimliaa.P
/-- What a link says. -/
def linkM (l : Lnk) : List Mk := if l.f2 = true then [⟨0, l.f1⟩] else [⟨0, l.f1⟩, ⟨2, 0⟩]
def linkC (l : Lnk) : Cl := ⟨l.f0, linkM l⟩
theorem linkM_len (l : Lnk) : (linkM l).length ≤ 2 := by
  unfold linkM
  split <;> simp
theorem linkM_ok (n : Int) (l : Lnk) (hn : 1 ≤ n ∧ n ≤ 4) (h : LinkIn n l) : ClaimP n l.f0 (linkM l) := by
  obtain ⟨h0, h1, h2, h3⟩ := h
  refine ⟨h0, h1, ?_, by have := linkM_len l; omega⟩
  unfold linkM
  split
  · exact termP_enc n (.leaf ⟨0, l.f1⟩) hn (.inl ⟨rfl, h2, h3⟩) (by simp [Tm.enc])
  · exact termP_enc n (.neg (.leaf ⟨0, l.f1⟩)) hn (show Tm.Ok n (.leaf ⟨0, l.f1⟩) from .inl ⟨rfl, h2, h3⟩) (by simp [Tm.enc])
theorem linkM_64 (n : Int) (l : Lnk) (hn : 1 ≤ n ∧ n ≤ 4) (h : LinkIn n l) : M64 (linkM l) := by
  obtain ⟨h0, h1, h2, h3⟩ := h
  refine getD_all (linkM l) zM (fun m => m.f1 ≤ 9223372036854775807) (by decide) fun m hm => ?_
  unfold linkM at hm
  split at hm
  · obtain rfl : m = ⟨0, l.f1⟩ := by simpa using hm
    show l.f1 ≤ _
    omega
  · rcases List.mem_cons.1 hm with rfl | hm
    · show l.f1 ≤ _
      omega
    · obtain rfl : m = ⟨2, 0⟩ := by simpa using hm
      decide
theorem impl_clone (l : List Mk) (h : l.length < 8796093022208) : impl_Mark.f l = some l := by
  unfold impl_Mark.f
  simp [h]
theorem impl_claimByE (n who : Int) (l : List Mk) (h : ClaimP n who l) : Ev (fun k => impl_claimBy.f k n who l) (who, l, true) := by
  have hl := h.2.2.2
  unfold impl_claimBy.f
  refine ev_bindc (impl_clone l (by omega)) ?_
  refine ev_bind ((impl_claimOk n who l).ev (b := true) ⟨fun _ => h, fun _ => rfl⟩) ?_
  exact ev_pos rfl (ev_ret rfl)
theorem impl_kindE (n : Int) (l : Lnk) (hn : 1 ≤ n ∧ n ≤ 4) (h : LinkIn n l) : Ev (fun k => impl_KindClaim.f k n l.f0 l.f1 l.f2) (l.f0, linkM l, true) := by
  have hc := linkM_ok n l hn h
  unfold impl_KindClaim.f
  refine ev_bindc rfl ?_
  unfold linkM at *
  by_cases ht : l.f2 = true
  · rw [if_pos ht] at *
    refine ev_pos ht ?_
    exact ev_bind (impl_claimByE n _ _ hc) (ev_ret rfl)
  · rw [if_neg ht] at *
    refine ev_neg ht ?_
    refine ev_pos (by simp) ?_
    exact ev_bind (impl_claimByE n _ _ hc) (ev_ret rfl)
theorem spec_kindE (n : Int) (l : Lnk) (hn : 1 ≤ n ∧ n ≤ 4) (h : LinkIn n l) : Ev (fun k => spec_KindClaim.f k n l.f0 l.f1 l.f2) (l.f0, linkM l, true) := by
  have hc := linkM_ok n l hn h
  have h64 := linkM_64 n l hn h
  have hlen := linkM_len l
  unfold spec_KindClaim.f
  refine ev_bindc rfl ?_
  unfold linkM at *
  by_cases ht : l.f2 = true
  · rw [if_pos ht] at *
    refine ev_pos ht ?_
    refine ev_bind ((spec_claimOk n (by omega) _ _ h64 (by omega)).ev (b := true) ⟨fun _ => hc, fun _ => rfl⟩) ?_
    exact ev_pos rfl (ev_ret rfl)
  · rw [if_neg ht] at *
    refine ev_neg ht ?_
    refine ev_pos (by simp) ?_
    refine ev_bindc rfl ?_
    refine ev_bind ((spec_claimOk n (by omega) _ _ h64 (by omega)).ev (b := true) ⟨fun _ => hc, fun _ => rfl⟩) ?_
    exact ev_pos rfl (ev_ret rfl)
theorem map_take_succ (s : List Lnk) (i : Nat) (h : i < s.length) : (s.take i).map linkC ++ [linkC (s.getD i zL)] = (s.take (i + 1)).map linkC := by
  rw [List.take_add_one, List.map_append, getD_lt s zL i h, List.getElem?_eq_getElem h]
  rfl
theorem impl_linkStory_l (n : Int) (s : List Lnk) (h : LinksP n s) : ∀ d i : Nat, i + d = s.length →
    Ev (fun k => impl_LinkStory.l0 k n ((s.take i).map linkC) s (s.length : Int) (i : Int)) (s.map linkC, true) := by
  intro d
  have hl := h.2.2
  induction d with
  | zero =>
    intro i hi
    refine Ev.step (fun k => by rw [impl_LinkStory.l0]) ?_
    refine ev_neg (by omega) (ev_ret ?_)
    rw [List.take_of_length_le (by omega)]
  | succ d ih =>
    intro i hi
    refine Ev.step (fun k => by rw [impl_LinkStory.l0]) ?_
    rw [rdLnk, w64s (i := i) (by omega)]
    refine ev_pos (by omega) ?_
    refine ev_pos (by omega) ?_
    refine ev_pos (by omega) ?_
    refine ev_bind (impl_kindE n _ h.2.1 (h.1 i (by omega))) ?_
    refine ev_pos (by simp; omega) ?_
    have := ih (i + 1) (by omega)
    rw [← map_take_succ s i (by omega)] at this
    exact this
theorem spec_linkStory_l (n : Int) (s : List Lnk) (h : LinksP n s) : ∀ d i : Nat, i + d = s.length →
    Ev (fun k => spec_LinkStory.l0 k n s ((s.take i).map linkC) (i : Int)) (s.map linkC, true) := by
  intro d
  have hl := h.2.2
  induction d with
  | zero =>
    intro i hi
    refine Ev.step (fun k => by rw [spec_LinkStory.l0]) ?_
    refine ev_neg (by omega) (ev_ret ?_)
    rw [List.take_of_length_le (by omega)]
  | succ d ih =>
    intro i hi
    refine Ev.step (fun k => by rw [spec_LinkStory.l0]) ?_
    rw [rdLnk, w64s (i := i) (by omega)]
    refine ev_pos (by omega) ?_
    refine ev_pos (by omega) ?_
    refine ev_bind (spec_kindE n _ h.2.1 (h.1 i (by omega))) ?_
    refine ev_pos (by simp; omega) ?_
    have := ih (i + 1) (by omega)
    rw [← map_take_succ s i (by omega)] at this
    exact this
/-- LinkStory, as both tell it. -/
noncomputable def linkStoryF (n : Int) (s : List Lnk) : List Cl × Bool := if linksB n s = true then (s.map linkC, true) else ([], false)
theorem impl_linkStoryE (n : Int) (s : List Lnk) (hs : s.length < 4611686018427387904) : Ev (fun k => impl_LinkStory.f k n s) (linkStoryF n s) := by
  unfold impl_LinkStory.f linkStoryF
  refine ev_bind (impl_linksE n s hs) ?_
  by_cases h : linksB n s = true
  · refine ev_pos h ?_
    rw [if_pos h]
    exact impl_linkStory_l n s ((linksB_iff n s).1 h) s.length 0 (by omega)
  · refine ev_neg h (ev_ret ?_)
    rw [if_neg h]
theorem spec_linkStoryE (n : Int) (s : List Lnk) (hs : s.length < 4611686018427387904) : Ev (fun k => spec_LinkStory.f k n s) (linkStoryF n s) := by
  unfold spec_LinkStory.f linkStoryF
  refine ev_bindc rfl ?_
  refine ev_bind (spec_linksE n s hs) ?_
  by_cases h : linksB n s = true
  · refine ev_pos h ?_
    rw [if_pos h]
    exact spec_linkStory_l n s ((linksB_iff n s).1 h) s.length 0 (by omega)
  · refine ev_neg h (ev_ret ?_)
    rw [if_neg h]
theorem linkStory_ok (n : Int) (s : List Lnk) (h : LinksP n s) : StoryP n (s.map linkC) := by
  refine ⟨fun i hi => ?_, h.2.1, by simpa using h.2.2⟩
  rw [List.length_map] at hi
  have e : (s.map linkC).getD i zC = linkC (s.getD i zL) := by
    rw [getD_lt _ _ _ (by simpa using hi), getD_lt _ _ _ hi, List.getElem_map]
  rw [e]
  exact linkM_ok n _ h.2.1 (h.1 i hi)
end Go.Proofs.Ytbhmippoeimliaa.M

/- Tables of claims and stories: the program's. -/
set_option linter.unusedVariables false
set_option linter.unusedSimpArgs false
namespace Go.Proofs.Ytbhmippoeimliaa.M
open Go Go.RowKit Go.Proofs.YtbhmippoeimliaaW.PrintWords Go.Proofs.Ytbhmippoeimliaa.P
theorem tabS' (p : Nat → Bool) (j : Nat) (hj : j ≤ 16) (h : p j = true) : Go.bits .or .i64 (tabN p j : Int) (pw j : Int) = ((tabN p (j + 1) : Nat) : Int) := by
  rw [or_pw p j hj]
  simp [tabN, h]
theorem tabZ' (p : Nat → Bool) (j : Nat) (h : p j = false) : tabN p j = tabN p (j + 1) := by simp [tabN, h]
theorem shl_u64' (n : Nat) (hn : n ≤ 4) : shl .u64 1 (n : Int) = (pw n : Int) := by
  rcases (by omega : n = 0 ∨ n = 1 ∨ n = 2 ∨ n = 3 ∨ n = 4) with rfl | rfl | rfl | rfl | rfl <;> decide
theorem shl2' (n : Nat) (hn : n ≤ 4) : shl .i64 1 (shl .u64 1 (n : Int)) = (pw (pw n) : Int) := by
  have := pwm4 hn
  rw [shl_u64' n hn, shl_nat _ (by omega)]
theorem ppw' {n : Nat} (h : n ≤ 4) : pw (pw n) ≤ 65536 := pw16 (pwm4 h)
theorem and_nat' (a b : Nat) (ha : a < 4294967296) (hb : b < 4294967296) : Go.bits .and .i64 (a : Int) (b : Int) = ((a &&& b : Nat) : Int) :=
  (bits_nat .i64 63 (by decide) wraps_i64 a b (by omega) (by omega)).1
/-- The table of a claim, and of a story. -/
def tabC (n : Nat) (c : Cl) : Nat := tabN (mayB c.f0.toNat c.f1) (pw n)
def tabS (n : Nat) (s : List Cl) : Nat := s.foldl (fun t c => t &&& tabC n c) (pw (pw n) - 1)
theorem tabC_lt (n : Nat) (hn : n ≤ 4) (c : Cl) : tabC n c < 65536 := Nat.lt_of_lt_of_le (tabN_lt _ _) (ppw' hn)
theorem impl_claimTableE (n : Nat) (c : Cl) (h : ClaimP n c.f0 c.f1) : impl_ClaimTable.f (n : Int) c.f0 c.f1 = some ((tabC n c : Nat) : Int) := by
  unfold impl_ClaimTable.f
  rw [if_pos h]
  rfl
theorem drop_C (s : List Cl) (i : Nat) (h : i < s.length) : s.drop i = s.getD i zC :: s.drop (i + 1) := by
  rw [List.drop_eq_getElem_cons h, getD_lt s zC i h]
theorem impl_story_l (n : Nat) (hn : n ≤ 4) (s : List Cl) (h : ∀ i, i < s.length → ClaimP n (s.getD i zC).f0 (s.getD i zC).f1) (hs : s.length ≤ 6) : ∀ d i a : Nat, i + d = s.length → a < 65536 →
    Ev (fun k => impl_storyTable.l0 k (n : Int) (a : Int) s (s.length : Int) (i : Int)) (((s.drop i).foldl (fun t c => t &&& tabC n c) a : Nat) : Int) := by
  intro d
  induction d with
  | zero =>
    intro i a hi ha
    refine Ev.step (fun k => by rw [impl_storyTable.l0]) ?_
    refine ev_neg (by omega) (ev_ret ?_)
    rw [List.drop_eq_nil_of_le (by omega)]
    rfl
  | succ d ih =>
    intro i a hi ha
    refine Ev.step (fun k => by rw [impl_storyTable.l0]) ?_
    have hc := tabC_lt n hn (s.getD i zC)
    rw [rdC, w64s (i := i) (by omega), drop_C s i (by omega), List.foldl_cons]
    refine ev_pos (by omega) ?_
    refine ev_pos (by omega) ?_
    refine ev_pos (by omega) ?_
    refine ev_bindc (impl_claimTableE n _ (h i (by omega))) ?_
    rw [and_nat' _ _ (by omega) (by omega)]
    exact ih (i + 1) _ (by omega) (Nat.lt_of_le_of_lt Nat.and_le_left ha)
theorem impl_storyE (n : Nat) (s : List Cl) (h : StoryP n s) : Ev (fun k => impl_storyTable.f k (n : Int) s) ((tabS n s : Nat) : Int) := by
  have hn : n ≤ 4 := by have := h.2.1.2; omega
  have hp := ppw' hn
  have hpos := pw_pos (pw n)
  unfold impl_storyTable.f tabS
  rw [shl2' n hn, w64 (by omega) (by omega), show (pw (pw n) : Int) - 1 = ((pw (pw n) - 1 : Nat) : Int) by omega]
  refine ev_pos (by omega) ?_
  exact impl_story_l n hn s h.1 h.2.2 s.length 0 (pw (pw n) - 1) (by omega) (by omega)
end Go.Proofs.Ytbhmippoeimliaa.M

/- The program's StoryOk tells whether it is a story. -/
set_option linter.unusedVariables false
set_option linter.unusedSimpArgs false
namespace Go.Proofs.Ytbhmippoeimliaa.M
open Go Go.RowKit Go.Proofs.YtbhmippoeimliaaW.PrintWords Go.Proofs.Ytbhmippoeimliaa.P
theorem impl_storyOk_l (n : Int) (s : List Cl) (hs : s.length < 4611686018427387904) : ∀ d i : Nat, i + d = s.length →
    Tells (fun k => impl_StoryOk.l0 k n s s (s.length : Int) (i : Int)) ((∀ j, i ≤ j → j < s.length → ClaimP n (s.getD j zC).f0 (s.getD j zC).f1) ∧ (1 ≤ n ∧ n ≤ 4) ∧ s.length ≤ 6) := by
  intro d
  induction d with
  | zero =>
    intro i hi
    refine Tells.step (fun k => by rw [impl_StoryOk.l0]) ?_
    refine Tells.neg (by omega) ?_
    refine Tells.bindc (peopleOkT n) ?_
    refine Tells.ite (fun h => Tells.dec ?_) (fun h => Tells.no fun h' => h (decide_eq_true h'.2.1))
    have h := of_decide_eq_true h
    exact ⟨fun h' => ⟨fun j h1 h2 => by omega, h, by omega⟩, fun h' => by omega⟩
  | succ d ih =>
    intro i hi
    refine Tells.step (fun k => by rw [impl_StoryOk.l0]) ?_
    rw [rdC, w64s (i := i) (by omega)]
    refine Tells.pos (by omega) ?_
    refine Tells.pos (by omega) ?_
    refine Tells.pos (by omega) ?_
    obtain ⟨b, hb, hi'⟩ := impl_claimOk n (s.getD i zC).f0 (s.getD i zC).f1
    refine Tells.bind hb ?_
    refine Tells.ite (fun h => ?_) (fun h => Tells.no fun h' => h (hi'.2 (h'.1 i (Nat.le_refl _) (by omega))))
    refine (ih (i + 1) (by omega)).iff ?_
    constructor
    · intro h'
      refine ⟨fun j h1 h2 => ?_, h'.2⟩
      rcases Nat.eq_or_lt_of_le h1 with e | e
      · exact e ▸ hi'.1 h
      · exact h'.1 j e h2
    · exact fun h' => ⟨fun j h1 h2 => h'.1 j (by omega) h2, h'.2⟩
theorem impl_storyOk (n : Int) (s : List Cl) (hs : s.length < 4611686018427387904) : Tells (fun k => impl_StoryOk.f k n s) (StoryP n s) := by
  unfold impl_StoryOk.f
  refine (impl_storyOk_l n s hs s.length 0 (by omega)).iff ?_
  exact ⟨fun h => ⟨fun j hj => h.1 j (by omega) hj, h.2⟩, fun h => ⟨fun j _ hj => h.1 j hj, h.2⟩⟩
end Go.Proofs.Ytbhmippoeimliaa.M

/- Which worlds a story's table has; the program's StoryTable tells it. -/
set_option linter.unusedVariables false
set_option linter.unusedSimpArgs false
namespace Go.Proofs.Ytbhmippoeimliaa.M
open Go Go.RowKit Go.Proofs.YtbhmippoeimliaaW.PrintWords Go.Proofs.Ytbhmippoeimliaa.P
theorem bit_test (m i : Nat) : bitN m i = 1 ↔ m.testBit i = true := by
  rw [Nat.testBit_eq_decide_div_mod_eq, decide_eq_true_eq]
  rfl
theorem tab_bit (p : Nat → Bool) (N w : Nat) : bitN (tabN p N) w = 1 ↔ w < N ∧ p w = true := by
  rw [bit_test]
  induction N with
  | zero => simp [tabN]
  | succ N ih =>
    simp only [tabN]
    have hl := tabN_lt p N
    unfold pw at hl ⊢
    by_cases h : p N = true
    · rw [if_pos h, Nat.add_comm]
      rcases Nat.lt_trichotomy w N with hw | hw | hw
      · rw [Nat.testBit_two_pow_add_gt hw, ih]
        exact ⟨fun h => ⟨by omega, h.2⟩, fun h => ⟨hw, h.2⟩⟩
      · subst hw
        rw [Nat.testBit_two_pow_add_eq, Nat.testBit_lt_two_pow hl]
        exact ⟨fun _ => ⟨by omega, h⟩, fun _ => rfl⟩
      · rw [Nat.testBit_lt_two_pow (by
          have : 2 ^ (N + 1) ≤ 2 ^ w := Nat.pow_le_pow_right (by decide) hw
          omega)]
        exact ⟨fun h => (by cases h), fun h => by omega⟩
    · rw [if_neg h, Nat.add_zero, ih]
      constructor
      · exact fun h => ⟨by omega, h.2⟩
      · rintro ⟨a, b⟩
        refine ⟨?_, b⟩
        rcases Nat.lt_or_eq_of_le (Nat.le_of_lt_succ a) with c | c
        · exact c
        · exact absurd (c ▸ b) h
theorem tabS_bit (n : Nat) (s : List Cl) (w : Nat) : bitN (tabS n s) w = 1 ↔ w < pw n ∧ ∀ c ∈ s, mayB c.f0.toNat c.f1 w = true := by
  have fold : ∀ (s : List Cl) (a : Nat), bitN (s.foldl (fun t c => t &&& tabC n c) a) w = 1 ↔ bitN a w = 1 ∧ ∀ c ∈ s, bitN (tabC n c) w = 1 := by
    intro s
    induction s with
    | nil => intro a; simp
    | cons c s ih =>
      intro a
      rw [List.foldl_cons, ih, bit_test, Nat.testBit_and, Bool.and_eq_true, ← bit_test, ← bit_test]
      constructor
      · rintro ⟨⟨h1, h2⟩, h3⟩
        exact ⟨h1, fun x hx => by
          rcases List.mem_cons.1 hx with rfl | hx
          · exact h2
          · exact h3 x hx⟩
      · rintro ⟨h1, h2⟩
        exact ⟨⟨h1, h2 c (by simp)⟩, fun x hx => h2 x (by simp [hx])⟩
  unfold tabS
  rw [fold]
  have e : bitN (pw (pw n) - 1) w = 1 ↔ w < pw n := by
    rw [bit_test]
    unfold pw
    rw [Nat.testBit_two_pow_sub_one, decide_eq_true_eq]
  rw [e]
  constructor
  · rintro ⟨h1, h2⟩
    exact ⟨h1, fun c hc => ((tab_bit _ _ _).1 (h2 c hc)).2⟩
  · rintro ⟨h1, h2⟩
    exact ⟨h1, fun c hc => (tab_bit _ _ _).2 ⟨h1, h2 c hc⟩⟩
theorem tabS_max (n : Nat) (s : List Cl) : tabS n s < pw (pw n) := by
  have h : ∀ (s : List Cl) (a : Nat), a < pw (pw n) → s.foldl (fun t c => t &&& tabC n c) a < pw (pw n) := by
    intro s
    induction s with
    | nil => exact fun a h => h
    | cons c s ih => exact fun a h => ih _ (Nat.lt_of_le_of_lt Nat.and_le_left h)
  have := pw_pos (pw n)
  exact h s _ (by omega)
theorem impl_storyTableE (n : Nat) (s : List Cl) (h : StoryP n s) : Ev (fun k => impl_StoryTable.f k (n : Int) s) ((tabS n s : Nat) : Int) := by
  unfold impl_StoryTable.f
  refine ev_bind ((impl_storyOk n s (by have := h.2.2; omega)).ev (b := true) ⟨fun _ => h, fun _ => rfl⟩) ?_
  refine ev_pos rfl ?_
  exact ev_bind (impl_storyE n s h) (ev_ret rfl)
/-- The worlds of a story. -/
theorem worldsS (n : Nat) (h1 : 1 ≤ n) (h4 : n ≤ 4) (s : List Cl) : worldsF (n : Int) ((tabS n s : Nat) : Int) = castL (wl (tabS n s) n) := by
  have := tabS_max n s
  unfold worldsF
  rw [if_pos ((tabOk_nat n _).2 ⟨h1, h4, by omega, by omega⟩), Int.toNat_natCast, Int.toNat_natCast]
end Go.Proofs.Ytbhmippoeimliaa.M

/- Groups of people who are linked, without a program in sight: the row of least ones is one alone; joining groups link by link makes it, and so does lowering both ends of each link as often as there are people. -/
set_option linter.unusedVariables false
set_option linter.unusedSimpArgs false
namespace Go.Proofs.Ytbhmippoeimliaa.M
open Go Go.RowKit Go.Proofs.YtbhmippoeimliaaW.PrintWords
abbrev Edges := List (Nat × Nat)
/-- Linked, one after the other, in either direction. -/
def Conn (E : Edges) (i j : Nat) : Prop := ∀ f : Nat → Nat, (∀ e ∈ E, f e.1 = f e.2) → f i = f j
theorem Conn.refl {E : Edges} (i : Nat) : Conn E i i := fun _ _ => rfl
theorem Conn.symm {E : Edges} {i j : Nat} (h : Conn E i j) : Conn E j i := fun f hf => (h f hf).symm
theorem Conn.trans {E : Edges} {i j k : Nat} (h : Conn E i j) (g : Conn E j k) : Conn E i k := fun f hf => (h f hf).trans (g f hf)
theorem Conn.of {E : Edges} {e : Nat × Nat} (h : e ∈ E) : Conn E e.1 e.2 := fun _ hf => hf e h
theorem Conn.mono {E F : Edges} (hs : ∀ e ∈ E, e ∈ F) {i j : Nat} (h : Conn E i j) : Conn F i j := fun f hf => h f fun e he => hf e (hs e he)
/-- Each person's least one. -/
def Weak (n : Nat) (E : Edges) (r : List Nat) : Prop := r.length = n ∧ ∀ j, j < n → r.getD j 0 ≤ j ∧ Conn E j (r.getD j 0)
def IsRow (n : Nat) (E : Edges) (r : List Nat) : Prop := Weak n E r ∧ ∀ e ∈ E, r.getD e.1 0 = r.getD e.2 0
theorem isRow_conn {n : Nat} {E : Edges} {r : List Nat} (h : IsRow n E r) {i j : Nat} (c : Conn E i j) : r.getD i 0 = r.getD j 0 := c (fun k => r.getD k 0) h.2
theorem isRow_idem {n : Nat} {E : Edges} {r : List Nat} (h : IsRow n E r) {j : Nat} (hj : j < n) : r.getD (r.getD j 0) 0 = r.getD j 0 := (isRow_conn h (h.1.2 j hj).2).symm
theorem isRow_iff {n : Nat} {E : Edges} {r : List Nat} (h : IsRow n E r) {i j : Nat} (hi : i < n) (hj : j < n) : Conn E i j ↔ r.getD i 0 = r.getD j 0 :=
  ⟨isRow_conn h, fun e => (h.1.2 i hi).2.trans (e ▸ (h.1.2 j hj).2.symm)⟩
theorem isRow_uniq {n : Nat} {E : Edges} {r s : List Nat} (h : IsRow n E r) (k : IsRow n E s) : r = s := by
  refine ext_getD 0 r s (h.1.1.trans k.1.1.symm) fun j hj => ?_
  rw [k.1.1] at hj
  have half : ∀ {r s : List Nat}, IsRow n E r → IsRow n E s → s.getD j 0 ≤ r.getD j 0 := fun {r s} h k => by
    have hr := h.1.2 j hj
    rw [isRow_conn k hr.2]
    exact (k.1.2 _ (by omega)).1
  have a := half h k
  have b := half k h
  omega
theorem isRow_same {n : Nat} {E F : Edges} {r : List Nat} (hs : ∀ e, e ∈ E ↔ e ∈ F) (h : IsRow n E r) : IsRow n F r :=
  ⟨⟨h.1.1, fun j hj => ⟨(h.1.2 j hj).1, (h.1.2 j hj).2.mono fun e he => (hs e).1 he⟩⟩, fun e he => h.2 e ((hs e).2 he)⟩
theorem range_getD (n j : Nat) (h : j < n) : (List.range n).getD j 0 = j := by
  rw [getD_lt _ _ _ (by simpa using h), List.getElem_range]
theorem weak_start (n : Nat) (E : Edges) : Weak n E (List.range n) :=
  ⟨List.length_range, fun j hj => by rw [range_getD n j hj]; exact ⟨Nat.le_refl _, Conn.refl _⟩⟩
theorem isRow_start (n : Nat) : IsRow n [] (List.range n) := ⟨weak_start n [], fun e he => by cases he⟩

/-! ### joined link by link -/
def joinL (a b : Nat) (r : List Nat) : List Nat := r.map fun x => if x = max a b then min a b else x
theorem joinL_getD (a b : Nat) (r : List Nat) (j : Nat) (h : j < r.length) : (joinL a b r).getD j 0 = if r.getD j 0 = max a b then min a b else r.getD j 0 := by
  unfold joinL
  rw [getD_lt _ _ _ (by simpa using h), getD_lt _ _ _ h, List.getElem_map]
theorem isRow_join {n : Nat} {E : Edges} {r : List Nat} {e : Nat × Nat} (h : IsRow n E r) (he : ∀ x ∈ E, x.1 < n ∧ x.2 < n) (h1 : e.1 < n) (h2 : e.2 < n) : IsRow n (E ++ [e]) (joinL (r.getD e.1 0) (r.getD e.2 0) r) := by
  obtain ⟨⟨hl, hw⟩, hc⟩ := h
  have up : ∀ {i j : Nat}, Conn E i j → Conn (E ++ [e]) i j := fun c => c.mono fun x hx => List.mem_append_left _ hx
  have hab : Conn (E ++ [e]) (r.getD e.1 0) (r.getD e.2 0) := (up (hw _ h1).2).symm.trans ((Conn.of (by simp)).trans (up (hw _ h2).2))
  refine ⟨⟨by simp [joinL, hl], fun j hj => ?_⟩, fun x hx => ?_⟩
  · have hj' := hw j hj
    rw [joinL_getD _ _ _ _ (by omega)]
    by_cases hm : r.getD j 0 = max (r.getD e.1 0) (r.getD e.2 0)
    · rw [if_pos hm]
      refine ⟨by omega, (up hj'.2).trans ?_⟩
      rw [hm]
      rcases Nat.le_total (r.getD e.1 0) (r.getD e.2 0) with hle | hle
      · rw [Nat.max_eq_right hle, Nat.min_eq_left hle]
        exact hab.symm
      · rw [Nat.max_eq_left hle, Nat.min_eq_right hle]
        exact hab
    · rw [if_neg hm]
      exact ⟨hj'.1, up hj'.2⟩
  · rcases List.mem_append.1 hx with hx | hx
    · have := he x hx
      rw [joinL_getD _ _ _ _ (by omega), joinL_getD _ _ _ _ (by omega), hc x hx]
    · obtain rfl : x = e := by simpa using hx
      rw [joinL_getD _ _ _ _ (by omega), joinL_getD _ _ _ _ (by omega)]
      have : ∀ y, y = r.getD x.1 0 ∨ y = r.getD x.2 0 → (if y = max (r.getD x.1 0) (r.getD x.2 0) then min (r.getD x.1 0) (r.getD x.2 0) else y) = min (r.getD x.1 0) (r.getD x.2 0) := fun y hy => by
        split <;> omega
      rw [this _ (.inl rfl), this _ (.inr rfl)]

/-! ### lowered round by round -/
def lowL (r : List Nat) (e : Nat × Nat) : List Nat := (r.set e.1 (min (r.getD e.1 0) (r.getD e.2 0))).set e.2 (min (r.getD e.1 0) (r.getD e.2 0))
theorem lowL_len (r : List Nat) (e : Nat × Nat) : (lowL r e).length = r.length := by simp [lowL]
theorem lowL_getD (r : List Nat) (e : Nat × Nat) (h1 : e.1 < r.length) (h2 : e.2 < r.length) (j : Nat) : (lowL r e).getD j 0 = if j = e.2 ∨ j = e.1 then min (r.getD e.1 0) (r.getD e.2 0) else r.getD j 0 := by
  unfold lowL
  rw [set_getD 0 _ _ _ (by simpa using h2), set_getD 0 _ _ _ h1]
  by_cases a : j = e.2
  · rw [if_pos a, if_pos (.inl a)]
  · rw [if_neg a]
    by_cases b : j = e.1
    · rw [if_pos b, if_pos (.inr b)]
    · rw [if_neg b, if_neg (by omega)]
theorem weak_low {n : Nat} {E : Edges} {r : List Nat} {e : Nat × Nat} (h : Weak n E r) (he : e ∈ E) (h1 : e.1 < n) (h2 : e.2 < n) : Weak n E (lowL r e) := by
  obtain ⟨hl, hw⟩ := h
  refine ⟨by rw [lowL_len, hl], fun j hj => ?_⟩
  rw [lowL_getD _ _ (by omega) (by omega)]
  have c := Conn.of he
  have a := hw _ h1
  have b := hw _ h2
  have g := hw j hj
  have key : Conn E e.1 (min (r.getD e.1 0) (r.getD e.2 0)) := by
    rcases Nat.le_total (r.getD e.1 0) (r.getD e.2 0) with hle | hle
    · rw [Nat.min_eq_left hle]
      exact a.2
    · rw [Nat.min_eq_right hle]
      exact c.trans b.2
  by_cases q : j = e.2 ∨ j = e.1
  · rw [if_pos q]
    rcases q with q | q
    · subst q
      exact ⟨by omega, c.symm.trans key⟩
    · subst q
      exact ⟨by omega, key⟩
  · rw [if_neg q]
    exact g
/-- The least of all who are linked to it. -/
def IsMin (E : Edges) (m : Nat) : Prop := ∀ j, Conn E m j → m ≤ j
theorem has_min (E : Edges) : ∀ k j, j < k → ∃ m, Conn E j m ∧ IsMin E m := by
  intro k
  induction k with
  | zero => exact fun j hj => by omega
  | succ k ih =>
    intro j hj
    by_cases h : ∃ i, i < j ∧ Conn E j i
    · obtain ⟨i, hi, hc⟩ := h
      obtain ⟨m, hm, hmin⟩ := ih i (by omega)
      exact ⟨m, hc.trans hm, hmin⟩
    · exact ⟨j, Conn.refl _, fun i hi => Nat.le_of_not_lt fun h' => h ⟨i, h', hi⟩⟩
theorem keep_low {n : Nat} {E : Edges} {r : List Nat} {e : Nat × Nat} {m j : Nat} (h : Weak n E r) (he : e ∈ E) (h1 : e.1 < n) (h2 : e.2 < n) (hm : IsMin E m) (hj : j < n) (hr : r.getD j 0 = m) : (lowL r e).getD j 0 = m := by
  have hw := (weak_low h he h1 h2).2 j hj
  have a := hm _ ((hr ▸ (h.2 j hj).2).symm.trans hw.2)
  have b : (lowL r e).getD j 0 ≤ r.getD j 0 := by
    rw [lowL_getD _ _ (by have := h.1; omega) (by have := h.1; omega)]
    split
    · rename_i q
      rcases q with rfl | rfl <;> omega
    · exact Nat.le_refl _
  omega
theorem round_low {n : Nat} {E : Edges} (he : ∀ x ∈ E, x.1 < n ∧ x.2 < n) {m : Nat} (hm : IsMin E m) : ∀ (L : Edges) (r : List Nat), (∀ e ∈ L, e ∈ E) → Weak n E r →
    Weak n E (L.foldl lowL r) ∧ (∀ j, j < n → r.getD j 0 = m → (L.foldl lowL r).getD j 0 = m) ∧ ∀ e ∈ L, (r.getD e.1 0 = m → (L.foldl lowL r).getD e.2 0 = m) ∧ (r.getD e.2 0 = m → (L.foldl lowL r).getD e.1 0 = m) := by
  intro L
  induction L with
  | nil => exact fun r _ h => ⟨h, fun _ _ h => h, fun e he => by cases he⟩
  | cons x L ih =>
    intro r hs h
    have hx := hs x (by simp)
    have hx' := he x hx
    obtain ⟨i1, i2, i3⟩ := ih (lowL r x) (fun e he => hs e (by simp [he])) (weak_low h hx hx'.1 hx'.2)
    have kp := fun j (hj : j < n) (hr : r.getD j 0 = m) => keep_low (j := j) h hx hx'.1 hx'.2 hm hj hr
    refine ⟨i1, fun j hj hr => i2 j hj (kp j hj hr), fun e hm' => ?_⟩
    rcases List.mem_cons.1 hm' with rfl | hm'
    · have e12 : (lowL r e).getD e.1 0 = (lowL r e).getD e.2 0 := by
        rw [lowL_getD _ _ (by have := h.1; omega) (by have := h.1; omega), lowL_getD _ _ (by have := h.1; omega) (by have := h.1; omega), if_pos (.inr rfl), if_pos (.inl rfl)]
      exact ⟨fun hr => i2 _ hx'.2 (e12 ▸ kp _ hx'.1 hr), fun hr => i2 _ hx'.1 (e12.symm ▸ kp _ hx'.2 hr)⟩
    · have := he e (hs e (by simp [hm']))
      exact ⟨fun hr => (i3 e hm').1 (kp _ this.1 hr), fun hr => (i3 e hm').2 (kp _ this.2 hr)⟩
def cnt (p : Nat → Bool) : Nat → Nat
  | 0 => 0
  | n + 1 => cnt p n + if p n then 1 else 0
theorem cnt_le_n (p : Nat → Bool) (n : Nat) : cnt p n ≤ n := by
  induction n with
  | zero => exact Nat.le_refl _
  | succ n ih =>
    simp only [cnt]
    split <;> omega
theorem cnt_mono {p q : Nat → Bool} {n : Nat} (h : ∀ j, j < n → p j = true → q j = true) : cnt p n ≤ cnt q n := by
  induction n with
  | zero => exact Nat.le_refl _
  | succ n ih =>
    have := ih fun j hj => h j (by omega)
    simp only [cnt]
    by_cases hp : p n = true
    · rw [if_pos hp, if_pos (h n (by omega) hp)]
      omega
    · rw [if_neg hp]
      omega
theorem cnt_more {p q : Nat → Bool} {n : Nat} (h : ∀ j, j < n → p j = true → q j = true) {i : Nat} (hi : i < n) (h1 : p i = false) (h2 : q i = true) : cnt p n + 1 ≤ cnt q n := by
  induction n with
  | zero => omega
  | succ n ih =>
    simp only [cnt]
    by_cases e : i = n
    · subst e
      have := cnt_mono (n := i) fun j hj => h j (by omega)
      rw [h1, h2]
      simp
      exact this
    · have := ih (fun j hj => h j (by omega)) (by omega)
      by_cases hp : p n = true
      · rw [if_pos hp, if_pos (h n (by omega) hp)]
        omega
      · rw [if_neg hp]
        omega
theorem cnt_one {p : Nat → Bool} {n i : Nat} (hi : i < n) (h : p i = true) : 1 ≤ cnt p n := by
  have := cnt_more (p := fun _ => false) (q := p) (n := n) (fun _ _ h => by cases h) hi rfl h
  omega
/-- So many rounds over all links. -/
def roundsR (E : Edges) (r : List Nat) : Nat → List Nat
  | 0 => r
  | t + 1 => E.foldl lowL (roundsR E r t)
theorem weak_rounds {n : Nat} {E : Edges} (he : ∀ x ∈ E, x.1 < n ∧ x.2 < n) (t : Nat) : Weak n E (roundsR E (List.range n) t) := by
  have fold : ∀ (L : Edges) (r : List Nat), (∀ e ∈ L, e ∈ E) → Weak n E r → Weak n E (L.foldl lowL r) := by
    intro L
    induction L with
    | nil => exact fun r _ h => h
    | cons x L ih => exact fun r hs h => ih _ (fun e he => hs e (by simp [he])) (weak_low h (hs x (by simp)) (he x (hs x (by simp))).1 (he x (hs x (by simp))).2)
  induction t with
  | zero => exact weak_start n E
  | succ t ih => exact fold E _ (fun _ h => h) ih
theorem full_rounds {n : Nat} {E : Edges} (he : ∀ x ∈ E, x.1 < n ∧ x.2 < n) {m : Nat} (hm : IsMin E m) (hmn : m < n) : ∀ t, (∀ j, j < n → Conn E m j → (roundsR E (List.range n) t).getD j 0 = m) ∨ t + 1 ≤ cnt (fun j => (roundsR E (List.range n) t).getD j 0 == m) n := by
  intro t
  induction t with
  | zero => exact .inr (cnt_one hmn (by simp only [roundsR]; rw [range_getD n m hmn]; simp))
  | succ t ih =>
    obtain ⟨a1, a2, a3⟩ := round_low he hm E (roundsR E (List.range n) t) (fun _ h => h) (weak_rounds he t)
    rcases ih with ih | ih
    · exact .inl fun j hj hc => a2 j hj (ih j hj hc)
    · by_cases hf : ∀ j, j < n → Conn E m j → (roundsR E (List.range n) t).getD j 0 = m
      · exact .inl fun j hj hc => a2 j hj (hf j hj hc)
      · refine .inr ?_
        have hbad : ∃ e ∈ E, ¬ ((roundsR E (List.range n) t).getD e.1 0 = m ↔ (roundsR E (List.range n) t).getD e.2 0 = m) := by
          refine Classical.byContradiction fun hno => hf fun j hj hc => ?_
          have := hc (fun i => if (roundsR E (List.range n) t).getD i 0 = m then 1 else 0) fun e hm' => by
            have h' : (roundsR E (List.range n) t).getD e.1 0 = m ↔ (roundsR E (List.range n) t).getD e.2 0 = m := Classical.byContradiction fun h' => hno ⟨e, hm', h'⟩
            by_cases q : (roundsR E (List.range n) t).getD e.1 0 = m
            · simp only [if_pos q, if_pos (h'.1 q)]
            · simp only [if_neg q, if_neg (fun q' => q (h'.2 q'))]
          have hmm : (roundsR E (List.range n) t).getD m 0 = m := by
            have w := (weak_rounds he t).2 m hmn
            have := hm _ w.2
            omega
          simp only [if_pos hmm] at this
          refine Classical.byContradiction fun q => ?_
          rw [if_neg q] at this
          exact absurd this (by decide)
        obtain ⟨e, hE, hne⟩ := hbad
        have hb := he e hE
        have grow : ∀ j, j < n → ((roundsR E (List.range n) t).getD j 0 == m) = true → ((roundsR E (List.range n) (t + 1)).getD j 0 == m) = true := fun j hj h => by
          rw [beq_iff_eq] at h ⊢
          exact a2 j hj h
        by_cases q : (roundsR E (List.range n) t).getD e.1 0 = m
        · have q2 : (roundsR E (List.range n) t).getD e.2 0 ≠ m := fun q' => hne ⟨fun _ => q', fun _ => q⟩
          have := cnt_more grow hb.2 (by simpa using q2) (by rw [beq_iff_eq]; exact (a3 e hE).1 q)
          omega
        · have q2 : (roundsR E (List.range n) t).getD e.2 0 = m := Classical.byContradiction fun q' => hne ⟨fun h => absurd h q, fun h => absurd h q'⟩
          have := cnt_more grow hb.1 (by simpa using q) (by rw [beq_iff_eq]; exact (a3 e hE).2 q2)
          omega
/-- As many rounds as there are people are enough. -/
theorem isRow_rounds {n : Nat} {E : Edges} (he : ∀ x ∈ E, x.1 < n ∧ x.2 < n) : IsRow n E (roundsR E (List.range n) n) := by
  refine ⟨weak_rounds he n, fun e hE => ?_⟩
  have hb := he e hE
  obtain ⟨m, hc, hm⟩ := has_min E (e.1 + 1) e.1 (by omega)
  have hmn : m < n := by
    have := hm e.1 hc.symm
    omega
  rcases full_rounds he hm hmn n with h | h
  · rw [h _ hb.1 hc.symm, h _ hb.2 (hc.symm.trans (Conn.of hE))]
  · have := cnt_le_n (fun j => (roundsR E (List.range n) n).getD j 0 == m) n
    omega
end Go.Proofs.Ytbhmippoeimliaa.M

/- The worlds that links allow, without a program in sight: none, or two for each group; and what one link more does. -/
set_option linter.unusedVariables false
set_option linter.unusedSimpArgs false
namespace Go.Proofs.Ytbhmippoeimliaa.M
open Go Go.RowKit Go.Proofs.YtbhmippoeimliaaW.PrintWords
abbrev TEdges := List (Nat × Nat × Bool)
def edg (T : TEdges) : Edges := T.map fun t => (t.1, t.2.1)
theorem mem_edg {T : TEdges} {e : Nat × Nat} (h : e ∈ edg T) : ∃ t ∈ T, e = (t.1, t.2.1) := by
  obtain ⟨t, ht, rfl⟩ := List.mem_map.1 h
  exact ⟨t, ht, rfl⟩
/-- What all links say holds in a world. -/
def satT (T : TEdges) (w : Nat) : Bool := T.all fun t => (bitN w t.1 == bitN w t.2.1) == t.2.2
/-- Each is to its group's least one as in another world. -/
def flatW (r : List Nat) (n w0 w : Nat) : Bool := (List.range n).all fun j => (bitN w j == bitN w (r.getD j 0)) == (bitN w0 j == bitN w0 (r.getD j 0))
theorem par_eq (a b c d : Nat) (ha : a < 2) (hb : b < 2) (hc : c < 2) (hd : d < 2) : (a + c) % 2 = (b + d) % 2 ↔ ((a == b) == (c == d)) = true := by
  rcases (by omega : a = 0 ∨ a = 1) with rfl | rfl <;> rcases (by omega : b = 0 ∨ b = 1) with rfl | rfl <;> rcases (by omega : c = 0 ∨ c = 1) with rfl | rfl <;> rcases (by omega : d = 0 ∨ d = 1) with rfl | rfl <;> decide
theorem sat_flat {n : Nat} {T : TEdges} {r : List Nat} (h : IsRow n (edg T) r) (he : ∀ e ∈ edg T, e.1 < n ∧ e.2 < n) {w0 : Nat} (h0 : satT T w0 = true) (w : Nat) : satT T w = flatW r n w0 w := by
  have b := bitN_lt
  have g : ∀ t ∈ T, ((bitN w0 t.1 == bitN w0 t.2.1) == t.2.2) = true := fun t ht => List.all_eq_true.1 h0 t ht
  rw [Bool.eq_iff_iff]
  unfold flatW satT
  rw [List.all_eq_true, List.all_eq_true]
  constructor
  · intro hs j hj
    have hj := List.mem_range.1 hj
    refine (par_eq _ _ _ _ (b _ _) (b _ _) (b _ _) (b _ _)).1 ((h.1.2 j hj).2 (fun k => (bitN w k + bitN w0 k) % 2) fun e hm => ?_)
    obtain ⟨t, ht, rfl⟩ := mem_edg hm
    refine (par_eq _ _ _ _ (b _ _) (b _ _) (b _ _) (b _ _)).2 ?_
    have g1 := hs t ht
    have g2 := g t ht
    rw [beq_iff_eq] at g1 g2
    rw [g1, g2, beq_self_eq_true]
  · intro hs t ht
    have hm : (t.1, t.2.1) ∈ edg T := List.mem_map.2 ⟨t, ht, rfl⟩
    have hb := he _ hm
    have f1 := (par_eq _ _ _ _ (b _ _) (b _ _) (b _ _) (b _ _)).2 (hs t.1 (List.mem_range.2 hb.1))
    have f2 := (par_eq _ _ _ _ (b _ _) (b _ _) (b _ _) (b _ _)).2 (hs t.2.1 (List.mem_range.2 hb.2))
    have f3 : r.getD t.1 0 = r.getD t.2.1 0 := h.2 _ hm
    rw [f3] at f1
    have f4 := (par_eq _ _ _ _ (b w t.1) (b w t.2.1) (b w0 t.1) (b w0 t.2.1)).1 (f1.trans f2.symm)
    have g2 := g t ht
    rw [beq_iff_eq] at f4 g2
    rw [f4, g2, beq_self_eq_true]
/-- In how many worlds something holds. -/
def cntW (n : Nat) (p : Nat → Bool) : Nat := ((List.range' 0 (pw n)).filter p).length
theorem cntW_congr {n : Nat} {p q : Nat → Bool} (h : ∀ w, w < pw n → p w = q w) : cntW n p = cntW n q := by
  unfold cntW
  rw [List.filter_congr fun w hw => h w (by have := List.mem_range'_1.1 hw; omega)]
theorem cntW_zero {n : Nat} {p : Nat → Bool} (h : ∀ w, w < pw n → p w = false) : cntW n p = 0 := by
  unfold cntW
  rw [List.length_eq_zero_iff, List.filter_eq_nil_iff]
  intro w hw
  rw [h w (by have := List.mem_range'_1.1 hw; omega)]
  decide
/-- How many groups there are. -/
def roots (n : Nat) (r : List Nat) : Nat := ((List.range n).filter fun k => r.getD k 0 == k).length
def cand : Nat → List (List Nat)
  | 0 => [[]]
  | n + 1 => (cand n).flatMap fun r => (List.range (n + 1)).map fun x => r ++ [x]
def okR (n : Nat) (r : List Nat) : Bool := (List.range n).all fun j => r.getD (r.getD j 0) 0 == r.getD j 0
theorem mem_cand : ∀ (n : Nat) (r : List Nat), r.length = n → (∀ j, j < n → r.getD j 0 ≤ j) → r ∈ cand n := by
  intro n
  induction n with
  | zero =>
    intro r h _
    rw [List.eq_nil_of_length_eq_zero h]
    simp [cand]
  | succ n ih =>
    intro r h hr
    have e : r = r.take n ++ [r.getD n 0] := by
      rw [getD_lt r 0 n (by omega), List.take_append_getElem (by omega), List.take_of_length_le (by omega)]
    have hp := ih (r.take n) (by simp; omega) fun j hj => by
      have := hr j (by omega)
      rw [getD_lt r 0 j (by omega)] at this
      rw [getD_lt (r.take n) 0 j (by simp; omega), List.getElem_take]
      exact this
    rw [e]
    refine List.mem_flatMap.2 ⟨_, hp, List.mem_map.2 ⟨_, List.mem_range.2 (by have := hr n (by omega); omega), rfl⟩⟩
theorem row_cand {n : Nat} {E : Edges} {r : List Nat} (h : IsRow n E r) : r ∈ cand n ∧ okR n r = true := by
  refine ⟨mem_cand n r h.1.1 fun j hj => (h.1.2 j hj).1, ?_⟩
  unfold okR
  rw [List.all_eq_true]
  intro j hj
  rw [beq_iff_eq]
  exact isRow_idem h (List.mem_range.1 hj)
def bothW (r : List Nat) (n w0 w : Nat) : Bool := flatW r n w0 w && (bitN w 0 == bitN w (n - 1))
def finB (n : Nat) (r : List Nat) : Bool := !(okR n r) || (decide (1 ≤ roots n r) && (List.range (2 ^ n)).all fun w0 => (cntW n (flatW r n w0) == 2 ^ roots n r) &&
  (if r.getD 0 0 = r.getD (n - 1) 0 then (cntW n (bothW r n w0) == cntW n (flatW r n w0)) || (cntW n (bothW r n w0) == 0) else 2 * cntW n (bothW r n w0) == cntW n (flatW r n w0)))
theorem fin_bool : ((List.range 5).all fun n => n == 0 || (cand n).all (finB n)) = true := by decide +kernel
theorem fin_all (n : Nat) (h5 : n < 5) (h1 : 1 ≤ n) (r : List Nat) (hr : r ∈ cand n) (hk : okR n r = true) : 1 ≤ roots n r ∧ ∀ w0 : Nat, w0 < 2 ^ n → cntW n (flatW r n w0) = 2 ^ roots n r ∧
    (r.getD 0 0 = r.getD (n - 1) 0 → cntW n (bothW r n w0) = cntW n (flatW r n w0) ∨ cntW n (bothW r n w0) = 0) ∧ (r.getD 0 0 ≠ r.getD (n - 1) 0 → 2 * cntW n (bothW r n w0) = cntW n (flatW r n w0)) := by
  have h := List.all_eq_true.1 fin_bool n (List.mem_range.2 h5)
  rw [Bool.or_eq_true] at h
  have h := h.resolve_left (by simp; omega)
  have h := List.all_eq_true.1 h r hr
  unfold finB at h
  rw [hk] at h
  simp only [Bool.not_true, Bool.false_or, Bool.and_eq_true, decide_eq_true_eq] at h
  refine ⟨h.1, fun w0 hw => ?_⟩
  have h := List.all_eq_true.1 h.2 w0 (List.mem_range.2 hw)
  rw [Bool.and_eq_true, beq_iff_eq] at h
  refine ⟨h.1, fun e => ?_, fun e => ?_⟩
  · have h := h.2
    rw [if_pos e, Bool.or_eq_true, beq_iff_eq, beq_iff_eq] at h
    exact h
  · have h := h.2
    rw [if_neg e, beq_iff_eq] at h
    exact h
theorem flip_bits : ∀ n : Nat, n < 5 → ∀ w : Nat, w < 2 ^ n → ∀ j : Nat, j < n → bitN (2 ^ n - 1 - w) j = 1 - bitN w j := by
  decide +kernel
section
variable {n : Nat} {T : TEdges} {r : List Nat} (h1 : 1 ≤ n) (h4 : n ≤ 4) (h : IsRow n (edg T) r) (he : ∀ e ∈ edg T, e.1 < n ∧ e.2 < n)
include h1 h4 h he
theorem worlds_of : 1 ≤ roots n r ∧ (cntW n (satT T) = 0 ∨ cntW n (satT T) = 2 ^ roots n r) := by
  obtain ⟨hc, hk⟩ := row_cand h
  obtain ⟨f1, f2⟩ := fin_all n (by omega) h1 r hc hk
  refine ⟨f1, ?_⟩
  by_cases hw : ∃ w0, w0 < pw n ∧ satT T w0 = true
  · obtain ⟨w0, hw0, hs⟩ := hw
    right
    rw [← (f2 w0 hw0).1]
    exact cntW_congr fun w _ => sat_flat h he hs w
  · left
    exact cntW_zero fun w hlt => Bool.eq_false_iff.2 fun hs => hw ⟨w, hlt, hs⟩
theorem worlds_more : (r.getD 0 0 = r.getD (n - 1) 0 → cntW n (satT (T ++ [(0, n - 1, true)])) = cntW n (satT T) ∨ cntW n (satT (T ++ [(0, n - 1, true)])) = 0) ∧
    (r.getD 0 0 ≠ r.getD (n - 1) 0 → 2 * cntW n (satT (T ++ [(0, n - 1, true)])) = cntW n (satT T)) := by
  obtain ⟨hc, hk⟩ := row_cand h
  obtain ⟨f1, f2⟩ := fin_all n (by omega) h1 r hc hk
  have hmore : ∀ w, satT (T ++ [(0, n - 1, true)]) w = (satT T w && (bitN w 0 == bitN w (n - 1))) := fun w => by
    simp [satT, List.all_append]
  by_cases hw : ∃ w0, w0 < pw n ∧ satT T w0 = true
  · obtain ⟨w0, hw0, hs⟩ := hw
    have e1 : cntW n (satT T) = cntW n (flatW r n w0) := cntW_congr fun w _ => sat_flat h he hs w
    have e2 : cntW n (satT (T ++ [(0, n - 1, true)])) = cntW n (bothW r n w0) := cntW_congr fun w _ => by
      rw [hmore, sat_flat h he hs w]
      rfl
    rw [e1, e2]
    exact (f2 w0 hw0).2
  · have e1 : cntW n (satT T) = 0 := cntW_zero fun w hlt => Bool.eq_false_iff.2 fun hs => hw ⟨w, hlt, hs⟩
    have e2 : cntW n (satT (T ++ [(0, n - 1, true)])) = 0 := cntW_zero fun w hlt => by
      rw [hmore, Bool.eq_false_iff.2 fun hs => hw ⟨w, hlt, hs⟩]
      rfl
    rw [e1, e2]
    exact ⟨fun _ => .inr rfl, fun _ => rfl⟩
omit h h1 in
/-- In the opposite world the same links hold. -/
theorem sat_flip {w : Nat} (hw : w < pw n) : satT T (pw n - 1 - w) = satT T w := by
  unfold satT
  have key : ∀ t ∈ T, ((bitN (pw n - 1 - w) t.1 == bitN (pw n - 1 - w) t.2.1) == t.2.2) = ((bitN w t.1 == bitN w t.2.1) == t.2.2) := fun t ht => by
    have hb := he (t.1, t.2.1) (List.mem_map.2 ⟨t, ht, rfl⟩)
    have a := flip_bits n (by omega) w hw t.1 hb.1
    have b := flip_bits n (by omega) w hw t.2.1 hb.2
    have e : (bitN (pw n - 1 - w) t.1 == bitN (pw n - 1 - w) t.2.1) = (bitN w t.1 == bitN w t.2.1) := by
      show (bitN (2 ^ n - 1 - w) t.1 == bitN (2 ^ n - 1 - w) t.2.1) = _
      rw [a, b]
      rcases bitN_01 w t.1 with c | c <;> rcases bitN_01 w t.2.1 with d | d <;> rw [c, d] <;> rfl
    rw [e]
  rw [Bool.eq_iff_iff, List.all_eq_true, List.all_eq_true]
  exact ⟨fun h t ht => key t ht ▸ h t ht, fun h t ht => (key t ht).symm ▸ h t ht⟩
end
end Go.Proofs.Ytbhmippoeimliaa.M

/- The program's LinkGroups tells the row of least ones. -/
set_option linter.unusedVariables false
set_option linter.unusedSimpArgs false
namespace Go.Proofs.Ytbhmippoeimliaa.M
open Go Go.RowKit Go.Proofs.YtbhmippoeimliaaW.PrintWords Go.Proofs.Ytbhmippoeimliaa.P
def edgeOf (l : Lnk) : Nat × Nat := (l.f0.toNat, l.f1.toNat)
def edgesOf (s : List Lnk) : Edges := s.map edgeOf
theorem edges_in {n : Nat} {s : List Lnk} (h : LinksP n s) : ∀ e ∈ edgesOf s, e.1 < n ∧ e.2 < n := fun e he => by
  obtain ⟨l, hl, rfl⟩ := List.mem_map.1 he
  obtain ⟨i, hi, e⟩ := List.getElem_of_mem hl
  have := h.1 i hi
  rw [getD_lt _ _ _ hi, e] at this
  obtain ⟨h0, h1, h2, h3⟩ := this
  constructor
  · show l.f0.toNat < n
    omega
  · show l.f1.toNat < n
    omega
theorem mnN (a b : Nat) : mn (a : Int) (b : Int) = ((min a b : Nat) : Int) := by
  unfold mn
  split <;> omega
theorem mxN (a b : Nat) : mx (a : Int) (b : Int) = ((max a b : Nat) : Int) := by
  unfold mx
  split <;> omega
theorem castL_set (r : List Nat) (i x : Nat) : (castL r).set i (x : Int) = castL (r.set i x) := by simp [castL, List.map_set]
theorem castL_snoc (r : List Nat) (x : Nat) : castL r ++ [(x : Int)] = castL (r ++ [x]) := by simp [castL]
theorem rd_castL (r : List Nat) (i : Int) (h : 0 ≤ i) : rd (castL r) i = ((r.getD i.toNat 0 : Nat) : Int) := by
  obtain ⟨m, rfl⟩ : ∃ m : Nat, i = (m : Int) := ⟨i.toNat, by omega⟩
  rw [rdN, castL_getD, Int.toNat_natCast]
theorem low_cast (r : List Nat) (l : Lnk) (h0 : 0 ≤ l.f0) (h1 : 0 ≤ l.f1) : ((castL r).set l.f0.toNat (mn (rd (castL r) l.f0) (rd (castL r) l.f1))).set l.f1.toNat (mn (rd (castL r) l.f0) (rd (castL r) l.f1)) = castL (lowL r (edgeOf l)) := by
  rw [rd_castL _ _ h0, rd_castL _ _ h1, mnN, castL_set, castL_set]
  rfl
theorem fold_len (L : Edges) : ∀ r : List Nat, (L.foldl lowL r).length = r.length := by
  induction L with
  | nil => exact fun r => rfl
  | cons x L ih => exact fun r => by rw [List.foldl_cons, ih, lowL_len]
theorem rounds_front (E : Edges) (r : List Nat) (t : Nat) : roundsR E (E.foldl lowL r) t = roundsR E r (t + 1) := by
  induction t with
  | zero => rfl
  | succ t ih =>
    show E.foldl lowL (roundsR E (E.foldl lowL r) t) = _
    rw [ih]
    rfl
theorem drop_L (s : List Lnk) (i : Nat) (h : i < s.length) : s.drop i = s.getD i zL :: s.drop (i + 1) := by
  rw [List.drop_eq_getElem_cons h, getD_lt s zL i h]
theorem impl_groups_l2 (n : Nat) (s : List Lnk) (h : LinksP n s) (t : Int) (v : List Int) : ∀ d i (r : List Nat), i + d = s.length → r.length = n →
    Ev (fun k => impl_LinkGroups.l1 k s (castL ((edgesOf (s.drop i)).foldl lowL r)) (n : Int) (wrap64 (t + 1))) v → Ev (fun k => impl_LinkGroups.l2 k s (castL r) (n : Int) t s (s.length : Int) (i : Int)) v := by
  have hl := h.2.2
  intro d
  induction d with
  | zero =>
    intro i r hi hr hE
    refine Ev.step (fun k => by rw [impl_LinkGroups.l2]) ?_
    refine ev_neg (by omega) ?_
    rw [List.drop_eq_nil_of_le (by omega)] at hE
    exact hE
  | succ d ih =>
    intro i r hi hr hE
    obtain ⟨h0, h1, h2, h3⟩ := h.1 i (by omega)
    refine Ev.step (fun k => by rw [impl_LinkGroups.l2]) ?_
    rw [rdLnk, low_cast r _ h0 h2, w64s (by omega), castL_len]
    refine ev_pos (by omega) ?_
    refine ev_pos (by omega) ?_
    refine ev_pos (by omega) ?_
    refine ev_pos h0 ?_
    refine ev_pos (by omega) ?_
    refine ev_pos h2 ?_
    refine ev_pos (by omega) ?_
    refine ih (i + 1) _ (by omega) (by rw [lowL_len, hr]) ?_
    rw [drop_L s i (by omega)] at hE
    exact hE
theorem impl_groups_l1 (n : Nat) (s : List Lnk) (h : LinksP n s) : ∀ d t (r : List Nat), t + d = n → r.length = n → Ev (fun k => impl_LinkGroups.l1 k s (castL r) (n : Int) (t : Int)) (castL (roundsR (edgesOf s) r d)) := by
  have hn := h.2.1
  intro d
  induction d with
  | zero =>
    intro t r ht hr
    refine Ev.step (fun k => by rw [impl_LinkGroups.l1]) ?_
    exact ev_neg (by omega) (ev_ret rfl)
  | succ d ih =>
    intro t r ht hr
    refine Ev.step (fun k => by rw [impl_LinkGroups.l1]) ?_
    refine ev_pos (by omega) ?_
    refine impl_groups_l2 n s h t _ s.length 0 r (by omega) hr ?_
    rw [w64s (by omega), List.drop_zero, ← rounds_front]
    exact ih (t + 1) _ (by omega) (by rw [fold_len, hr])
theorem impl_groups_l0 (n : Nat) (s : List Lnk) (h : LinksP n s) : ∀ d i, i + d = n → Ev (fun k => impl_LinkGroups.l0 k (n : Int) s (castL (List.range i)) (n : Int) (i : Int)) (castL (roundsR (edgesOf s) (List.range n) n)) := by
  have hn := h.2.1
  intro d
  induction d with
  | zero =>
    intro i hi
    obtain rfl : i = n := by omega
    refine Ev.step (fun k => by rw [impl_LinkGroups.l0]) ?_
    refine ev_neg (by omega) ?_
    exact impl_groups_l1 i s h i 0 _ (by omega) List.length_range
  | succ d ih =>
    intro i hi
    refine Ev.step (fun k => by rw [impl_LinkGroups.l0]) ?_
    rw [castL_len, List.length_range, castL_snoc, w64s (by omega), ← List.range_succ]
    refine ev_pos (by omega) ?_
    refine ev_pos (by omega) ?_
    exact ih (i + 1) (by omega)
/-- LinkGroups, as both tell it. -/
noncomputable def groupsF (n : Int) (s : List Lnk) : List Int := if linksB n s = true then castL (roundsR (edgesOf s) (List.range n.toNat) n.toNat) else []
theorem impl_groupsE (n : Int) (s : List Lnk) (hs : s.length < 4611686018427387904) : Ev (fun k => impl_LinkGroups.f k n s) (groupsF n s) := by
  unfold impl_LinkGroups.f groupsF
  refine ev_bind (impl_linksE n s hs) ?_
  by_cases h : linksB n s = true
  · refine ev_pos h ?_
    rw [if_pos h]
    have hL := (linksB_iff n s).1 h
    obtain ⟨m, rfl⟩ : ∃ m : Nat, n = (m : Int) := ⟨n.toNat, by have := hL.2.1; omega⟩
    rw [Int.toNat_natCast]
    exact impl_groups_l0 m s hL m 0 (by omega)
  · refine ev_neg h ?_
    rw [if_neg h]
    exact ev_ret rfl
/-- The row of links: what is known of it. -/
theorem groups_row {n : Nat} {s : List Lnk} (h : LinksP n s) : groupsF n s = castL (roundsR (edgesOf s) (List.range n) n) ∧ IsRow n (edgesOf s) (roundsR (edgesOf s) (List.range n) n) := by
  unfold groupsF
  rw [if_pos ((linksB_iff _ _).2 h), Int.toNat_natCast]
  exact ⟨rfl, isRow_rounds (edges_in h)⟩
end Go.Proofs.Ytbhmippoeimliaa.M

/- The worlds of links' stories. -/
set_option linter.unusedVariables false
set_option linter.unusedSimpArgs false
namespace Go.Proofs.Ytbhmippoeimliaa.M
open Go Go.RowKit Go.Proofs.YtbhmippoeimliaaW.PrintWords Go.Proofs.Ytbhmippoeimliaa.P
def edgesT (s : List Lnk) : TEdges := s.map fun l => (l.f0.toNat, l.f1.toNat, l.f2)
theorem edg_edgesT (s : List Lnk) : edg (edgesT s) = edgesOf s := by
  unfold edg edgesT edgesOf
  rw [List.map_map]
  rfl
theorem may_link (l : Lnk) (w : Nat) : mayB l.f0.toNat (linkM l) w = ((bitN w l.f0.toNat == bitN w l.f1.toNat) == l.f2) := by
  unfold mayB linkM
  rcases bitN_01 w l.f0.toNat with a | a <;> rcases bitN_01 w l.f1.toNat with b | b <;> cases l.f2 <;> simp [holdB, runL, a, b]
theorem sat_links (s : List Lnk) (w : Nat) : satT (edgesT s) w = true ↔ ∀ c ∈ s.map linkC, mayB c.f0.toNat c.f1 w = true := by
  unfold satT edgesT
  rw [List.all_eq_true]
  constructor
  · intro h c hc
    obtain ⟨l, hl, rfl⟩ := List.mem_map.1 hc
    have := h _ (List.mem_map.2 ⟨l, hl, rfl⟩)
    exact (may_link l w).trans this
  · intro h t ht
    obtain ⟨l, hl, rfl⟩ := List.mem_map.1 ht
    have := h _ (List.mem_map.2 ⟨l, hl, rfl⟩)
    exact (may_link l w).symm.trans this
theorem wl_links (n : Nat) (s : List Lnk) : (wl (tabS n (s.map linkC)) n).length = cntW n (satT (edgesT s)) := by
  unfold wl cntW
  rw [List.filter_congr fun w hw => ?_]
  have hw := List.mem_range'_1.1 hw
  rw [Bool.eq_iff_iff, beq_iff_eq, tabS_bit, sat_links]
  exact ⟨fun h => h.2, fun h => ⟨by omega, h⟩⟩
theorem pop_links (n : Nat) (h4 : n ≤ 4) (s : List Lnk) : popN 16 (tabS n (s.map linkC)) = cntW n (satT (edgesT s)) := by
  rw [← wl_links, wl_pop]
  exact popN_more (n := pw n) (tabS_max n _) 16 (pwm4 h4)
theorem edges_row {n : Nat} {s : List Lnk} (h : LinksP n s) : ∀ e ∈ edg (edgesT s), e.1 < n ∧ e.2 < n := by
  rw [edg_edgesT]
  exact edges_in h
end Go.Proofs.Ytbhmippoeimliaa.M

/- The reader of draws: each pick tells a number in its bounds and goes one step on. -/
set_option linter.unusedVariables false
set_option linter.unusedSimpArgs false
namespace Go.Proofs.Ytbhmippoeimliaa.M
open Go Go.RowKit Go.Proofs.YtbhmippoeimliaaW.PrintWords Go.Proofs.Ytbhmippoeimliaa.P

theorem bits_xor_i64 (a b : Nat) (ha : a < 2 ^ 62) (hb : b < 2 ^ 62) : Go.bits .xor .i64 (a : Int) (b : Int) = ((a ^^^ b : Nat) : Int) := by
  have hx : a ^^^ b < 2 ^ 62 := Nat.xor_lt_two_pow ha hb
  have ea : a % 2 ^ IntKind.i64.bits = a := Nat.mod_eq_of_lt (Nat.lt_of_lt_of_le ha (by decide))
  have eb : b % 2 ^ IntKind.i64.bits = b := Nat.mod_eq_of_lt (Nat.lt_of_lt_of_le hb (by decide))
  simp only [Go.bits, BitVec.ofInt_natCast, BitVec.toNat_xor, BitVec.toNat_ofNat, ea, eb]
  generalize a ^^^ b = q at hx ⊢
  exact wraps_i64 (q : Int) (by omega) (by omega)
/-- The bytes of a code. -/
def Bytes (b : List Int) : Prop := b.length ≤ 2000 ∧ ∀ x ∈ b, 0 ≤ x ∧ x ≤ 255
theorem Bytes.rd {b : List Int} (h : Bytes b) (i : Int) : 0 ≤ rd b i ∧ rd b i ≤ 255 := by
  unfold Go.Proofs.YtbhmippoeimliaaW.PrintWords.rd
  by_cases hi : i.toNat < b.length
  · rw [List.getD_eq_getElem?_getD, List.getElem?_eq_getElem hi]
    exact h.2 _ (List.getElem_mem hi)
  · rw [List.getD_eq_getElem?_getD, List.getElem?_eq_none (by omega)]
    exact ⟨by decide, by decide⟩
theorem tmod_bd (x n : Int) (hx : 0 ≤ x) (hn : 0 < n) : 0 ≤ Int.tmod x n ∧ Int.tmod x n < n := by
  rw [Int.tmod_eq_emod_of_nonneg hx]
  exact ⟨Int.emod_nonneg _ (by omega), Int.emod_lt_of_pos _ hn⟩
theorem tdiv_bd (x n : Int) (hx : 0 ≤ x) (hn : 0 < n) : 0 ≤ Int.tdiv x n ∧ Int.tdiv x n ≤ x := by
  rw [Int.tdiv_eq_ediv_of_nonneg hx]
  exact ⟨Int.ediv_nonneg hx (by omega), Int.ediv_le_self _ hx⟩
/-- What a pick tells, and where it leaves the reader. -/
theorem pickE (b : List Int) (hb : Bytes b) (p : Nat) (hp : p ≤ 1000000) (n : Int) :
    ∃ r : Nat, Ev (fun k => spec_l20Rd_pick.f k b (p : Int) n) ((r : Int), ((p + 1 : Nat) : Int)) ∧ (1 ≤ n → (r : Int) < n) ∧ (n < 1 → r = 0) := by
  have hl := hb.1
  unfold spec_l20Rd_pick.f
  rw [w64s (by omega)]
  by_cases h : n < 1
  · refine ⟨0, ev_pos h ?_, fun h' => by omega, fun _ => rfl⟩
    refine Ev.step (fun k => by rw [spec_l20Rd_pick.j0]) ?_
    exact ev_pos rfl (ev_ret rfl)
  by_cases h0 : b.length = 0
  · refine ⟨0, ev_neg h ?_, fun h' => by omega, fun _ => rfl⟩
    rw [show ((b.length : Int) == 0) = true by simp [h0]]
    refine Ev.step (fun k => by rw [spec_l20Rd_pick.j0]) ?_
    exact ev_pos rfl (ev_ret rfl)
  have ep : wrap64 (((p + 1 : Nat) : Int) - 1) = (p : Int) := by
    rw [w64 (by omega) (by omega)]
    omega
  have eb : ((b.length : Int) == 0) = false := by
    rw [beq_eq_false_iff_ne]
    omega
  have out : ∀ x : Int, 0 ≤ x → Ev (fun k => spec_l20Rd_pick.j0 k n false b ((p + 1 : Nat) : Int)) (Int.tmod x n, ((p + 1 : Nat) : Int)) →
      ∃ r : Nat, Ev (fun k => if n < 1 then spec_l20Rd_pick.j0 k n true b ((p + 1 : Nat) : Int) else spec_l20Rd_pick.j0 k n ((b.length : Int) == 0) b ((p + 1 : Nat) : Int)) ((r : Int), ((p + 1 : Nat) : Int)) ∧ (1 ≤ n → (r : Int) < n) ∧ (n < 1 → r = 0) := fun x hx hE => by
    have hm := tmod_bd x n hx (by omega)
    refine ⟨(Int.tmod x n).toNat, ev_neg h ?_, fun _ => by omega, fun h' => absurd h' h⟩
    rw [eb, Int.toNat_of_nonneg hm.1]
    exact hE
  by_cases hlt : p < b.length
  · have hr := hb.rd (p : Int)
    refine out (wrap64 (rd b (p : Int))) (by rw [w64 (by omega) (by omega)]; omega) ?_
    refine Ev.step (fun k => by rw [spec_l20Rd_pick.j0]) ?_
    rw [ep]
    refine ev_neg (by decide) ?_
    refine ev_pos (by omega) ?_
    refine ev_pos (by omega) ?_
    exact ev_neg (by omega) (ev_ret rfl)
  · have q1 := tmod_bd (p : Int) (b.length : Int) (by omega) (by omega)
    have q2 := tdiv_bd (p : Int) (b.length : Int) (by omega) (by omega)
    have e7 : wrap64 (wrap64 ((p : Int) * 7) + 3) = (p : Int) * 7 + 3 := by rw [w64 (x := (p : Int) * 7) (by omega) (by omega), w64 (by omega) (by omega)]
    have q3 := tmod_bd ((p : Int) * 7 + 3) (b.length : Int) (by omega) (by omega)
    have hr1 := hb.rd (Int.tmod (p : Int) (b.length : Int))
    have hr2 := hb.rd (Int.tmod ((p : Int) * 7 + 3) (b.length : Int))
    obtain ⟨x, hx, hxb⟩ : ∃ x : Nat, wrap64 (wrap64 (wrap64 (wrap64 (wrap64 (rd b (Int.tmod (p : Int) (b.length : Int))) * 131) + wrap64 (wrap64 (rd b (Int.tmod ((p : Int) * 7 + 3) (b.length : Int))) * 1117)) + wrap64 ((p : Int) * 29)) + wrap64 (wrap64 (Int.tdiv (p : Int) (b.length : Int)) * 53)) = (x : Int) ∧ x < 2 ^ 60 := by
      generalize rd b (Int.tmod (p : Int) (b.length : Int)) = u at hr1 ⊢
      generalize rd b (Int.tmod ((p : Int) * 7 + 3) (b.length : Int)) = v at hr2 ⊢
      generalize Int.tdiv (p : Int) (b.length : Int) = t at q2 ⊢
      rw [w64 (x := u) (by omega) (by omega), w64 (x := v) (by omega) (by omega), w64 (x := t) (by omega) (by omega), w64 (x := u * 131) (by omega) (by omega), w64 (x := v * 1117) (by omega) (by omega), w64 (x := t * 53) (by omega) (by omega), w64 (x := (p : Int) * 29) (by omega) (by omega),
        w64 (x := u * 131 + v * 1117) (by omega) (by omega), w64 (x := u * 131 + v * 1117 + (p : Int) * 29) (by omega) (by omega), w64 (x := u * 131 + v * 1117 + (p : Int) * 29 + t * 53) (by omega) (by omega)]
      exact ⟨(u * 131 + v * 1117 + (p : Int) * 29 + t * 53).toNat, by omega, by omega⟩
    refine out (((x ^^^ (x / 64)) : Nat) : Int) (by omega) ?_
    refine Ev.step (fun k => by rw [spec_l20Rd_pick.j0]) ?_
    rw [ep, e7, hx, show Int.tdiv (x : Int) 64 = ((x / 64 : Nat) : Int) from rfl, w64 (x := ((x / 64 : Nat) : Int)) (by omega) (by omega), bits_xor_i64 _ _ (by omega) (by omega)]
    refine ev_neg (by decide) ?_
    refine ev_neg (by omega) ?_
    refine ev_neg (by omega) ?_
    refine ev_pos (by omega) ?_
    refine ev_pos (by omega) ?_
    refine ev_pos (by omega) ?_
    refine ev_pos (by omega) ?_
    exact ev_neg (by omega) (ev_ret rfl)
/-- A code, opened. -/
theorem openE (l : List Int) (hw : ∀ x ∈ l, (Lit.int .u8 x).wf = true) : ∃ b, spec_l20Open.f l = some (b, ((0 : Nat) : Int)) ∧ Bytes b := by
  have hx : ∀ x ∈ l, 0 ≤ x ∧ x ≤ 255 := fun x hx => by
    have := hw x hx
    simp [Lit.wf, IntKind.min, IntKind.max, IntKind.bits, IntKind.signed] at this
    omega
  unfold spec_l20Open.f
  by_cases h : (l.length : Int) > 2000
  · rw [if_pos h, if_pos (by omega)]
    exact ⟨l.take 2000, rfl, by simp; omega, fun x hm => hx x (List.mem_of_mem_take hm)⟩
  · rw [if_neg h]
    exact ⟨l, rfl, by omega, hx⟩
end Go.Proofs.Ytbhmippoeimliaa.M

/- Drawn links: each draw ends; they are few. -/
set_option linter.unusedVariables false
set_option linter.unusedSimpArgs false
namespace Go.Proofs.Ytbhmippoeimliaa.M
open Go Go.RowKit Go.Proofs.YtbhmippoeimliaaW.PrintWords Go.Proofs.Ytbhmippoeimliaa.P
theorem links_ex (b : List Int) (hb : Bytes b) (n : Int) : ∀ (d p : Nat) (acc : List Lnk), p + 4 * d ≤ 1000 → acc.length + d ≤ 100 →
    ∃ m s q, Ev (fun k => spec_l20Links.l0 k n acc (d : Int) b ((p : Nat) : Int)) (m, s, ((q : Nat) : Int)) ∧ s.length ≤ acc.length + d ∧ q ≤ p + 4 * d + 1 := by
  intro d
  induction d with
  | zero =>
    intro p acc hp ha
    obtain ⟨r1, e1, _⟩ := pickE b hb p (by omega) 60
    refine ⟨wrap64 (n + wrap64 (wrap64 (Int.tdiv (r1 : Int) 59) * 4)), acc, p + 1, Ev.step (fun k => by rw [spec_l20Links.l0]) ?_, by omega, by omega⟩
    refine ev_neg (by decide) ?_
    refine ev_bind e1 ?_
    exact ev_ret rfl
  | succ d ih =>
    intro p acc hp ha
    obtain ⟨r1, e1, _⟩ := pickE b hb p (by omega) n
    obtain ⟨r2, e2, _⟩ := pickE b hb (p + 1) (by omega) n
    obtain ⟨r3, e3, _⟩ := pickE b hb (p + 2) (by omega) 90
    obtain ⟨r4, e4, _⟩ := pickE b hb (p + 3) (by omega) 2
    obtain ⟨m, s, q, hE, hs, hq⟩ := ih (p + 4) (acc ++ [⟨(r1 : Int), wrap64 ((r2 : Int) + wrap64 (wrap64 (Int.tdiv (r3 : Int) 89) * 4)), ((r4 : Int) == 0)⟩]) (by omega) (by simp; omega)
    refine ⟨m, s, q, Ev.step (fun k => by rw [spec_l20Links.l0]) ?_, by simp at hs; omega, by omega⟩
    rw [w64 (x := ((d + 1 : Nat) : Int) - 1) (by omega) (by omega), show ((d + 1 : Nat) : Int) - 1 = (d : Int) by omega]
    refine ev_pos (by omega) ?_
    refine ev_bind e1 ?_
    refine ev_bind e2 ?_
    refine ev_bind e3 ?_
    refine ev_bind e4 ?_
    refine ev_pos (by omega) ?_
    exact hE
theorem l20LinksE (b : List Int) (hb : Bytes b) (p : Nat) (hp : p ≤ 100) : ∃ n s q, Ev (fun k => spec_l20Links.f k b (p : Int)) (n, s, ((q : Nat) : Int)) ∧ s.length ≤ 20 ∧ q ≤ p + 100 := by
  obtain ⟨r1, e1, _⟩ := pickE b hb p (by omega) 4
  obtain ⟨r2, e2, b2, _⟩ := pickE b hb (p + 1) (by omega) 6
  obtain ⟨r3, e3, b3, _⟩ := pickE b hb (p + 2) (by omega) 40
  have b2 := b2 (by omega)
  have b3 := b3 (by omega)
  have hq : Int.tdiv (r3 : Int) 39 = ((r3 / 39 : Nat) : Int) := rfl
  obtain ⟨n, s, q, hE, hs, hq'⟩ := links_ex b hb (wrap64 (1 + (r1 : Int))) (r2 + r3 / 39 * 3) (p + 3) [] (by omega) (by simp; omega)
  refine ⟨n, s, q, ?_, by simp at hs; omega, by omega⟩
  unfold spec_l20Links.f
  refine ev_bind e1 ?_
  refine ev_bind e2 ?_
  refine ev_bind e3 ?_
  dsimp only
  rw [hq, w64 (x := ((r3 / 39 : Nat) : Int)) (by omega) (by omega), w64 (x := ((r3 / 39 : Nat) : Int) * 3) (by omega) (by omega), w64 (x := (r2 : Int) + ((r3 / 39 : Nat) : Int) * 3) (by omega) (by omega), show (r2 : Int) + ((r3 / 39 : Nat) : Int) * 3 = ((r2 + r3 / 39 * 3 : Nat) : Int) by omega]
  exact hE
end Go.Proofs.Ytbhmippoeimliaa.M

/- The laws' helpers that compare marks and stories: what is compared with itself is the same. -/
set_option linter.unusedVariables false
set_option linter.unusedSimpArgs false
namespace Go.Proofs.Ytbhmippoeimliaa.M
open Go Go.RowKit Go.Proofs.YtbhmippoeimliaaW.PrintWords Go.Proofs.Ytbhmippoeimliaa.P
theorem same_marks_l (l : List Mk) (hn : l.length < 4611686018427387904) : ∀ d i, i + d = l.length → Ev (fun k => laws_sameMarks.l0 k l l (i : Int)) true := by
  intro d
  induction d with
  | zero =>
    intro i hi
    refine Ev.step (fun k => by rw [laws_sameMarks.l0]) ?_
    exact ev_neg (by omega) (ev_ret rfl)
  | succ d ih =>
    intro i hi
    refine Ev.step (fun k => by rw [laws_sameMarks.l0]) ?_
    rw [w64s (by omega)]
    refine ev_pos (by omega) ?_
    refine ev_pos (by omega) ?_
    refine ev_pos (by omega) ?_
    refine ev_neg (by simp) ?_
    exact ih (i + 1) (by omega)
theorem same_marks (l : List Mk) (hn : l.length < 4611686018427387904) : Ev (fun k => laws_sameMarks.f k l l) true := by
  unfold laws_sameMarks.f
  exact ev_pos rfl (same_marks_l l hn l.length 0 (by omega))
theorem same_story_l (l : List Cl) (hn : l.length < 4611686018427387904) (hm : ∀ j, (l.getD j zC).f1.length < 4611686018427387904) : ∀ d i, i + d = l.length → Ev (fun k => laws_sameStory.l0 k l l (i : Int)) true := by
  intro d
  induction d with
  | zero =>
    intro i hi
    refine Ev.step (fun k => by rw [laws_sameStory.l0]) ?_
    exact ev_neg (by omega) (ev_ret rfl)
  | succ d ih =>
    intro i hi
    refine Ev.step (fun k => by rw [laws_sameStory.l0]) ?_
    rw [w64s (by omega), rdC]
    refine ev_pos (by omega) ?_
    refine ev_pos (by omega) ?_
    refine ev_pos (by omega) ?_
    refine ev_bind (a := true) ?_ ?_
    · unfold laws_sameClaim.f
      refine ev_pos rfl ?_
      exact ev_bind (same_marks _ (hm i)) (ev_ret rfl)
    · exact ev_pos rfl (ih (i + 1) (by omega))
theorem same_story (l : List Cl) (hn : l.length < 4611686018427387904) (hm : ∀ j, (l.getD j zC).f1.length < 4611686018427387904) : Ev (fun k => laws_sameStory.f k l l) true := by
  unfold laws_sameStory.f
  exact ev_pos rfl (same_story_l l hn hm l.length 0 (by omega))
end Go.Proofs.Ytbhmippoeimliaa.M

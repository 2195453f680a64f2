/- The reference's way, from the last mark, tells the tree's value. -/
import Derived.Test.YtbhmippoeimliaaMHolds
import Derived.Test.YtbhmippoeimliaaPx13
import Derived.Test.YtbhmippoeimliaaPx12
import Derived.Test.YtbhmippoeimliaaPx12
set_option linter.unusedVariables false
set_option linter.unusedSimpArgs false
namespace Go.Proofs.Ytbhmippoeimliaa.M
open Go Go.RowKit Go.Proofs.YtbhmippoeimliaaW.PrintWords Go.Proofs.Ytbhmippoeimliaa.P
theorem spec_headsE (w : Nat) (hw : w < 16) : Ev (fun k => spec_l1Heads.f k (w : Int)) ((heads w : Nat) : Int) := by
  have h : ∀ w : Fin 16, spec_l1Heads.f 10 (w.val : Int) = some ((heads w.val : Nat) : Int) := by decide +kernel
  exact Ev.of (fun k => spec_l1Heads.mono (w : Int) k) (h ⟨w, hw⟩)
theorem starts_l (n : Int) (L : List Mk) (hL : L.length ≤ 1000) (r : Int) (t : Tm) : ∀ (pre post : List Mk) (d : Nat), t.Ok n → L = pre ++ t.enc ++ post → d ≤ 1000000 - t.enc.length →
    Ev (fun k => spec_l2Starts.l0 k L (d : Int) ((pre.length : Int) - 1)) r → Ev (fun k => spec_l2Starts.l0 k L ((d + 1 : Nat) : Int) (((pre.length + t.enc.length : Nat) : Int) - 1)) r := by
  induction t with
  | leaf m =>
    intro pre post d ht hl hd h
    refine Ev.step (fun k => by rw [spec_l2Starts.l0]) ?_
    have hlen : L.length = pre.length + 1 + post.length := by rw [hl]; simp [Tm.enc]; omega
    have hget : L.getD pre.length zM = m := by
      rw [hl]
      simp only [Tm.enc, List.append_assoc, List.singleton_append]
      exact getD_at zM pre m post
    have e : ((pre.length + (Tm.leaf m).enc.length : Nat) : Int) - 1 = (pre.length : Int) := by simp [Tm.enc]
    simp only [Tm.enc, List.length_singleton] at hd
    rw [e, rdM, hget, w64 (x := ((d + 1 : Nat) : Int) - 1) (by omega) (by omega), w64 (x := (pre.length : Int) - 1) (by omega) (by omega), show ((d + 1 : Nat) : Int) - 1 = (d : Int) by omega]
    refine ev_pos (by omega) ?_
    refine ev_pos (by omega) ?_
    refine ev_pos (by omega) ?_
    refine ev_pos (by rcases ht with h | h <;> omega) ?_
    exact h
  | neg t ih =>
    intro pre post d ht hl hd h
    refine Ev.step (fun k => by rw [spec_l2Starts.l0]) ?_
    have hlen : L.length = pre.length + t.enc.length + 1 + post.length := by rw [hl]; simp [Tm.enc]; omega
    have hget : L.getD (pre.length + t.enc.length) zM = ⟨2, 0⟩ := by
      rw [hl]
      simp only [Tm.enc, List.append_assoc, List.singleton_append]
      rw [← List.append_assoc]
      have := getD_at zM (pre ++ t.enc) ⟨2, 0⟩ post
      rwa [List.length_append] at this
    have e : ((pre.length + (Tm.neg t).enc.length : Nat) : Int) - 1 = ((pre.length + t.enc.length : Nat) : Int) := by simp [Tm.enc]; omega
    simp only [Tm.enc, List.length_append, List.length_singleton] at hd
    rw [e, rdM, hget, w64 (x := ((pre.length + t.enc.length : Nat) : Int) - 1) (by omega) (by omega)]
    refine ev_pos (by omega) ?_
    refine ev_pos (by omega) ?_
    refine ev_pos (by omega) ?_
    refine ev_neg (by decide) ?_
    refine ev_neg (by decide) ?_
    exact ih pre (⟨2, 0⟩ :: post) d ht (by rw [hl]; simp [Tm.enc]) (by omega) h
  | bin c a b iha ihb =>
    intro pre post d ht hl hd h
    obtain ⟨hc, ha, hb⟩ := ht
    refine Ev.step (fun k => by rw [spec_l2Starts.l0]) ?_
    have hlen : L.length = pre.length + a.enc.length + b.enc.length + 1 + post.length := by rw [hl]; simp [Tm.enc]; omega
    have hget : L.getD (pre.length + a.enc.length + b.enc.length) zM = ⟨c, 0⟩ := by
      rw [hl]
      simp only [Tm.enc, List.append_assoc, List.singleton_append]
      rw [← List.append_assoc, ← List.append_assoc]
      have := getD_at zM ((pre ++ a.enc) ++ b.enc) ⟨c, 0⟩ post
      rwa [List.length_append, List.length_append] at this
    have e : ((pre.length + (Tm.bin c a b).enc.length : Nat) : Int) - 1 = ((pre.length + a.enc.length + b.enc.length : Nat) : Int) := by simp [Tm.enc]; omega
    simp only [Tm.enc, List.length_append, List.length_singleton] at hd
    rw [e, rdM, hget, w64 (x := ((pre.length + a.enc.length + b.enc.length : Nat) : Int) - 1) (by omega) (by omega), w64s (by omega)]
    refine ev_pos (by omega) ?_
    refine ev_pos (by omega) ?_
    refine ev_pos (by omega) ?_
    refine ev_neg (by dsimp only; omega) ?_
    refine ev_pos (by dsimp only; omega) ?_
    have h2 := iha pre (b.enc ++ ⟨c, 0⟩ :: post) d ha (by rw [hl]; simp [Tm.enc]) (by omega) h
    rw [← List.length_append] at h2 ⊢
    exact ihb (pre ++ a.enc) (⟨c, 0⟩ :: post) (d + 1) hb (by rw [hl]; simp [Tm.enc]) (by omega) h2
theorem spec_holdsE (n : Int) (hn : n ≤ 4) (w : Nat) (hw : w < 16) (t : Tm) : t.Ok n → t.enc.length ≤ 1000 → Ev (fun k => spec_l3Holds.f k t.enc (w : Int)) (t.val w) := by
  induction t with
  | leaf m =>
    intro ht hl
    refine Ev.step (fun k => by rw [spec_l3Holds.f]) ?_
    have e : wrap64 (((Tm.leaf m).enc.length : Int) - 1) = ((0 : Nat) : Int) := by simp [Tm.enc, wrap64]
    have g : (Tm.leaf m).enc.getD 0 zM = m := rfl
    rw [e, rdM, g]
    have hlen : (Tm.leaf m).enc.length = 1 := rfl
    refine ev_pos (by omega) ?_
    refine ev_pos (by omega) ?_
    simp only [Tm.val]
    rcases ht with ⟨h0, h1, h2⟩ | ⟨h0, h1, h2⟩
    · refine ev_pos h0 ?_
      refine ev_pos h1 (ev_ret ?_)
      rw [if_pos h0, show m.f1 = ((m.f1.toNat : Nat) : Int) by omega, shr_tmod2 w m.f1.toNat (by omega), beq_one, Int.toNat_natCast]
    · refine ev_neg (by omega) ?_
      refine ev_pos h0 ?_
      refine ev_bind (spec_headsE w hw) (ev_ret ?_)
      rw [if_neg (by omega)]
  | neg t ih =>
    intro ht hl
    refine Ev.step (fun k => by rw [spec_l3Holds.f]) ?_
    have hlen : (Tm.neg t).enc.length = t.enc.length + 1 := by simp [Tm.enc]
    have g : (Tm.neg t).enc.getD t.enc.length zM = ⟨2, 0⟩ := getD_last zM t.enc ⟨2, 0⟩
    rw [hlen, w64 (x := ((t.enc.length + 1 : Nat) : Int) - 1) (by omega) (by omega), show ((t.enc.length + 1 : Nat) : Int) - 1 = (t.enc.length : Int) by omega, rdM, g, Int.toNat_natCast]
    have tk : (Tm.neg t).enc.take t.enc.length = t.enc := by simp [Tm.enc]
    rw [tk]
    refine ev_pos (by omega) ?_
    refine ev_pos (by omega) ?_
    refine ev_neg (by decide) ?_
    refine ev_neg (by decide) ?_
    refine ev_pos rfl ?_
    refine ev_pos (by omega) ?_
    exact ev_bind (ih ht (by omega)) (ev_ret rfl)
  | bin c a b iha ihb =>
    intro ht hl
    obtain ⟨hc, ha, hb⟩ := ht
    refine Ev.step (fun k => by rw [spec_l3Holds.f]) ?_
    have hbp := b.enc_pos
    have hlen : (Tm.bin c a b).enc.length = a.enc.length + b.enc.length + 1 := by simp [Tm.enc]; omega
    have g : (Tm.bin c a b).enc.getD (a.enc.length + b.enc.length) zM = ⟨c, 0⟩ := by
      have := getD_last zM (a.enc ++ b.enc) ⟨c, 0⟩
      rwa [List.length_append] at this
    rw [hlen, w64 (x := ((a.enc.length + b.enc.length + 1 : Nat) : Int) - 1) (by omega) (by omega), show ((a.enc.length + b.enc.length + 1 : Nat) : Int) - 1 = ((a.enc.length + b.enc.length : Nat) : Int) by omega, rdM, g,
      w64 (x := ((a.enc.length + b.enc.length : Nat) : Int) - 1) (by omega) (by omega), Int.toNat_natCast]
    have tk : (Tm.bin c a b).enc.take (a.enc.length + b.enc.length) = a.enc ++ b.enc := by
      rw [← List.length_append]
      exact List.take_left
    rw [tk]
    refine ev_pos (by omega) ?_
    refine ev_pos (by omega) ?_
    refine ev_neg (by dsimp only; omega) ?_
    refine ev_neg (by dsimp only; omega) ?_
    refine ev_neg (by dsimp only; omega) ?_
    have hst : Ev (fun k => spec_l2Starts.f k (Tm.bin c a b).enc (((a.enc.length + b.enc.length : Nat) : Int) - 1)) (a.enc.length : Int) := by
      unfold spec_l2Starts.f
      refine starts_l n (Tm.bin c a b).enc (by omega) (a.enc.length : Int) b a.enc [⟨c, 0⟩] 0 hb rfl (by omega) ?_
      refine Ev.step (fun k => by rw [spec_l2Starts.l0]) ?_
      refine ev_neg (by omega) (ev_ret ?_)
      rw [w64 (by omega) (by omega)]
      omega
    refine ev_bind hst ?_
    rw [Int.toNat_natCast]
    have tk2 : (Tm.bin c a b).enc.take a.enc.length = a.enc := by simp [Tm.enc]
    rw [tk2, List.drop_left]
    refine ev_pos (by omega) ?_
    refine ev_pos (by omega) ?_
    refine ev_bind (iha ha (by omega)) ?_
    refine ev_pos (by omega) ?_
    refine ev_pos (by omega) ?_
    refine ev_bind (ihb hb (by omega)) ?_
    simp only [Tm.val]
    rcases hc with rfl | rfl | rfl
    · refine ev_pos rfl ?_
      by_cases hv : a.val w = true
      · exact ev_pos hv (ev_ret (by simp [op2, hv]))
      · exact ev_neg hv (ev_ret (by simp [op2, hv]))
    · refine ev_neg (by decide) (ev_pos rfl ?_)
      by_cases hv : a.val w = true
      · exact ev_pos hv (ev_ret (by simp [op2, hv]))
      · exact ev_neg hv (ev_ret (by simp [op2, hv]))
    · refine ev_neg (by decide) (ev_neg (by decide) (ev_ret (by simp [op2])))
end Go.Proofs.Ytbhmippoeimliaa.M

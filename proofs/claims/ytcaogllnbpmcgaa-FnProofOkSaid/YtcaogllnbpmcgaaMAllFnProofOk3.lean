/- What the proof of this law needs besides: texts of ours, one behind the other. -/
import Derived.Test.YtcaogllnbpmcgaaPx23
import Derived.Test.YtcaogllnbpmcgaaPx17
import Derived.Test.YtcaogllnbpmcgaaPx8
set_option linter.unusedVariables false
set_option linter.unusedSimpArgs false
namespace Go.Proofs.Ytcaogllnbpmcgaa.M
open Go Go.RowKit Go.Proofs.YtcaogllnbpmcgaaW.PrintWords Go.Proofs.Ytcaogllnbpmcgaa.P
theorem bits_xor_i64 (a b : Nat) (ha : a < 2 ^ 62) (hb : b < 2 ^ 62) : Go.bits .xor .i64 (a : Int) (b : Int) = ((a ^^^ b : Nat) : Int) := by
 have hx : a ^^^ b < 2 ^ 62 := Nat.xor_lt_two_pow ha hb
 have ea : a % 2 ^ IntKind.i64.bits = a := Nat.mod_eq_of_lt (Nat.lt_of_lt_of_le ha (by decide))
 have eb : b % 2 ^ IntKind.i64.bits = b := Nat.mod_eq_of_lt (Nat.lt_of_lt_of_le hb (by decide))
 simp only [Go.bits, BitVec.ofInt_natCast, BitVec.toNat_xor, BitVec.toNat_ofNat, ea, eb]
 generalize a ^^^ b = q at hx ⊢
 exact wraps_i64 (q : Int) (by omega) (by omega)
def Bytes (b : List Int) : Prop := b.length ≤ 2000 ∧ ∀ x ∈ b, 0 ≤ x ∧ x ≤ 255
theorem Bytes.rd {b : List Int} (h : Bytes b) (i : Int) : 0 ≤ rd b i ∧ rd b i ≤ 255 := by
 unfold Go.Proofs.YtcaogllnbpmcgaaW.PrintWords.rd
 by_cases hi : i.toNat < b.length
 ·rw [List.getD_eq_getElem?_getD, List.getElem?_eq_getElem hi]
  exact h.2 _ (List.getElem_mem hi)
 ·rw [List.getD_eq_getElem?_getD, List.getElem?_eq_none (by omega)]
  exact ⟨by decide, by decide⟩
theorem tmod_bd (x n : Int) (hx : 0 ≤ x) (hn : 0 < n) : 0 ≤ Int.tmod x n ∧ Int.tmod x n < n := by
 rw [Int.tmod_eq_emod_of_nonneg hx]
 exact ⟨Int.emod_nonneg _ (by omega), Int.emod_lt_of_pos _ hn⟩
theorem tdiv_bd (x n : Int) (hx : 0 ≤ x) (hn : 0 < n) : 0 ≤ Int.tdiv x n ∧ Int.tdiv x n ≤ x := by
 rw [Int.tdiv_eq_ediv_of_nonneg hx]
 exact ⟨Int.ediv_nonneg hx (by omega), Int.ediv_le_self _ hx⟩
theorem pickE (b : List Int) (hb : Bytes b) (p : Nat) (hp : p ≤ 1000000) (n : Int) :
  ∃ r : Nat, Ev (fun k => spec_l20Rd_pick.f k b (p : Int) n) ((r : Int), ((p + 1 : Nat) : Int)) ∧ (1 ≤ n → (r : Int) < n) ∧ (n < 1 → r = 0) := by
 have hl := hb.1
 unfold spec_l20Rd_pick.f
 rw [w64s (by omega)]
 by_cases h : n < 1
 ·refine ⟨0, ev_pos h ?_, fun h' => by omega, fun _ => rfl⟩
  refine Ev.step (fun k => by rw [spec_l20Rd_pick.j0]) ?_
  exact ev_pos rfl (ev_ret rfl)
 by_cases h0 : b.length = 0
 ·refine ⟨0, ev_neg h ?_, fun h' => by omega, fun _ => rfl⟩
  rw [show ((b.length : Int) == 0) = true by simp [h0]]
  refine Ev.step (fun k => by rw [spec_l20Rd_pick.j0]) ?_
  exact ev_pos rfl (ev_ret rfl)
 have ep : wrap64 (((p + 1 : Nat) : Int) - 1) = (p : Int) := by
  rw [w64 (by omega) (by omega)]
  omega
 have eb : ((b.length : Int) == 0) = false := by
  rw [beq_eq_false_iff_ne]
  omega
 have out : ∀ x : Int, 0 ≤ x → Ev (fun k => spec_l20Rd_pick.j0 k n false b ((p + 1 : Nat) : Int)) (Int.tmod x n, ((p + 1 : Nat) : Int)) →
   ∃ r : Nat, Ev (fun k => if n < 1 then spec_l20Rd_pick.j0 k n true b ((p + 1 : Nat) : Int) else spec_l20Rd_pick.j0 k n ((b.length : Int) == 0) b ((p + 1 : Nat) : Int)) ((r : Int), ((p + 1 : Nat) : Int)) ∧ (1 ≤ n → (r : Int) < n) ∧ (n < 1 → r = 0) := fun x hx hE => by
  have hm := tmod_bd x n hx (by omega)
  refine ⟨(Int.tmod x n).toNat, ev_neg h ?_, fun _ => by omega, fun h' => absurd h' h⟩
  rw [eb, Int.toNat_of_nonneg hm.1]
  exact hE
 by_cases hlt : p < b.length
 ·have hr := hb.rd (p : Int)
  refine out (wrap64 (rd b (p : Int))) (by rw [w64 (by omega) (by omega)]; omega) ?_
  refine Ev.step (fun k => by rw [spec_l20Rd_pick.j0]) ?_
  rw [ep]
  refine ev_neg (by decide) ?_
  refine ev_pos (by omega) ?_
  refine ev_pos (by omega) ?_
  exact ev_neg (by omega) (ev_ret rfl)
 ·have q1 := tmod_bd (p : Int) (b.length : Int) (by omega) (by omega)
  have q2 := tdiv_bd (p : Int) (b.length : Int) (by omega) (by omega)
  have e7 : wrap64 (wrap64 ((p : Int) * 7) + 3) = (p : Int) * 7 + 3 := by rw [w64 (x := (p : Int) * 7) (by omega) (by omega), w64 (by omega) (by omega)]
  have q3 := tmod_bd ((p : Int) * 7 + 3) (b.length : Int) (by omega) (by omega)
  have hr1 := hb.rd (Int.tmod (p : Int) (b.length : Int))
  have hr2 := hb.rd (Int.tmod ((p : Int) * 7 + 3) (b.length : Int))
  obtain ⟨x, hx, hxb⟩ : ∃ x : Nat, wrap64 (wrap64 (wrap64 (wrap64 (wrap64 (rd b (Int.tmod (p : Int) (b.length : Int))) * 131) + wrap64 (wrap64 (rd b (Int.tmod ((p : Int) * 7 + 3) (b.length : Int))) * 1117)) + wrap64 ((p : Int) * 29)) + wrap64 (wrap64 (Int.tdiv (p : Int) (b.length : Int)) * 53)) = (x : Int) ∧ x < 2 ^ 60 := by
   generalize rd b (Int.tmod (p : Int) (b.length : Int)) = u at hr1 ⊢
   generalize rd b (Int.tmod ((p : Int) * 7 + 3) (b.length : Int)) = v at hr2 ⊢
   generalize Int.tdiv (p : Int) (b.length : Int) = t at q2 ⊢
   rw [w64 (x := u) (by omega) (by omega), w64 (x := v) (by omega) (by omega), w64 (x := t) (by omega) (by omega), w64 (x := u * 131) (by omega) (by omega), w64 (x := v * 1117) (by omega) (by omega), w64 (x := t * 53) (by omega) (by omega), w64 (x := (p : Int) * 29) (by omega) (by omega),
    w64 (x := u * 131 + v * 1117) (by omega) (by omega), w64 (x := u * 131 + v * 1117 + (p : Int) * 29) (by omega) (by omega), w64 (x := u * 131 + v * 1117 + (p : Int) * 29 + t * 53) (by omega) (by omega)]
   exact ⟨(u * 131 + v * 1117 + (p : Int) * 29 + t * 53).toNat, by omega, by omega⟩
  refine out (((x ^^^ (x / 64)) : Nat) : Int) (by omega) ?_
  refine Ev.step (fun k => by rw [spec_l20Rd_pick.j0]) ?_
  rw [ep, e7, hx, show Int.tdiv (x : Int) 64 = ((x / 64 : Nat) : Int) from rfl, w64 (x := ((x / 64 : Nat) : Int)) (by omega) (by omega), bits_xor_i64 _ _ (by omega) (by omega)]
  refine ev_neg (by decide) ?_
  refine ev_neg (by omega) ?_
  refine ev_neg (by omega) ?_
  refine ev_pos (by omega) ?_
  refine ev_pos (by omega) ?_
  refine ev_pos (by omega) ?_
  refine ev_pos (by omega) ?_
  exact ev_neg (by omega) (ev_ret rfl)
theorem openE (l : List Int) (hw : ∀ x ∈ l, (Lit.int .u8 x).wf = true) : ∃ b, spec_l20Open.f l = some (b, ((0 : Nat) : Int)) ∧ Bytes b := by
 have hx : ∀ x ∈ l, 0 ≤ x ∧ x ≤ 255 := fun x hx => by
  have := hw x hx
  simp [Lit.wf, IntKind.min, IntKind.max, IntKind.bits, IntKind.signed] at this
  omega
 unfold spec_l20Open.f
 by_cases h : (l.length : Int) > 2000
 ·rw [if_pos h, if_pos (by omega)]
  exact ⟨l.take 2000, rfl, by simp; omega, fun x hm => hx x (List.mem_of_mem_take hm)⟩
 ·rw [if_neg h]
  exact ⟨l, rfl, by omega, hx⟩
theorem l1InT (a b c : Int) : spec_l1In.f a b c = some (decide (b ≤ a ∧ a ≤ c)) := by
 unfold spec_l1In.f
 by_cases h : a ≥ b
 ·rw [if_pos h]
  simp [h]
 ·rw [if_neg h]
  simp
  intro h'
  omega
def M64 (s : List Mk) : Prop := ∀ i : Nat, (s.getD i zM).f1 ≤ 9223372036854775807
theorem spec_termOk_l (n : Int) (hb : n ≤ 9223372036854775807) (s : List Mk) (h64 : M64 s) (hs : s.length < 4611686018427387904) : ∀ d i p : Nat, i + d = s.length → p ≤ i →
  Tells (fun k => spec_TermOk.l0 k n s (p : Int) (i : Int)) (foldP n p (s.drop i) = some 1 ∧ (1 ≤ n ∧ n ≤ 4) ∧ s.length ≤ 15) := by
 intro d
 induction d with
 | zero =>
  intro i p hi hp
  refine Tells.step (fun k => by rw [spec_TermOk.l0]) ?_
  refine Tells.neg (by omega) ?_
  rw [List.drop_eq_nil_of_le (by omega)]
  refine Tells.bindc (l1InT n 1 4) ?_
  simp only [foldP, Option.some.injEq]
  refine Tells.ite (fun h => ?_) (fun h => Tells.no fun h' => h (decide_eq_true h'.2.1))
  have hn := of_decide_eq_true h
  refine Tells.ite (fun h1 => Tells.dec ?_) (fun h1 => Tells.no fun h' => h1 (by omega))
  exact ⟨fun h => ⟨by omega, hn, by omega⟩, fun h => by omega⟩
 | succ d ih =>
  intro i p hi hp
  refine Tells.step (fun k => by rw [spec_TermOk.l0]) ?_
  rw [foldP_drop n p s i (by omega), rdM]
  refine Tells.pos (by omega) ?_
  refine Tells.pos (by omega) ?_
  have hm64 := h64 i
  generalize hm : s.getD i zM = m at hm64
  have go : ∀ q, q ≤ i + 1 → stepP n p m = some q → Tells (fun k => spec_TermOk.l0 k n s (q : Int) ((i + 1 : Nat) : Int)) ((stepP n p m).bind (fun q => foldP n q (s.drop (i + 1))) = some 1 ∧ (1 ≤ n ∧ n ≤ 4) ∧ s.length ≤ 15) := fun q hq e => by
   rw [e]
   exact ih (i + 1) q (by omega) hq
  have no : stepP n p m = none → Tells (fun _ => some false) ((stepP n p m).bind (fun q => foldP n q (s.drop (i + 1))) = some 1 ∧ (1 ≤ n ∧ n ≤ 4) ∧ s.length ≤ 15) := fun e => by
   rw [e]
   exact Tells.no (by simp)
  have j3 : m.f0 ≠ 0 → m.f0 ≠ 1 → ¬ (m.f0 = 2 ∧ m.f1 = 0 ∧ 1 ≤ p) → Tells (fun k => spec_TermOk.j3 k n s (p : Int) (i : Int) false) ((stepP n p m).bind (fun q => foldP n q (s.drop (i + 1))) = some 1 ∧ (1 ≤ n ∧ n ≤ 4) ∧ s.length ≤ 15) := fun h0 h1 h2 => by
   refine Tells.step (fun k => by rw [spec_TermOk.j3]) ?_
   rw [rdM, hm, w64s (by omega)]
   refine Tells.neg (by decide) ?_
   refine Tells.pos (by omega) ?_
   refine Tells.pos (by omega) ?_
   refine Tells.bindc (l1InT m.f0 3 5) ?_
   have bad : ¬ (3 ≤ m.f0 ∧ m.f0 ≤ 5 ∧ m.f1 = 0 ∧ 2 ≤ p) → stepP n p m = none := fun hb => by
    unfold stepP
    rw [if_neg h0, if_neg h1]
    by_cases h2' : m.f0 = 2
    ·rw [if_pos h2', if_neg (fun h => h2 ⟨h2', h.1, h.2⟩)]
    ·rw [if_neg h2']
     by_cases h3 : 3 ≤ m.f0 ∧ m.f0 ≤ 5
     ·rw [if_pos h3, if_neg (fun h => hb ⟨h3.1, h3.2, h.1, h.2⟩)]
     ·rw [if_neg h3]
   refine Tells.ite (fun h3 => ?_) (fun h3 => no (bad fun h => h3 (decide_eq_true ⟨h.1, h.2.1⟩)))
   have h3 := of_decide_eq_true h3
   refine Tells.ite (fun h4 => ?_) (fun h4 => no (bad fun h => h4 h.2.2.1))
   refine Tells.ite (fun h5 => ?_) (fun h5 => no (bad fun h => h5 (by omega)))
   rw [w64 (x := (p : Int) - 1) (by omega) (by omega), show (p : Int) - 1 = ((p - 1 : Nat) : Int) by omega]
   exact go (p - 1) (by omega) (by unfold stepP; rw [if_neg h0, if_neg h1, if_neg (by omega), if_pos h3, if_pos ⟨h4, by omega⟩])
  have j2 : m.f0 ≠ 0 → ¬ (m.f0 = 1 ∧ 0 ≤ m.f1 ∧ m.f1 ≤ n + 1) → Tells (fun k => spec_TermOk.j2 k n s (p : Int) (i : Int) false) ((stepP n p m).bind (fun q => foldP n q (s.drop (i + 1))) = some 1 ∧ (1 ≤ n ∧ n ≤ 4) ∧ s.length ≤ 15) := fun h0 h1 => by
   refine Tells.step (fun k => by rw [spec_TermOk.j2]) ?_
   rw [rdM, hm]
   refine Tells.neg (by decide) ?_
   refine Tells.pos (by omega) ?_
   refine Tells.pos (by omega) ?_
   by_cases h11 : m.f0 = 1
   ·have e : stepP n p m = none := by
     unfold stepP
     rw [if_neg h0, if_pos h11, if_neg (fun h => h1 ⟨h11, h⟩)]
    refine Tells.neg (by simp [h11]) ?_
    refine Tells.step (fun k => by rw [spec_TermOk.j3]) ?_
    rw [rdM, hm]
    refine Tells.neg (by decide) ?_
    refine Tells.pos (by omega) ?_
    refine Tells.pos (by omega) ?_
    refine Tells.bindc (l1InT m.f0 3 5) ?_
    refine Tells.neg (fun h => by have := of_decide_eq_true h; omega) ?_
    exact no e
   refine Tells.ite (fun h2 => ?_) (fun h2 => j3 h0 h11 fun h => h2 (by simp [h.1, h.2.1]))
   have h2 : m.f0 = 2 ∧ m.f1 = 0 := by simpa using h2
   by_cases hp1 : (p : Int) ≥ 1
   ·rw [decide_eq_true hp1]
    refine Tells.step (fun k => by rw [spec_TermOk.j3]) ?_
    rw [w64s (by omega)]
    refine Tells.pos rfl ?_
    exact go p (by omega) (by unfold stepP; rw [if_neg h0, if_neg h11, if_pos h2.1, if_pos ⟨h2.2, by omega⟩])
   ·rw [decide_eq_false hp1]
    exact j3 h0 h11 fun h => hp1 (by omega)
  have j2t : m.f0 = 1 → 0 ≤ m.f1 → m.f1 ≤ n + 1 → Tells (fun k => spec_TermOk.j2 k n s (p : Int) (i : Int) true) ((stepP n p m).bind (fun q => foldP n q (s.drop (i + 1))) = some 1 ∧ (1 ≤ n ∧ n ≤ 4) ∧ s.length ≤ 15) := fun h0 h1 h2 => by
   refine Tells.step (fun k => by rw [spec_TermOk.j2]) ?_
   rw [w64s (by omega), w64s (by omega)]
   refine Tells.pos rfl ?_
   exact go (p + 1) (by omega) (by unfold stepP; rw [if_neg (by omega), if_pos h0, if_pos ⟨h1, h2⟩])
  have j1 : ¬ (m.f0 = 0 ∧ 0 ≤ m.f1 ∧ m.f1 < n) → Tells (fun k => spec_TermOk.j1 k n s (p : Int) (i : Int) false) ((stepP n p m).bind (fun q => foldP n q (s.drop (i + 1))) = some 1 ∧ (1 ≤ n ∧ n ≤ 4) ∧ s.length ≤ 15) := fun h0 => by
   refine Tells.step (fun k => by rw [spec_TermOk.j1]) ?_
   rw [rdM, hm]
   refine Tells.neg (by decide) ?_
   refine Tells.pos (by omega) ?_
   refine Tells.pos (by omega) ?_
   by_cases h00 : m.f0 = 0
   ·have e : stepP n p m = none := by
     unfold stepP
     rw [if_pos h00, if_neg (fun h => h0 ⟨h00, h⟩)]
    refine Tells.neg (by omega) ?_
    refine Tells.step (fun k => by rw [spec_TermOk.j2]) ?_
    rw [rdM, hm]
    refine Tells.neg (by decide) ?_
    refine Tells.pos (by omega) ?_
    refine Tells.pos (by omega) ?_
    refine Tells.neg (by simp [h00]) ?_
    refine Tells.step (fun k => by rw [spec_TermOk.j3]) ?_
    rw [rdM, hm]
    refine Tells.neg (by decide) ?_
    refine Tells.pos (by omega) ?_
    refine Tells.pos (by omega) ?_
    refine Tells.bindc (l1InT m.f0 3 5) ?_
    refine Tells.neg (fun h => by have := of_decide_eq_true h; omega) ?_
    exact no e
   refine Tells.ite (fun h1 => ?_) (fun h1 => j2 h00 fun h => h1 h.1)
   refine Tells.ite (fun h2 => ?_) (fun h2 => j2 h00 fun h => h2 h.2.1)
   refine Tells.ite (fun h3 => j2t h1 h2 (by omega)) (fun h3 => ?_)
   by_cases h4 : wrap64 (m.f1 - 1) = n
   ·rw [show (wrap64 (m.f1 - 1) == n) = true by simp [h4]]
    exact j2t h1 h2 (by rw [w64 (by omega) (by omega)] at h4; omega)
   ·rw [show (wrap64 (m.f1 - 1) == n) = false by simp [h4]]
    exact j2 h00 fun h => h4 (by rw [w64 (by omega) (by omega)]; omega)
  refine Tells.ite (fun h0 => ?_) (fun h0 => j1 fun h => h0 h.1)
  refine Tells.ite (fun h1 => ?_) (fun h1 => j1 fun h => h1 h.2.1)
  by_cases h2 : m.f1 < n
  ·rw [decide_eq_true h2]
   refine Tells.step (fun k => by rw [spec_TermOk.j1]) ?_
   rw [w64s (by omega), w64s (by omega)]
   refine Tells.pos rfl ?_
   exact go (p + 1) (by omega) (by unfold stepP; rw [if_pos h0, if_pos ⟨h1, h2⟩])
  ·rw [decide_eq_false h2]
   exact j1 fun h => h2 h.2.2
theorem spec_termOk (n : Int) (hb : n ≤ 9223372036854775807) (s : List Mk) (h64 : M64 s) (hs : s.length < 4611686018427387904) : Tells (fun k => spec_TermOk.f k n s) (TermP n s) := by
 unfold spec_TermOk.f
 refine (spec_termOk_l n hb s h64 hs s.length 0 0 (by omega) (by omega)).iff ?_
 rw [List.drop_zero]
 exact ⟨fun h => ⟨h.2.1, h.2.2, h.1⟩, fun h => ⟨h.2.2, h.1, h.2.1⟩⟩
theorem spec_claimOk (n : Int) (hn : n ≤ 9223372036854775807) (who : Int) (l : List Mk) (h64 : M64 l) (hl : l.length < 4611686018427387904) : Tells (fun k => spec_ClaimOk.f k n who l) (ClaimP n who l) := by
 unfold spec_ClaimOk.f
 refine Tells.ite (fun h0 => ?_) (fun h0 => Tells.no fun h' => h0 h'.1)
 refine Tells.ite (fun h1 => ?_) (fun h1 => Tells.no fun h' => h1 h'.2.1)
 obtain ⟨b, hb, hi⟩ := spec_termOk n hn l h64 hl
 refine Tells.bind hb ?_
 refine Tells.ite (fun h2 => Tells.dec ?_) (fun h2 => Tells.no fun h' => h2 (hi.2 h'.2.2.1))
 exact ⟨fun h => ⟨h0, h1, hi.1 h2, by omega⟩, fun h => by have := h.2.2.2; omega⟩
def S64 (s : List Cl) : Prop := s.length < 4611686018427387904 ∧ ∀ i, M64 (s.getD i zC).f1 ∧ (s.getD i zC).f1.length < 4611686018427387904
theorem spec_headsE (w : Nat) (hw : w < 16) : Ev (fun k => spec_l1Heads.f k (w : Int)) ((heads w : Nat) : Int) := by
 have h : ∀ w : Fin 16, spec_l1Heads.f 10 (w.val : Int) = some ((heads w.val : Nat) : Int) := by decide +kernel
 exact Ev.of (fun k => spec_l1Heads.mono (w : Int) k) (h ⟨w, hw⟩)
theorem starts_l (n : Int) (L : List Mk) (hL : L.length ≤ 1000) (r : Int) (t : Tm) : ∀ (pre post : List Mk) (d : Nat), t.Ok n → L = pre ++ t.enc ++ post → d ≤ 1000000 - t.enc.length →
  Ev (fun k => spec_l2Starts.l0 k L (d : Int) ((pre.length : Int) - 1)) r → Ev (fun k => spec_l2Starts.l0 k L ((d + 1 : Nat) : Int) (((pre.length + t.enc.length : Nat) : Int) - 1)) r := by
 induction t with
 | leaf m =>
  intro pre post d ht hl hd h
  refine Ev.step (fun k => by rw [spec_l2Starts.l0]) ?_
  have hlen : L.length = pre.length + 1 + post.length := by rw [hl]; simp [Tm.enc]; omega
  have hget : L.getD pre.length zM = m := by
   rw [hl]
   simp only [Tm.enc, List.append_assoc, List.singleton_append]
   exact getD_at zM pre m post
  have e : ((pre.length + (Tm.leaf m).enc.length : Nat) : Int) - 1 = (pre.length : Int) := by simp [Tm.enc]
  simp only [Tm.enc, List.length_singleton] at hd
  rw [e, rdM, hget, w64 (x := ((d + 1 : Nat) : Int) - 1) (by omega) (by omega), w64 (x := (pre.length : Int) - 1) (by omega) (by omega), show ((d + 1 : Nat) : Int) - 1 = (d : Int) by omega]
  refine ev_pos (by omega) ?_
  refine ev_pos (by omega) ?_
  refine ev_pos (by omega) ?_
  refine ev_pos (by rcases ht with h | h <;> omega) ?_
  exact h
 | neg t ih =>
  intro pre post d ht hl hd h
  refine Ev.step (fun k => by rw [spec_l2Starts.l0]) ?_
  have hlen : L.length = pre.length + t.enc.length + 1 + post.length := by rw [hl]; simp [Tm.enc]; omega
  have hget : L.getD (pre.length + t.enc.length) zM = ⟨2, 0⟩ := by
   rw [hl]
   simp only [Tm.enc, List.append_assoc, List.singleton_append]
   rw [← List.append_assoc]
   have := getD_at zM (pre ++ t.enc) ⟨2, 0⟩ post
   rwa [List.length_append] at this
  have e : ((pre.length + (Tm.neg t).enc.length : Nat) : Int) - 1 = ((pre.length + t.enc.length : Nat) : Int) := by simp [Tm.enc]; omega
  simp only [Tm.enc, List.length_append, List.length_singleton] at hd
  rw [e, rdM, hget, w64 (x := ((pre.length + t.enc.length : Nat) : Int) - 1) (by omega) (by omega)]
  refine ev_pos (by omega) ?_
  refine ev_pos (by omega) ?_
  refine ev_pos (by omega) ?_
  refine ev_neg (by decide) ?_
  refine ev_neg (by decide) ?_
  exact ih pre (⟨2, 0⟩ :: post) d ht (by rw [hl]; simp [Tm.enc]) (by omega) h
 | bin c a b iha ihb =>
  intro pre post d ht hl hd h
  obtain ⟨hc, ha, hb⟩ := ht
  refine Ev.step (fun k => by rw [spec_l2Starts.l0]) ?_
  have hlen : L.length = pre.length + a.enc.length + b.enc.length + 1 + post.length := by rw [hl]; simp [Tm.enc]; omega
  have hget : L.getD (pre.length + a.enc.length + b.enc.length) zM = ⟨c, 0⟩ := by
   rw [hl]
   simp only [Tm.enc, List.append_assoc, List.singleton_append]
   rw [← List.append_assoc, ← List.append_assoc]
   have := getD_at zM ((pre ++ a.enc) ++ b.enc) ⟨c, 0⟩ post
   rwa [List.length_append, List.length_append] at this
  have e : ((pre.length + (Tm.bin c a b).enc.length : Nat) : Int) - 1 = ((pre.length + a.enc.length + b.enc.length : Nat) : Int) := by simp [Tm.enc]; omega
  simp only [Tm.enc, List.length_append, List.length_singleton] at hd
  rw [e, rdM, hget, w64 (x := ((pre.length + a.enc.length + b.enc.length : Nat) : Int) - 1) (by omega) (by omega), w64s (by omega)]
  refine ev_pos (by omega) ?_
  refine ev_pos (by omega) ?_
  refine ev_pos (by omega) ?_
  refine ev_neg (by dsimp only; omega) ?_
  refine ev_pos (by dsimp only; omega) ?_
  have h2 := iha pre (b.enc ++ ⟨c, 0⟩ :: post) d ha (by rw [hl]; simp [Tm.enc]) (by omega) h
  rw [← List.length_append] at h2 ⊢
  exact ihb (pre ++ a.enc) (⟨c, 0⟩ :: post) (d + 1) hb (by rw [hl]; simp [Tm.enc]) (by omega) h2
theorem spec_holdsE (n : Int) (hn : n ≤ 4) (w : Nat) (hw : w < 16) (t : Tm) : t.Ok n → t.enc.length ≤ 1000 → Ev (fun k => spec_l3Holds.f k t.enc (w : Int)) (t.val w) := by
 induction t with
 | leaf m =>
  intro ht hl
  refine Ev.step (fun k => by rw [spec_l3Holds.f]) ?_
  have e : wrap64 (((Tm.leaf m).enc.length : Int) - 1) = ((0 : Nat) : Int) := by simp [Tm.enc, wrap64]
  have g : (Tm.leaf m).enc.getD 0 zM = m := rfl
  rw [e, rdM, g]
  have hlen : (Tm.leaf m).enc.length = 1 := rfl
  refine ev_pos (by omega) ?_
  refine ev_pos (by omega) ?_
  simp only [Tm.val]
  rcases ht with ⟨h0, h1, h2⟩ | ⟨h0, h1, h2⟩
  ·refine ev_pos h0 ?_
   refine ev_pos h1 (ev_ret ?_)
   rw [if_pos h0, show m.f1 = ((m.f1.toNat : Nat) : Int) by omega, shr_tmod2 w m.f1.toNat (by omega), beq_one, Int.toNat_natCast]
  ·refine ev_neg (by omega) ?_
   refine ev_pos h0 ?_
   refine ev_bind (spec_headsE w hw) (ev_ret ?_)
   rw [if_neg (by omega)]
 | neg t ih =>
  intro ht hl
  refine Ev.step (fun k => by rw [spec_l3Holds.f]) ?_
  have hlen : (Tm.neg t).enc.length = t.enc.length + 1 := by simp [Tm.enc]
  have g : (Tm.neg t).enc.getD t.enc.length zM = ⟨2, 0⟩ := getD_last zM t.enc ⟨2, 0⟩
  rw [hlen, w64 (x := ((t.enc.length + 1 : Nat) : Int) - 1) (by omega) (by omega), show ((t.enc.length + 1 : Nat) : Int) - 1 = (t.enc.length : Int) by omega, rdM, g, Int.toNat_natCast]
  have tk : (Tm.neg t).enc.take t.enc.length = t.enc := by simp [Tm.enc]
  rw [tk]
  refine ev_pos (by omega) ?_
  refine ev_pos (by omega) ?_
  refine ev_neg (by decide) ?_
  refine ev_neg (by decide) ?_
  refine ev_pos rfl ?_
  refine ev_pos (by omega) ?_
  exact ev_bind (ih ht (by omega)) (ev_ret rfl)
 | bin c a b iha ihb =>
  intro ht hl
  obtain ⟨hc, ha, hb⟩ := ht
  refine Ev.step (fun k => by rw [spec_l3Holds.f]) ?_
  have hbp := b.enc_pos
  have hlen : (Tm.bin c a b).enc.length = a.enc.length + b.enc.length + 1 := by simp [Tm.enc]; omega
  have g : (Tm.bin c a b).enc.getD (a.enc.length + b.enc.length) zM = ⟨c, 0⟩ := by
   have := getD_last zM (a.enc ++ b.enc) ⟨c, 0⟩
   rwa [List.length_append] at this
  rw [hlen, w64 (x := ((a.enc.length + b.enc.length + 1 : Nat) : Int) - 1) (by omega) (by omega), show ((a.enc.length + b.enc.length + 1 : Nat) : Int) - 1 = ((a.enc.length + b.enc.length : Nat) : Int) by omega, rdM, g,
   w64 (x := ((a.enc.length + b.enc.length : Nat) : Int) - 1) (by omega) (by omega), Int.toNat_natCast]
  have tk : (Tm.bin c a b).enc.take (a.enc.length + b.enc.length) = a.enc ++ b.enc := by
   rw [← List.length_append]
   exact List.take_left
  rw [tk]
  refine ev_pos (by omega) ?_
  refine ev_pos (by omega) ?_
  refine ev_neg (by dsimp only; omega) ?_
  refine ev_neg (by dsimp only; omega) ?_
  refine ev_neg (by dsimp only; omega) ?_
  have hst : Ev (fun k => spec_l2Starts.f k (Tm.bin c a b).enc (((a.enc.length + b.enc.length : Nat) : Int) - 1)) (a.enc.length : Int) := by
   unfold spec_l2Starts.f
   refine starts_l n (Tm.bin c a b).enc (by omega) (a.enc.length : Int) b a.enc [⟨c, 0⟩] 0 hb rfl (by omega) ?_
   refine Ev.step (fun k => by rw [spec_l2Starts.l0]) ?_
   refine ev_neg (by omega) (ev_ret ?_)
   rw [w64 (by omega) (by omega)]
   omega
  refine ev_bind hst ?_
  rw [Int.toNat_natCast]
  have tk2 : (Tm.bin c a b).enc.take a.enc.length = a.enc := by simp [Tm.enc]
  rw [tk2, List.drop_left]
  refine ev_pos (by omega) ?_
  refine ev_pos (by omega) ?_
  refine ev_bind (iha ha (by omega)) ?_
  refine ev_pos (by omega) ?_
  refine ev_pos (by omega) ?_
  refine ev_bind (ihb hb (by omega)) ?_
  simp only [Tm.val]
  rcases hc with rfl | rfl | rfl
  ·refine ev_pos rfl ?_
   by_cases hv : a.val w = true
   ·exact ev_pos hv (ev_ret (by simp [op2, hv]))
   ·exact ev_neg hv (ev_ret (by simp [op2, hv]))
  ·refine ev_neg (by decide) (ev_pos rfl ?_)
   by_cases hv : a.val w = true
   ·exact ev_pos hv (ev_ret (by simp [op2, hv]))
   ·exact ev_neg hv (ev_ret (by simp [op2, hv]))
  ·refine ev_neg (by decide) (ev_neg (by decide) (ev_ret (by simp [op2])))
theorem spec_holdsT {n : Int} {l : List Mk} (h : TermP n l) (w : Nat) (hw : w < 16) : Ev (fun k => spec_l3Holds.f k l (w : Int)) (holdB l w) := by
 obtain ⟨t, ht, rfl⟩ := h.tree
 rw [holdB_enc n w t ht]
 exact spec_holdsE n h.1.2 w hw t ht (by have := h.2.1; omega)
theorem spec_mayE {n : Int} {l : List Mk} (h : TermP n l) (who : Int) (h0 : 0 ≤ who) (h4 : who < 4) (w : Nat) (hw : w < 16) : Ev (fun k => spec_l4May.f k who l (w : Int)) (mayB who.toNat l w) := by
 unfold spec_l4May.f
 refine ev_pos h0 ?_
 refine ev_bind (spec_holdsT h w hw) (ev_ret ?_)
 rw [show who = ((who.toNat : Nat) : Int) by omega, shr_tmod2 w who.toNat (by omega), beq_one]
 unfold mayB
 rw [Int.toNat_natCast]
def SmallL (l : List Mk) : Prop := ∀ x ∈ l, x.f1 ≤ 9223372036854775807
theorem SmallL.M64 {l : List Mk} (h : SmallL l) : M64 l := fun i => by
 rcases Nat.lt_or_ge i l.length with hi | hi
 ·rw [List.getD_eq_getElem?_getD, List.getElem?_eq_getElem hi]
  exact h _ (List.getElem_mem hi)
 ·rw [List.getD_eq_getElem?_getD, List.getElem?_eq_none hi]
  show zM.f1 ≤ _
  decide
theorem SmallL.app {l m : List Mk} (h : SmallL l) (h' : SmallL m) : SmallL (l ++ m) := fun x hx => by
 rcases List.mem_append.1 hx with hx | hx
 ·exact h x hx
 ·exact h' x hx
theorem SmallL.one {x : Mk} (h : x.f1 ≤ 9223372036854775807) : SmallL [x] := fun y hy => by
 rw [List.mem_singleton.1 hy]
 exact h
theorem oddE (b : List Int) (hb : Bytes b) (p : Nat) (hp : p ≤ 100000) (n : Int) : ∃ o : Bool, ∃ q : Nat, Ev (fun k => spec_l20Rd_odd.f k b (p : Int) n) (o, (q : Int)) ∧ q ≤ p + 1 := by
 unfold spec_l20Rd_odd.f
 by_cases h : n > 0
 ·obtain ⟨r, e, _⟩ := pickE b hb p (by omega) n
  exact ⟨_, p + 1, ev_pos h (ev_bind e (ev_ret rfl)), Nat.le_refl _⟩
 ·exact ⟨false, p, ev_neg h (ev_ret rfl), by omega⟩
theorem pickB (b : List Int) (hb : Bytes b) (p : Nat) (hp : p ≤ 100000) (n : Int) (hn : n ≤ 9223372036854775807) : ∃ r : Nat, Ev (fun k => spec_l20Rd_pick.f k b (p : Int) n) ((r : Int), ((p + 1 : Nat) : Int)) ∧ (1 ≤ n → (r : Int) < n) ∧ (r : Int) ≤ 9223372036854775807 := by
 obtain ⟨r, e, h1, h2⟩ := pickE b hb p (by omega) n
 refine ⟨r, e, h1, ?_⟩
 by_cases h : 1 ≤ n
 ·have := h1 h
  omega
 ·have := h2 (by omega)
  omega
theorem term_j2 (b : List Int) (hb : Bytes b) (d : Int) (t : List Mk) (p : Nat) (hp : p ≤ 10000) (h1 : 1 ≤ t.length) (h2 : t.length ≤ 4096) (hs : SmallL t) :
  ∃ (s : List Mk) (q : Nat), Ev (fun k => spec_l20Term.j2 k d t b (p : Int)) (s, (q : Int)) ∧ s.length ≤ 4097 ∧ SmallL s ∧ q ≤ p + 3 := by
 obtain ⟨o, q, eo, hq⟩ := oddE b hb p (by omega) d
 cases o with
 | false =>
  refine ⟨t, q, Ev.step (fun k => by rw [spec_l20Term.j2]) ?_, by omega, hs, by omega⟩
  exact ev_bind eo (ev_neg (by simp) (ev_ret rfl))
 | true =>
  obtain ⟨r, e, _⟩ := pickE b hb q (by omega) 3
  by_cases h0 : r = 0
  ·refine ⟨[], q + 1, Ev.step (fun k => by rw [spec_l20Term.j2]) ?_, by simp, fun x hx => by simp at hx, by omega⟩
   exact ev_bind eo (ev_pos rfl (ev_bind e (ev_pos (by simp [h0]) (ev_ret rfl))))
  by_cases h1' : r = 1
  ·refine ⟨t ++ [⟨5, 0⟩], q + 1, Ev.step (fun k => by rw [spec_l20Term.j2]) ?_, by simp; omega, hs.app (SmallL.one (by decide)), by omega⟩
   exact ev_bind eo (ev_pos rfl (ev_bind e (ev_neg (by simp; omega) (ev_pos (by simp [h1']) (ev_pos (by omega) (ev_ret rfl))))))
  ·obtain ⟨r2, e2, _⟩ := pickE b hb (q + 1) (by omega) 2
   refine ⟨t.set 0 ⟨(r2 : Int), 6⟩, q + 2, Ev.step (fun k => by rw [spec_l20Term.j2]) ?_, by simp; omega, fun x hx => ?_, by omega⟩
   ·exact ev_bind eo (ev_pos rfl (ev_bind e (ev_neg (by simp; omega) (ev_neg (by simp; omega) (ev_bind e2 (ev_pos (by omega) (ev_ret rfl)))))))
   ·rcases List.mem_or_eq_of_mem_set hx with hx | rfl
    ·exact hs x hx
    ·show (6 : Int) ≤ _
     decide
def PartsP (c : Nat) (xs : List (List Mk)) : Prop := ∀ r ∈ xs, 1 ≤ r.length ∧ r.length ≤ c ∧ SmallL r
theorem parts_at {c : Nat} {xs : List (List Mk)} (h : PartsP c xs) (i : Nat) (hi : i < xs.length) : 1 ≤ (rd_Lparts xs (i : Int)).length ∧ (rd_Lparts xs (i : Int)).length ≤ c ∧ SmallL (rd_Lparts xs (i : Int)) := by
 unfold rd_Lparts
 rw [Int.toNat_natCast, List.getD_eq_getElem?_getD, List.getElem?_eq_getElem hi]
 exact h _ (List.getElem_mem hi)
def Fits (c m : Nat) : Prop := (c + 1) * 2 ^ m ≤ 4096
theorem Fits.next {c m : Nat} (h : Fits c (m + 1)) : Fits (2 * c + 1) m := by
 unfold Fits at h ⊢
 rw [show 2 * c + 1 + 1 = (c + 1) * 2 by omega, Nat.mul_assoc, Nat.mul_comm 2, ← Nat.pow_succ]
 exact h
theorem Fits.le {c m : Nat} (h : Fits c m) : c + 1 ≤ 4096 := by
 unfold Fits at h
 have h2 : 1 ≤ 2 ^ m := Nat.one_le_two_pow
 have h3 : (c + 1) * 1 ≤ (c + 1) * 2 ^ m := Nat.mul_le_mul_left _ h2
 rw [Nat.mul_one] at h3
 exact Nat.le_trans h3 h
theorem Fits.start : Fits 1 7 := by
 unfold Fits
 decide
set_option maxHeartbeats 1600000 in
theorem term_l1 (b : List Int) (hb : Bytes b) (d : Int) : ∀ (m : Nat) (xs : List (List Mk)) (x9 p c : Nat), 1 ≤ xs.length → xs.length + x9 ≤ m → m ≤ 12 → Fits c m → PartsP c xs → p + 3 * m ≤ 5000 →
  ∃ (s : List Mk) (q : Nat), Ev (fun k => spec_l20Term.l1 k d xs (x9 : Int) b (p : Int)) (s, (q : Int)) ∧ s.length ≤ 4097 ∧ SmallL s ∧ q ≤ p + 3 * m + 4 := by
 intro m
 induction m with
 | zero => intro xs x9 p c h1 h2; omega
 | succ m ih =>
  intro xs x9 p c h1 h2 hm hc hP hp
  have hc2 := hc.next
  have hc4 := hc.le
  clear hc
  by_cases hl : xs.length = 1
  ·-- one part left: it is the term
   obtain ⟨a1, a2, a3⟩ : 1 ≤ (rd_Lparts xs 0).length ∧ (rd_Lparts xs 0).length ≤ c ∧ SmallL (rd_Lparts xs 0) := parts_at hP 0 (by omega)
   obtain ⟨r, e, _⟩ := pickE b hb p (by omega) 5
   by_cases h0 : r = 0
   ·obtain ⟨s, q, hE, hs1, hs2, hq⟩ := term_j2 b hb d (rd_Lparts xs 0 ++ [⟨2, 0⟩]) (p + 1) (by omega) (by simp) (by simp; omega) (a3.app (SmallL.one (by decide)))
    refine ⟨s, q, Ev.step (fun k => by rw [spec_l20Term.l1]) ?_, hs1, hs2, by omega⟩
    refine ev_neg (by omega) (ev_pos (by omega) ?_)
    simp only [Option.bind_some, List.nil_append]
    refine ev_pos (by simp only [List.length_nil]; omega) ?_
    exact ev_bind e (ev_pos (by simp [h0]) (ev_pos (by have : (rd_Lparts xs (0 : Int)).length ≤ c := a2; omega) hE))
   ·obtain ⟨s, q, hE, hs1, hs2, hq⟩ := term_j2 b hb d (rd_Lparts xs 0) (p + 1) (by omega) a1 (by omega) a3
    refine ⟨s, q, Ev.step (fun k => by rw [spec_l20Term.l1]) ?_, hs1, hs2, by omega⟩
    refine ev_neg (by omega) (ev_pos (by omega) ?_)
    simp only [Option.bind_some, List.nil_append]
    refine ev_pos (by simp only [List.length_nil]; omega) ?_
    exact ev_bind e (ev_neg (by simp; omega) hE)
  ·obtain ⟨r, e, hr, _⟩ := pickE b hb p (by omega) ((xs.length : Int) - 1)
   have hr := hr (by omega)
   obtain ⟨a1, a2, a3⟩ := parts_at hP r (by omega)
   obtain ⟨b1, b2, b3⟩ := parts_at hP (r + 1) (by omega)
   have w1 : wrap64 ((r : Int) + 1) = ((r + 1 : Nat) : Int) := w64s (by omega)
   have w2 : wrap64 ((r : Int) + 2) = ((r + 2 : Nat) : Int) := by rw [w64 (by omega) (by omega)]; omega
   have wl : wrap64 ((xs.length : Int) - 1) = (xs.length : Int) - 1 := w64 (by omega) (by omega)
   generalize hA : rd_Lparts xs (r : Int) = A at a1 a2 a3
   generalize hB : rd_Lparts xs ((r + 1 : Nat) : Int) = B at b1 b2 b3
   -- two parts made one
   have J : ∀ p1 : Nat, p ≤ p1 → p1 ≤ p + 2 → ∃ (r3 : Nat) (s : List Mk) (q : Nat), Ev (fun k => spec_l20Rd_pick.f k b (p1 : Int) 3) ((r3 : Int), ((p1 + 1 : Nat) : Int)) ∧
     Ev (fun k => spec_l20Term.l1 k d (xs.take r ++ [A ++ B ++ [⟨wrap64 (3 + (r3 : Int)), 0⟩]] ++ xs.drop (r + 2)) (x9 : Int) b ((p1 + 1 : Nat) : Int)) (s, (q : Int)) ∧ s.length ≤ 4097 ∧ SmallL s ∧ q ≤ p + 3 * (m + 1) + 4 := fun p1 hp1 hp2 => by
    obtain ⟨r3, e3, _⟩ := pickE b hb p1 (by omega) 3
    obtain ⟨s, q, hE, hs1, hs2, hq⟩ := ih (xs.take r ++ [A ++ B ++ [⟨wrap64 (3 + (r3 : Int)), 0⟩]] ++ xs.drop (r + 2)) x9 (p1 + 1) (2 * c + 1) (by simp; omega) (by simp; omega) (by omega) hc2 (fun z hz => by
     simp only [List.mem_append, List.mem_singleton] at hz
     rcases hz with (hz | rfl) | hz
     ·obtain ⟨y1, y2, y3⟩ := hP z (List.mem_of_mem_take hz); exact ⟨y1, by omega, y3⟩
     ·refine ⟨by simp; omega, by simp only [List.length_append, List.length_singleton]; omega, (a3.app b3).app (SmallL.one (show (0 : Int) ≤ 9223372036854775807 by decide))⟩
     ·obtain ⟨y1, y2, y3⟩ := hP z (List.mem_of_mem_drop hz); exact ⟨y1, by omega, y3⟩) (by omega)
    exact ⟨r3, s, q, e3, hE, hs1, hs2, by omega⟩
   have walkJ : ∀ (p1 r3 : Nat) (s : List Mk) (q : Nat), Ev (fun k => spec_l20Rd_pick.f k b (p1 : Int) 3) ((r3 : Int), ((p1 + 1 : Nat) : Int)) →
     Ev (fun k => spec_l20Term.l1 k d (xs.take r ++ [A ++ B ++ [⟨wrap64 (3 + (r3 : Int)), 0⟩]] ++ xs.drop (r + 2)) (x9 : Int) b ((p1 + 1 : Nat) : Int)) (s, (q : Int)) →
     Ev (fun k => if (0 : Int) ≤ (r : Int) then (if (r : Int) < (xs.length : Int) then (if 0 + (A).length < 8796093022208 then (if (0 : Int) ≤ ((r + 1 : Nat) : Int) then (if ((r + 1 : Nat) : Int) < (xs.length : Int) then (if (A).length + (B).length < 8796093022208 then ((spec_l20Rd_pick.f k b (p1 : Int) 3).bind fun bt => (if (A ++ B).length < 8796093022208 then (if (r : Int) ≤ (xs.length : Int) then (if 0 + (xs.take (r : Int).toNat).length < 5864062014805 then (if (xs.take (r : Int).toNat).length < 5864062014805 then (if (0 : Int) ≤ ((r + 2 : Nat) : Int) then (if ((r + 2 : Nat) : Int) ≤ (xs.length : Int) then (if (xs.take (r : Int).toNat ++ [A ++ B ++ [(⟨wrap64 (3 + bt.1), 0⟩ : Mk)]]).length + (xs.drop ((r + 2 : Nat) : Int).toNat).length < 5864062014805 then (spec_l20Term.l1 k d (xs.take (r : Int).toNat ++ [A ++ B ++ [(⟨wrap64 (3 + bt.1), 0⟩ : Mk)]] ++ xs.drop ((r + 2 : Nat) : Int).toNat) (x9 : Int) b bt.2) else none) else none) else none) else none) else none) else none) else none)) else none) else none) else none) else none) else none) else none) (s, (q : Int)) := fun p1 r3 s q e3 hE => by
    refine ev_pos (by omega) (ev_pos (by omega) (ev_pos (by omega) (ev_pos (by omega) (ev_pos (by omega) (ev_pos (by omega) (ev_bind e3 ?_))))))
    simp only [Int.toNat_natCast]
    refine ev_pos (by simp; omega) (ev_pos (by omega) (ev_pos (by simp; omega) (ev_pos (by simp; omega) (ev_pos (by omega) (ev_pos (by omega) (ev_pos (by simp; omega) hE))))))
   by_cases h9 : 0 < x9
   ·obtain ⟨r2, e2, _⟩ := pickE b hb (p + 1) (by omega) 4
    by_cases hz : r2 = 0
    ·-- one part turned
     obtain ⟨s, q, hE, hs1, hs2, hq⟩ := ih (xs.set r (A ++ [⟨2, 0⟩])) (x9 - 1) (p + 2) (2 * c + 1) (by simp; omega) (by simp; omega) (by omega) hc2 (fun z hz => by
      rcases List.mem_or_eq_of_mem_set hz with hz | rfl
      ·obtain ⟨y1, y2, y3⟩ := hP z hz; exact ⟨y1, by omega, y3⟩
      ·exact ⟨by simp, by simp; omega, a3.app (SmallL.one (by decide))⟩) (by omega)
     refine ⟨s, q, Ev.step (fun k => by rw [spec_l20Term.l1]) ?_, hs1, hs2, by omega⟩
     refine ev_pos (by omega) ?_
     rw [wl]
     refine ev_bind e ?_
     refine ev_pos (by omega) (ev_bind e2 (ev_pos (by simp [hz]) ?_))
     simp only [Option.bind_some, List.nil_append, List.length_nil, Int.toNat_natCast, hA]
     refine ev_pos (by omega) (ev_pos (by omega) (ev_pos (by omega) (ev_pos (by omega) ?_)))
     rw [w64 (x := (x9 : Int) - 1) (by omega) (by omega), show (x9 : Int) - 1 = ((x9 - 1 : Nat) : Int) by omega]
     exact hE
    ·obtain ⟨r3, s, q, e3, hE, hs1, hs2, hq⟩ := J (p + 2) (by omega) (by omega)
     refine ⟨s, q, Ev.step (fun k => by rw [spec_l20Term.l1]) ?_, hs1, hs2, hq⟩
     refine ev_pos (by omega) ?_
     rw [wl]
     refine ev_bind e ?_
     refine ev_pos (by omega) (ev_bind e2 (ev_neg (by simp; omega) ?_))
     simp only [Option.bind_some, List.nil_append, List.length_nil, w1, w2, hA, hB]
     exact walkJ _ _ _ _ e3 hE
   ·obtain ⟨r3, s, q, e3, hE, hs1, hs2, hq⟩ := J (p + 1) (by omega) (by omega)
    refine ⟨s, q, Ev.step (fun k => by rw [spec_l20Term.l1]) ?_, hs1, hs2, hq⟩
    refine ev_pos (by omega) ?_
    rw [wl]
    refine ev_bind e ?_
    refine ev_neg (by omega) ?_
    simp only [Option.bind_some, List.nil_append, List.length_nil, w1, w2, hA, hB]
    exact walkJ _ _ _ _ e3 hE
theorem term_l0 (b : List Int) (hb : Bytes b) (d x1 : Int) (h1 : 1 ≤ x1) (h4 : x1 ≤ 4) : ∀ (n : Nat) (xs : List (List Mk)) (p : Nat), xs.length + n ≤ 4 → 1 ≤ xs.length + n → PartsP 1 xs → p + 2 * n ≤ 4000 →
  ∃ (s : List Mk) (q : Nat), Ev (fun k => spec_l20Term.l0 k x1 d xs (n : Int) b (p : Int)) (s, (q : Int)) ∧ s.length ≤ 4097 ∧ SmallL s ∧ q ≤ p + 2 * n + 25 := by
 intro n
 induction n with
 | zero =>
  intro xs p hn hn1 hP hp
  obtain ⟨s, q, hE, hs1, hs2, hq⟩ := term_l1 b hb d 7 xs 3 p 1 (by omega) (by omega) (by omega) Fits.start hP (by omega)
  refine ⟨s, q, Ev.step (fun k => by rw [spec_l20Term.l0]) ?_, hs1, hs2, by omega⟩
  exact ev_neg (by decide) hE
 | succ n ih =>
  intro xs p hn hn1 hP hp
  obtain ⟨r, e, _⟩ := pickE b hb p (by omega) 4
  have hw : wrap64 (((n + 1 : Nat) : Int) - 1) = (n : Int) := by rw [w64 (by omega) (by omega)]; omega
  have one : ∀ z : Mk, z.f1 ≤ 9223372036854775807 → PartsP 1 (xs ++ [[z]]) := fun z hz y hy => by
   rcases List.mem_append.1 hy with hy | hy
   ·exact hP y hy
   ·rw [List.mem_singleton.1 hy]
    exact ⟨by simp, by simp, SmallL.one hz⟩
  by_cases h0 : r = 0
  ·obtain ⟨r2, e2, _, hr2⟩ := pickB b hb (p + 1) (by omega) (wrap64 (x1 + 2)) (by rw [w64 (by omega) (by omega)]; omega)
   obtain ⟨s, q, hE, hs1, hs2, hq⟩ := ih (xs ++ [[⟨1, (r2 : Int)⟩]]) (p + 2) (by simp; omega) (by simp; omega) (one _ hr2) (by omega)
   refine ⟨s, q, Ev.step (fun k => by rw [spec_l20Term.l0]) ?_, hs1, hs2, by omega⟩
   rw [hw]
   exact ev_pos (by omega) (ev_bind e (ev_pos (by simp [h0]) (ev_bind e2 (ev_pos (by omega) hE))))
  ·obtain ⟨r2, e2, _, hr2⟩ := pickB b hb (p + 1) (by omega) x1 (by omega)
   obtain ⟨s, q, hE, hs1, hs2, hq⟩ := ih (xs ++ [[⟨0, (r2 : Int)⟩]]) (p + 2) (by simp; omega) (by simp; omega) (one _ hr2) (by omega)
   refine ⟨s, q, Ev.step (fun k => by rw [spec_l20Term.l0]) ?_, hs1, hs2, by omega⟩
   rw [hw]
   exact ev_pos (by omega) (ev_bind e (ev_neg (by simp; omega) (ev_bind e2 (ev_pos (by omega) hE))))
theorem l20TermE (b : List Int) (hb : Bytes b) (p : Nat) (hp : p ≤ 3900) (people d : Int) : ∃ (s : List Mk) (q : Nat), Ev (fun k => spec_l20Term.f k b (p : Int) people d) (s, (q : Int)) ∧ s.length ≤ 4097 ∧ SmallL s ∧ q ≤ p + 40 := by
 obtain ⟨r, e, hr, _⟩ := pickE b hb p (by omega) 4
 have hr := hr (by decide)
 obtain ⟨s, q, hE, hs1, hs2, hq⟩ := term_l0 b hb d (mn (mx people 1) 4) (by unfold mn mx; split <;> split <;> omega) (by unfold mn mx; split <;> split <;> omega) (r + 1) [] (p + 1) (by simp; omega) (by simp) (fun r hr => by simp at hr) (by omega)
 refine ⟨s, q, ?_, hs1, hs2, by omega⟩
 unfold spec_l20Term.f
 refine ev_bind e ?_
 dsimp only
 rw [w64 (x := 1 + (r : Int)) (by omega) (by omega), show 1 + (r : Int) = ((r + 1 : Nat) : Int) by omega]
 exact hE
theorem l20ClaimE (b : List Int) (hb : Bytes b) (p : Nat) (hp : p ≤ 3000) (people d : Int) : ∃ (who : Int) (t : List Mk) (q : Nat), Ev (fun k => spec_l20Claim.f k b (p : Int) people d) (who, t, (q : Int)) ∧ t.length ≤ 4097 ∧ SmallL t ∧ q ≤ p + 50 := by
 obtain ⟨r, e, _⟩ := pickE b hb p (by omega) (mx people 1)
 obtain ⟨t, q, et, ht1, ht2, hq⟩ := l20TermE b hb (p + 1) (by omega) people (wrap64 (d * 2))
 obtain ⟨o, q2, eo, hq2⟩ := oddE b hb q (by omega) d
 cases o with
 | false =>
  refine ⟨(r : Int), t, q2, ?_, ht1, ht2, by omega⟩
  unfold spec_l20Claim.f
  exact ev_bind e (ev_bind et (ev_bind eo (ev_neg (by simp) (ev_ret rfl))))
 | true =>
  obtain ⟨r2, e2, h2, _⟩ := pickE b hb q2 (by omega) 2
  have h2 := h2 (by decide)
  refine ⟨rd [(-1), 4] (r2 : Int), t, q2 + 1, ?_, ht1, ht2, by omega⟩
  unfold spec_l20Claim.f
  refine ev_bind e (ev_bind et (ev_bind eo (ev_pos rfl ?_)))
  simp only [Option.bind_some]
  exact ev_bind e2 (ev_pos (by omega) (ev_pos (by simp; omega) (ev_ret rfl)))
def SmallS (s : List Cl) : Prop := ∀ c ∈ s, c.f1.length ≤ 4097 ∧ SmallL c.f1
theorem SmallS.S64 {s : List Cl} (h : SmallS s) (hl : s.length < 4611686018427387904) : S64 s := ⟨hl, fun i => by
 rcases Nat.lt_or_ge i s.length with hi | hi
 ·rw [List.getD_eq_getElem?_getD, List.getElem?_eq_getElem hi]
  obtain ⟨h1, h2⟩ := h _ (List.getElem_mem hi)
  exact ⟨h2.M64, by show (s[i]).f1.length < _; omega⟩
 ·rw [List.getD_eq_getElem?_getD, List.getElem?_eq_none hi]
  have h0 : zC.f1 = ([] : List Mk) := rfl
  refine ⟨SmallL.M64 (fun x hx => ?_), ?_⟩
  ·have hx : x ∈ zC.f1 := hx
   rw [h0] at hx
   simp at hx
  ·show zC.f1.length < _
   rw [h0]
   decide⟩
theorem SmallS.app {s : List Cl} (h : SmallS s) {c : Cl} (h1 : c.f1.length ≤ 4097) (h2 : SmallL c.f1) : SmallS (s ++ [c]) := fun x hx => by
 rcases List.mem_append.1 hx with hx | hx
 ·exact h x hx
 ·rw [List.mem_singleton.1 hx]
  exact ⟨h1, h2⟩
theorem story_l1 (b : List Int) (n : Int) (p : Nat) : ∀ (d : Nat) (s : List Cl), 7 ≤ s.length + d → s.length ≤ 20 → SmallS s → ∃ s', Ev (fun k => spec_l20Story.l1 k n s b (p : Int)) (n, s', (p : Int)) ∧ s'.length ≤ 20 ∧ SmallS s' := by
 intro d
 induction d with
 | zero =>
  intro s h h2 hs
  refine ⟨s, Ev.step (fun k => by rw [spec_l20Story.l1]) ?_, h2, hs⟩
  exact ev_neg (by omega) (ev_ret rfl)
 | succ d ih =>
  intro s h h2 hs
  by_cases h7 : s.length < 7
  ·obtain ⟨s', hE, h3, h4⟩ := ih (s ++ [⟨0, [⟨0, 0⟩]⟩]) (by simp; omega) (by simp; omega) (hs.app (by simp) (SmallL.one (by decide)))
   refine ⟨s', Ev.step (fun k => by rw [spec_l20Story.l1]) ?_, h3, h4⟩
   exact ev_pos (by omega) (ev_pos (by omega) hE)
  ·refine ⟨s, Ev.step (fun k => by rw [spec_l20Story.l1]) ?_, h2, hs⟩
   exact ev_neg (by omega) (ev_ret rfl)
theorem story_l0 (b : List Int) (hb : Bytes b) (x1 n : Int) : ∀ (d : Nat) (s : List Cl) (p : Nat), p + 50 * d ≤ 3000 → s.length + d ≤ 10 → SmallS s →
  ∃ (s' : List Cl) (q : Nat), Ev (fun k => spec_l20Story.l0 k x1 n s (d : Int) b (p : Int)) (n, s', (q : Int)) ∧ s'.length ≤ 20 ∧ SmallS s' ∧ q ≤ p + 50 * d + 1 := by
 intro d
 induction d with
 | zero =>
  intro s p hp hl hs
  obtain ⟨o, q, eo, hq⟩ := oddE b hb p (by omega) x1
  cases o with
  | false =>
   refine ⟨s, q, Ev.step (fun k => by rw [spec_l20Story.l0]) ?_, by omega, hs, by omega⟩
   exact ev_neg (by decide) (ev_bind eo (ev_neg (by simp) (ev_ret rfl)))
  | true =>
   obtain ⟨s', hE, h3, h4⟩ := story_l1 b n q 7 s (by omega) (by omega) hs
   refine ⟨s', q, Ev.step (fun k => by rw [spec_l20Story.l0]) ?_, h3, h4, by omega⟩
   exact ev_neg (by decide) (ev_bind eo (ev_pos rfl hE))
 | succ d ih =>
  intro s p hp hl hs
  obtain ⟨who, t, q, et, ht1, ht2, hq⟩ := l20ClaimE b hb p (by omega) n (wrap64 (x1 * 3))
  obtain ⟨s', q2, hE, h3, h4, hq2⟩ := ih (s ++ [⟨who, t⟩]) q (by omega) (by simp; omega) (hs.app ht1 ht2)
  have hw : wrap64 (((d + 1 : Nat) : Int) - 1) = (d : Int) := by rw [w64 (by omega) (by omega)]; omega
  refine ⟨s', q2, Ev.step (fun k => by rw [spec_l20Story.l0]) ?_, h3, h4, by omega⟩
  rw [hw]
  exact ev_pos (by omega) (ev_bind et (ev_pos (by omega) hE))
theorem l20StoryE (b : List Int) (hb : Bytes b) (p : Nat) (hp : p ≤ 1000) (x1 : Int) : ∃ (n : Int) (s : List Cl) (q : Nat), Ev (fun k => spec_l20Story.f k b (p : Int) x1) (n, s, (q : Int)) ∧ 1 ≤ n ∧ n ≤ 4 ∧ s.length ≤ 20 ∧ SmallS s ∧ q ≤ p + 300 := by
 obtain ⟨r, e, h, _⟩ := pickE b hb p (by omega) 4
 obtain ⟨r2, e2, h2, _⟩ := pickE b hb (p + 1) (by omega) 5
 have h := h (by decide)
 have h2 := h2 (by decide)
 obtain ⟨s, q, hE, h3, h4, hq⟩ := story_l0 b hb x1 (wrap64 (1 + (r : Int))) r2 [] (p + 2) (by omega) (by simp; omega) (fun x hx => by simp at hx)
 refine ⟨wrap64 (1 + (r : Int)), s, q, ?_, by rw [w64 (by omega) (by omega)]; omega, by rw [w64 (by omega) (by omega)]; omega, h3, h4, by omega⟩
 unfold spec_l20Story.f
 exact ev_bind e (ev_bind e2 hE)
theorem tabS' (p : Nat → Bool) (j : Nat) (hj : j ≤ 16) (h : p j = true) : Go.bits .or .i64 (tabN p j : Int) (pw j : Int) = ((tabN p (j + 1) : Nat) : Int) := by
 rw [or_pw p j hj]
 simp [tabN, h]
theorem tabZ' (p : Nat → Bool) (j : Nat) (h : p j = false) : tabN p j = tabN p (j + 1) := by simp [tabN, h]
theorem shl_u64' (n : Nat) (hn : n ≤ 4) : shl .u64 1 (n : Int) = (pw n : Int) := by
 rcases (by omega : n = 0 ∨ n = 1 ∨ n = 2 ∨ n = 3 ∨ n = 4) with rfl | rfl | rfl | rfl | rfl <;> decide
theorem shl2' (n : Nat) (hn : n ≤ 4) : shl .i64 1 (shl .u64 1 (n : Int)) = (pw (pw n) : Int) := by
 have := pwm4 hn
 rw [shl_u64' n hn, shl_nat _ (by omega)]
theorem ppw' {n : Nat} (h : n ≤ 4) : pw (pw n) ≤ 65536 := pw16 (pwm4 h)
def tabC (n : Nat) (c : Cl) : Nat := tabN (mayB c.f0.toNat c.f1) (pw n)
def tabS (n : Nat) (s : List Cl) : Nat := s.foldl (fun t c => t &&& tabC n c) (pw (pw n) - 1)
theorem tabC_lt (n : Nat) (hn : n ≤ 4) (c : Cl) : tabC n c < 65536 := Nat.lt_of_lt_of_le (tabN_lt _ _) (ppw' hn)
theorem impl_claimTableE (n : Nat) (c : Cl) (h : ClaimP n c.f0 c.f1) : impl_ClaimTable.f (n : Int) c.f0 c.f1 = some ((tabC n c : Nat) : Int) := by
 unfold impl_ClaimTable.f
 rw [if_pos h]
 rfl
theorem drop_C (s : List Cl) (i : Nat) (h : i < s.length) : s.drop i = s.getD i zC :: s.drop (i + 1) := by
 rw [List.drop_eq_getElem_cons h, getD_lt s zC i h]
theorem impl_story_l (n : Nat) (hn : n ≤ 4) (s : List Cl) (h : ∀ i, i < s.length → ClaimP n (s.getD i zC).f0 (s.getD i zC).f1) (hs : s.length ≤ 6) : ∀ d i a : Nat, i + d = s.length → a < 65536 →
  Ev (fun k => impl_storyTable.l0 k (n : Int) (a : Int) s (s.length : Int) (i : Int)) (((s.drop i).foldl (fun t c => t &&& tabC n c) a : Nat) : Int) := by
 intro d
 induction d with
 | zero =>
  intro i a hi ha
  refine Ev.step (fun k => by rw [impl_storyTable.l0]) ?_
  refine ev_neg (by omega) (ev_ret ?_)
  rw [List.drop_eq_nil_of_le (by omega)]
  rfl
 | succ d ih =>
  intro i a hi ha
  refine Ev.step (fun k => by rw [impl_storyTable.l0]) ?_
  have hc := tabC_lt n hn (s.getD i zC)
  rw [rdC, w64s (i := i) (by omega), drop_C s i (by omega), List.foldl_cons]
  refine ev_pos (by omega) ?_
  refine ev_pos (by omega) ?_
  refine ev_pos (by omega) ?_
  refine ev_bindc (impl_claimTableE n _ (h i (by omega))) ?_
  rw [and_nat' _ _ (by omega) (by omega)]
  exact ih (i + 1) _ (by omega) (Nat.lt_of_le_of_lt Nat.and_le_left ha)
theorem impl_storyE (n : Nat) (s : List Cl) (h : StoryP n s) : Ev (fun k => impl_storyTable.f k (n : Int) s) ((tabS n s : Nat) : Int) := by
 have hn : n ≤ 4 := by have := h.2.1.2; omega
 have hp := ppw' hn
 have hpos := pw_pos (pw n)
 unfold impl_storyTable.f tabS
 rw [shl2' n hn, w64 (by omega) (by omega), show (pw (pw n) : Int) - 1 = ((pw (pw n) - 1 : Nat) : Int) by omega]
 refine ev_pos (by omega) ?_
 exact impl_story_l n hn s h.1 h.2.2 s.length 0 (pw (pw n) - 1) (by omega) (by omega)
theorem spec_l4Table_l (n : Nat) (hn : n ≤ 4) (who : Int) (l : List Mk) (h : ClaimP n who l) : ∀ d j, j + d = pw n →
  Ev (fun k => spec_l4Table.l0 k (n : Int) ((tabN (mayB who.toNat l) j : Nat) : Int) (j : Int) who l) ((tabN (mayB who.toNat l) (pw n) : Nat) : Int) := by
 have hp := pwm4 hn
 intro d
 induction d with
 | zero =>
  intro j hj
  refine Ev.step (fun k => by rw [spec_l4Table.l0]) ?_
  rw [shl_nat n (by omega)]
  refine ev_pos (by omega) ?_
  refine ev_neg (by omega) (ev_ret ?_)
  rw [show j = pw n by omega]
 | succ d ih =>
  intro j hj
  refine Ev.step (fun k => by rw [spec_l4Table.l0]) ?_
  rw [shl_nat n (by omega), shl_nat j (by omega), w64s (by omega)]
  refine ev_pos (by omega) ?_
  refine ev_pos (by omega) ?_
  refine ev_bind (spec_mayE h.2.2.1 who h.1 (by have := h.2.1; omega) j (by omega)) ?_
  by_cases hb : mayB who.toNat l j = true
  ·refine ev_pos hb ?_
   refine ev_pos (by omega) ?_
   rw [tabS' _ j (by omega) hb]
   exact ih (j + 1) (by omega)
  ·refine ev_neg hb ?_
   rw [tabZ' _ j (Bool.eq_false_iff.2 hb)]
   exact ih (j + 1) (by omega)
theorem spec_l4TableE (n : Nat) (c : Cl) (h : ClaimP n c.f0 c.f1) : Ev (fun k => spec_l4Table.f k (n : Int) c.f0 c.f1) ((tabC n c : Nat) : Int) :=
 spec_l4Table_l n (by have := h.2.2.1.1.2; omega) c.f0 c.f1 h (pw n) 0 (by omega)
theorem spec_story_l (n : Nat) (hn : n ≤ 4) (s : List Cl) (h : ∀ i, i < s.length → ClaimP n (s.getD i zC).f0 (s.getD i zC).f1) (hs : s.length ≤ 6) : ∀ d i a : Nat, i + d = s.length → a < 65536 →
  Ev (fun k => spec_l4Story.l0 k (n : Int) s (a : Int) (i : Int)) (((s.drop i).foldl (fun t c => t &&& tabC n c) a : Nat) : Int) := by
 intro d
 induction d with
 | zero =>
  intro i a hi ha
  refine Ev.step (fun k => by rw [spec_l4Story.l0]) ?_
  refine ev_neg (by omega) (ev_ret ?_)
  rw [List.drop_eq_nil_of_le (by omega)]
  rfl
 | succ d ih =>
  intro i a hi ha
  refine Ev.step (fun k => by rw [spec_l4Story.l0]) ?_
  have hc := tabC_lt n hn (s.getD i zC)
  rw [rdC, w64s (i := i) (by omega), drop_C s i (by omega), List.foldl_cons]
  refine ev_pos (by omega) ?_
  refine ev_pos (by omega) ?_
  refine ev_bind (spec_l4TableE n _ (h i (by omega))) ?_
  rw [and_nat' _ _ (by omega) (by omega)]
  exact ih (i + 1) _ (by omega) (Nat.lt_of_le_of_lt Nat.and_le_left ha)
theorem spec_storyE (n : Nat) (s : List Cl) (h : StoryP n s) : Ev (fun k => spec_l4Story.f k (n : Int) s) ((tabS n s : Nat) : Int) := by
 have hn : n ≤ 4 := by have := h.2.1.2; omega
 have hp := ppw' hn
 have hpos := pw_pos (pw n)
 unfold spec_l4Story.f tabS
 rw [shl2' n hn, w64 (by omega) (by omega), show (pw (pw n) : Int) - 1 = ((pw (pw n) - 1 : Nat) : Int) by omega]
 refine ev_pos (by omega) ?_
 exact spec_story_l n hn s h.1 h.2.2 s.length 0 (pw (pw n) - 1) (by omega) (by omega)
theorem spec_storyOk_l (n : Int) (hn : n ≤ 9223372036854775807) (s : List Cl) (hs : S64 s) : ∀ d i : Nat, i + d = s.length →
  Tells (fun k => spec_StoryOk.l0 k n s (i : Int)) ((∀ j, i ≤ j → j < s.length → ClaimP n (s.getD j zC).f0 (s.getD j zC).f1) ∧ (1 ≤ n ∧ n ≤ 4) ∧ s.length ≤ 6) := by
 intro d
 have hsl := hs.1
 induction d with
 | zero =>
  intro i hi
  refine Tells.step (fun k => by rw [spec_StoryOk.l0]) ?_
  refine Tells.neg (by omega) ?_
  refine Tells.bindc (l1InT n 1 4) ?_
  refine Tells.ite (fun h => Tells.dec ?_) (fun h => Tells.no fun h' => h (decide_eq_true h'.2.1))
  have h := of_decide_eq_true h
  exact ⟨fun h' => ⟨fun j h1 h2 => by omega, h, by omega⟩, fun h' => by omega⟩
 | succ d ih =>
  intro i hi
  refine Tells.step (fun k => by rw [spec_StoryOk.l0]) ?_
  rw [rdC, w64s (i := i) (by omega)]
  refine Tells.pos (by omega) ?_
  refine Tells.pos (by omega) ?_
  obtain ⟨b, hb, hi'⟩ := spec_claimOk n hn (s.getD i zC).f0 (s.getD i zC).f1 (hs.2 i).1 (hs.2 i).2
  refine Tells.bind hb ?_
  refine Tells.ite (fun h => ?_) (fun h => Tells.no fun h' => h (hi'.2 (h'.1 i (Nat.le_refl _) (by omega))))
  refine (ih (i + 1) (by omega)).iff ?_
  constructor
  ·intro h'
   refine ⟨fun j h1 h2 => ?_, h'.2⟩
   rcases Nat.eq_or_lt_of_le h1 with e | e
   ·exact e ▸ hi'.1 h
   ·exact h'.1 j e h2
  ·exact fun h' => ⟨fun j h1 h2 => h'.1 j (by omega) h2, h'.2⟩
theorem spec_storyOk (n : Int) (hn : n ≤ 9223372036854775807) (s : List Cl) (hs : S64 s) : Tells (fun k => spec_StoryOk.f k n s) (StoryP n s) := by
 unfold spec_StoryOk.f
 refine (spec_storyOk_l n hn s hs s.length 0 (by omega)).iff ?_
 exact ⟨fun h => ⟨fun j hj => h.1 j (by omega) hj, h.2⟩, fun h => ⟨fun j _ hj => h.1 j hj, h.2⟩⟩
end Go.Proofs.Ytcaogllnbpmcgaa.M
namespace Go.Proofs.Ytcaogllnbpmcgaa.M
open Go Go.RowKit Go.Proofs.YtcaogllnbpmcgaaW.PrintWords
theorem pw4 {n : Nat} (h : n ≤ 4) : pw n ≤ 16 := Nat.pow_le_pow_right (n := 2) (by decide) h
theorem shl_u64 (n : Nat) (hn : n ≤ 4) : shl .u64 1 (n : Int) = (pw n : Int) := by
 rcases (by omega : n = 0 ∨ n = 1 ∨ n = 2 ∨ n = 3 ∨ n = 4) with rfl | rfl | rfl | rfl | rfl <;> decide
theorem shl2 (n : Nat) (hn : n ≤ 4) : shl .i64 1 (shl .u64 1 (n : Int)) = (pw (pw n) : Int) := by
 rw [shl_u64 n hn, shl_nat _ (by have := pw4 hn; omega)]
theorem ppw {n : Nat} (h : n ≤ 4) : pw (pw n) ≤ 65536 := pw16 (pw4 h)
def TabOk (n t : Int) : Prop := 1 ≤ n ∧ n ≤ 4 ∧ 0 ≤ t ∧ t < (pw (pw n.toNat) : Int)
instance (n t : Int) : Decidable (TabOk n t) := by unfold TabOk; infer_instance
theorem some_dec {b : Bool} {P : Prop} [Decidable P] (h : b = true ↔ P) : some b = some (decide P) := by
 congr 1
 rw [Bool.eq_iff_iff, decide_eq_true_eq]
 exact h
theorem tabOk_nat (m : Nat) (t : Int) : TabOk (m : Int) t ↔ 1 ≤ m ∧ m ≤ 4 ∧ 0 ≤ t ∧ t < (pw (pw m) : Int) := by
 unfold TabOk
 rw [Int.toNat_natCast]
 omega
def wl (T n : Nat) : List Nat := (List.range' 0 (pw n)).filter fun w => bitN T w == 1
theorem mem_wl (T n w : Nat) : w ∈ wl T n ↔ w < pw n ∧ bitN T w = 1 := by
 unfold wl
 rw [List.mem_filter, List.mem_range'_1, beq_iff_eq]
 omega
theorem wl_len (T n : Nat) : (wl T n).length ≤ pw n := Nat.le_trans (List.length_filter_le _ _) (by rw [List.length_range']; exact Nat.le_refl _)
theorem wl_popN (n : Nat) : ∀ T m : Nat, m = pw n → ((List.range' 0 m).filter fun w => bitN T w == 1).length = popN m T := by
 intro T m _
 have h : ∀ m T i : Nat, ((List.range' i m).filter fun w => bitN T w == 1).length = popN m (T / 2 ^ i) := by
  intro m
  induction m with
  | zero => intro T i; simp [popN]
  | succ m ih =>
   intro T i
   rw [List.range'_succ, List.filter_cons, popN]
   have e : T / 2 ^ i / 2 = T / 2 ^ (i + 1) := by rw [Nat.div_div_eq_div_mul, Nat.pow_succ]
   rw [e]
   have hb := bitN_01 T i
   have hd : T / 2 ^ i % 2 = bitN T i := rfl
   rw [hd]
   rcases hb with hb | hb
   ·rw [if_neg (by rw [hb]; decide), ih T (i + 1), hb, Nat.zero_add]
   ·rw [if_pos (by rw [hb]; rfl), List.length_cons, ih T (i + 1), hb, Nat.add_comm]
 have := h m T 0
 rwa [Nat.pow_zero, Nat.div_one] at this
theorem wl_pop (T n : Nat) : (wl T n).length = popN (pw n) T := wl_popN n T (pw n) rfl
end Go.Proofs.Ytcaogllnbpmcgaa.M
namespace Go.Proofs.Ytcaogllnbpmcgaa.M
open Go Go.RowKit Go.Proofs.YtcaogllnbpmcgaaW.PrintWords Go.Proofs.YtcaogllnbpmcgaaW.PrintLast Go.Proofs.Ytcaogllnbpmcgaa.P
theorem l1InF (a b c : Int) : spec_l1In.f a b c = some (decide (b ≤ a ∧ a ≤ c)) := by
 unfold spec_l1In.f
 by_cases h : a ≥ b
 ·rw [if_pos h]
  simp [h]
 ·rw [if_neg h]
  simp
  intro h'
  omega
theorem spec_tabOkF (n t : Int) : spec_TableOk.f n t = some (decide (TabOk n t)) := by
 unfold spec_TableOk.f
 rw [l1InF]
 simp only [Option.bind_some]
 by_cases h : 1 ≤ n ∧ n ≤ 4
 ·obtain ⟨m, rfl⟩ : ∃ m : Nat, n = (m : Int) := ⟨n.toNat, by omega⟩
  have := ppw (n := m) (by omega)
  have := pw_pos (pw m)
  rw [if_pos (decide_eq_true h), shl2 m (by omega), if_pos (by omega), l1InF, w64 (by omega) (by omega)]
  simp only [Option.bind_some]
  refine some_dec ?_
  rw [tabOk_nat, decide_eq_true_eq]
  omega
 ·rw [if_neg (fun h' => h (of_decide_eq_true h'))]
  exact some_dec ⟨fun h => (by cases h), fun h' => absurd ⟨h'.1, h'.2.1⟩ h⟩
theorem worlds_ex (n : Nat) (hn : n ≤ 4) (T : Nat) (hT : TabOk (n : Int) (T : Int)) : ∀ (d i : Nat) (acc : List Int), i + d = pw n → acc.length ≤ i → ∃ L, Ev (fun k => spec_WorldsIn.l0 k (n : Int) (T : Int) acc (i : Int)) L := by
 have hp := pw4 hn
 intro d
 induction d with
 | zero =>
  intro i acc hi ha
  refine ⟨acc, Ev.step (fun k => by rw [spec_WorldsIn.l0, spec_tabOkF]) ?_⟩
  simp only [Option.bind_some]
  refine ev_pos (decide_eq_true hT) (ev_pos (by omega) ?_)
  rw [shl_nat n (by omega), decide_eq_false (by omega)]
  refine Ev.step (fun k => by rw [spec_WorldsIn.j1]) ?_
  exact ev_neg (by simp) (ev_ret rfl)
 | succ d ih =>
  intro i acc hi ha
  by_cases h1 : Int.tmod (shr .i64 (T : Int) (i : Int)) 2 = 1
  ·obtain ⟨L, hL⟩ := ih (i + 1) (acc ++ [(i : Int)]) (by omega) (by simp; omega)
   refine ⟨L, Ev.step (fun k => by rw [spec_WorldsIn.l0, spec_tabOkF]) ?_⟩
   simp only [Option.bind_some]
   refine ev_pos (decide_eq_true hT) (ev_pos (by omega) ?_)
   rw [shl_nat n (by omega), decide_eq_true (by omega : (i : Int) < ((pw n : Nat) : Int))]
   refine Ev.step (fun k => by rw [spec_WorldsIn.j1, w64s (by omega)]) ?_
   exact ev_pos rfl (ev_pos (by omega) (ev_pos h1 (ev_pos (by omega) hL)))
  ·obtain ⟨L, hL⟩ := ih (i + 1) acc (by omega) (by omega)
   refine ⟨L, Ev.step (fun k => by rw [spec_WorldsIn.l0, spec_tabOkF]) ?_⟩
   simp only [Option.bind_some]
   refine ev_pos (decide_eq_true hT) (ev_pos (by omega) ?_)
   rw [shl_nat n (by omega), decide_eq_true (by omega : (i : Int) < ((pw n : Nat) : Int))]
   refine Ev.step (fun k => by rw [spec_WorldsIn.j1, w64s (by omega)]) ?_
   exact ev_pos rfl (ev_pos (by omega) (ev_neg h1 hL))
theorem worldsInE (n : Int) (h1 : 1 ≤ n) (h4 : n ≤ 4) (t : Int) : ∃ L, Ev (fun k => spec_WorldsIn.f k n t) L := by
 unfold spec_WorldsIn.f
 by_cases hT : TabOk n t
 ·obtain ⟨m, rfl⟩ : ∃ m : Nat, n = (m : Int) := ⟨n.toNat, by omega⟩
  obtain ⟨T, rfl⟩ : ∃ T : Nat, t = (T : Int) := ⟨t.toNat, by have := hT.2.2.1; omega⟩
  exact worlds_ex m (by omega) T hT (pw m) 0 [] (by omega) (by simp)
 ·refine ⟨[], Ev.step (fun k => by rw [spec_WorldsIn.l0, spec_tabOkF]) ?_⟩
  simp only [Option.bind_some]
  refine ev_neg (by simpa using hT) ?_
  refine Ev.step (fun k => by rw [spec_WorldsIn.j1]) ?_
  exact ev_neg (by simp) (ev_ret rfl)
theorem l20ProvedE (b : List Int) (hb : Bytes b) : ∃ (n : Int) (s : List Cl) (l : List Mk) (q : Nat), Ev (fun k => spec_l20Proved.f k b ((0 : Nat) : Int)) (n, s, l, (q : Int)) ∧ s.length ≤ 20 ∧ SmallS s ∧ l.length ≤ 4097 ∧ SmallL l ∧ n ≤ 4 ∧ q ≤ 400 := by
 obtain ⟨n, s, q, es, hn1, hn4, hsl, hss, hq⟩ := l20StoryE b hb 0 (by omega) 14
 obtain ⟨l, q2, el, hl1, hl2, hq2⟩ := l20TermE b hb q (by omega) n 14
 have h64 := hss.S64 (by omega)
 obtain ⟨t, et⟩ : ∃ t, Ev (fun k => spec_StoryTable.f k n s) t := by
  unfold spec_StoryTable.f
  obtain ⟨c, hc, hi⟩ := spec_storyOk n (by omega) s h64
  cases c with
  | false => exact ⟨-1, ev_bind hc (ev_neg (by decide) (ev_ret rfl))⟩
  | true =>
   obtain ⟨m, rfl⟩ : ∃ m : Nat, n = (m : Int) := ⟨n.toNat, by omega⟩
   exact ⟨_, ev_bind hc (ev_pos rfl (ev_bind (spec_storyE m s (hi.1 rfl)) (ev_ret rfl)))⟩
 obtain ⟨L, eL⟩ := worldsInE n hn1 hn4 t
 unfold spec_l20Proved.f
 by_cases hL : (L.length : Int) > 0
 ·obtain ⟨r, e, _⟩ := pickE b hb q2 (by omega) 2
  by_cases h0 : r = 0
  ·obtain ⟨r2, e2, h2, _⟩ := pickE b hb (q2 + 1) (by omega) n
   have h2 := h2 hn1
   by_cases hz : Int.tmod (shr .i64 (rd L 0) (r2 : Int)) 2 = 0
   ·refine ⟨n, s, [⟨0, (r2 : Int)⟩, ⟨2, 0⟩], q2 + 2, ?_, hsl, hss, by simp, fun x hx => ?_, hn4, by omega⟩
    ·refine ev_bind es (ev_bind el (ev_bind et (ev_bind eL (ev_pos hL (ev_bind e ?_)))))
     dsimp only
     rw [show (((r : Nat) : Int) == 0) = true by simp [h0]]
     refine Ev.step (fun k => by rw [spec_l20Proved.j0]) ?_
     refine ev_pos rfl (ev_bind e2 ?_)
     simp only [Option.bind_some]
     refine ev_pos (by omega) (ev_pos (by omega) (ev_pos hz (ev_pos (by simp) (ev_ret rfl))))
    ·rcases List.mem_cons.1 hx with rfl | hx
     ·show (r2 : Int) ≤ _
      omega
     ·rw [List.mem_singleton.1 hx]
      show (0 : Int) ≤ _
      decide
   ·refine ⟨n, s, [⟨0, (r2 : Int)⟩], q2 + 2, ?_, hsl, hss, by simp, SmallL.one (show (r2 : Int) ≤ _ by omega), hn4, by omega⟩
    refine ev_bind es (ev_bind el (ev_bind et (ev_bind eL (ev_pos hL (ev_bind e ?_)))))
    dsimp only
    rw [show (((r : Nat) : Int) == 0) = true by simp [h0]]
    refine Ev.step (fun k => by rw [spec_l20Proved.j0]) ?_
    refine ev_pos rfl (ev_bind e2 ?_)
    simp only [Option.bind_some]
    refine ev_pos (by omega) (ev_pos (by omega) (ev_neg hz (ev_ret rfl)))
  ·refine ⟨n, s, l, q2 + 1, ?_, hsl, hss, hl1, hl2, hn4, by omega⟩
   refine ev_bind es (ev_bind el (ev_bind et (ev_bind eL (ev_pos hL (ev_bind e ?_)))))
   dsimp only
   rw [show (((r : Nat) : Int) == 0) = false from beq_eq_false_iff_ne.mpr (by omega)]
   refine Ev.step (fun k => by rw [spec_l20Proved.j0]) ?_
   exact ev_neg (by simp) (ev_ret rfl)
 ·refine ⟨n, s, l, q2, ?_, hsl, hss, hl1, hl2, hn4, by omega⟩
  refine ev_bind es (ev_bind el (ev_bind et (ev_bind eL (ev_neg hL ?_))))
  dsimp only
  refine Ev.step (fun k => by rw [spec_l20Proved.j0]) ?_
  exact ev_neg (by simp) (ev_ret rfl)
end Go.Proofs.Ytcaogllnbpmcgaa.M
namespace Go.Proofs.Ytcaogllnbpmcgaa.M
open Go Go.RowKit Go.Proofs.YtcaogllnbpmcgaaW.PrintWords Go.Proofs.Ytcaogllnbpmcgaa.P
theorem spec_l3Table_l (n : Nat) (hn : n ≤ 4) (l : List Mk) (h : TermP n l) : ∀ d j, j + d = pw n →
  Ev (fun k => spec_l3Table.l0 k (n : Int) l ((tabN (holdB l) j : Nat) : Int) (j : Int)) ((tabN (holdB l) (pw n) : Nat) : Int) := by
 have hp := pwm4 hn
 intro d
 induction d with
 | zero =>
  intro j hj
  refine Ev.step (fun k => by rw [spec_l3Table.l0]) ?_
  rw [shl_nat n (by omega)]
  refine ev_pos (by omega) ?_
  refine ev_neg (by omega) (ev_ret ?_)
  rw [show j = pw n by omega]
 | succ d ih =>
  intro j hj
  refine Ev.step (fun k => by rw [spec_l3Table.l0]) ?_
  rw [shl_nat n (by omega), shl_nat j (by omega), w64s (by omega)]
  refine ev_pos (by omega) ?_
  refine ev_pos (by omega) ?_
  refine ev_bind (spec_holdsT h j (by omega)) ?_
  by_cases hb : holdB l j = true
  ·refine ev_pos hb ?_
   refine ev_pos (by omega) ?_
   rw [tabS' _ j (by omega) hb]
   exact ih (j + 1) (by omega)
  ·refine ev_neg hb ?_
   rw [tabZ' _ j (Bool.eq_false_iff.2 hb)]
   exact ih (j + 1) (by omega)
theorem spec_l3TableE (n : Nat) (l : List Mk) (h : TermP n l) : Ev (fun k => spec_l3Table.f k (n : Int) l) ((tabN (holdB l) (pw n) : Nat) : Int) :=
 spec_l3Table_l n (by have := h.1.2; omega) l h (pw n) 0 (by omega)
theorem impl_tableOfE (n : Nat) (l : List Mk) (h : TermP n l) : impl_TableOf.f (n : Int) l = some ((tabN (holdB l) (pw n) : Nat) : Int) := by
 unfold impl_TableOf.f
 rw [if_pos h]
 rfl
def knOf : List Int → Nat
 | [] => 0
 | x :: l => (if x < 0 then 0 else 1) + 2 * knOf l
def wdOf : List Int → Nat
 | [] => 0
 | x :: l => (if x = 1 then 1 else 0) + 2 * wdOf l
def allK : Nat → List (List Int)
 | 0 => [[]]
 | n + 1 => (allK n).flatMap fun l => [(-1) :: l, 0 :: l, 1 :: l]
def KnowP (n : Nat) (ks : List Int) : Prop := ks ∈ allK n
theorem knowP_iff (n : Nat) (ks : List Int) : KnowP n ks ↔ ks.length = n ∧ ∀ x ∈ ks, x = -1 ∨ x = 0 ∨ x = 1 := by
 unfold KnowP
 induction n generalizing ks with
 | zero =>
  simp only [allK, List.mem_singleton]
  constructor
  ·rintro rfl; simp
  ·exact fun h => List.eq_nil_of_length_eq_zero h.1
 | succ n ih =>
  simp only [allK, List.mem_flatMap]
  constructor
  ·rintro ⟨l, hl, h⟩
   have hl' := (ih l).1 hl
   simp only [List.mem_cons, List.not_mem_nil, or_false] at h
   rcases h with rfl | rfl | rfl <;> exact ⟨by simp [hl'.1], fun x hx => by
    rcases List.mem_cons.1 hx with rfl | hx
    ·simp
    ·exact hl'.2 x hx⟩
  ·rintro ⟨hlen, hall⟩
   cases ks with
   | nil => simp at hlen
   | cons x l =>
    refine ⟨l, (ih l).2 ⟨by simpa using hlen, fun y hy => hall y (List.mem_cons_of_mem _ hy)⟩, ?_⟩
    rcases hall x List.mem_cons_self with rfl | rfl | rfl <;> simp
theorem know_len {n : Nat} {ks : List Int} (h : KnowP n ks) : ks.length = n := ((knowP_iff n ks).1 h).1
theorem know_nothing (n : Nat) : KnowP n (List.replicate n (-1)) := (knowP_iff n _).2 ⟨by simp, fun x hx => .inl (List.eq_of_mem_replicate hx)⟩
theorem know_set {n : Nat} {ks : List Int} (h : KnowP n ks) (i : Nat) (x : Int) (hx : x = 0 ∨ x = 1) : KnowP n (ks.set i x) := by
 rw [knowP_iff] at h ⊢
 refine ⟨by rw [List.length_set]; exact h.1, fun y hy => ?_⟩
 rcases List.mem_or_eq_of_mem_set hy with hy | rfl
 ·exact h.2 y hy
 ·exact .inr hx
theorem nothing_of (n : Nat) (hn : n ≤ 4) : knOf (List.replicate n (-1)) = 0 ∧ wdOf (List.replicate n (-1)) = 0 := by
 rcases (by omega : n = 0 ∨ n = 1 ∨ n = 2 ∨ n = 3 ∨ n = 4) with rfl | rfl | rfl | rfl | rfl <;> decide
theorem know_facts (n : Nat) (hn : n ≤ 4) (ks : List Int) (h : KnowP n ks) : knOf ks < 16 ∧ wdOf ks < 16 ∧ ∀ i, i < n → ((knOf ks).testBit i = decide (0 ≤ ks.getD i 0)) ∧ (ks.getD i 0 < 0 → knOf (ks.set i 0) = knOf ks ||| 2 ^ i ∧ wdOf (ks.set i 0) = wdOf ks ∧ knOf (ks.set i 1) = knOf ks ||| 2 ^ i ∧ wdOf (ks.set i 1) = wdOf ks ||| 2 ^ i) := by
 have F : ∀ n : Fin 5, ∀ ks ∈ allK n.val, knOf ks < 16 ∧ wdOf ks < 16 ∧ ∀ i : Fin n.val, ((knOf ks).testBit i.val = decide (0 ≤ ks.getD i.val 0)) ∧ (ks.getD i.val 0 < 0 → knOf (ks.set i.val 0) = knOf ks ||| 2 ^ i.val ∧ wdOf (ks.set i.val 0) = wdOf ks ∧ knOf (ks.set i.val 1) = knOf ks ||| 2 ^ i.val ∧ wdOf (ks.set i.val 1) = wdOf ks ||| 2 ^ i.val) := by decide +kernel
 obtain ⟨h1, h2, h3⟩ := F ⟨n, by omega⟩ ks h
 exact ⟨h1, h2, fun i hi => h3 ⟨i, hi⟩⟩
theorem spec_nothingE (n : Nat) (hn : n ≤ 4) : Ev (fun k => spec_l11Nothing.f k (n : Int)) (List.replicate n (-1)) := by
 have F : ∀ n : Fin 5, spec_l11Nothing.f 20 (n.val : Int) = some (List.replicate n.val (-1)) := by decide +kernel
 exact Ev.of (fun k => spec_l11Nothing.mono (n : Int) k) (F ⟨n, by omega⟩)
theorem spec_agreeE (n : Nat) (h1 : 1 ≤ n) (hn : n ≤ 4) (ks : List Int) (h : KnowP n ks) : Ev (fun k => spec_l11Agree.f k (n : Int) ks) ((agreeN n (knOf ks) (wdOf ks) : Nat) : Int) := by
 have F : ∀ n : Fin 5, ∀ ks ∈ allK n.val, spec_l11Agree.f 120 (n.val : Int) ks = some ((agreeN n.val (knOf ks) (wdOf ks) : Nat) : Int) := by decide +kernel
 exact Ev.of (fun k => spec_l11Agree.mono (n : Int) ks k) (F ⟨n, by omega⟩ ks h)
def clQ_ (n : Nat) (s : List Cl) (t : List Mk) : Nat → Nat → Int → Bool := Q.clM n s.length (holdT t) (mayT s)
theorem spec_closesE (n : Nat) (s : List Cl) (t : List Mk) (hS : StoryP (n : Int) s) (hT : TermP (n : Int) t) (ks : List Int) (h : KnowP n ks) (tgt : Int) (h0 : tgt < 0) (hlo : -2 - (s.length : Int) ≤ tgt) :
  Ev (fun k => spec_l11Closes.f k (n : Int) s t tgt ks) (clQ_ n s t (knOf ks) (wdOf ks) tgt) := by
 have hn := hS.2.1
 have h6 := hS.2.2
 have hn4 : n ≤ 4 := by omega
 unfold spec_l11Closes.f
 refine ev_bind (spec_agreeE n (by omega) hn4 ks h) ?_
 by_cases hg : tgt = -1
 ·refine ev_pos hg (ev_bind (spec_l3TableE n t hT) (ev_ret ?_))
  rw [close_goal n _ _ hn4 (holdB t)]
  unfold clQ_ Q.clM
  rw [if_pos hg]
  rfl
 ·refine ev_neg hg ?_
  obtain ⟨i, hi⟩ : ∃ i : Nat, -2 - tgt = (i : Int) := ⟨(-2 - tgt).toNat, by omega⟩
  have e1 : wrap64 (-2 - tgt) = (i : Int) := by
   have := Go.Proofs.Ytcaogllnbpmcgaa.M.w64 (x := -2 - tgt) (by omega) (by omega)
   rw [this, hi]
  have e2 : wrap64 ((s.length : Int) - 1) = (s.length : Int) - 1 := Go.Proofs.Ytcaogllnbpmcgaa.M.w64 (by omega) (by omega)
  refine ev_bindc (l1InT _ _ _) ?_
  rw [e1, e2]
  by_cases hlt : i < s.length
  ·refine ev_pos (decide_eq_true (by omega)) (ev_pos (by omega) (ev_pos (by omega) ?_))
   rw [rdC]
   refine ev_bind (spec_l4TableE n _ (hS.1 i hlt)) (ev_ret ?_)
   have := close_claim n (knOf ks) (wdOf ks) hn4 (mayT s i)
   unfold clQ_ Q.clM
   rw [if_neg hg, if_pos (by omega), hi, Int.toNat_natCast]
   exact this
  ·refine ev_neg (by rw [decide_eq_true_iff]; omega) (ev_ret ?_)
   unfold clQ_ Q.clM
   rw [if_neg hg, if_neg (by omega)]
end Go.Proofs.Ytcaogllnbpmcgaa.M
namespace Go.Proofs.Ytcaogllnbpmcgaa.Q
open Go Go.Proofs.Ytcaogllnbpmcgaa.P
def goalB (n k wd : Nat) (hold : Nat → Bool) : Bool := goalM n (2 ^ k - 1) wd hold
theorem goalB_iff (n k wd : Nat) (hold : Nat → Bool) : goalB n k wd hold = true ↔ ∀ w, w < 2 ^ n → w % 2 ^ k = wd → hold w = true := by
 unfold goalB
 rw [goalM_iff]
 constructor <;> intro h w hw hm <;> exact h w hw (by first | rwa [Nat.and_two_pow_sub_one_eq_mod] | rwa [Nat.and_two_pow_sub_one_eq_mod] at hm)
def closeC (n k wd : Nat) (may : Nat → Nat → Bool) : Nat → Nat → Option Int
 | 0, _ => none
 | d + 1, i => if goalB n k wd (fun w => !may i w) = true then some (-2 - (i : Int)) else closeC n k wd may d (i + 1)
def closeP (n k wd m : Nat) (hold : Nat → Bool) (may : Nat → Nat → Bool) : Option Int :=
 if goalB n k wd hold = true then some (-1) else closeC n k wd may m 0
def growQ (n m : Nat) (hold : Nat → Bool) (may : Nat → Nat → Bool) : Nat → Nat → Nat → Nat → Option (List Sp × Int)
 | d, k, wd, L => match closeP n k wd m hold may with
  | some t => some ([], t)
  | none => match d with
   | 0 => none
   | d + 1 => match growQ n m hold may d (k + 1) wd (L + 1) with
    | none => none
    | some (a, no) => match growQ n m hold may d (k + 1) (wd + 2 ^ k) (L + 1 + a.length) with
     | none => none
     | some (b, yes) => some (⟨(k : Int), no, yes⟩ :: (a ++ b), (L : Int))
theorem growQ_close {n m : Nat} {hold : Nat → Bool} {may : Nat → Nat → Bool} {d k wd L : Nat} {t : Int} (h : closeP n k wd m hold may = some t) : growQ n m hold may d k wd L = some ([], t) := by
 cases d <;> simp only [growQ, h]
theorem growQ_zero {n m : Nat} {hold : Nat → Bool} {may : Nat → Nat → Bool} {k wd L : Nat} (h : closeP n k wd m hold may = none) : growQ n m hold may 0 k wd L = none := by
 simp only [growQ, h]
theorem growQ_no {n m : Nat} {hold : Nat → Bool} {may : Nat → Nat → Bool} {d k wd L : Nat} (h : closeP n k wd m hold may = none) (h1 : growQ n m hold may d (k + 1) wd (L + 1) = none) : growQ n m hold may (d + 1) k wd L = none := by
 rw [growQ, h]
 simp only
 rw [h1]
theorem growQ_yes {n m : Nat} {hold : Nat → Bool} {may : Nat → Nat → Bool} {d k wd L : Nat} {a : List Sp} {no : Int} (h : closeP n k wd m hold may = none) (h1 : growQ n m hold may d (k + 1) wd (L + 1) = some (a, no))
  (h2 : growQ n m hold may d (k + 1) (wd + 2 ^ k) (L + 1 + a.length) = none) : growQ n m hold may (d + 1) k wd L = none := by
 rw [growQ, h]
 simp only
 rw [h1]
 simp only
 rw [h2]
theorem growQ_both {n m : Nat} {hold : Nat → Bool} {may : Nat → Nat → Bool} {d k wd L : Nat} {a b : List Sp} {no yes : Int} (h : closeP n k wd m hold may = none) (h1 : growQ n m hold may d (k + 1) wd (L + 1) = some (a, no))
  (h2 : growQ n m hold may d (k + 1) (wd + 2 ^ k) (L + 1 + a.length) = some (b, yes)) : growQ n m hold may (d + 1) k wd L = some (⟨(k : Int), no, yes⟩ :: (a ++ b), (L : Int)) := by
 rw [growQ, h]
 simp only
 rw [h1]
 simp only
 rw [h2]
theorem closeC_some (n k wd : Nat) (may : Nat → Nat → Bool) : ∀ d i t, closeC n k wd may d i = some t → ∃ j, i ≤ j ∧ j < i + d ∧ t = -2 - (j : Int) ∧ goalB n k wd (fun w => !may j w) = true
 | 0, _, _, h => by cases h
 | d + 1, i, t, h => by
  unfold closeC at h
  by_cases hg : goalB n k wd (fun w => !may i w) = true
  ·rw [if_pos hg] at h
   exact ⟨i, Nat.le_refl _, by omega, (Option.some.inj h).symm, hg⟩
  ·rw [if_neg hg] at h
   obtain ⟨j, h1, h2, h3, h4⟩ := closeC_some n k wd may d (i + 1) t h
   exact ⟨j, by omega, by omega, h3, h4⟩
theorem closeC_none (n k wd : Nat) (may : Nat → Nat → Bool) : ∀ d i, closeC n k wd may d i = none → ∀ j, i ≤ j → j < i + d → goalB n k wd (fun w => !may j w) = false
 | 0, _, _, j, h1, h2 => by omega
 | d + 1, i, h, j, h1, h2 => by
  unfold closeC at h
  by_cases hg : goalB n k wd (fun w => !may i w) = true
  ·rw [if_pos hg] at h; cases h
  ·rw [if_neg hg] at h
   rcases Nat.eq_or_lt_of_le h1 with rfl | h1
   ·exact Bool.eq_false_iff.2 hg
   ·exact closeC_none n k wd may d (i + 1) h j h1 (by omega)
def sureP (n m k wd : Nat) (hold : Nat → Bool) (may : Nat → Nat → Bool) : Prop := ∀ w, w < 2 ^ n → w % 2 ^ k = wd → hold w = true ∨ ∃ i, i < m ∧ may i w = false
theorem close_sure {n m k wd : Nat} {hold : Nat → Bool} {may : Nat → Nat → Bool} {t : Int} (h : closeP n k wd m hold may = some t) : sureP n m k wd hold may := by
 intro w hw hm
 unfold closeP at h
 by_cases hg : goalB n k wd hold = true
 ·exact .inl ((goalB_iff _ _ _ _).1 hg w hw hm)
 ·rw [if_neg hg] at h
  obtain ⟨j, _, h2, _, h4⟩ := closeC_some n k wd may m 0 t h
  have := (goalB_iff _ _ _ _).1 h4 w hw hm
  exact .inr ⟨j, by omega, by simpa using this⟩
theorem pow_split (w k : Nat) : w % 2 ^ (k + 1) = w % 2 ^ k ∨ w % 2 ^ (k + 1) = w % 2 ^ k + 2 ^ k := by
 rw [Nat.pow_succ, Nat.mod_mul]
 rcases Nat.mod_two_eq_zero_or_one (w / 2 ^ k) with h | h <;> rw [h] <;> simp
theorem pow_down (w k wd : Nat) (h : wd < 2 ^ k) : (w % 2 ^ (k + 1) = wd → w % 2 ^ k = wd) ∧ (w % 2 ^ (k + 1) = wd + 2 ^ k → w % 2 ^ k = wd) := by
 have h0 : w % 2 ^ k < 2 ^ k := Nat.mod_lt _ (Nat.pow_pos (by decide))
 have := pow_split w k
 constructor <;> intro h1 <;> omega
theorem sure_split {n m k wd : Nat} {hold : Nat → Bool} {may : Nat → Nat → Bool} (hwd : wd < 2 ^ k) : sureP n m k wd hold may ↔ sureP n m (k + 1) wd hold may ∧ sureP n m (k + 1) (wd + 2 ^ k) hold may := by
 constructor
 ·exact fun h => ⟨fun w hw hm => h w hw ((pow_down w k wd hwd).1 hm), fun w hw hm => h w hw ((pow_down w k wd hwd).2 hm)⟩
 ·rintro ⟨h1, h2⟩ w hw hm
  have := pow_split w k
  rcases this with e | e
  ·exact h1 w hw (by omega)
  ·exact h2 w hw (by omega)
theorem grow_iff (n m : Nat) (hold : Nat → Bool) (may : Nat → Nat → Bool) : ∀ (d k wd L : Nat), k + d = n → wd < 2 ^ k → ((growQ n m hold may d k wd L).isSome = true ↔ sureP n m k wd hold may) := by
 intro d
 induction d with
 | zero =>
  intro k wd L hk hwd
  cases hc : closeP n k wd m hold may with
  | some t =>
   rw [growQ_close hc]
   exact ⟨fun _ => close_sure hc, fun _ => rfl⟩
  | none =>
   rw [growQ_zero hc]
   refine ⟨fun h => (by cases h), fun h => ?_⟩
   exfalso
   obtain rfl : k = n := by omega
   have hm : wd % 2 ^ k = wd := Nat.mod_eq_of_lt hwd
   unfold closeP at hc
   by_cases hg : goalB k k wd hold = true
   ·rw [if_pos hg] at hc; cases hc
   ·rw [if_neg hg] at hc
    rcases h wd hwd hm with h | ⟨i, hi, h⟩
    ·refine hg ((goalB_iff _ _ _ _).2 fun w hw hm' => ?_)
     rw [Nat.mod_eq_of_lt hw] at hm'
     rw [hm']; exact h
    ·have := closeC_none k k wd may m 0 hc i (by omega) (by omega)
     rw [Bool.eq_false_iff] at this
     refine this ((goalB_iff _ _ _ _).2 fun w hw hm' => ?_)
     rw [Nat.mod_eq_of_lt hw] at hm'
     rw [hm', h]; rfl
 | succ d ih =>
  intro k wd L hk hwd
  have h1 := fun L => ih (k + 1) wd L (by omega) (by rw [Nat.pow_succ]; omega)
  have h2 := fun L => ih (k + 1) (wd + 2 ^ k) L (by omega) (by rw [Nat.pow_succ]; omega)
  cases hc : closeP n k wd m hold may with
  | some t =>
   rw [growQ_close hc]
   exact ⟨fun _ => close_sure hc, fun _ => rfl⟩
  | none =>
   rw [sure_split hwd]
   cases e1 : growQ n m hold may d (k + 1) wd (L + 1) with
   | none =>
    rw [growQ_no hc e1]
    have := h1 (L + 1)
    rw [e1] at this
    exact ⟨fun h => (by cases h), fun h => this.2 h.1⟩
   | some x =>
    obtain ⟨a, no⟩ := x
    have t1 := h1 (L + 1)
    rw [e1] at t1
    have t2 := h2 (L + 1 + a.length)
    cases e2 : growQ n m hold may d (k + 1) (wd + 2 ^ k) (L + 1 + a.length) with
    | none =>
     rw [growQ_yes hc e1 e2]
     rw [e2] at t2
     exact ⟨fun h => (by cases h), fun h => t2.2 h.2⟩
    | some y =>
     obtain ⟨b, yes⟩ := y
     rw [growQ_both hc e1 e2]
     rw [e2] at t2
     exact ⟨fun _ => ⟨t1.1 rfl, t2.1 rfl⟩, fun _ => rfl⟩
theorem grow_len (n m : Nat) (hold : Nat → Bool) (may : Nat → Nat → Bool) : ∀ (d k wd L : Nat) (a : List Sp) (t : Int), growQ n m hold may d k wd L = some (a, t) → a.length + 1 ≤ 2 ^ d := by
 intro d
 induction d with
 | zero =>
  intro k wd L a t h
  cases hc : closeP n k wd m hold may with
  | some t => rw [growQ_close hc] at h; cases h; decide
  | none => rw [growQ_zero hc] at h; cases h
 | succ d ih =>
  intro k wd L a t h
  cases hc : closeP n k wd m hold may with
  | some t =>
   rw [growQ_close hc] at h
   cases h
   exact Nat.pow_pos (by decide)
  | none =>
   cases e1 : growQ n m hold may d (k + 1) wd (L + 1) with
   | none => rw [growQ_no hc e1] at h; cases h
   | some x =>
    obtain ⟨a1, no⟩ := x
    cases e2 : growQ n m hold may d (k + 1) (wd + 2 ^ k) (L + 1 + a1.length) with
    | none => rw [growQ_yes hc e1 e2] at h; cases h
    | some y =>
     obtain ⟨b, yes⟩ := y
     rw [growQ_both hc e1 e2] at h
     have h1 := ih _ _ _ _ _ e1
     have h2 := ih _ _ _ _ _ e2
     cases h
     rw [List.length_cons, List.length_append, Nat.pow_succ]
     omega
theorem close_cl {n m k wd : Nat} {hold : Nat → Bool} {may : Nat → Nat → Bool} {t : Int} (h : closeP n k wd m hold may = some t) : t < 0 ∧ clM n m hold may (2 ^ k - 1) wd t = true := by
 unfold closeP at h
 by_cases hg : goalB n k wd hold = true
 ·rw [if_pos hg] at h
  cases h
  exact ⟨by decide, by unfold clM; rw [if_pos rfl]; exact hg⟩
 ·rw [if_neg hg] at h
  obtain ⟨j, _, h2, rfl, h4⟩ := closeC_some n k wd may m 0 t h
  refine ⟨by omega, ?_⟩
  unfold clM
  rw [if_neg (by omega), if_pos (by omega), show (-2 - (-2 - (j : Int))).toNat = j by omega]
  exact h4
theorem and_bit {w kn wd who : Nat} (hw : w &&& kn = wd) (hb : kn.testBit who = false) : w &&& (kn ||| 2 ^ who) = wd ∨ w &&& (kn ||| 2 ^ who) = wd ||| 2 ^ who := by
 subst hw
 rw [Nat.and_or_distrib_left]
 by_cases h : w.testBit who = true
 ·right
  congr 1
  refine Nat.eq_of_testBit_eq fun i => ?_
  rw [Nat.testBit_and, Nat.testBit_two_pow]
  by_cases hi : who = i
  ·subst hi; simp [h]
  ·simp [hi]
 ·left
  have : w &&& 2 ^ who = 0 := by
   refine Nat.eq_of_testBit_eq fun i => ?_
   rw [Nat.testBit_and, Nat.testBit_two_pow, Nat.zero_testBit]
   by_cases hi : who = i
   ·subst hi; simpa using h
   ·simp [hi]
  rw [this, Nat.or_zero]
theorem vis_sound {S : List Sp} {n m : Nat} {hold : Nat → Bool} {may : Nat → Nat → Bool} : ∀ (f : Nat) (tgt : Int) (kn wd : Nat) (l : List Nat), visP S n (clM n m hold may) f tgt kn wd = some l →
  ∀ w, w < 2 ^ n → w &&& kn = wd → hold w = true ∨ ∃ i, i < m ∧ may i w = false := by
 intro f
 induction f with
 | zero => intro tgt kn wd l h; cases h
 | succ f ih =>
  intro tgt kn wd l h w hw hm
  by_cases h0 : tgt < 0
  ·rw [vis_neg h0] at h
   split at h
   ·rename_i hc
    unfold clM at hc
    split at hc
    ·exact .inl ((goalM_iff _ _ _ _).1 hc w hw hm)
    ·split at hc
     ·rename_i hj
      have := (goalM_iff _ _ _ _).1 hc w hw hm
      exact .inr ⟨(-2 - tgt).toNat, by omega, by simpa using this⟩
     ·cases hc
   ·cases h
  ·obtain ⟨hn, hs, a, b, ha, hb, rfl⟩ := vis_some h0 h
   rcases and_bit hm hn.2.2 with e | e
   ·exact ih _ _ _ a ha w hw e
   ·exact ih _ _ _ b hb w hw e
theorem vis_more {S : List Sp} {n : Nat} {cl cl' : Nat → Nat → Int → Bool} (hc : ∀ kn wd t, cl kn wd t = true → cl' kn wd t = true) : ∀ (f : Nat) (tgt : Int) (kn wd : Nat) (l : List Nat), visP S n cl f tgt kn wd = some l → visP S n cl' f tgt kn wd = some l := by
 intro f
 induction f with
 | zero => intro tgt kn wd l h; cases h
 | succ f ih =>
  intro tgt kn wd l h
  by_cases h0 : tgt < 0
  ·rw [vis_neg h0] at h ⊢
   split at h
   ·rename_i hx
    rw [if_pos (hc _ _ _ hx)]
    exact h
   ·cases h
  ·obtain ⟨hn, hs, a, b, ha, hb, rfl⟩ := vis_some h0 h
   exact vis_node h0 hn hs (ih _ _ _ _ ha) (ih _ _ _ _ hb)
theorem two_pow_or (k : Nat) : (2 ^ k - 1) ||| 2 ^ k = 2 ^ (k + 1) - 1 := by
 refine Nat.eq_of_testBit_eq fun i => ?_
 rw [Nat.testBit_or, Nat.testBit_two_pow_sub_one, Nat.testBit_two_pow_sub_one, Nat.testBit_two_pow]
 rw [Bool.eq_iff_iff, Bool.or_eq_true, decide_eq_true_eq, decide_eq_true_eq, decide_eq_true_eq]
 omega
theorem low_or {wd k : Nat} (h : wd < 2 ^ k) : wd ||| 2 ^ k = wd + 2 ^ k := by
 have := Nat.two_pow_add_eq_or_of_lt h 1
 rw [Nat.mul_one] at this
 rw [Nat.or_comm, Nat.add_comm, this]
theorem app_get (a b : List Sp) (j : Nat) : (a ++ b).getD j zS = if j < a.length then a.getD j zS else b.getD (j - a.length) zS := by
 rw [List.getD_eq_getElem?_getD, List.getD_eq_getElem?_getD, List.getD_eq_getElem?_getD, List.getElem?_append]
 split <;> rfl
theorem grow_vis {S : List Sp} {n m : Nat} {hold : Nat → Bool} {may : Nat → Nat → Bool} : ∀ (d k wd L f : Nat) (a : List Sp) (t : Int), k + d = n → wd < 2 ^ k → d < f → growQ n m hold may d k wd L = some (a, t) →
  L + a.length ≤ S.length → (∀ j, j < a.length → S.getD (L + j) zS = a.getD j zS) →
  visP S n (clM n m hold may) f t (2 ^ k - 1) wd = some (List.range' L a.length) ∧ (t < 0 ∨ t = (L : Int) ∧ 0 < a.length) := by
 intro d
 induction d with
 | zero =>
  intro k wd L f a t hk hwd hf h hL hS
  cases hc : closeP n k wd m hold may with
  | none => rw [growQ_zero hc] at h; cases h
  | some u =>
   rw [growQ_close hc] at h
   cases h
   obtain ⟨h1, h2⟩ := close_cl hc
   cases f with
   | zero => omega
   | succ f =>
    rw [vis_neg h1, if_pos h2]
    exact ⟨rfl, .inl h1⟩
 | succ d ih =>
  intro k wd L f a t hk hwd hf h hL hS
  cases f with
  | zero => omega
  | succ f =>
   cases hc : closeP n k wd m hold may with
   | some u =>
    rw [growQ_close hc] at h
    cases h
    obtain ⟨h1, h2⟩ := close_cl hc
    rw [vis_neg h1, if_pos h2]
    exact ⟨rfl, .inl h1⟩
   | none =>
    cases e1 : growQ n m hold may d (k + 1) wd (L + 1) with
    | none => rw [growQ_no hc e1] at h; cases h
    | some x =>
     obtain ⟨a1, no⟩ := x
     cases e2 : growQ n m hold may d (k + 1) (wd + 2 ^ k) (L + 1 + a1.length) with
     | none => rw [growQ_yes hc e1 e2] at h; cases h
     | some y =>
      obtain ⟨b, yes⟩ := y
      rw [growQ_both hc e1 e2] at h
      cases h
      rw [List.length_cons, List.length_append] at hL hS
      have h0 := hS 0 (by omega)
      rw [Nat.add_zero] at h0
      have h0 : S.getD L zS = ⟨(k : Int), no, yes⟩ := h0
      have hp : 2 ^ (k + 1) = 2 ^ k * 2 := Nat.pow_succ ..
      obtain ⟨v1, o1⟩ := ih (k + 1) wd (L + 1) f a1 no (by omega) (by omega) (by omega) e1 (by omega) (fun j hj => by
       have := hS (j + 1) (by omega)
       rw [List.getD_cons_succ, app_get, if_pos hj] at this
       rw [← this]; congr 1; omega)
      obtain ⟨v2, o2⟩ := ih (k + 1) (wd + 2 ^ k) (L + 1 + a1.length) f b yes (by omega) (by omega) (by omega) e2 (by omega) (fun j hj => by
       have := hS (a1.length + j + 1) (by omega)
       rw [List.getD_cons_succ, app_get, if_neg (by omega), show a1.length + j - a1.length = j by omega] at this
       rw [← this]; congr 1; omega)
      refine ⟨?_, .inr ⟨rfl, by simp⟩⟩
      have hbit : (2 ^ k - 1).testBit k = false := by rw [Nat.testBit_two_pow_sub_one]; simp
      have e : ((L : Int)).toNat = L := Int.toNat_natCast L
      have hkt : (S.getD ((L : Int)).toNat zS).f0.toNat = k := by rw [e, h0]; exact Int.toNat_natCast k
      rw [vis_node (f := f) (tgt := (L : Int)) (a := List.range' (L + 1) a1.length) (b := List.range' (L + 1 + a1.length) b.length) (by omega) ⟨by rw [e, h0]; show 0 ≤ (k : Int); omega, by rw [e, h0]; show (k : Int) < n; omega, by rw [hkt]; exact hbit⟩
       ⟨by
        rw [e, h0]
        show okN S no _
        unfold okN
        omega, by
        rw [e, h0]
        show okN S yes _
        unfold okN
        omega⟩
       (by rw [hkt, two_pow_or, e, h0]; exact v1) (by rw [hkt, two_pow_or, low_or hwd, e, h0]; exact v2)]
      rw [e, List.length_cons, List.length_append, List.range'_succ, ← List.range'_append_1]
end Go.Proofs.Ytcaogllnbpmcgaa.Q
namespace Go.Proofs.Ytcaogllnbpmcgaa.M
open Go Go.RowKit Go.Proofs.YtcaogllnbpmcgaaW.PrintWords Go.Proofs.Ytcaogllnbpmcgaa.P
def FirstP (n k : Nat) (ks : List Int) : Prop := KnowP n ks ∧ ∀ i, i < n → (0 ≤ ks.getD i 0 ↔ i < k)
theorem first_facts {n k : Nat} {ks : List Int} (hn : n ≤ 4) (hk : k ≤ n) (h : FirstP n k ks) : knOf ks = 2 ^ k - 1 ∧ wdOf ks < 2 ^ k := by
 have F : ∀ n : Fin 5, ∀ k : Fin 5, ∀ ks ∈ allK n.val, k.val ≤ n.val → (∀ i : Fin n.val, (0 ≤ ks.getD i.val 0 ↔ i.val < k.val)) → knOf ks = 2 ^ k.val - 1 ∧ wdOf ks < 2 ^ k.val := by decide +kernel
 exact F ⟨n, by omega⟩ ⟨k, by omega⟩ ks h.1 hk (fun i => h.2 i.val i.isLt)
theorem first_nothing (n : Nat) : FirstP n 0 (List.replicate n (-1)) := by
 refine ⟨know_nothing n, fun i hi => ?_⟩
 rw [List.getD_eq_getElem?_getD, List.getElem?_replicate, if_pos hi]
 show (0 : Int) ≤ -1 ↔ _
 omega
theorem first_next {n k : Nat} {ks : List Int} (hk : k < n) (h : FirstP n k ks) (x : Int) (hx : x = 0 ∨ x = 1) : FirstP n (k + 1) (ks.set k x) := by
 refine ⟨know_set h.1 k x hx, fun i hi => ?_⟩
 have hl := know_len h.1
 rw [List.getD_eq_getElem?_getD, List.getElem?_set]
 by_cases hki : k = i
 ·subst hki
  rw [if_pos rfl, if_pos (by omega)]
  show (0 : Int) ≤ x ↔ _
  omega
 ·rw [if_neg hki, ← List.getD_eq_getElem?_getD, h.2 i hi]
  omega
theorem first_wd {n k : Nat} {ks : List Int} (hn : n ≤ 4) (hk : k < n) (h : FirstP n k ks) : wdOf (ks.set k 0) = wdOf ks ∧ wdOf (ks.set k 1) = wdOf ks + 2 ^ k := by
 have h0 : ks.getD k 0 < 0 := by have := h.2 k hk; omega
 obtain ⟨_, a, _, b⟩ := ((know_facts n hn ks h.1).2.2 k hk).2 h0
 refine ⟨a, ?_⟩
 rw [b, Q.low_or (first_facts hn (by omega) h).2]
def zG : Q.Sp := ⟨0, -1, -1⟩
def GrowR (o : Option (List Q.Sp × Int)) (sp : List Q.Sp) (m : Nat) (r : List Q.Sp × Int × Bool) : Prop :=
 (match o with
 | some (a, x) => r = (sp ++ a, x, true)
 | none => r.2.2 = false) ∧ sp.length ≤ r.1.length ∧ r.1.length + 1 ≤ sp.length + m
section
variable (n : Nat) (s : List Cl) (t : List Mk)
theorem grow_who (hn : n ≤ 4) {k : Nat} {ks : List Int} (sp : List Q.Sp) (h : FirstP n k ks) (hk : k ≤ n) (R : List Q.Sp × Int × Bool)
  (hR : Ev (fun j => spec_l11Grow.l1 j (n : Int) s t ks sp (if k < n then (k : Int) else -1) (-1)) R) : Ev (fun j => spec_l11Grow.l1 j (n : Int) s t ks sp (-1) ((n : Int) - 1)) R := by
 have hl := know_len h.1
 have go : ∀ i : Nat, i ≤ n → Ev (fun j => spec_l11Grow.l1 j (n : Int) s t ks sp (if k < i then (if i < n then (i : Int) else -1) else (if k < n then (k : Int) else -1)) ((i : Int) - 1)) R := by
  intro i
  induction i with
  | zero =>
   intro _
   rw [if_neg (by omega)]
   exact hR
  | succ i ih =>
   intro hi
   refine Ev.step (fun j => by rw [spec_l11Grow.l1]) ?_
   have e1 : ((i + 1 : Nat) : Int) - 1 = (i : Int) := by omega
   rw [e1]
   refine ev_pos (by omega) (ev_pos (by omega) (ev_pos (by omega) ?_))
   have ew : wrap64 ((i : Int) - 1) = (i : Int) - 1 := Go.Proofs.Ytcaogllnbpmcgaa.M.w64 (by omega) (by omega)
   rw [rdN, ew]
   have hf := h.2 i (by omega)
   by_cases hki : i < k
   ·refine ev_neg (by have := hf.2 hki; omega) ?_
    have := ih (by omega)
    rw [if_neg (by omega)] at this ⊢
    exact this
   ·refine ev_pos (by omega) ?_
    have := ih (by omega)
    by_cases hke : k < i
    ·rw [if_pos hke, if_pos (by omega)] at this
     exact this
    ·obtain rfl : k = i := by omega
     rw [if_neg hke, if_pos (by omega)] at this
     exact this
 have := go n (Nat.le_refl _)
 by_cases hk : k < n
 ·rw [if_pos hk, if_neg (Nat.lt_irrefl _)] at this
  exact this
 ·rw [if_neg hk, if_neg hk] at this
  exact this
theorem grow_claims (hS : StoryP (n : Int) s) (hT : TermP (n : Int) t) {k : Nat} {ks : List Int} (sp : List Q.Sp) (h : FirstP n k ks) (hk : k ≤ n) (hn : n ≤ 4) (R : List Q.Sp × Int × Bool)
  (h1 : ∀ x, Q.closeC n k (wdOf ks) (mayT s) s.length 0 = some x → R = (sp, x, true))
  (h2 : Q.closeC n k (wdOf ks) (mayT s) s.length 0 = none → Ev (fun j => spec_l11Grow.l1 j (n : Int) s t ks sp (-1) ((n : Int) - 1)) R) :
  Ev (fun j => spec_l11Grow.l0 j (n : Int) s t ks sp (-1) 0) R := by
 have h6 := hS.2.2
 have hf := (first_facts hn hk h).1
 have go : ∀ d i : Nat, i + d = s.length → (Q.closeC n k (wdOf ks) (mayT s) d i = Q.closeC n k (wdOf ks) (mayT s) s.length 0) → Ev (fun j => spec_l11Grow.l0 j (n : Int) s t ks sp (-1) (i : Int)) R := by
  intro d
  induction d with
  | zero =>
   intro i hi hc
   refine Ev.step (fun j => by rw [spec_l11Grow.l0]) (ev_neg (by omega) ?_)
   have ew : wrap64 ((n : Int) - 1) = (n : Int) - 1 := Go.Proofs.Ytcaogllnbpmcgaa.M.w64 (by omega) (by omega)
   rw [ew]
   exact h2 hc.symm
  | succ d ih =>
   intro i hi hc
   have ew : wrap64 (-2 - (i : Int)) = -2 - (i : Int) := Go.Proofs.Ytcaogllnbpmcgaa.M.w64 (by omega) (by omega)
   refine Ev.step (fun j => by rw [spec_l11Grow.l0]) (ev_pos (by omega) ?_)
   rw [ew]
   refine ev_bind (spec_closesE n s t hS hT ks h.1 (-2 - (i : Int)) (by omega) (by omega)) ?_
   have e : clQ_ n s t (knOf ks) (wdOf ks) (-2 - (i : Int)) = Q.goalB n k (wdOf ks) (fun w => !mayT s i w) := by
    unfold clQ_ Q.clM Q.goalB
    rw [if_neg (by omega), if_pos (by omega), hf, show (-2 - (-2 - (i : Int))).toNat = i by omega]
   rw [e]
   have hcc : Q.closeC n k (wdOf ks) (mayT s) (d + 1) i = if Q.goalB n k (wdOf ks) (fun w => !mayT s i w) = true then some (-2 - (i : Int)) else Q.closeC n k (wdOf ks) (mayT s) d (i + 1) := rfl
   by_cases hg : Q.goalB n k (wdOf ks) (fun w => !mayT s i w) = true
   ·rw [hcc, if_pos hg] at hc
    exact ev_pos hg (ev_ret (h1 _ hc.symm).symm)
   ·rw [hcc, if_neg hg] at hc
    rw [w64s (by omega)]
    exact ev_neg hg (ih (i + 1) (by omega) hc)
 exact go s.length 0 (by omega) rfl
end
section
variable {n : Nat} {s : List Cl} {t : List Mk}
theorem set_mid (sp a : List Q.Sp) (x y : Q.Sp) : (sp ++ x :: a).set sp.length y = sp ++ y :: a := by
 rw [List.set_append_right _ _ (Nat.le_refl _), Nat.sub_self]
 rfl
theorem spec_growE (hS : StoryP (n : Int) s) (hT : TermP (n : Int) t) : ∀ (d k : Nat) (ks : List Int) (sp : List Q.Sp), k + d = n → FirstP n k ks → sp.length + 2 ^ d ≤ 100 →
  ∃ r, Ev (fun j => spec_l11Grow.f j (n : Int) s t ks sp) r ∧ GrowR (Q.growQ n s.length (holdT t) (mayT s) d k (wdOf ks) sp.length) sp (2 ^ d) r := by
 have hn := hS.2.1
 have hn4 : n ≤ 4 := by omega
 intro d
 induction d with
 | zero =>
  intro k ks sp hk hF hsp
  have hg0 := spec_closesE n s t hS hT ks hF.1 (-1) (by omega) (by omega)
  have e : clQ_ n s t (knOf ks) (wdOf ks) (-1) = Q.goalB n k (wdOf ks) (holdT t) := by
   unfold clQ_ Q.clM Q.goalB
   rw [if_pos rfl, (first_facts hn4 (by omega) hF).1]
  rw [e] at hg0
  cases hc : Q.closeP n k (wdOf ks) s.length (holdT t) (mayT s) with
  | some x =>
   rw [Q.growQ_close hc]
   refine ⟨(sp, x, true), ?_, by show (sp, x, true) = (sp ++ [], x, true); rw [List.append_nil], Nat.le_refl _, by simp⟩
   refine Ev.step (fun j => by rw [spec_l11Grow.f]) (ev_bind hg0 ?_)
   unfold Q.closeP at hc
   by_cases hg : Q.goalB n k (wdOf ks) (holdT t) = true
   ·rw [if_pos hg] at hc
    cases hc
    exact ev_pos hg (ev_ret rfl)
   ·rw [if_neg hg] at hc
    refine ev_neg hg (grow_claims n s t hS hT sp hF (by omega) hn4 _ (fun y hy => ?_) (fun h => ?_))
    ·rw [hc] at hy; cases hy; rfl
    ·rw [hc] at h; cases h
  | none =>
   rw [Q.growQ_zero hc]
   refine ⟨(sp, -1, false), ?_, rfl, Nat.le_refl _, by simp⟩
   refine Ev.step (fun j => by rw [spec_l11Grow.f]) (ev_bind hg0 ?_)
   unfold Q.closeP at hc
   by_cases hg : Q.goalB n k (wdOf ks) (holdT t) = true
   ·rw [if_pos hg] at hc; cases hc
   ·rw [if_neg hg] at hc
    refine ev_neg hg (grow_claims n s t hS hT sp hF (by omega) hn4 _ (fun y hy => ?_) (fun h => ?_))
    ·rw [hc] at hy; cases hy
    ·refine grow_who n s t hn4 sp hF (by omega) _ ?_
     rw [if_neg (by omega)]
     exact Ev.step (fun j => by rw [spec_l11Grow.l1]) (ev_neg (by decide) (ev_pos (by decide) (ev_ret rfl)))
 | succ d ih =>
  intro k ks sp hk hF hsp
  have hg0 := spec_closesE n s t hS hT ks hF.1 (-1) (by omega) (by omega)
  have e : clQ_ n s t (knOf ks) (wdOf ks) (-1) = Q.goalB n k (wdOf ks) (holdT t) := by
   unfold clQ_ Q.clM Q.goalB
   rw [if_pos rfl, (first_facts hn4 (by omega) hF).1]
  rw [e] at hg0
  have hpos := Nat.two_pow_pos d
  have hp2 : 2 ^ (d + 1) = 2 * 2 ^ d := by rw [Nat.pow_succ]; omega
  cases hc : Q.closeP n k (wdOf ks) s.length (holdT t) (mayT s) with
  | some x =>
   rw [Q.growQ_close hc]
   refine ⟨(sp, x, true), ?_, by show (sp, x, true) = (sp ++ [], x, true); rw [List.append_nil], Nat.le_refl _, by show sp.length + 1 ≤ _; omega⟩
   refine Ev.step (fun j => by rw [spec_l11Grow.f]) (ev_bind hg0 ?_)
   unfold Q.closeP at hc
   by_cases hg : Q.goalB n k (wdOf ks) (holdT t) = true
   ·rw [if_pos hg] at hc
    cases hc
    exact ev_pos hg (ev_ret rfl)
   ·rw [if_neg hg] at hc
    refine ev_neg hg (grow_claims n s t hS hT sp hF (by omega) hn4 _ (fun y hy => ?_) (fun h => ?_))
    ·rw [hc] at hy; cases hy; rfl
    ·rw [hc] at h; cases h
  | none =>
   have hkn : k < n := by omega
   have hl := know_len hF.1
   obtain ⟨w0, w1⟩ := first_wd hn4 hkn hF
   have hs1 : (sp ++ [(⟨(k : Int), -1, -1⟩ : Q.Sp)]).length = sp.length + 1 := by simp
   obtain ⟨r1, hr1, hG1, hl1, hm1⟩ := ih (k + 1) (ks.set k 0) (sp ++ [⟨(k : Int), -1, -1⟩]) (by omega) (first_next hkn hF 0 (.inl rfl)) (by omega)
   rw [hs1, w0] at hG1
   rw [hs1] at hl1 hm1
   obtain ⟨r2, hr2, hG2, hl2, hm2⟩ := ih (k + 1) (ks.set k 1) r1.1 (by omega) (first_next hkn hF 1 (.inr rfl)) (by omega)
   rw [w1] at hG2
   have step : Ev (fun j => spec_l11Grow.f j (n : Int) s t ks sp) (r2.1.set sp.length ⟨(k : Int), r1.2.1, r2.2.1⟩, (sp.length : Int), r1.2.2 && r2.2.2) := by
    refine Ev.step (fun j => by rw [spec_l11Grow.f]) (ev_bind hg0 ?_)
    unfold Q.closeP at hc
    by_cases hg : Q.goalB n k (wdOf ks) (holdT t) = true
    ·rw [if_pos hg] at hc; cases hc
    rw [if_neg hg] at hc
    refine ev_neg hg (grow_claims n s t hS hT sp hF (by omega) hn4 _ (fun y hy => ?_) (fun h => ?_))
    ·rw [hc] at hy; cases hy
    refine grow_who n s t hn4 sp hF (by omega) _ ?_
    rw [if_pos hkn]
    refine Ev.step (fun j => by rw [spec_l11Grow.l1]) (ev_neg (by decide) (ev_neg (by omega) ?_))
    simp only [Option.bind_some, List.nil_append, List.length_nil, Nat.zero_add, Int.toNat_natCast]
    refine ev_pos (by omega) (ev_pos (by omega) (ev_pos (by omega) (ev_pos (by omega) (ev_pos (by omega) (ev_pos (by omega) (ev_pos (by omega) ?_))))))
    refine ev_bind hr1 (ev_bind hr2 (ev_pos (by omega) (ev_pos (by omega) ?_)))
    cases hb : r1.2.2 with
    | true => exact ev_pos rfl (ev_ret (by rw [Bool.true_and]))
    | false => exact ev_neg (by decide) (ev_ret (by rw [Bool.false_and]))
   refine ⟨_, step, ?_, ?_, ?_⟩
   ·cases e1 : Q.growQ n s.length (holdT t) (mayT s) d (k + 1) (wdOf ks) (sp.length + 1) with
    | none =>
     rw [Q.growQ_no hc e1]
     rw [e1] at hG1
     have hG1 : r1.2.2 = false := hG1
     show (r1.2.2 && r2.2.2) = false
     rw [hG1]
     rfl
    | some q =>
     obtain ⟨a, no⟩ := q
     rw [e1] at hG1
     obtain rfl : r1 = (sp ++ [⟨(k : Int), -1, -1⟩] ++ a, no, true) := hG1
     have hla : (sp ++ [(⟨(k : Int), -1, -1⟩ : Q.Sp)] ++ a).length = sp.length + 1 + a.length := by simp; omega
     dsimp only at hG2
     rw [hla] at hG2
     cases e2 : Q.growQ n s.length (holdT t) (mayT s) d (k + 1) (wdOf ks + 2 ^ k) (sp.length + 1 + a.length) with
     | none =>
      rw [Q.growQ_yes hc e1 e2]
      rw [e2] at hG2
      have hG2 : r2.2.2 = false := hG2
      show (true && r2.2.2) = false
      rw [hG2]
      rfl
     | some q2 =>
      obtain ⟨b, yes⟩ := q2
      rw [Q.growQ_both hc e1 e2]
      rw [e2] at hG2
      obtain rfl : r2 = (sp ++ [⟨(k : Int), -1, -1⟩] ++ a ++ b, yes, true) := hG2
      show (_, _, _) = _
      dsimp only
      rw [show sp ++ [(⟨(k : Int), -1, -1⟩ : Q.Sp)] ++ a ++ b = sp ++ (⟨(k : Int), -1, -1⟩ :: (a ++ b)) by simp, set_mid]
      rfl
   ·show sp.length ≤ (r2.1.set _ _).length
    rw [List.length_set]
    omega
   ·show (r2.1.set _ _).length + 1 ≤ _
    rw [List.length_set]
    omega
end
def grQ (n : Nat) (s : List Cl) (t : List Mk) : Nat → Nat → Nat → Nat → Option (List Q.Sp × Int) := Q.growQ n s.length (holdT t) (mayT s)
def findO : Option (List Q.Sp × Int) → Int × List Q.Sp × Bool
 | some (a, x) => (x, a, true)
 | none => (0, [], false)
noncomputable def findF (n : Int) (s : List Cl) (t : List Mk) : Int × List Q.Sp × Bool :=
 @ite _ (StoryP n s ∧ TermP n t) (Classical.propDecidable _) (findO (grQ n.toNat s t n.toNat 0 0 0)) (0, [], false)
end Go.Proofs.Ytcaogllnbpmcgaa.M
namespace Go.Proofs.Ytcaogllnbpmcgaa.Q
theorem vis_fuel {S : List Sp} {n : Nat} {cl : Nat → Nat → Int → Bool} : ∀ (f : Nat) (tgt : Int) (kn wd : Nat) (l : List Nat), visP S n cl f tgt kn wd = some l →
  ∀ g : Nat, (tgt < 0 → 1 ≤ g) → (0 ≤ tgt → tgt < S.length ∧ (S.length : Int) < g + tgt) → visP S n cl g tgt kn wd = some l := by
 intro f
 induction f with
 | zero => intro tgt kn wd l h; cases h
 | succ f ih =>
  intro tgt kn wd l h g h1 h2
  cases g with
  | zero =>
   by_cases h0 : tgt < 0
   ·have := h1 h0; omega
   ·have := h2 (by omega); omega
  | succ g =>
   by_cases h0 : tgt < 0
   ·rw [vis_neg h0] at h ⊢
    exact h
   ·obtain ⟨hn, hs, a, b, ha, hb, rfl⟩ := vis_some h0 h
    have h3 := h2 (by omega)
    have e1 := hs.1
    have e2 := hs.2
    unfold okN at e1 e2
    exact vis_node h0 hn hs (ih _ _ _ _ ha g (by omega) (by omega)) (ih _ _ _ _ hb g (by omega) (by omega))
theorem okI_ok {S : List Sp} {n : Nat} {cl : Nat → Nat → Int → Bool} {fi : Int} (h : okI S n cl fi) : okN S fi (-1) := by
 obtain ⟨c1, _⟩ := chk_iff (S := S) (n := n) (cl := cl) (S.length + 2) fi (-1) 0 0 (List.replicate S.length false) (by simp) (by omega)
 exact (c1.1 h.1).1
theorem grow_small (n m : Nat) (hold : Nat → Bool) (may : Nat → Nat → Bool) : ∀ (d k wd L : Nat) (a : List Sp) (t : Int), growQ n m hold may d k wd L = some (a, t) →
  (-2 - (m : Int) ≤ t ∧ t ≤ (L : Int)) ∧ ∀ y ∈ a, -2 - (m : Int) ≤ y.f1 ∧ -2 - (m : Int) ≤ y.f2 := by
 have hcl : ∀ {k wd : Nat} {t : Int} (L : Nat), closeP n k wd m hold may = some t → -2 - (m : Int) ≤ t ∧ t ≤ (L : Int) := by
  intro k wd t L h
  unfold closeP at h
  by_cases hg : goalB n k wd hold = true
  ·rw [if_pos hg] at h
   cases h
   omega
  ·rw [if_neg hg] at h
   obtain ⟨j, _, h2, rfl, _⟩ := closeC_some n k wd may m 0 t h
   omega
 intro d
 induction d with
 | zero =>
  intro k wd L a t h
  cases hc : closeP n k wd m hold may with
  | some x =>
   rw [growQ_close hc] at h
   cases h
   exact ⟨hcl L hc, fun y hy => by cases hy⟩
  | none => rw [growQ_zero hc] at h; cases h
 | succ d ih =>
  intro k wd L a t h
  cases hc : closeP n k wd m hold may with
  | some x =>
   rw [growQ_close hc] at h
   cases h
   exact ⟨hcl L hc, fun y hy => by cases hy⟩
  | none =>
   cases e1 : growQ n m hold may d (k + 1) wd (L + 1) with
   | none => rw [growQ_no hc e1] at h; cases h
   | some x =>
    obtain ⟨a1, no⟩ := x
    cases e2 : growQ n m hold may d (k + 1) (wd + 2 ^ k) (L + 1 + a1.length) with
    | none => rw [growQ_yes hc e1 e2] at h; cases h
    | some y =>
     obtain ⟨b, yes⟩ := y
     rw [growQ_both hc e1 e2] at h
     obtain ⟨⟨p1, p2⟩, p3⟩ := ih _ _ _ _ _ e1
     obtain ⟨⟨q1, q2⟩, q3⟩ := ih _ _ _ _ _ e2
     cases h
     refine ⟨by omega, fun z hz => ?_⟩
     rcases List.mem_cons.1 hz with rfl | hz
     ·exact ⟨p1, q1⟩
     ·rcases List.mem_append.1 hz with hz | hz
      ·exact p3 z hz
      ·exact q3 z hz
end Go.Proofs.Ytcaogllnbpmcgaa.Q
namespace Go.Proofs.Ytcaogllnbpmcgaa.M
open Go Go.RowKit Go.Proofs.YtcaogllnbpmcgaaW.PrintWords Go.Proofs.Ytcaogllnbpmcgaa.P
section
variable {n : Nat} {s : List Cl} {t : List Mk}
theorem clQ_is : clQ n s t = Q.clM n s.length (holdT t) (mayT s) := rfl
theorem grow_ok (hS : StoryP (n : Int) s) (hT : TermP (n : Int) t) {a : List Q.Sp} {x : Int} (h : grQ n s t n 0 0 0 = some (a, x)) : PrfOk (n : Int) s t x a := by
 have hn := hS.2.1
 unfold grQ at h
 have hlen := Q.grow_len _ _ _ _ _ _ _ _ _ _ h
 have hp : 2 ^ n ≤ 2 ^ 4 := Nat.pow_le_pow_right (by decide) (by omega)
 obtain ⟨v, o⟩ := Q.grow_vis (S := a) n 0 0 0 (n + 1) a x (by omega) (by decide) (by omega) h (by omega) (fun j _ => by rw [Nat.zero_add])
 have v : Q.visP a n (clQ n s t) (n + 1) x 0 0 = some (List.range' 0 a.length) := v
 have hx : x < 0 → a.length = 0 := fun h0 => by
  rw [Q.vis_neg h0] at v
  split at v
  ·have := congrArg List.length (Option.some.inj v)
   rw [List.length_range'] at this
   exact this.symm
  ·cases v
 have hok : Q.okN a x (-1) := by unfold Q.okN; omega
 refine ⟨hS, hT, by omega, fun h0 => ?_, ?_⟩
 ·rcases o with o | o
  ·have := hx o; omega
  ·exact o.1
 ·rw [Int.toNat_natCast, Q.okI_iff x hok]
  refine ⟨_, Q.vis_fuel _ _ _ _ _ v (a.length + 2) (by omega) (fun h0 => by omega), List.nodup_range', fun i hi => ?_⟩
  rw [List.mem_range'_1]
  omega
theorem sure_iff : Q.sureP n s.length 0 0 (holdT t) (mayT s) ↔ ∀ w, w < pw n → (∀ c ∈ s, mayB c.f0.toNat c.f1 w = true) → holdB t w = true := by
 unfold Q.sureP
 constructor
 ·intro h w hw hm
  rcases h w hw (by rw [Nat.pow_zero, Nat.mod_one]) with h | ⟨i, hi, h⟩
  ·exact h
  ·have := hm _ (getD_mem s zC i hi)
   have h : mayB (s.getD i zC).f0.toNat (s.getD i zC).f1 w = false := h
   rw [h] at this
   cases this
 ·intro h w hw _
  by_cases hm : ∀ c ∈ s, mayB c.f0.toNat c.f1 w = true
  ·exact .inl (h w hw hm)
  ·refine .inr (Classical.byContradiction fun hno => hm fun c hc => ?_)
   obtain ⟨i, hi, rfl⟩ := List.getElem_of_mem hc
   cases hb : mayB (s[i]).f0.toNat (s[i]).f1 w with
   | true => rfl
   | false => exact absurd ⟨i, hi, show mayB (s.getD i zC).f0.toNat (s.getD i zC).f1 w = false by rw [getD_lt s zC i hi]; exact hb⟩ hno
theorem found_iff (hn : n ≤ 4) : (grQ n s t n 0 0 0).isSome = true ↔ ∀ w, w < pw n → (∀ c ∈ s, mayB c.f0.toNat c.f1 w = true) → holdB t w = true :=
 (Q.grow_iff n s.length (holdT t) (mayT s) n 0 0 0 (by omega) (by decide)).trans sure_iff
theorem prf_follows {fi : Int} {S : List Q.Sp} (h : PrfOk (n : Int) s t fi S) : ∀ w, w < pw n → (∀ c ∈ s, mayB c.f0.toNat c.f1 w = true) → holdB t w = true := by
 have h5 := h.2.2.2.2
 rw [Int.toNat_natCast] at h5
 obtain ⟨l, hv, _⟩ := (Q.okI_iff fi (Q.okI_ok h5)).1 h5
 intro w hw hm
 rcases Q.vis_sound (hold := holdT t) (may := mayT s) _ _ _ _ _ hv w hw (Nat.and_zero w) with h | ⟨i, hi, h⟩
 ·exact h
 ·have := hm _ (getD_mem s zC i hi)
  have h : mayB (s.getD i zC).f0.toNat (s.getD i zC).f1 w = false := h
  rw [h] at this
  cases this
theorem prf_more {fi : Int} {S : List Q.Sp} {c : Cl} (h : PrfOk (n : Int) s t fi S) (hS : StoryP (n : Int) (s ++ [c])) : PrfOk (n : Int) (s ++ [c]) t fi S := by
 obtain ⟨h1, h2, h3, h4, h5⟩ := h
 refine ⟨hS, h2, h3, h4, ?_⟩
 rw [Int.toNat_natCast] at h5 ⊢
 have hok := Q.okI_ok h5
 obtain ⟨l, hv, hl⟩ := (Q.okI_iff fi hok).1 h5
 refine (Q.okI_iff fi hok).2 ⟨l, Q.vis_more (fun kn wd x hx => ?_) _ _ _ _ _ hv, hl⟩
 have hx : Q.clM n s.length (holdT t) (mayT s) kn wd x = true := hx
 show Q.clM n (s ++ [c]).length (holdT t) (mayT (s ++ [c])) kn wd x = true
 unfold Q.clM at hx ⊢
 by_cases hg : x = -1
 ·rw [if_pos hg] at hx ⊢
  exact hx
 ·rw [if_neg hg] at hx ⊢
  by_cases hi : 0 ≤ -2 - x ∧ -2 - x < (s.length : Int)
  ·rw [if_pos hi] at hx
   rw [if_pos (by rw [List.length_append, List.length_singleton]; omega)]
   have e : mayT (s ++ [c]) (-2 - x).toNat = mayT s (-2 - x).toNat := by
    unfold mayT
    rw [List.getD_eq_getElem?_getD, List.getElem?_append_left (by omega), ← List.getD_eq_getElem?_getD]
   rw [e]
   exact hx
  ·rw [if_neg hi] at hx; cases hx
end
theorem findF_no {n : Int} {s : List Cl} {t : List Mk} (h : ¬ (StoryP n s ∧ TermP n t)) : findF n s t = (0, [], false) := by
 unfold findF
 rw [if_neg h]
theorem findF_yes {n : Nat} {s : List Cl} {t : List Mk} (hS : StoryP (n : Int) s) (hT : TermP (n : Int) t) : findF (n : Int) s t = findO (grQ n s t n 0 0 0) := by
 unfold findF
 rw [if_pos ⟨hS, hT⟩, Int.toNat_natCast]
theorem findF_64 (n : Int) (s : List Cl) (t : List Mk) : (-8 ≤ (findF n s t).1 ∧ (findF n s t).1 ≤ 0) ∧ (findF n s t).2.1.length ≤ 15 ∧ ∀ y ∈ (findF n s t).2.1, -8 ≤ y.f1 ∧ -8 ≤ y.f2 := by
 by_cases h : StoryP n s ∧ TermP n t
 ·obtain ⟨hS, hT⟩ := h
  have hn := hS.2.1
  have h6 := hS.2.2
  obtain ⟨m, rfl⟩ : ∃ m : Nat, n = (m : Int) := ⟨n.toNat, by omega⟩
  rw [findF_yes hS hT]
  cases hg : grQ m s t m 0 0 0 with
  | none => exact ⟨by show -8 ≤ (0 : Int) ∧ (0 : Int) ≤ 0; omega, Nat.zero_le _, fun y hy => by cases hy⟩
  | some q =>
   obtain ⟨a, x⟩ := q
   have hg' := hg
   unfold grQ at hg
   obtain ⟨⟨a1, a2⟩, a3⟩ := Q.grow_small _ _ _ _ _ _ _ _ _ _ hg
   have hl := (grow_ok hS hT hg').2.2.1
   exact ⟨⟨by show -8 ≤ x; omega, by show x ≤ 0; omega⟩, hl, fun y hy => by have := a3 y hy; omega⟩
 ·rw [findF_no h]
  exact ⟨by show -8 ≤ (0 : Int) ∧ (0 : Int) ≤ 0; omega, Nat.zero_le _, fun y hy => by cases hy⟩
theorem spec_findE (n : Int) (hnb : n ≤ 9223372036854775807) (s : List Cl) (h64 : S64 s) (t : List Mk) (ht : M64 t) (htl : t.length < 4611686018427387904) : Ev (fun k => spec_FindProof.f k n s t) (findF n s t) := by
 unfold spec_FindProof.f
 have stop : ¬ (StoryP n s ∧ TermP n t) → Ev (fun k => spec_FindProof.j0 k n s t true) (findF n s t) := fun h => by
  rw [findF_no h]
  exact Ev.step (fun k => by rw [spec_FindProof.j0]) (ev_pos rfl (ev_ret rfl))
 by_cases hS : StoryP n s
 case neg => exact ev_bind ((spec_storyOk n hnb s h64).ev (b := false) ⟨fun h => (by cases h), fun h => absurd h hS⟩) (ev_neg (by decide) (stop fun h => hS h.1))
 refine ev_bind ((spec_storyOk n hnb s h64).ev (b := true) ⟨fun _ => hS, fun _ => rfl⟩) (ev_pos rfl ?_)
 by_cases hT : TermP n t
 case neg => exact ev_bind ((spec_termOk n hnb t ht htl).ev (b := false) ⟨fun h => (by cases h), fun h => absurd h hT⟩) (stop fun h => hT h.2)
 refine ev_bind ((spec_termOk n hnb t ht htl).ev (b := true) ⟨fun _ => hT, fun _ => rfl⟩) ?_
 refine Ev.step (fun k => by rw [spec_FindProof.j0]) (ev_neg (by decide) ?_)
 have hn := hS.2.1
 obtain ⟨m, rfl⟩ : ∃ m : Nat, n = (m : Int) := ⟨n.toNat, by omega⟩
 refine ev_bind (spec_nothingE m (by omega)) ?_
 obtain ⟨r, hr, hG, _, _⟩ := spec_growE hS hT m 0 (List.replicate m (-1)) [] (by omega) (first_nothing m) (by have := Nat.pow_le_pow_right (n := 2) (by decide) (show m ≤ 4 by omega); show 0 + 2 ^ m ≤ 100; omega)
 rw [(nothing_of m (by omega)).2, List.length_nil] at hG
 refine ev_bind hr ?_
 rw [findF_yes hS hT]
 unfold grQ
 cases hq : Q.growQ m s.length (holdT t) (mayT s) m 0 0 0 with
 | none =>
  rw [hq] at hG
  have hG : r.2.2 = false := hG
  exact ev_neg (by rw [hG]; decide) (ev_ret rfl)
 | some q =>
  obtain ⟨a, x⟩ := q
  rw [hq] at hG
  obtain rfl : r = ([] ++ a, x, true) := hG
  exact ev_pos rfl (ev_ret rfl)
def SmallP (fi : Int) (S : List Q.Sp) : Prop := (-8 ≤ fi ∧ fi ≤ 16) ∧ S.length ≤ 16 ∧ ∀ y ∈ S, -8 ≤ y.f1 ∧ -8 ≤ y.f2
theorem SmallP.prf64 {fi : Int} {S : List Q.Sp} (h : SmallP fi S) (s : List Cl) (hs : s.length ≤ 100) : Prf64 s fi S := by
 refine ⟨by omega, by have := h.1; omega, fun i hi => ?_⟩
 have := h.2.2 _ (getD_mem S Q.zS i hi)
 omega
theorem SmallP.set {fi : Int} {S : List Q.Sp} (h : SmallP fi S) (i : Nat) (y : Q.Sp) (h1 : -8 ≤ y.f1) (h2 : -8 ≤ y.f2) : SmallP fi (S.set i y) := by
 refine ⟨h.1, by rw [List.length_set]; exact h.2.1, fun z hz => ?_⟩
 rcases List.mem_or_eq_of_mem_set hz with hz | rfl
 ·exact h.2.2 z hz
 ·exact ⟨h1, h2⟩
theorem proof_j0 (b : List Int) (hb : Bytes b) (d n : Int) (s : List Cl) (l : List Mk) (p : Nat) (hp : p ≤ 1000) (fi : Int) (S : List Q.Sp) (hS : SmallP fi S) (hl : S.length ≤ 15) (h0 : fi ≤ 0) :
  ∃ (fi' : Int) (S' : List Q.Sp) (q : Nat), Ev (fun k => spec_l20Proof.j0 k d n s l b (p : Int) fi S) (n, s, l, fi', S', (q : Int)) ∧ SmallP fi' S' ∧ q ≤ p + 4 := by
 obtain ⟨o, p1, eo, hp1⟩ := oddE b hb p (by omega) d
 cases o with
 | false => exact ⟨fi, S, p1, Ev.step (fun k => by rw [spec_l20Proof.j0]) (ev_bind eo (ev_neg Bool.false_ne_true (ev_ret rfl))), hS, by omega⟩
 | true =>
  obtain ⟨r, e, hr, _⟩ := pickE b hb p1 (by omega) 4
  by_cases r0 : r = 0
  ·obtain ⟨r2, e2, hr2, _⟩ := pickE b hb (p1 + 1) (by omega) 4
   have hr2 := hr2 (by decide)
   refine ⟨(r2 : Int) - 3, S, p1 + 2, ?_, ⟨by omega, hS.2⟩, by omega⟩
   refine Ev.step (fun k => by rw [spec_l20Proof.j0]) (ev_bind eo (ev_pos rfl (ev_bind e ?_)))
   dsimp only
   refine ev_pos (by omega) (ev_bind e2 (ev_ret ?_))
   try dsimp only
   rw [w64 (by omega) (by omega)]
  by_cases r1 : r = 1
  ·obtain ⟨r2, e2, hr2, _⟩ := pickE b hb (p1 + 1) (by omega) 4
   refine ⟨fi, S ++ [⟨(r2 : Int), -1, -2⟩], p1 + 2, ?_, ⟨hS.1, by simp; omega, fun y hy => ?_⟩, by omega⟩
   refine Ev.step (fun k => by rw [spec_l20Proof.j0]) (ev_bind eo (ev_pos rfl (ev_bind e ?_)))
   dsimp only
   exact ev_neg (by omega) (ev_pos (by omega) (ev_bind e2 (ev_pos (by omega) (ev_ret rfl))))
   rcases List.mem_append.1 hy with hy | hy
   ·exact hS.2.2 y hy
   ·rw [List.mem_singleton.1 hy]
    exact ⟨by show (-8 : Int) ≤ -1; decide, by show (-8 : Int) ≤ -2; decide⟩
  by_cases r2 : r = 2
  ·by_cases hz : (S.length : Int) > 0
   ·obtain ⟨i, ei, hi, _⟩ := pickE b hb (p1 + 1) (by omega) (S.length : Int)
    have hi := hi (by omega)
    obtain ⟨w, ew, _⟩ := pickE b hb (p1 + 2) (by omega) 5
    have hm := hS.2.2 _ (getD_mem S Q.zS i (by omega))
    refine ⟨fi, S.set i ⟨(w : Int), (S.getD i Q.zS).f1, (S.getD i Q.zS).f2⟩, p1 + 3, ?_, hS.set i _ hm.1 hm.2, by omega⟩
    refine Ev.step (fun k => by rw [spec_l20Proof.j0]) (ev_bind eo (ev_pos rfl (ev_bind e ?_)))
    dsimp only
    refine ev_neg (by omega) (ev_neg (by omega) (ev_pos (by omega) (ev_pos hz (ev_bind ei (ev_bind ew (ev_pos (by dsimp only; omega) (ev_pos hi (ev_ret ?_))))))))
    try dsimp only
    rw [rdS, Int.toNat_natCast]
   ·refine ⟨fi, S, p1 + 1, ?_, hS, by omega⟩
    refine Ev.step (fun k => by rw [spec_l20Proof.j0]) (ev_bind eo (ev_pos rfl (ev_bind e ?_)))
    dsimp only
    exact ev_neg (by omega) (ev_neg (by omega) (ev_pos (by omega) (ev_neg hz (ev_ret rfl))))
  ·by_cases hz : (S.length : Int) > 0
   ·obtain ⟨w, ew, hw, _⟩ := pickE b hb (p1 + 1) (by omega) 5
    have hm := hS.2.2 _ (getD_mem S Q.zS 0 (by omega))
    refine ⟨fi, S.set 0 ⟨(S.getD 0 Q.zS).f0, (w : Int) - 3, (S.getD 0 Q.zS).f2⟩, p1 + 2, ?_, hS.set 0 _ (by show -8 ≤ (w : Int) - 3; omega) hm.2, by omega⟩
    refine Ev.step (fun k => by rw [spec_l20Proof.j0]) (ev_bind eo (ev_pos rfl (ev_bind e ?_)))
    dsimp only
    refine ev_neg (by omega) (ev_neg (by omega) (ev_neg (by omega) (ev_pos hz (ev_bind ew (ev_pos (by omega) (ev_ret ?_))))))
    have e0 : rd_T93 S 0 = S.getD 0 Q.zS := rdS S 0
    try dsimp only
    rw [e0, w64 (x := (w : Int) - 3) (by have := hw (by decide); omega) (by have := hw (by decide); omega)]
    rfl
   ·refine ⟨fi, S, p1 + 1, ?_, hS, by omega⟩
    refine Ev.step (fun k => by rw [spec_l20Proof.j0]) (ev_bind eo (ev_pos rfl (ev_bind e ?_)))
    dsimp only
    exact ev_neg (by omega) (ev_neg (by omega) (ev_neg (by omega) (ev_neg hz (ev_ret rfl))))
theorem l20ProofE (b : List Int) (hb : Bytes b) (d : Int) : ∃ (n : Int) (s : List Cl) (l : List Mk) (fi : Int) (S : List Q.Sp) (q : Nat), Ev (fun k => spec_l20Proof.f k b ((0 : Nat) : Int) d) (n, s, l, fi, S, (q : Int)) ∧
  s.length ≤ 20 ∧ SmallS s ∧ l.length ≤ 4097 ∧ SmallL l ∧ n ≤ 4 ∧ SmallP fi S ∧ q ≤ 500 := by
 obtain ⟨n, s, l, p, ep, hsl, hss, hll, hls, hn4, hp⟩ := l20ProvedE b hb
 have h64 := hss.S64 (by omega)
 have small : ∀ l : List Mk, SmallP (findF n s l).1 (findF n s l).2.1 ∧ (findF n s l).2.1.length ≤ 15 ∧ (findF n s l).1 ≤ 0 := fun l => by
  obtain ⟨h1, h2, h3⟩ := findF_64 n s l
  exact ⟨⟨by omega, by omega, h3⟩, h2, h1.2⟩
 cases hok : (findF n s l).2.2 with
 | true =>
  obtain ⟨h1, h2, h3⟩ := small l
  obtain ⟨fi', S', q, ej, hS', hq⟩ := proof_j0 b hb d n s l p (by omega) _ _ h1 h2 h3
  refine ⟨n, s, l, fi', S', q, ?_, hsl, hss, hll, hls, hn4, hS', by omega⟩
  unfold spec_l20Proof.f
  exact ev_bind ep (ev_bind (spec_findE n (by omega) s h64 l hls.M64 (by omega)) (ev_pos hok ej))
 | false =>
  obtain ⟨h1, h2, h3⟩ := small [⟨1, 0⟩]
  obtain ⟨fi', S', q, ej, hS', hq⟩ := proof_j0 b hb d n s [⟨1, 0⟩] p (by omega) _ _ h1 h2 h3
  refine ⟨n, s, [⟨1, 0⟩], fi', S', q, ?_, hsl, hss, by simp, SmallL.one (by decide), hn4, hS', by omega⟩
  unfold spec_l20Proof.f
  refine ev_bind ep (ev_bind (spec_findE n (by omega) s h64 l hls.M64 (by omega)) (ev_neg (by rw [hok]; decide) (ev_bindc rfl ?_)))
  exact ev_bind (spec_findE n (by omega) s h64 [⟨1, 0⟩] (SmallL.one (by decide)).M64 (by decide)) ej
theorem tabS_bit (n : Nat) (s : List Cl) (w : Nat) : bitN (tabS n s) w = 1 ↔ w < pw n ∧ ∀ c ∈ s, mayB c.f0.toNat c.f1 w = true := by
 have fold : ∀ (s : List Cl) (a : Nat), bitN (s.foldl (fun t c => t &&& tabC n c) a) w = 1 ↔ bitN a w = 1 ∧ ∀ c ∈ s, bitN (tabC n c) w = 1 := by
  intro s
  induction s with
  | nil => intro a; simp
  | cons c s ih =>
   intro a
   rw [List.foldl_cons, ih, bit_test, Nat.testBit_and, Bool.and_eq_true, ← bit_test, ← bit_test]
   constructor
   ·rintro ⟨⟨h1, h2⟩, h3⟩
    exact ⟨h1, fun x hx => by
     rcases List.mem_cons.1 hx with rfl | hx
     ·exact h2
     ·exact h3 x hx⟩
   ·rintro ⟨h1, h2⟩
    exact ⟨⟨h1, h2 c (by simp)⟩, fun x hx => h2 x (by simp [hx])⟩
 unfold tabS
 rw [fold]
 have e : bitN (pw (pw n) - 1) w = 1 ↔ w < pw n := by
  rw [bit_test]
  unfold pw
  rw [Nat.testBit_two_pow_sub_one, decide_eq_true_eq]
 rw [e]
 constructor
 ·rintro ⟨h1, h2⟩
  exact ⟨h1, fun c hc => ((tab_bit _ _ _).1 (h2 c hc)).2⟩
 ·rintro ⟨h1, h2⟩
  exact ⟨h1, fun c hc => (tab_bit _ _ _).2 ⟨h1, h2 c hc⟩⟩
theorem tabS_max (n : Nat) (s : List Cl) : tabS n s < pw (pw n) := by
 have h : ∀ (s : List Cl) (a : Nat), a < pw (pw n) → s.foldl (fun t c => t &&& tabC n c) a < pw (pw n) := by
  intro s
  induction s with
  | nil => exact fun a h => h
  | cons c s ih => exact fun a h => ih _ (Nat.lt_of_le_of_lt Nat.and_le_left h)
 have := pw_pos (pw n)
 exact h s _ (by omega)
def followsP (n : Nat) (s : List Cl) (l : List Mk) : Prop := ∀ w, w < pw n → (∀ c ∈ s, mayB c.f0.toNat c.f1 w = true) → holdB l w = true
theorem tabS_lt4 (n : Nat) (hn : n ≤ 4) (s : List Cl) : tabS n s < 65536 := Nat.lt_of_lt_of_le (tabS_max n s) (ppw' hn)
theorem tab_lt4 (n : Nat) (hn : n ≤ 4) (p : Nat → Bool) : tabN p (pw n) < 65536 := Nat.lt_of_lt_of_le (tabN_lt _ _) (ppw' hn)
theorem follows_bits (n : Nat) (hn : n ≤ 4) (s : List Cl) (l : List Mk) : (Go.bits .andNot .i64 ((tabS n s : Nat) : Int) ((tabN (holdB l) (pw n) : Nat) : Int) == 0) = true ↔ followsP n s l := by
 rw [andNot_zero _ _ (tabS_lt4 n hn s) (tab_lt4 n hn _)]
 constructor
 ·intro h w hw hm
  have := h w ((bit_test _ _).1 ((tabS_bit n s w).2 ⟨hw, hm⟩))
  exact ((tab_bit _ _ _).1 ((bit_test _ _).2 this)).2
 ·intro h w hw
  obtain ⟨h1, h2⟩ := (tabS_bit n s w).1 ((bit_test _ _).2 hw)
  exact (bit_test _ _).1 ((tab_bit _ _ _).2 ⟨h1, h w h1 h2⟩)
theorem impl_followsT (n : Int) (s : List Cl) (hs : s.length < 4611686018427387904) (l : List Mk) : Tells (fun k => impl_FollowsFrom.f k n s l) (StoryP n s ∧ TermP n l ∧ followsP n.toNat s l) := by
 unfold impl_FollowsFrom.f
 obtain ⟨b, hb, hi⟩ := impl_storyOk n s hs
 refine Tells.bind hb (Tells.ite (fun h => ?_) (fun h => Tells.no fun h' => h (hi.2 h'.1)))
 obtain ⟨c, hc, hj⟩ := impl_termOk n l
 refine Tells.bind hc (Tells.ite (fun h2 => ?_) (fun h2 => Tells.no fun h' => h2 (hj.2 h'.2.1)))
 have hS := hi.1 h
 have hT := hj.1 h2
 obtain ⟨m, rfl⟩ : ∃ m : Nat, n = (m : Int) := ⟨n.toNat, by have := hT.1.1; omega⟩
 refine Tells.bind (impl_storyE m s hS) (Tells.bindc (impl_tableOfE m l hT) ⟨_, Ev.now _, ?_⟩)
 rw [follows_bits m (by have := hT.1.2; omega)]
 exact ⟨fun h => ⟨hS, hT, h⟩, fun h => h.2.2⟩
theorem tab_all (p : Nat → Bool) (N : Nat) : tabN p N = pw N - 1 ↔ ∀ w, w < N → p w = true := by
 have hb : ∀ w, (tabN p N).testBit w = true ↔ w < N ∧ p w = true := fun w => (bit_test _ _).symm.trans (tab_bit p N w)
 constructor
 ·intro h w hw
  have h2 := hb w
  rw [h] at h2
  have h3 : (pw N - 1).testBit w = true := by
   show (2 ^ N - 1).testBit w = true
   rw [Nat.testBit_two_pow_sub_one]
   exact decide_eq_true hw
  exact (h2.1 h3).2
 ·intro h
  refine Nat.eq_of_testBit_eq fun w => ?_
  show _ = (2 ^ N - 1).testBit w
  rw [Nat.testBit_two_pow_sub_one]
  by_cases hw : w < N
  ·rw [decide_eq_true hw]
   exact (hb w).2 ⟨hw, h w hw⟩
  ·rw [decide_eq_false hw]
   cases hx : (tabN p N).testBit w with
   | false => rfl
   | true => exact absurd ((hb w).1 hx).1 hw
theorem impl_proofE (n : Int) (s : List Cl) (t : List Mk) (fi : Int) (S : List Q.Sp) (h : Prf64 s fi S) (b : Bool) (hb : b = true ↔ PrfOk n s t fi S) : impl_ProofOk.f n s t fi S = some b := by
 unfold impl_ProofOk.f
 rw [if_pos h]
 congr 1
 rw [Bool.eq_iff_iff, hb]
 exact @decide_eq_true_iff _ (Classical.propDecidable _)
end Go.Proofs.Ytcaogllnbpmcgaa.M
namespace Go.Proofs.Ytcaogllnbpmcgaa.Q
theorem vis_len (S : List Sp) (n : Nat) (cl : Nat → Nat → Int → Bool) : ∀ (f : Nat) (tgt : Int) (kn wd : Nat) (l : List Nat), visP S n cl f tgt kn wd = some l → (tgt < 0 → l = []) ∧ (0 ≤ tgt → tgt < S.length → l.length + 1 ≤ 2 ^ (S.length - tgt.toNat)) := by
 intro f
 induction f with
 | zero => intro tgt kn wd l h; simp [visP] at h
 | succ f ih =>
  intro tgt kn wd l h
  by_cases h0 : tgt < 0
  ·rw [vis_neg h0] at h
   refine ⟨fun _ => ?_, fun h1 => by omega⟩
   split at h
   ·exact (Option.some.inj h).symm
   ·cases h
  ·refine ⟨fun h1 => absurd h1 h0, fun _ hlt => ?_⟩
   obtain ⟨hn, hs, a, b, ha, hb, rfl⟩ := vis_some h0 h
   have hpos : ∀ m : Nat, 1 ≤ 2 ^ m := fun m => Nat.two_pow_pos m
   have e : S.length - tgt.toNat = (S.length - tgt.toNat - 1) + 1 := by omega
   have half : ∀ (x : Int) (c : List Nat) (kn wd : Nat), okN S x tgt → visP S n cl f x kn wd = some c → c.length + 1 ≤ 2 ^ (S.length - tgt.toNat - 1) := by
    intro x c kn wd hx hc
    rcases hx with hx | ⟨h1, h2⟩
    ·rw [(ih x kn wd c hc).1 hx]
     exact hpos _
    ·refine Nat.le_trans ((ih x kn wd c hc).2 (by omega) h2) (Nat.pow_le_pow_right (by decide) (by omega))
   have h1 := half _ a _ _ hs.1 ha
   have h2 := half _ b _ _ hs.2 hb
   rw [e, Nat.pow_succ, List.length_cons, List.length_append]
   omega
end Go.Proofs.Ytcaogllnbpmcgaa.Q
namespace Go.Proofs.Ytcaogllnbpmcgaa.M
open Go Go.RowKit Go.Proofs.YtcaogllnbpmcgaaW.PrintWords Go.Proofs.Ytcaogllnbpmcgaa.P
section
variable (n : Nat) (s : List Cl) (t : List Mk) (fi : Int) (S : List Q.Sp)
def ChkR (o : Option (List Nat)) (r : Int × Bool) : Prop := match o with
 | some l => r = ((l.length : Int), true)
 | none => r.2 = false
theorem p15 (m : Nat) (h : m ≤ 15) : 2 ^ m ≤ 32768 := Nat.le_trans (Nat.pow_le_pow_right (by decide) h) (by decide)
theorem w_a (a : Nat) (ha : a + 1 ≤ 32768) : wrap64 (1 + (a : Int)) = 1 + (a : Int) := Go.Proofs.Ytcaogllnbpmcgaa.M.w64 (by omega) (by omega)
theorem w_ab (a b : Nat) (ha : a + 1 ≤ 32768) (hb : b + 1 ≤ 32768) : wrap64 (1 + (a : Int) + (b : Int)) = 1 + (a : Int) + (b : Int) := Go.Proofs.Ytcaogllnbpmcgaa.M.w64 (by omega) (by omega)
theorem side_bad (x4 x15 x16 x17 f0 f1 f2 : Int) (ks : List Int) (h : ¬ Q.okN S x17 x4) :
  Ev (fun k => spec_l11Checks.j2 k (n : Int) s t x4 ks x15 x16 x17 fi S f0 f1 f2) (0, false) := by
 unfold Q.okN at h
 refine Ev.step (fun k => by rw [spec_l11Checks.j2]) (ev_pos (by omega) ?_)
 by_cases h1 : x17 ≤ x4
 ·refine ev_pos h1 (Ev.step (fun k => by rw [spec_l11Checks.j3]) (ev_pos rfl (ev_ret rfl)))
 ·exact ev_neg h1 (Ev.step (fun k => by rw [spec_l11Checks.j3]) (ev_pos (decide_eq_true (by omega)) (ev_ret rfl)))
theorem side_ok (x4 x15 x16 x17 f1 f2 : Int) (f0 : Nat) (ks : List Int) (h : Q.okN S x17 x4) (h4 : 0 ≤ x4) (hf : f0 < ks.length) (hl : ks.length ≤ 4) (r R : Int × Bool) (hr : Ev (fun k => spec_l11Checks.f k (n : Int) s t fi S x17 (ks.set f0 x16)) r)
  (h1 : r.2 = true → Ev (fun k => spec_l11Checks.l0 k (n : Int) s t x4 ks (wrap64 (x15 + r.1)) (wrap64 (x16 + 1)) fi S (f0 : Int) f1 f2) R) (h2 : r.2 = false → R = (0, false)) :
  Ev (fun k => spec_l11Checks.j2 k (n : Int) s t x4 ks x15 x16 x17 fi S (f0 : Int) f1 f2) R := by
 unfold Q.okN at h
 have go : Ev (fun k => spec_l11Checks.j3 k (n : Int) s t x4 ks x15 x16 x17 false fi S (f0 : Int) f1 f2) R := by
  refine Ev.step (fun k => by rw [spec_l11Checks.j3]) (ev_neg (by decide) ?_)
  simp only [Option.bind_some, List.nil_append, Int.toNat_natCast]
  refine ev_pos (by simp; omega) (ev_pos (by omega) (ev_pos (by omega) ?_))
  refine ev_bind hr ?_
  cases hb : r.2 with
  | true => exact ev_pos rfl (h1 hb)
  | false => exact ev_neg (by decide) (ev_ret (h2 hb).symm)
 refine Ev.step (fun k => by rw [spec_l11Checks.j2]) ?_
 by_cases h3 : x17 ≥ 0
 ·refine ev_pos h3 (ev_neg (by omega) ?_)
  rw [show decide (x17 ≥ (S.length : Int)) = false from decide_eq_false (by omega)]
  exact go
 ·exact ev_neg h3 go
variable {n s t fi S}
set_option maxHeartbeats 1000000 in
theorem spec_checks (hS : StoryP (n : Int) s) (hT : TermP (n : Int) t) (h15 : S.length ≤ 15) : ∀ (f : Nat) (tgt : Int) (ks : List Int), 1 ≤ f → KnowP n ks → -9223372036854775808 ≤ tgt → (∀ i, i < S.length → -9223372036854775808 ≤ (S.getD i Q.zS).f1 ∧ -9223372036854775808 ≤ (S.getD i Q.zS).f2) →
  (tgt < 0 ∨ tgt < S.length ∧ (S.length : Int) < f + tgt) → ∃ r : Int × Bool, Ev (fun k => spec_l11Checks.f k (n : Int) s t fi S tgt ks) r ∧ ChkR (Q.visP S n (clQ n s t) f tgt (knOf ks) (wdOf ks)) r := by
 have hn := hS.2.1
 have h6 := hS.2.2
 have hn4 : n ≤ 4 := by omega
 intro f
 induction f with
 | zero => intro _ _ h; omega
 | succ f ih =>
  intro tgt ks _ hk hlo hR hf
  have hlen := know_len hk
  by_cases h0 : tgt < 0
  ·rw [Q.vis_neg h0]
   have e1 : wrap64 (-2 - (s.length : Int)) = -2 - (s.length : Int) := Go.Proofs.Ytcaogllnbpmcgaa.M.w64 (by omega) (by omega)
   by_cases h1 : tgt ≥ -2 - (s.length : Int)
   ·refine ⟨(0, clQ n s t (knOf ks) (wdOf ks) tgt), Ev.step (fun k => by rw [spec_l11Checks.f]) (ev_pos h0 (ev_pos (by rw [e1]; exact h1) (ev_bind (spec_closesE n s t hS hT ks hk tgt h0 h1) (ev_ret rfl)))), ?_⟩
    cases hc : clQ n s t (knOf ks) (wdOf ks) tgt with
    | true => rfl
    | false => rfl
   ·refine ⟨(0, false), Ev.step (fun k => by rw [spec_l11Checks.f]) (ev_pos h0 (ev_neg (by rw [e1]; exact h1) (ev_ret rfl))), ?_⟩
    have hc : clQ n s t (knOf ks) (wdOf ks) tgt = false := by
     unfold clQ Q.clM
     rw [if_neg (by omega), if_neg (by omega)]
    rw [hc]
    rfl
  ·obtain ⟨j, rfl⟩ : ∃ j : Nat, tgt = (j : Int) := ⟨tgt.toNat, by omega⟩
   have hj : j < S.length := by omega
   have hRj := hR j hj
   have e2 : wrap64 ((n : Int) - 1) = (n : Int) - 1 := Go.Proofs.Ytcaogllnbpmcgaa.M.w64 (by omega) (by omega)
   have hrd : rd_T93 S (j : Int) = S.getD j Q.zS := rdS S j
   obtain ⟨sp, hsp⟩ : ∃ x, S.getD j Q.zS = x := ⟨_, rfl⟩
   have bad : ¬ Q.nodeP S n (j : Int) (knOf ks) → ∃ r : Int × Bool, Ev (fun k => spec_l11Checks.f k (n : Int) s t fi S (j : Int) ks) r ∧ ChkR (Q.visP S n (clQ n s t) (f + 1) (j : Int) (knOf ks) (wdOf ks)) r := by
    intro hnode
    refine ⟨(0, false), Ev.step (fun k => by rw [spec_l11Checks.f]) (ev_neg h0 (ev_pos (by omega) (ev_pos (by omega) (ev_bindc (l1InT _ _ _) ?_)))), ?_⟩
    ·rw [e2, hrd]
     have stop : ∀ (x f0 f1 f2 : Int), Ev (fun k => spec_l11Checks.j0 k (n : Int) s t x ks true fi S f0 f1 f2) (0, false) := fun x f0 f1 f2 => Ev.step (fun k => by rw [spec_l11Checks.j0]) (ev_pos rfl (ev_ret rfl))
     by_cases hin : 0 ≤ (S.getD j Q.zS).f0 ∧ (S.getD j Q.zS).f0 ≤ (n : Int) - 1
     ·obtain ⟨i, hi⟩ : ∃ i : Nat, (S.getD j Q.zS).f0 = (i : Int) := ⟨(S.getD j Q.zS).f0.toNat, by omega⟩
      refine ev_pos (decide_eq_true hin) (ev_pos hin.1 (ev_pos (by omega) ?_))
      have hb := ((know_facts n hn4 ks hk).2.2 i (by omega)).1
      have : rd ks (S.getD j Q.zS).f0 ≥ 0 := by
       rw [hi, rdN]
       refine Classical.byContradiction fun h => hnode ?_
       unfold Q.nodeP
       rw [Int.toNat_natCast, hi, Int.toNat_natCast, hb]
       exact ⟨by omega, by omega, decide_eq_false (by omega)⟩
      rw [decide_eq_true this]
      exact stop _ _ _ _
     ·exact ev_neg (by rw [decide_eq_true_iff]; exact hin) (stop _ _ _ _)
    ·rw [Q.visP, if_neg h0, if_neg (fun h => hnode h.1)]
     rfl
   by_cases hnode : Q.nodeP S n (j : Int) (knOf ks)
   case neg => exact bad hnode
   have hnode' := hnode
   unfold Q.nodeP at hnode'
   rw [Int.toNat_natCast] at hnode'
   obtain ⟨i, hi⟩ : ∃ i : Nat, (S.getD j Q.zS).f0 = (i : Int) := ⟨(S.getD j Q.zS).f0.toNat, by omega⟩
   rw [hi, Int.toNat_natCast] at hnode'
   obtain ⟨hb, hset⟩ := (know_facts n hn4 ks hk).2.2 i (by omega)
   have hneg : ks.getD i 0 < 0 := by
    rw [hb, decide_eq_false_iff_not] at hnode'
    omega
   obtain ⟨k0, w0, k1, w1⟩ := hset hneg
   have hj0 : (0 : Int) ≤ (j : Int) := Int.natCast_nonneg j
   have hin : (i : Int) < (n : Int) := hnode'.2.1
   have hik : i < ks.length := by rw [hlen]; exact Int.ofNat_lt.1 hin
   have hk4 : ks.length ≤ 4 := by rw [hlen]; exact hn4
   have start : ∀ R, Ev (fun k => spec_l11Checks.l0 k (n : Int) s t (j : Int) ks 1 0 fi S (i : Int) (S.getD j Q.zS).f1 (S.getD j Q.zS).f2) R → Ev (fun k => spec_l11Checks.f k (n : Int) s t fi S (j : Int) ks) R := by
    intro R h
    refine Ev.step (fun k => by rw [spec_l11Checks.f]) (ev_neg h0 (ev_pos (by omega) (ev_pos (by omega) (ev_bindc (l1InT _ _ _) ?_))))
    rw [e2, hrd, hi]
    refine ev_pos (decide_eq_true (by omega)) (ev_pos (by omega) (ev_pos (by omega) ?_))
    rw [rdN, show decide (ks.getD i 0 ≥ 0) = false from decide_eq_false (by omega)]
    exact Ev.step (fun k => by rw [spec_l11Checks.j0]) (ev_neg (by decide) h)
   have first : ∀ R, Ev (fun k => spec_l11Checks.j2 k (n : Int) s t (j : Int) ks 1 0 (S.getD j Q.zS).f1 fi S (i : Int) (S.getD j Q.zS).f1 (S.getD j Q.zS).f2) R → Ev (fun k => spec_l11Checks.f k (n : Int) s t fi S (j : Int) ks) R := fun R h =>
    start R (Ev.step (fun k => by rw [spec_l11Checks.l0]) (ev_pos (by decide) (ev_neg (by decide) h)))
   have second : ∀ (m : Int) R, Ev (fun k => spec_l11Checks.j2 k (n : Int) s t (j : Int) ks m 1 (S.getD j Q.zS).f2 fi S (i : Int) (S.getD j Q.zS).f1 (S.getD j Q.zS).f2) R → Ev (fun k => spec_l11Checks.l0 k (n : Int) s t (j : Int) ks m 1 fi S (i : Int) (S.getD j Q.zS).f1 (S.getD j Q.zS).f2) R := fun m R h =>
    Ev.step (fun k => by rw [spec_l11Checks.l0]) (ev_pos (by decide) (ev_pos rfl h))
   have hoff : ∀ x, Q.okN S x (j : Int) → (x < 0 ∨ x < S.length ∧ (S.length : Int) < f + x) := by
    intro x hx
    rcases hx with hx | hx
    ·exact .inl hx
    ·exact .inr (by omega)
   have hvis : Q.visP S n (clQ n s t) (f + 1) (j : Int) (knOf ks) (wdOf ks) = if Q.sons S (j : Int) then
     (match Q.visP S n (clQ n s t) f (S.getD j Q.zS).f1 (knOf ks ||| 2 ^ i) (wdOf ks) with
     | none => none
     | some a => match Q.visP S n (clQ n s t) f (S.getD j Q.zS).f2 (knOf ks ||| 2 ^ i) (wdOf ks ||| 2 ^ i) with
      | none => none
      | some b => some (j :: (a ++ b))) else none := by
    rw [Q.visP, if_neg h0]
    by_cases hs : Q.sons S (j : Int)
    ·rw [if_pos ⟨hnode, hs⟩, if_pos hs]
     simp only [Int.toNat_natCast, hi]
     first | done | rfl
    ·rw [if_neg (fun h => hs h.2), if_neg hs]
   rw [hvis]
   have hsons : Q.sons S (j : Int) ↔ Q.okN S (S.getD j Q.zS).f1 (j : Int) ∧ Q.okN S (S.getD j Q.zS).f2 (j : Int) := by
    unfold Q.sons
    rw [Int.toNat_natCast]
   by_cases ho1 : Q.okN S (S.getD j Q.zS).f1 (j : Int)
   case neg =>
    rw [if_neg (fun h => ho1 (hsons.1 h).1)]
    exact ⟨(0, false), first _ (side_bad n s t fi S _ _ _ _ _ _ _ ks ho1), rfl⟩
   obtain ⟨r1, hr1, hc1⟩ := ih (S.getD j Q.zS).f1 (ks.set i 0) (by omega) (know_set hk i 0 (.inl rfl)) hRj.1 hR (hoff _ ho1)
   rw [k0, w0] at hc1
   cases hv1 : Q.visP S n (clQ n s t) f (S.getD j Q.zS).f1 (knOf ks ||| 2 ^ i) (wdOf ks) with
   | none =>
    rw [hv1] at hc1
    refine ⟨(0, false), first _ (side_ok n s t fi S _ _ _ _ _ _ _ ks ho1 hj0 hik hk4 r1 _ hr1 (fun h => by rw [show r1.2 = false from hc1] at h; cases h) (fun _ => rfl)), ?_⟩
    split <;> rfl
   | some a =>
    rw [hv1] at hc1
    obtain rfl : r1 = ((a.length : Int), true) := hc1
    have la : a.length + 1 ≤ 32768 := by
     rcases ho1 with h | h
     ·rw [(Q.vis_len S n _ f _ _ _ a hv1).1 h]; decide
     ·exact Nat.le_trans ((Q.vis_len S n _ f _ _ _ a hv1).2 (by omega) h.2) (p15 _ (by omega))
    have ea : wrap64 (1 + (a.length : Int)) = 1 + (a.length : Int) := w_a _ la
    have e01 : wrap64 ((0 : Int) + 1) = 1 := by decide +kernel
    by_cases ho2 : Q.okN S (S.getD j Q.zS).f2 (j : Int)
    case neg =>
     rw [if_neg (fun h => ho2 (hsons.1 h).2)]
     refine ⟨(0, false), first _ (side_ok n s t fi S _ _ _ _ _ _ _ ks ho1 hj0 hik hk4 _ _ hr1 (fun _ => ?_) (fun h => by cases h)), rfl⟩
     rw [e01]
     exact second _ _ (side_bad n s t fi S _ _ _ _ _ _ _ ks ho2)
    rw [if_pos (hsons.2 ⟨ho1, ho2⟩)]
    obtain ⟨r2, hr2, hc2⟩ := ih (S.getD j Q.zS).f2 (ks.set i 1) (by omega) (know_set hk i 1 (.inr rfl)) hRj.2 hR (hoff _ ho2)
    rw [k1, w1] at hc2
    cases hv2 : Q.visP S n (clQ n s t) f (S.getD j Q.zS).f2 (knOf ks ||| 2 ^ i) (wdOf ks ||| 2 ^ i) with
    | none =>
     rw [hv2] at hc2
     refine ⟨(0, false), first _ (side_ok n s t fi S _ _ _ _ _ _ _ ks ho1 hj0 hik hk4 _ _ hr1 (fun _ => ?_) (fun h => by cases h)), rfl⟩
     rw [e01]
     exact second _ _ (side_ok n s t fi S _ _ _ _ _ _ _ ks ho2 hj0 hik hk4 r2 _ hr2 (fun h => by rw [show r2.2 = false from hc2] at h; cases h) (fun _ => rfl))
    | some b =>
     rw [hv2] at hc2
     obtain rfl : r2 = ((b.length : Int), true) := hc2
     have lb : b.length + 1 ≤ 32768 := by
      rcases ho2 with h | h
      ·rw [(Q.vis_len S n _ f _ _ _ b hv2).1 h]; decide
      ·exact Nat.le_trans ((Q.vis_len S n _ f _ _ _ b hv2).2 (by omega) h.2) (p15 _ (by omega))
     refine ⟨((((j :: (a ++ b)).length : Nat) : Int), true), first _ (side_ok n s t fi S _ _ _ _ _ _ _ ks ho1 hj0 hik hk4 _ _ hr1 (fun _ => ?_) (fun h => by cases h)), rfl⟩
     rw [e01]
     refine second _ _ (side_ok n s t fi S _ _ _ _ _ _ _ ks ho2 hj0 hik hk4 _ _ hr2 (fun _ => ?_) (fun h => by cases h))
     have e12 : wrap64 ((1 : Int) + 1) = 2 := by decide +kernel
     rw [e12]
     refine Ev.step (fun k => by rw [spec_l11Checks.l0]) (ev_neg (by decide) (ev_ret ?_))
     have eab := w_ab a.length b.length la lb
     have elen : (((j :: (a ++ b)).length : Nat) : Int) = 1 + (a.length : Int) + (b.length : Int) := by
      rw [List.length_cons, List.length_append, Int.natCast_add, Int.natCast_add, Int.add_comm, Int.add_assoc]
      rfl
     rw [elen]
     show (wrap64 (wrap64 (1 + (a.length : Int)) + (b.length : Int)), true) = _
     rw [ea, eab]
end
def onceG (N : Nat) : List Bool → List Int → Bool
 | _, [] => true
 | seen, x :: xs => if x < 0 then onceG N seen xs else if (N : Int) ≤ x then false else if seen.getD x.toNat false = true then false else onceG N (seen.set x.toNat true) xs
def natL (xs : List Int) : List Nat := xs.flatMap fun x => if x < 0 then [] else [x.toNat]
theorem onceG_iff (N : Nat) : ∀ (xs : List Int) (seen : List Bool), seen.length = N → (onceG N seen xs = true ↔ (natL xs).Nodup ∧ ∀ x ∈ natL xs, x < N ∧ seen.getD x false = false) := by
 intro xs
 induction xs with
 | nil => intro seen _; simp [onceG, natL]
 | cons y ys ih =>
  intro seen hl
  unfold onceG
  by_cases h0 : y < 0
  ·have e : natL (y :: ys) = natL ys := by simp [natL, h0]
   rw [if_pos h0, e]
   exact ih seen hl
  ·have e : natL (y :: ys) = y.toNat :: natL ys := by simp [natL, h0]
   rw [if_neg h0, e]
   by_cases h1 : (N : Int) ≤ y
   ·rw [if_pos h1]
    constructor
    ·intro h; cases h
    ·intro h
     have := (h.2 y.toNat List.mem_cons_self).1
     omega
   ·rw [if_neg h1]
    by_cases h2 : seen.getD y.toNat false = true
    ·rw [if_pos h2]
     constructor
     ·intro h; cases h
     ·intro h
      have := (h.2 y.toNat List.mem_cons_self).2
      rw [h2] at this
      cases this
    ·rw [if_neg h2, ih _ (by rw [List.length_set]; exact hl), List.nodup_cons]
     have hy : seen.getD y.toNat false = false := by
      cases h : seen.getD y.toNat false with
      | false => rfl
      | true => exact absurd h h2
     constructor
     ·rintro ⟨hn, ha⟩
      have hnot : y.toNat ∉ natL ys := fun hm => by
       have := (ha _ hm).2
       rw [Q.set_get, if_pos ⟨rfl, by omega⟩] at this
       cases this
      refine ⟨⟨hnot, hn⟩, fun x hx => ?_⟩
      rcases List.mem_cons.1 hx with rfl | hx
      ·exact ⟨by omega, hy⟩
      ·have h3 := ha x hx
       rw [Q.set_get, if_neg (fun (h : x = y.toNat ∧ x < seen.length) => hnot (h.1 ▸ hx))] at h3
       exact h3
     ·rintro ⟨⟨hnot, hn⟩, ha⟩
      refine ⟨hn, fun x hx => ?_⟩
      have h3 := ha x (List.mem_cons_of_mem _ hx)
      rw [Q.set_get, if_neg (fun (h : x = y.toNat ∧ x < seen.length) => hnot (h.1 ▸ hx))]
      exact h3
def nextL (S : List Q.Sp) (i : Nat) : List Int := [(S.getD i Q.zS).f1, (S.getD i Q.zS).f2]
theorem natL_app (a b : List Int) : natL (a ++ b) = natL a ++ natL b := by simp [natL]
theorem natL_next (S : List Q.Sp) (l : List Nat) : natL (l.flatMap (nextL S)) = l.flatMap (Q.chil S) := by
 induction l with
 | nil => rfl
 | cons i l ih =>
  rw [List.flatMap_cons, List.flatMap_cons, natL_app, ih]
  congr 1
  simp [nextL, natL, Q.chil]
section
variable (fi : Int) (S : List Q.Sp)
theorem once_j (seen : List Bool) (hl : seen.length = S.length) (x4 x5 x6 : Int) (rest : List Int) (h : ∀ seen', seen'.length = S.length → Ev (fun k => spec_l11Once.l1 k seen' x4 (wrap64 (x5 + 1)) fi S) (onceG S.length seen' rest)) :
  Ev (fun k => spec_l11Once.j2 k seen x4 x5 x6 fi S) (onceG S.length seen (x6 :: rest)) := by
 refine Ev.step (fun k => by rw [spec_l11Once.j2]) ?_
 unfold onceG
 by_cases h0 : x6 < 0
 ·rw [if_pos h0]
  exact ev_pos h0 (h seen hl)
 ·rw [if_neg h0]
  refine ev_neg h0 ?_
  by_cases h1 : (S.length : Int) ≤ x6
  ·rw [if_pos h1]
   exact ev_pos h1 (ev_ret rfl)
  ·rw [if_neg h1]
   refine ev_neg h1 (ev_pos (by omega) (ev_pos (by omega) ?_))
   have e : rdOf false seen x6 = seen.getD x6.toNat false := rfl
   by_cases h2 : seen.getD x6.toNat false = true
   ·rw [if_pos h2]
    exact ev_pos (by rw [e]; exact h2) (ev_ret rfl)
   ·rw [if_neg h2]
    exact ev_neg (by rw [e]; exact h2) (h _ (by rw [List.length_set]; exact hl))
theorem once_l (hS : S.length ≤ 1000) : ∀ d i : Nat, i + d = S.length → ∀ seen, seen.length = S.length → Ev (fun k => spec_l11Once.l0 k seen (i : Int) fi S) (onceG S.length seen ((List.range' i d).flatMap (nextL S))) := by
 intro d
 induction d with
 | zero =>
  intro i hi seen hl
  refine Ev.step (fun k => by rw [spec_l11Once.l0]) (ev_neg (by omega) (ev_ret ?_))
  simp [onceG]
 | succ d ih =>
  intro i hi seen hl
  have hrd : rd_T93 S (i : Int) = S.getD i Q.zS := rdS S i
  have e01 : wrap64 ((0 : Int) + 1) = 1 := by decide +kernel
  have e12 : wrap64 ((1 : Int) + 1) = 2 := by decide +kernel
  refine Ev.step (fun k => by rw [spec_l11Once.l0]) (ev_pos (by omega) ?_)
  refine Ev.step (fun k => by rw [spec_l11Once.l1]) (ev_pos (by decide) (ev_pos (by omega) (ev_pos (by omega) (ev_neg (by decide) ?_))))
  rw [hrd]
  have e : (List.range' i (d + 1)).flatMap (nextL S) = (S.getD i Q.zS).f1 :: (S.getD i Q.zS).f2 :: (List.range' (i + 1) d).flatMap (nextL S) := by
   rw [List.range'_succ, List.flatMap_cons]
   rfl
  rw [e]
  refine once_j fi S seen hl _ _ _ _ fun seen1 hl1 => ?_
  rw [e01]
  refine Ev.step (fun k => by rw [spec_l11Once.l1]) (ev_pos (by decide) (ev_pos (by omega) (ev_pos (by omega) (ev_pos rfl ?_))))
  rw [hrd]
  refine once_j fi S seen1 hl1 _ _ _ _ fun seen2 hl2 => ?_
  rw [e12]
  refine Ev.step (fun k => by rw [spec_l11Once.l1]) (ev_neg (by decide) ?_)
  rw [w64s (by omega)]
  exact ih (i + 1) (by omega) seen2 hl2
theorem spec_once (hS : S.length ≤ 1000) : ∃ b : Bool, Ev (fun k => spec_l11Once.f k fi S) b ∧ (b = true ↔ Q.onceP S) := by
 refine ⟨onceG S.length (List.replicate ((S.length : Int)).toNat false) ((List.range' 0 S.length).flatMap (nextL S)), ?_, ?_⟩
 ·unfold spec_l11Once.f
  refine ev_pos (by omega) (ev_pos (by omega) ?_)
  exact once_l fi S hS S.length 0 (by omega) (List.replicate ((S.length : Int)).toNat false) (by rw [List.length_replicate, Int.toNat_natCast])
 ·rw [onceG_iff _ _ _ (by rw [List.length_replicate, Int.toNat_natCast]), natL_next, ← List.range_eq_range']
  unfold Q.onceP
  refine and_congr Iff.rfl ?_
  constructor
  ·intro h i hi x hx
   exact (h x (List.mem_flatMap.2 ⟨i, List.mem_range.2 hi, hx⟩)).1
  ·intro h x hx
   obtain ⟨i, hi, hx⟩ := List.mem_flatMap.1 hx
   exact ⟨h i (List.mem_range.1 hi) x hx, Q.rep_get _ _⟩
end
theorem spec_proofE (n : Int) (hnb : n ≤ 9223372036854775807) (s : List Cl) (h64 : S64 s) (t : List Mk) (ht : M64 t) (htl : t.length < 4611686018427387904) (fi : Int) (S : List Q.Sp) (hP : Prf64 s fi S) :
  ∃ b : Bool, Ev (fun k => spec_ProofOk.f k n s t fi S) b ∧ (b = true ↔ PrfOk n s t fi S) := by
 unfold spec_ProofOk.f
 have stop : Ev (fun k => spec_ProofOk.j0 k n s t true fi S) false := Ev.step (fun k => by rw [spec_ProofOk.j0]) (ev_pos rfl (ev_ret rfl))
 by_cases hS : StoryP n s
 case neg =>
  refine ⟨false, ev_bind ((spec_storyOk n hnb s h64).ev (b := false) ⟨fun h => (by cases h), fun h => absurd h hS⟩) (ev_neg (by decide) stop), ⟨fun h => (by cases h), fun h => absurd h.1 hS⟩⟩
 have h1 := (spec_storyOk n hnb s h64).ev (b := true) ⟨fun _ => hS, fun _ => rfl⟩
 by_cases hT : TermP n t
 case neg =>
  refine ⟨false, ev_bind h1 (ev_pos rfl (ev_bind ((spec_termOk n hnb t ht htl).ev (b := false) ⟨fun h => (by cases h), fun h => absurd h hT⟩) (ev_neg (by decide) stop))), ⟨fun h => (by cases h), fun h => absurd h.2.1 hT⟩⟩
 have h2 := (spec_termOk n hnb t ht htl).ev (b := true) ⟨fun _ => hT, fun _ => rfl⟩
 have go : ∀ {b : Bool}, Ev (fun k => if (S.length : Int) > 15 then (spec_ProofOk.j0 k n s t true fi S) else (if fi > 0 then (spec_ProofOk.j0 k n s t true fi S) else (if fi = 0 then (spec_ProofOk.j0 k n s t ((S.length : Int) == 0) fi S) else (spec_ProofOk.j0 k n s t false fi S)))) b →
   Ev (fun k => (spec_StoryOk.f k n s).bind fun t355 => (if t355 = true then ((spec_TermOk.f k n t).bind fun t356 => (if t356 = true then (if (S.length : Int) > 15 then (spec_ProofOk.j0 k n s t true fi S) else (if fi > 0 then (spec_ProofOk.j0 k n s t true fi S) else (if fi = 0 then (spec_ProofOk.j0 k n s t ((S.length : Int) == 0) fi S) else (spec_ProofOk.j0 k n s t false fi S)))) else (spec_ProofOk.j0 k n s t true fi S))) else (spec_ProofOk.j0 k n s t true fi S))) b :=
  fun h => ev_bind h1 (ev_pos rfl (ev_bind h2 (ev_pos rfl h)))
 by_cases hl : S.length ≤ 15
 case neg => exact ⟨false, go (ev_pos (by omega) stop), ⟨fun h => (by cases h), fun h => absurd h.2.2.1 hl⟩⟩
 have hn := hS.2.1
 obtain ⟨m, rfl⟩ : ∃ m : Nat, n = (m : Int) := ⟨n.toNat, by omega⟩
 -- First is no target: neither
 have none0 : ∀ {fi : Int}, ¬ Q.okN S fi (-1) → ¬ PrfOk (m : Int) s t fi S := by
  intro fi h hp
  have := hp.2.2.2.2.1
  rw [Int.toNat_natCast, Q.chkI] at this
  unfold Q.okN at h
  rw [if_neg (by omega), if_pos (by omega)] at this
  cases this
 by_cases hf1 : fi > 0
 ·refine ⟨false, go (ev_neg (by omega) (ev_pos hf1 stop)), ⟨fun h => (by cases h), fun h => ?_⟩⟩
  by_cases h0 : 0 < S.length
  ·have := h.2.2.2.1 h0; omega
  ·exact absurd h (none0 (by unfold Q.okN; omega))
 by_cases hf2 : fi = 0 ∧ S.length = 0
 ·refine ⟨false, go (ev_neg (by omega) (ev_neg hf1 (ev_pos hf2.1 ?_))), ⟨fun h => (by cases h), fun h => ?_⟩⟩
  ·rw [show ((S.length : Int) == 0) = true by rw [hf2.2]; rfl]
   exact stop
  ·exact absurd h (none0 (by unfold Q.okN; omega))
 have hok : Q.okN S fi (-1) := by unfold Q.okN; omega
 have hoff : fi < 0 ∨ fi < S.length ∧ (S.length : Int) < ((S.length + 2 : Nat) : Int) + fi := by omega
 obtain ⟨r, hr, hc⟩ := spec_checks (s := s) (t := t) (fi := fi) (S := S) hS hT hl (S.length + 2) fi (List.replicate m (-1)) (by omega) (know_nothing m) hP.2.1 hP.2.2 hoff
 obtain ⟨k0, w0⟩ := nothing_of m (by omega)
 rw [k0, w0] at hc
 obtain ⟨bo, hbo, hob⟩ := spec_once fi S (by omega)
 have main : ∃ b : Bool, Ev (fun k => spec_ProofOk.j0 k (m : Int) s t false fi S) b ∧ (b = true ↔ PrfOk (m : Int) s t fi S) := by
  have hpp : PrfOk (m : Int) s t fi S ↔ (0 < S.length → fi = 0) ∧ ∃ l, Q.visP S m (clQ m s t) (S.length + 2) fi 0 0 = some l ∧ l.Nodup ∧ ∀ i, i < S.length → i ∈ l := by
   unfold PrfOk
   rw [Int.toNat_natCast, Q.okI_iff fi hok]
   exact ⟨fun h => ⟨h.2.2.2.1, h.2.2.2.2⟩, fun h => ⟨hS, hT, hl, h.1, h.2⟩⟩
  rw [hpp]
  cases hv : Q.visP S m (clQ m s t) (S.length + 2) fi 0 0 with
  | none =>
   rw [hv] at hc
   have hneg : ¬ r.2 = true := by rw [show r.2 = false from hc]; decide
   refine ⟨false, Ev.step (fun k => by rw [spec_ProofOk.j0]) (ev_neg (by decide) (ev_bind (spec_nothingE m (by omega)) (ev_bind hr (ev_neg hneg (ev_ret rfl))))), ⟨fun h => (by cases h), fun h => ?_⟩⟩
   obtain ⟨_, l, h, _⟩ := h
   cases h
  | some l =>
   rw [hv] at hc
   obtain rfl : r = ((l.length : Int), true) := hc
   have step : ∀ {b : Bool}, Ev (fun k => if ((l.length : Int)) = (S.length : Int) then ((spec_l11Once.f k fi S).bind fun t362 => (some t362)) else (some false)) b → Ev (fun k => spec_ProofOk.j0 k (m : Int) s t false fi S) b := fun h =>
    Ev.step (fun k => by rw [spec_ProofOk.j0]) (ev_neg (by decide) (ev_bind (spec_nothingE m (by omega)) (ev_bind hr (ev_pos rfl h))))
   have he : (∃ l', some l = some l' ∧ l'.Nodup ∧ ∀ i, i < S.length → i ∈ l') ↔ l.Nodup ∧ ∀ i, i < S.length → i ∈ l :=
    ⟨fun ⟨l', e, h⟩ => by cases e; exact h, fun h => ⟨l, rfl, h⟩⟩
   rw [he]
   by_cases hlen : (l.length : Int) = (S.length : Int)
   ·refine ⟨bo, step (ev_pos hlen (ev_bind hbo (ev_ret rfl))), ?_⟩
    by_cases hz : fi < 0
    ·have l0 := (Q.vis_len S m _ _ fi 0 0 l hv).1 hz
     subst l0
     have hS0 : S.length = 0 := by simp at hlen; omega
     have hSn : S = [] := List.eq_nil_of_length_eq_zero hS0
     rw [hob]
     subst hSn
     simp [Q.onceP]
    ·rw [hob, Q.all_once (S.length + 2) fi l (.inr (by omega)) (by omega) hv]
     refine ⟨fun h => ⟨fun _ => by omega, by omega, h⟩, fun h => h.2.2⟩
   ·refine ⟨false, step (ev_neg hlen (ev_ret rfl)), ⟨fun h => (by cases h), fun h => ?_⟩⟩
    by_cases hz : fi < 0
    ·have := (Q.vis_len S m _ _ fi 0 0 l hv).1 hz
     subst this
     have h0 : 0 < S.length := by simp at hlen; omega
     have := h.1 h0
     omega
    ·have := ((Q.all_once (S.length + 2) fi l (.inr (by omega)) (by omega) hv).1 h.2).1
     omega
 obtain ⟨b, hb, hib⟩ := main
 refine ⟨b, go (ev_neg (by omega) (ev_neg hf1 ?_)), hib⟩
 by_cases h0 : fi = 0
 ·refine ev_pos h0 ?_
  rw [show ((S.length : Int) == 0) = false from beq_eq_false_iff_ne.2 (by omega)]
  exact hb
 ·exact ev_neg h0 hb
end Go.Proofs.Ytcaogllnbpmcgaa.M

/- The reader of draws: each pick tells a number in its bounds and goes one step on. -/
import Derived.Test.YtnmkifpifmdplaaMBase
import Derived.Test.YtnmkifpifmdplaaPx9
import Derived.Test.YtnmkifpifmdplaaPx9
set_option linter.unusedVariables false
set_option linter.unusedSimpArgs false
namespace Go.Proofs.Ytnmkifpifmdplaa.M
open Go Go.RowKit Go.Proofs.YtnmkifpifmdplaaW.PrintWords Go.Proofs.Ytnmkifpifmdplaa.P

theorem bits_xor_i64 (a b : Nat) (ha : a < 2 ^ 62) (hb : b < 2 ^ 62) : Go.bits .xor .i64 (a : Int) (b : Int) = ((a ^^^ b : Nat) : Int) := by
  have hx : a ^^^ b < 2 ^ 62 := Nat.xor_lt_two_pow ha hb
  have ea : a % 2 ^ IntKind.i64.bits = a := Nat.mod_eq_of_lt (Nat.lt_of_lt_of_le ha (by decide))
  have eb : b % 2 ^ IntKind.i64.bits = b := Nat.mod_eq_of_lt (Nat.lt_of_lt_of_le hb (by decide))
  simp only [Go.bits, BitVec.ofInt_natCast, BitVec.toNat_xor, BitVec.toNat_ofNat, ea, eb]
  generalize a ^^^ b = q at hx ⊢
  exact wraps_i64 (q : Int) (by omega) (by omega)
/-- The bytes of a code. -/
def Bytes (b : List Int) : Prop := b.length ≤ 2000 ∧ ∀ x ∈ b, 0 ≤ x ∧ x ≤ 255
theorem Bytes.rd {b : List Int} (h : Bytes b) (i : Int) : 0 ≤ rd b i ∧ rd b i ≤ 255 := by
  unfold Go.Proofs.YtnmkifpifmdplaaW.PrintWords.rd
  by_cases hi : i.toNat < b.length
  · rw [List.getD_eq_getElem?_getD, List.getElem?_eq_getElem hi]
    exact h.2 _ (List.getElem_mem hi)
  · rw [List.getD_eq_getElem?_getD, List.getElem?_eq_none (by omega)]
    exact ⟨by decide, by decide⟩
theorem tmod_bd (x n : Int) (hx : 0 ≤ x) (hn : 0 < n) : 0 ≤ Int.tmod x n ∧ Int.tmod x n < n := by
  rw [Int.tmod_eq_emod_of_nonneg hx]
  exact ⟨Int.emod_nonneg _ (by omega), Int.emod_lt_of_pos _ hn⟩
theorem tdiv_bd (x n : Int) (hx : 0 ≤ x) (hn : 0 < n) : 0 ≤ Int.tdiv x n ∧ Int.tdiv x n ≤ x := by
  rw [Int.tdiv_eq_ediv_of_nonneg hx]
  exact ⟨Int.ediv_nonneg hx (by omega), Int.ediv_le_self _ hx⟩
/-- What a pick tells, and where it leaves the reader. -/
theorem pickE (b : List Int) (hb : Bytes b) (p : Nat) (hp : p ≤ 1000000) (n : Int) :
    ∃ r : Nat, Ev (fun k => spec_l20Rd_pick.f k b (p : Int) n) ((r : Int), ((p + 1 : Nat) : Int)) ∧ (1 ≤ n → (r : Int) < n) ∧ (n < 1 → r = 0) := by
  have hl := hb.1
  unfold spec_l20Rd_pick.f
  rw [w64s (by omega)]
  by_cases h : n < 1
  · refine ⟨0, ev_pos h ?_, fun h' => by omega, fun _ => rfl⟩
    refine Ev.step (fun k => by rw [spec_l20Rd_pick.j0]) ?_
    exact ev_pos rfl (ev_ret rfl)
  by_cases h0 : b.length = 0
  · refine ⟨0, ev_neg h ?_, fun h' => by omega, fun _ => rfl⟩
    rw [show ((b.length : Int) == 0) = true by simp [h0]]
    refine Ev.step (fun k => by rw [spec_l20Rd_pick.j0]) ?_
    exact ev_pos rfl (ev_ret rfl)
  have ep : wrap64 (((p + 1 : Nat) : Int) - 1) = (p : Int) := by
    rw [w64 (by omega) (by omega)]
    omega
  have eb : ((b.length : Int) == 0) = false := by
    rw [beq_eq_false_iff_ne]
    omega
  have out : ∀ x : Int, 0 ≤ x → Ev (fun k => spec_l20Rd_pick.j0 k n false b ((p + 1 : Nat) : Int)) (Int.tmod x n, ((p + 1 : Nat) : Int)) →
      ∃ r : Nat, Ev (fun k => if n < 1 then spec_l20Rd_pick.j0 k n true b ((p + 1 : Nat) : Int) else spec_l20Rd_pick.j0 k n ((b.length : Int) == 0) b ((p + 1 : Nat) : Int)) ((r : Int), ((p + 1 : Nat) : Int)) ∧ (1 ≤ n → (r : Int) < n) ∧ (n < 1 → r = 0) := fun x hx hE => by
    have hm := tmod_bd x n hx (by omega)
    refine ⟨(Int.tmod x n).toNat, ev_neg h ?_, fun _ => by omega, fun h' => absurd h' h⟩
    rw [eb, Int.toNat_of_nonneg hm.1]
    exact hE
  by_cases hlt : p < b.length
  · have hr := hb.rd (p : Int)
    refine out (wrap64 (rd b (p : Int))) (by rw [w64 (by omega) (by omega)]; omega) ?_
    refine Ev.step (fun k => by rw [spec_l20Rd_pick.j0]) ?_
    rw [ep]
    refine ev_neg (by decide) ?_
    refine ev_pos (by omega) ?_
    refine ev_pos (by omega) ?_
    exact ev_neg (by omega) (ev_ret rfl)
  · have q1 := tmod_bd (p : Int) (b.length : Int) (by omega) (by omega)
    have q2 := tdiv_bd (p : Int) (b.length : Int) (by omega) (by omega)
    have e7 : wrap64 (wrap64 ((p : Int) * 7) + 3) = (p : Int) * 7 + 3 := by rw [w64 (x := (p : Int) * 7) (by omega) (by omega), w64 (by omega) (by omega)]
    have q3 := tmod_bd ((p : Int) * 7 + 3) (b.length : Int) (by omega) (by omega)
    have hr1 := hb.rd (Int.tmod (p : Int) (b.length : Int))
    have hr2 := hb.rd (Int.tmod ((p : Int) * 7 + 3) (b.length : Int))
    obtain ⟨x, hx, hxb⟩ : ∃ x : Nat, wrap64 (wrap64 (wrap64 (wrap64 (wrap64 (rd b (Int.tmod (p : Int) (b.length : Int))) * 131) + wrap64 (wrap64 (rd b (Int.tmod ((p : Int) * 7 + 3) (b.length : Int))) * 1117)) + wrap64 ((p : Int) * 29)) + wrap64 (wrap64 (Int.tdiv (p : Int) (b.length : Int)) * 53)) = (x : Int) ∧ x < 2 ^ 60 := by
      generalize rd b (Int.tmod (p : Int) (b.length : Int)) = u at hr1 ⊢
      generalize rd b (Int.tmod ((p : Int) * 7 + 3) (b.length : Int)) = v at hr2 ⊢
      generalize Int.tdiv (p : Int) (b.length : Int) = t at q2 ⊢
      rw [w64 (x := u) (by omega) (by omega), w64 (x := v) (by omega) (by omega), w64 (x := t) (by omega) (by omega), w64 (x := u * 131) (by omega) (by omega), w64 (x := v * 1117) (by omega) (by omega), w64 (x := t * 53) (by omega) (by omega), w64 (x := (p : Int) * 29) (by omega) (by omega),
        w64 (x := u * 131 + v * 1117) (by omega) (by omega), w64 (x := u * 131 + v * 1117 + (p : Int) * 29) (by omega) (by omega), w64 (x := u * 131 + v * 1117 + (p : Int) * 29 + t * 53) (by omega) (by omega)]
      exact ⟨(u * 131 + v * 1117 + (p : Int) * 29 + t * 53).toNat, by omega, by omega⟩
    refine out (((x ^^^ (x / 64)) : Nat) : Int) (by omega) ?_
    refine Ev.step (fun k => by rw [spec_l20Rd_pick.j0]) ?_
    rw [ep, e7, hx, show Int.tdiv (x : Int) 64 = ((x / 64 : Nat) : Int) from rfl, w64 (x := ((x / 64 : Nat) : Int)) (by omega) (by omega), bits_xor_i64 _ _ (by omega) (by omega)]
    refine ev_neg (by decide) ?_
    refine ev_neg (by omega) ?_
    refine ev_neg (by omega) ?_
    refine ev_pos (by omega) ?_
    refine ev_pos (by omega) ?_
    refine ev_pos (by omega) ?_
    refine ev_pos (by omega) ?_
    exact ev_neg (by omega) (ev_ret rfl)
/-- A code, opened. -/
theorem openE (l : List Int) (hw : ∀ x ∈ l, (Lit.int .u8 x).wf = true) : ∃ b, spec_l20Open.f l = some (b, ((0 : Nat) : Int)) ∧ Bytes b := by
  have hx : ∀ x ∈ l, 0 ≤ x ∧ x ≤ 255 := fun x hx => by
    have := hw x hx
    simp [Lit.wf, IntKind.min, IntKind.max, IntKind.bits, IntKind.signed] at this
    omega
  unfold spec_l20Open.f
  by_cases h : (l.length : Int) > 2000
  · rw [if_pos h, if_pos (by omega)]
    exact ⟨l.take 2000, rfl, by simp; omega, fun x hm => hx x (List.mem_of_mem_take hm)⟩
  · rw [if_neg h]
    exact ⟨l, rfl, by omega, hx⟩
end Go.Proofs.Ytnmkifpifmdplaa.M

/- The draws of syndromes: each ends and tells few and short rows. -/
import Derived.Test.YtgfchnfceomcbaaMPick
import Derived.Test.YtgfchnfceomcbaaMMade
import Derived.Test.YtgfchnfceomcbaaPx8
import Derived.Test.YtgfchnfceomcbaaPx7
set_option linter.unusedVariables false
set_option linter.unusedSimpArgs false
namespace Go.Proofs.Ytgfchnfceomcbaa.M
open Go Go.RowKit Go.Proofs.YtgfchnfceomcbaaW.PrintWords Go.Proofs.Ytgfchnfceomcbaa.P

theorem oddE (b : List Int) (hb : Bytes b) (p : Nat) (hp : p ≤ 1000000) (n : Int) (hn : 1 ≤ n) :
    ∃ t, Ev (fun k => spec_l20Rd_odd.f k b (p : Int) n) (t, ((p + 1 : Nat) : Int)) := by
  obtain ⟨r, hr, _⟩ := pickE b hb p hp n
  exact ⟨_, ev_pos (by omega) (ev_bind hr (ev_ret rfl))⟩
/-- Few and short rows. -/
def Shape (s : List (List Int)) : Prop := s.length ≤ 5 ∧ ∀ i, (s.getD i []).length ≤ 6
theorem shape_set {s : List (List Int)} (h : Shape s) (i : Nat) {r : List Int} (hr : r.length ≤ 6) : Shape (s.set i r) := by
  refine ⟨by simpa using h.1, fun j => ?_⟩
  by_cases e : j = i
  · subst e
    by_cases hj : j < s.length
    · simpa [List.getD_eq_getElem?_getD, List.getElem?_set_self hj] using hr
    · simp [List.getD_eq_getElem?_getD, List.getElem?_eq_none (show (s.set j r).length ≤ j by simpa using hj)]
  · have := h.2 j
    simpa [List.getD_eq_getElem?_getD, List.getElem?_set_ne (Ne.symm e)] using this
theorem and_nat (a b : Nat) (ha : a < 4294967296) (hb : b < 4294967296) : Go.bits .and .i64 (a : Int) (b : Int) = ((a &&& b : Nat) : Int) :=
  (bits_nat .i64 63 (by decide) wraps_i64 a b (by omega) (by omega)).1
theorem draw_j0 (b : List Int) (hb : Bytes b) (n : Int) (hn : 1 ≤ n) (s : List (List Int)) (u : Nat) (h1 : 1 ≤ u) (h5 : u ≤ 5) (hs : s.length = u) (hr : ∀ i, i < u → (s.getD i []).length = u) (p : Nat) (hp : p ≤ 100000) :
    ∃ s' q, Ev (fun k => spec_l20Syndrome.j0 k n s b (p : Int)) (s', ((q : Nat) : Int)) ∧ q ≤ p + 2 ∧ Shape s' := by
  have hsh : Shape s := ⟨by omega, fun i => by
    by_cases h : i < u
    · rw [hr i h]
      omega
    · rw [List.getD_eq_getElem?_getD, List.getElem?_eq_none (by omega)]
      exact Nat.zero_le _⟩
  obtain ⟨t, ht⟩ := oddE b hb p (by omega) n hn
  have h0 : (rd_L2 s 0).length = u := (congrArg List.length (rdL s 0)).trans (hr 0 (by omega))
  cases t with
  | false =>
    refine ⟨s, p + 1, ?_, by omega, hsh⟩
    refine Ev.step (fun k => by rw [spec_l20Syndrome.j0]) ?_
    refine ev_bind ht ?_
    exact ev_neg (by simp) (ev_ret rfl)
  | true =>
    obtain ⟨r, hr', hb3, _⟩ := pickE b hb (p + 1) (by omega) 3
    by_cases r0 : (r : Int) = 0
    · refine ⟨[], p + 2, ?_, by omega, by simp, by simp⟩
      refine Ev.step (fun k => by rw [spec_l20Syndrome.j0]) ?_
      refine ev_bind ht ?_
      refine ev_pos rfl ?_
      refine ev_bind hr' ?_
      exact ev_pos r0 (ev_ret rfl)
    by_cases r1 : (r : Int) = 1
    · refine ⟨_, p + 2, ?_, by omega, shape_set (i := (0 : Int).toNat) (r := (rd_L2 s 0).set (0 : Int).toNat 1) hsh (by simp [h0]; omega)⟩
      refine Ev.step (fun k => by rw [spec_l20Syndrome.j0]) ?_
      refine ev_bind ht ?_
      refine ev_pos rfl ?_
      refine ev_bind hr' ?_
      refine ev_neg r0 ?_
      refine ev_pos r1 ?_
      refine ev_pos (by omega) ?_
      exact ev_pos (by omega) (ev_ret rfl)
    · refine ⟨_, p + 2, ?_, by omega, shape_set (i := (0 : Int).toNat) (r := rd_L2 s 0 ++ [0]) hsh (by simp [h0]; omega)⟩
      refine Ev.step (fun k => by rw [spec_l20Syndrome.j0]) ?_
      refine ev_bind ht ?_
      refine ev_pos rfl ?_
      refine ev_bind hr' ?_
      refine ev_neg r0 ?_
      refine ev_neg r1 ?_
      refine ev_pos (by omega) ?_
      exact ev_pos (by omega) (ev_ret rfl)
theorem set_rows {s : List (List Int)} {u : Nat} (hr : ∀ i, i < u → (s.getD i []).length = u) (a b : Nat) (ha : a < s.length) (v : Int) : ∀ i, i < u → ((s.set a ((s.getD a []).set b v)).getD i []).length = u := by
  intro i hi
  by_cases e : i = a
  · subst e
    have := hr i hi
    simpa [List.getD_eq_getElem?_getD, List.getElem?_set_self ha] using this
  · have := hr i hi
    simpa [List.getD_eq_getElem?_getD, List.getElem?_set_ne (Ne.symm e)] using this
/-- What a drawn syndrome is like. -/
theorem syndromeE (b : List Int) (hb : Bytes b) (p : Nat) (hp : p ≤ 1000) (n : Int) (hn : 1 ≤ n) :
    ∃ s q, Ev (fun k => spec_l20Syndrome.f k b (p : Int) n) (s, ((q : Nat) : Int)) ∧ q ≤ p + 20 ∧ Shape s := by
  obtain ⟨r1, e1, b1, _⟩ := pickE b hb p (by omega) 5
  have b1 := b1 (by omega)
  have hw : wrap64 (1 + (r1 : Int)) = ((r1 + 1 : Nat) : Int) := by rw [w64 (by omega) (by omega)]; omega
  have hpw := pw5 (n := r1 + 1) (by omega)
  have hpp := pw_pos (r1 + 1)
  obtain ⟨r2, e2, b2, _⟩ := pickE b hb (p + 1) (by omega) (pw (r1 + 1) : Int)
  obtain ⟨r3, e3, b3, _⟩ := pickE b hb (p + 2) (by omega) (pw (r1 + 1) : Int)
  obtain ⟨r4, e4, b4, _⟩ := pickE b hb (p + 3) (by omega) 256
  obtain ⟨r5, e5, b5, _⟩ := pickE b hb (p + 4) (by omega) 256
  have b2 := b2 (by omega)
  have b3 := b3 (by omega)
  have b4 := b4 (by omega)
  have b5 := b5 (by omega)
  have hand : r2 &&& r3 ≤ r2 := Nat.and_le_left
  have hm := spec_madeE ((r1 + 1 : Nat) : Int) ((r2 &&& r3 : Nat) : Int) (wrap64 (wrap64 ((r4 : Int) * 256) + (r5 : Int))) (by rw [w64 (x := (r4 : Int) * 256) (by omega) (by omega), w64 (by omega) (by omega)]; omega)
  generalize hM : madeF ((r1 + 1 : Nat) : Int) ((r2 &&& r3 : Nat) : Int) (wrap64 (wrap64 ((r4 : Int) * 256) + (r5 : Int))) = M at hm
  have hM2 : M.length = r1 + 1 ∧ ∀ i, i < r1 + 1 → (M.getD i []).length = r1 + 1 := by
    rw [← hM]
    unfold madeF
    rw [if_pos ⟨by omega, by omega, by omega, by rw [Int.toNat_natCast]; omega, by rw [w64 (x := (r4 : Int) * 256) (by omega) (by omega), w64 (by omega) (by omega)]; omega⟩, Int.toNat_natCast]
    obtain ⟨hl, hr⟩ := made_rows (r1 + 1) ((r2 &&& r3 : Nat) : Int).toNat (wrap64 (wrap64 ((r4 : Int) * 256) + (r5 : Int))).toNat
    exact ⟨hl, fun i hi => (hr i hi).1⟩
  obtain ⟨hl, hrow⟩ := hM2
  obtain ⟨r6, e6, b6, _⟩ := pickE b hb (p + 5) (by omega) 4
  have start : ∀ {s' : List (List Int)} {q : Int}, Ev (fun k => if (r6 : Int) = 0 then ((spec_l20Rd_pick.f k b ((p + 6 : Nat) : Int) ((r1 + 1 : Nat) : Int)).bind fun bt196 => ((spec_l20Rd_pick.f k b bt196.2 ((r1 + 1 : Nat) : Int)).bind fun bt198 => (if bt198.1 = bt196.1 then (spec_l20Syndrome.j0 k n M b bt198.2) else (if 0 ≤ bt196.1 then (if bt196.1 < (M.length : Int) then (if 0 ≤ bt198.1 then (if bt198.1 < ((rd_L2 M bt196.1).length : Int) then (spec_l20Syndrome.j0 k n (M.set (bt196.1 : Int).toNat ((rd_L2 M bt196.1).set (bt198.1 : Int).toNat (wrap64 (1 - (rd (rd_L2 M bt196.1) bt198.1))))) b bt198.2) else (none)) else (none)) else (none)) else (none))))) else (spec_l20Syndrome.j0 k n M b ((p + 6 : Nat) : Int))) (s', q) →
      Ev (fun k => spec_l20Syndrome.f k b (p : Int) n) (s', q) := fun h => by
    unfold spec_l20Syndrome.f
    refine ev_bind e1 ?_
    rw [hw, shl_nat (r1 + 1) (by omega)]
    refine ev_pos (by omega) ?_
    refine ev_bind e2 ?_
    refine ev_bind e3 ?_
    rw [and_nat r2 r3 (by omega) (by omega)]
    refine ev_bind e4 ?_
    refine ev_bind e5 ?_
    refine ev_bind hm ?_
    refine ev_bind e6 ?_
    exact h
  by_cases h0 : (r6 : Int) = 0
  · obtain ⟨r7, e7, b7, _⟩ := pickE b hb (p + 6) (by omega) ((r1 + 1 : Nat) : Int)
    obtain ⟨r8, e8, b8, _⟩ := pickE b hb (p + 7) (by omega) ((r1 + 1 : Nat) : Int)
    have b7 := b7 (by omega)
    have b8 := b8 (by omega)
    by_cases h8 : (r8 : Int) = (r7 : Int)
    · obtain ⟨s', q, hE, hq, hS⟩ := draw_j0 b hb n hn M (r1 + 1) (by omega) (by omega) hl hrow (p + 8) (by omega)
      refine ⟨s', q, start ?_, by omega, hS⟩
      refine ev_pos h0 ?_
      refine ev_bind e7 ?_
      refine ev_bind e8 ?_
      exact ev_pos h8 hE
    · have hrow' := set_rows hrow r7 r8 (by omega) (wrap64 (1 - rd (rd_L2 M (r7 : Int)) (r8 : Int)))
      obtain ⟨s', q, hE, hq, hS⟩ := draw_j0 b hb n hn (M.set r7 ((M.getD r7 []).set r8 (wrap64 (1 - rd (rd_L2 M (r7 : Int)) (r8 : Int))))) (r1 + 1) (by omega) (by omega) (by simpa using hl) hrow' (p + 8) (by omega)
      refine ⟨s', q, start ?_, by omega, hS⟩
      refine ev_pos h0 ?_
      refine ev_bind e7 ?_
      refine ev_bind e8 ?_
      refine ev_neg h8 ?_
      refine ev_pos (by omega) ?_
      refine ev_pos (by omega) ?_
      refine ev_pos (by omega) ?_
      refine ev_pos (by rw [rdL, hrow r7 (by omega)]; exact b8) ?_
      rw [Int.toNat_natCast, Int.toNat_natCast]
      rw [rdL] at hE ⊢
      exact hE
  · obtain ⟨s', q, hE, hq, hS⟩ := draw_j0 b hb n hn M (r1 + 1) (by omega) (by omega) hl hrow (p + 6) (by omega)
    exact ⟨s', q, start (ev_neg h0 hE), by omega, hS⟩
end Go.Proofs.Ytgfchnfceomcbaa.M

/- The exact laws' helpers over rows of rows: they measure, copy and compare. -/
import Derived.Test.YtgfchnfceomcbaaMList
import Derived.Test.YtgfchnfceomcbaaMSyn
import Derived.Test.YtgfchnfceomcbaaPx5
import Derived.Test.YtgfchnfceomcbaaPx5
import Derived.Test.YtgfchnfceomcbaaPx5
import Derived.Test.YtgfchnfceomcbaaPx6
import Derived.Test.YtgfchnfceomcbaaPx6
set_option linter.unusedVariables false
set_option linter.unusedSimpArgs false
namespace Go.Proofs.Ytgfchnfceomcbaa.M
open Go Go.RowKit Go.Proofs.YtgfchnfceomcbaaW.PrintWords Go.Proofs.Ytgfchnfceomcbaa.P
theorem sz_int (l : List Int) (a : Int) (h0 : 0 ≤ a) (ha : a ≤ 1048576) (hl : l.length ≤ 9223372036854775807) : ∃ r, laws_szIntS.f l a = some r ∧ r ≤ 1048576 ∧ (0 ≤ r → l.length ≤ 1048576) := by
  unfold laws_szIntS.f
  rw [w64 (by omega) (by omega)]
  by_cases h : a - (l.length : Int) < 0
  · exact ⟨-1, if_pos h, by decide, fun h => absurd h (by decide)⟩
  · exact ⟨_, if_neg h, by omega, fun _ => by omega⟩
theorem sz_rows_l (s : List (List Int)) (hl : s.length ≤ 1048576) (hr : ∀ i, (s.getD i []).length ≤ 9223372036854775807) : ∀ d i (a : Int), i + d = s.length → 0 ≤ a → a ≤ 1048576 →
    ∃ r, Ev (fun k => laws_szIntSS.l0 k s a (i : Int)) r ∧ (0 ≤ r → ∀ j, i ≤ j → (s.getD j []).length ≤ 1048576) := by
  intro d
  induction d with
  | zero =>
    intro i a hi h0 ha
    refine ⟨a, Ev.step (fun k => by rw [laws_szIntSS.l0]) (ev_neg (by omega) (ev_ret rfl)), fun _ j hj => ?_⟩
    rw [List.getD_eq_getElem?_getD, List.getElem?_eq_none (by omega)]
    exact Nat.zero_le _
  | succ d ih =>
    intro i a hi h0 ha
    obtain ⟨r, hr1, hr2, hr3⟩ := sz_int (s.getD i []) a h0 ha (hr i)
    by_cases h : r < 0
    · refine ⟨-1, ?_, fun h => absurd h (by decide)⟩
      refine Ev.step (fun k => by rw [laws_szIntSS.l0]) ?_
      refine ev_pos (by omega) ?_
      refine ev_pos (by omega) ?_
      rw [rdL]
      refine ev_bindc hr1 ?_
      exact ev_pos h (ev_ret rfl)
    · obtain ⟨q, hq, hj⟩ := ih (i + 1) r (by omega) (by omega) hr2
      refine ⟨q, ?_, fun h' j hj' => ?_⟩
      · refine Ev.step (fun k => by rw [laws_szIntSS.l0]) ?_
        refine ev_pos (by omega) ?_
        refine ev_pos (by omega) ?_
        rw [rdL, w64s (by omega)]
        refine ev_bindc hr1 ?_
        exact ev_neg h hq
      · by_cases e : j = i
        · exact e ▸ hr3 (by omega)
        · exact hj h' j (by omega)
/-- Measured: either the law returns at once, or all is small. -/
theorem sz_rows (s : List (List Int)) (hl : s.length ≤ 9223372036854775807) (hr : ∀ i, (s.getD i []).length ≤ 9223372036854775807) :
    ∃ r, Ev (fun k => laws_szIntSS.f k s 1048576) r ∧ (0 ≤ r → s.length ≤ 1048576 ∧ ∀ j, (s.getD j []).length ≤ 1048576) := by
  unfold laws_szIntSS.f
  rw [w64 (by omega) (by omega)]
  by_cases h : 1048576 - (s.length : Int) < 0
  · exact ⟨-1, ev_pos h (ev_ret rfl), fun h => absurd h (by decide)⟩
  · obtain ⟨r, h1, h2⟩ := sz_rows_l s (by omega) hr s.length 0 (1048576 - (s.length : Int)) (by omega) (by omega) (by omega)
    exact ⟨r, ev_neg h h1, fun h' => ⟨by omega, fun j => h2 h' j (Nat.zero_le _)⟩⟩
theorem to_int_l (l : List Int) (hn : l.length ≤ 1048576) : ∀ d i (x : List Int), i + d = l.length → x.length = l.length → (∀ j, j < i → x.getD j 0 = l.getD j 0) → Ev (fun k => laws_toIntS.l0 k l x (i : Int)) l := by
  intro d
  induction d with
  | zero =>
    intro i x hi hx h
    refine Ev.step (fun k => by rw [laws_toIntS.l0]) ?_
    exact ev_neg (by omega) (ev_ret (ext_getD 0 x l hx fun j hj => h j (by omega)))
  | succ d ih =>
    intro i x hi hx h
    refine Ev.step (fun k => by rw [laws_toIntS.l0]) ?_
    rw [w64s (by omega), rdN, Int.toNat_natCast]
    refine ev_pos (by omega) ?_
    refine ev_pos (by omega) ?_
    refine ev_pos (by omega) ?_
    refine ih (i + 1) _ (by omega) (by simpa using hx) fun j hj => ?_
    rw [set_getD 0 x i _ (by omega)]
    split
    · rename_i e
      rw [e]
    · exact h j (by omega)
theorem to_int (l : List Int) (hn : l.length ≤ 1048576) : Ev (fun k => laws_toIntS.f k l) l := by
  unfold laws_toIntS.f
  rw [Int.toNat_natCast]
  refine ev_pos (by omega) ?_
  refine ev_pos (by omega) ?_
  exact to_int_l l hn l.length 0 _ (by omega) (by simp) fun j hj => by omega
theorem to_rows_l (l : List (List Int)) (hn : l.length ≤ 1048576) (hr : ∀ j, (l.getD j []).length ≤ 1048576) : ∀ d i (x : List (List Int)), i + d = l.length → x.length = l.length → (∀ j, j < i → x.getD j [] = l.getD j []) → Ev (fun k => laws_toIntSS.l0 k l x (i : Int)) l := by
  intro d
  induction d with
  | zero =>
    intro i x hi hx h
    refine Ev.step (fun k => by rw [laws_toIntSS.l0]) ?_
    exact ev_neg (by omega) (ev_ret (ext_getD [] x l hx fun j hj => h j (by omega)))
  | succ d ih =>
    intro i x hi hx h
    refine Ev.step (fun k => by rw [laws_toIntSS.l0]) ?_
    rw [w64s (by omega), rdL, Int.toNat_natCast]
    refine ev_pos (by omega) ?_
    refine ev_pos (by omega) ?_
    refine ev_bind (to_int _ (hr i)) ?_
    refine ev_pos (by omega) ?_
    refine ih (i + 1) _ (by omega) (by simpa using hx) fun j hj => ?_
    rw [set_getD [] x i _ (by omega)]
    split
    · rename_i e
      rw [e]
    · exact h j (by omega)
theorem to_rows (l : List (List Int)) (hn : l.length ≤ 1048576) (hr : ∀ j, (l.getD j []).length ≤ 1048576) : Ev (fun k => laws_toIntSS.f k l) l := by
  unfold laws_toIntSS.f
  rw [Int.toNat_natCast]
  refine ev_pos (by omega) ?_
  refine ev_pos (by omega) ?_
  exact to_rows_l l hn hr l.length 0 _ (by omega) (by simp) fun j hj => by omega
theorem eq_int_l (l : List Int) (hn : l.length ≤ 1048576) : ∀ d i, i + d = l.length → Ev (fun k => laws_eqIntS.l0 k l l (i : Int)) true := by
  intro d
  induction d with
  | zero =>
    intro i hi
    refine Ev.step (fun k => by rw [laws_eqIntS.l0]) ?_
    exact ev_neg (by omega) (ev_ret rfl)
  | succ d ih =>
    intro i hi
    refine Ev.step (fun k => by rw [laws_eqIntS.l0]) ?_
    rw [w64s (by omega)]
    refine ev_pos (by omega) ?_
    refine ev_pos (by omega) ?_
    refine ev_pos (by omega) ?_
    exact ev_pos rfl (ih (i + 1) (by omega))
theorem eq_int (l : List Int) (hn : l.length ≤ 1048576) : Ev (fun k => laws_eqIntS.f k l l) true := by
  unfold laws_eqIntS.f
  exact ev_pos rfl (eq_int_l l hn l.length 0 (by omega))
theorem eq_rows_l (l : List (List Int)) (hn : l.length ≤ 1048576) (hr : ∀ j, (l.getD j []).length ≤ 1048576) : ∀ d i, i + d = l.length → Ev (fun k => laws_eqIntSS.l0 k l l (i : Int)) true := by
  intro d
  induction d with
  | zero =>
    intro i hi
    refine Ev.step (fun k => by rw [laws_eqIntSS.l0]) ?_
    exact ev_neg (by omega) (ev_ret rfl)
  | succ d ih =>
    intro i hi
    refine Ev.step (fun k => by rw [laws_eqIntSS.l0]) ?_
    rw [w64s (by omega), rdL]
    refine ev_pos (by omega) ?_
    refine ev_pos (by omega) ?_
    refine ev_pos (by omega) ?_
    refine ev_bind (eq_int _ (hr i)) ?_
    exact ev_pos rfl (ih (i + 1) (by omega))
theorem eq_rows (l : List (List Int)) (hn : l.length ≤ 1048576) (hr : ∀ j, (l.getD j []).length ≤ 1048576) : Ev (fun k => laws_eqIntSS.f k l l) true := by
  unfold laws_eqIntSS.f
  exact ev_pos rfl (eq_rows_l l hn hr l.length 0 (by omega))
/-- What comes in, measured, its bounds. -/
theorem came_in (l : List (List Int)) (h : l.length ≤ maxLen ∧ ∀ y0 ∈ l, y0.length ≤ maxLen ∧ ∀ y1 ∈ y0, (Lit.int .i64 y1).wf = true) : l.length ≤ 9223372036854775807 ∧ ∀ i, (l.getD i []).length ≤ 9223372036854775807 :=
  ⟨h.1, fun i => getD_all l [] (fun y => y.length ≤ 9223372036854775807) (by simp) (fun x hx => (h.2 x hx).1) i⟩
end Go.Proofs.Ytgfchnfceomcbaa.M

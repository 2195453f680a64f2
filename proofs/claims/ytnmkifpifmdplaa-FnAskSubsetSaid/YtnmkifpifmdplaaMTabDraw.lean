/- The draws of tables: each ends. -/
import Derived.Test.YtnmkifpifmdplaaMKnown
import Derived.Test.YtnmkifpifmdplaaMPick
import Derived.Test.YtnmkifpifmdplaaPx12
import Derived.Test.YtnmkifpifmdplaaPx12
import Derived.Test.YtnmkifpifmdplaaPx6
import Derived.Test.YtnmkifpifmdplaaPx12
set_option linter.unusedVariables false
set_option linter.unusedSimpArgs false
namespace Go.Proofs.Ytnmkifpifmdplaa.M
open Go Go.RowKit Go.Proofs.YtnmkifpifmdplaaW.PrintWords Go.Proofs.Ytnmkifpifmdplaa.P
theorem spec_majE : ∀ n : Nat, 1 ≤ n → n ≤ 4 → ∃ v, Ev (fun k => spec_MajorityTable.f k (n : Int)) v := by
  intro n h1 h4
  have h := fun (n : Nat) (v : Int) (e : spec_MajorityTable.f 60 (n : Int) = some v) => Ev.of (g := fun k => spec_MajorityTable.f k (n : Int)) (fun k => spec_MajorityTable.mono (n : Int) k) e
  rcases (by omega : n = 1 ∨ n = 2 ∨ n = 3 ∨ n = 4) with rfl | rfl | rfl | rfl
  · exact ⟨2, h 1 2 (by decide +kernel)⟩
  · exact ⟨8, h 2 8 (by decide +kernel)⟩
  · exact ⟨232, h 3 232 (by decide +kernel)⟩
  · exact ⟨59520, h 4 59520 (by decide +kernel)⟩
theorem turned_ex (n : Nat) (hn : n ≤ 4) (t : Int) : ∀ d i (a : Int), i + d = pw n → ∃ v, Ev (fun k => spec_l1Turned.l0 k (n : Int) t a (i : Int)) v := by
  have hp := pw4 hn
  intro d
  induction d with
  | zero =>
    intro i a hi
    refine ⟨a, Ev.step (fun k => by rw [spec_l1Turned.l0]) ?_⟩
    rw [shl_nat n (by omega)]
    refine ev_pos (by omega) ?_
    exact ev_neg (by omega) (ev_ret rfl)
  | succ d ih =>
    intro i a hi
    obtain ⟨v, hv⟩ := ih (i + 1) (Go.bits .or .i64 a (shl .i64 (Int.tmod (shr .i64 t (i : Int)) 2) (wrap64 ((wrap64 ((pw n : Int) - 1)) - (i : Int))))) (by omega)
    refine ⟨v, Ev.step (fun k => by rw [spec_l1Turned.l0]) ?_⟩
    rw [shl_nat n (by omega), w64s (by omega)]
    refine ev_pos (by omega) ?_
    refine ev_pos (by omega) ?_
    refine ev_pos (by omega) ?_
    refine ev_pos (by rw [w64 (x := (pw n : Int) - 1) (by omega) (by omega), w64 (by omega) (by omega)]; omega) ?_
    exact hv
theorem table_ex (b : List Int) (hb : Bytes b) (n : Nat) (hn : n ≤ 4) (x : Int) : ∀ d i p (a : Int), i + d = pw n → p + d ≤ 1000 →
    ∃ u v q, Ev (fun k => spec_l20Table.l0 k (n : Int) a x (i : Int) b ((p : Nat) : Int)) (u, v, ((q : Nat) : Int)) ∧ q ≤ p + d + 2 := by
  have hp := pw4 hn
  intro d
  induction d with
  | zero =>
    intro i p a hi hp'
    obtain ⟨r1, e1, _⟩ := pickE b hb p (by omega) 40
    obtain ⟨r2, e2, _⟩ := pickE b hb (p + 1) (by omega) 40
    refine ⟨wrap64 ((n : Int) + wrap64 (wrap64 (Int.tdiv (r1 : Int) 39) * 4)), wrap64 (a - wrap64 (wrap64 (Int.tdiv (r2 : Int) 39) * 70000)), p + 2, Ev.step (fun k => by rw [spec_l20Table.l0]) ?_, by omega⟩
    rw [shl_nat n (by omega)]
    refine ev_pos (by omega) ?_
    refine ev_neg (by omega) ?_
    refine ev_bind e1 ?_
    refine ev_bind e2 ?_
    exact ev_ret rfl
  | succ d ih =>
    intro i p a hi hp'
    obtain ⟨r1, e1, _⟩ := pickE b hb p (by omega) (wrap64 (x + 2))
    by_cases h : (r1 : Int) = 0
    · obtain ⟨u, v, q, hE, hq⟩ := ih (i + 1) (p + 1) (Go.bits .or .i64 a (shl .i64 1 (i : Int))) (by omega) (by omega)
      refine ⟨u, v, q, Ev.step (fun k => by rw [spec_l20Table.l0]) ?_, by omega⟩
      rw [shl_nat n (by omega), w64s (by omega)]
      refine ev_pos (by omega) ?_
      refine ev_pos (by omega) ?_
      refine ev_bind e1 ?_
      refine ev_pos h ?_
      refine ev_pos (by omega) ?_
      exact hE
    · obtain ⟨u, v, q, hE, hq⟩ := ih (i + 1) (p + 1) a (by omega) (by omega)
      refine ⟨u, v, q, Ev.step (fun k => by rw [spec_l20Table.l0]) ?_, by omega⟩
      rw [shl_nat n (by omega), w64s (by omega)]
      refine ev_pos (by omega) ?_
      refine ev_pos (by omega) ?_
      refine ev_bind e1 ?_
      refine ev_neg h ?_
      exact hE
/-- A drawn table. -/
theorem l20KnownE (b : List Int) (hb : Bytes b) (p : Nat) (hp : p ≤ 100) : ∃ n t q, Ev (fun k => spec_l20Known.f k b (p : Int)) (n, t, ((q : Nat) : Int)) ∧ q ≤ p + 50 := by
  obtain ⟨r1, e1, b1, _⟩ := pickE b hb p (by omega) 4
  obtain ⟨r2, e2, b2, _⟩ := pickE b hb (p + 1) (by omega) 3
  have b1 := b1 (by omega)
  have hp4 := pw4 (n := r1 + 1) (by omega)
  obtain ⟨n, t, q, hT, hq⟩ := table_ex b hb (r1 + 1) (by omega) (r2 : Int) (pw (r1 + 1)) 0 (p + 2) 0 (by omega) (by omega)
  have hTab : Ev (fun k => spec_l20Table.f k b (p : Int)) (n, t, (q : Int)) := by
    unfold spec_l20Table.f
    refine ev_bind e1 ?_
    refine ev_bind e2 ?_
    dsimp only
    rw [w64 (x := 1 + (r1 : Int)) (by omega) (by omega), show 1 + (r1 : Int) = ((r1 + 1 : Nat) : Int) by omega]
    exact hT
  have noj : ∀ p' : Nat, p' ≤ 200 → ∃ n' t' q', Ev (fun k => spec_l20Known.j0 k n t false b (p' : Int)) (n', t', ((q' : Nat) : Int)) ∧ q' ≤ p' + 1 := fun p' hp' => by
    obtain ⟨r, e, _⟩ := pickE b hb p' (by omega) 4
    by_cases h : (r : Int) = 0
    · by_cases ht : TabOk n t
      · obtain ⟨m, hm⟩ : ∃ m : Nat, n = (m : Int) := ⟨n.toNat, by have := ht.1; omega⟩
        obtain ⟨v, hv⟩ := turned_ex m (by have := ht.2.1; omega) t (pw m) 0 0 (by omega)
        refine ⟨n, Go.bits .or .i64 t v, p' + 1, Ev.step (fun k => by rw [spec_l20Known.j0]) ?_, by omega⟩
        refine ev_neg (by decide) ?_
        refine ev_bind e ?_
        refine ev_pos h ?_
        refine ev_bindc (spec_tabOk n t) ?_
        refine ev_pos (decide_eq_true ht) ?_
        refine ev_bind (a := v) ?_ (ev_ret rfl)
        unfold spec_l1Turned.f
        rw [hm]
        exact hv
      · refine ⟨n, t, p' + 1, Ev.step (fun k => by rw [spec_l20Known.j0]) ?_, by omega⟩
        refine ev_neg (by decide) ?_
        refine ev_bind e ?_
        refine ev_pos h ?_
        refine ev_bindc (spec_tabOk n t) ?_
        exact ev_neg (fun h' => ht (of_decide_eq_true h')) (ev_ret rfl)
    · refine ⟨n, t, p' + 1, Ev.step (fun k => by rw [spec_l20Known.j0]) ?_, by omega⟩
      refine ev_neg (by decide) ?_
      refine ev_bind e ?_
      exact ev_neg h (ev_ret rfl)
  obtain ⟨r3, e3, _⟩ := pickE b hb q (by omega) 2
  have start : ∀ {x : Int × Int × Int}, Ev (fun k => if (r3 : Int) = 0 then ((spec_TableOk.f n t).bind fun t157 => (spec_l20Known.j0 k n t t157 b ((q + 1 : Nat) : Int))) else (spec_l20Known.j0 k n t false b ((q + 1 : Nat) : Int))) x → Ev (fun k => spec_l20Known.f k b (p : Int)) x := fun h => by
    unfold spec_l20Known.f
    refine ev_bind hTab ?_
    refine ev_bind e3 ?_
    exact h
  obtain ⟨n', t', q', hN, hq'⟩ := noj (q + 1) (by omega)
  by_cases h : (r3 : Int) = 0
  · by_cases ht : TabOk n t
    · obtain ⟨m, hm⟩ : ∃ m : Nat, n = (m : Int) := ⟨n.toNat, by have := ht.1; omega⟩
      obtain ⟨v, hv⟩ := spec_majE m (by have := ht.1; omega) (by have := ht.2.1; omega)
      refine ⟨n, Go.bits .and .i64 t v, q + 1, start (ev_pos h (ev_bindc (spec_tabOk n t) ?_)), by omega⟩
      show Ev (fun k => spec_l20Known.j0 k n t (decide (TabOk n t)) b ((q + 1 : Nat) : Int)) _
      rw [decide_eq_true ht]
      refine Ev.step (fun k => by rw [spec_l20Known.j0]) ?_
      refine ev_pos rfl ?_
      rw [hm]
      exact ev_bind hv (ev_ret rfl)
    · refine ⟨n', t', q', start (ev_pos h (ev_bindc (spec_tabOk n t) ?_)), by omega⟩
      show Ev (fun k => spec_l20Known.j0 k n t (decide (TabOk n t)) b ((q + 1 : Nat) : Int)) _
      rw [decide_eq_false ht]
      exact hN
  · exact ⟨n', t', q', start (ev_neg h hN), by omega⟩
end Go.Proofs.Ytnmkifpifmdplaa.M

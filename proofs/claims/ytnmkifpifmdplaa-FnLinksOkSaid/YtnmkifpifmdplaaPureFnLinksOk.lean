/- LinksOk: no links are links, and with who says it and of whom it is said exchanged in each it holds exactly if it does, whatever is drawn: no condition. -/
import Derived.Test.YtnmkifpifmdplaaMLinksDraw
import Derived.Test.YtnmkifpifmdplaaPx9
import Derived.Test.YtnmkifpifmdplaaPx7
import Derived.Test.YtnmkifpifmdplaaPx4
set_option linter.unusedVariables false
set_option linter.unusedSimpArgs false
namespace Go.Proofs.Ytnmkifpifmdplaa.Pure
open Go Go.RowKit Go.Proofs.Ytnmkifpifmdplaa.P Go.Proofs.YtnmkifpifmdplaaW.PrintWords Go.Proofs.YtnmkifpifmdplaaW.PrintLast Go.Proofs.Ytnmkifpifmdplaa.M
theorem alive_ok : laws_alive.f = some true := by decide +kernel
def turn (l : Lnk) : Lnk := ⟨l.f1, l.f0, l.f2⟩
theorem turned (n : Int) (s : List Lnk) : LinksP n (s.map turn) ↔ LinksP n s := by
  unfold LinksP
  have e : ∀ i, i < s.length → (s.map turn).getD i zL = turn (s.getD i zL) := fun i hi => by
    rw [getD_lt _ _ _ (by simpa using hi), getD_lt _ _ _ hi, List.getElem_map]
  have f : ∀ l : Lnk, LinkIn n (turn l) ↔ LinkIn n l := fun l => ⟨fun h => ⟨h.2.2.1, h.2.2.2, h.1, h.2.1⟩, fun h => ⟨h.2.2.1, h.2.2.2, h.1, h.2.1⟩⟩
  rw [List.length_map]
  constructor
  · exact fun h => ⟨fun i hi => by
      have := h.1 i hi
      rw [e i hi, f] at this
      exact this, h.2⟩
  · exact fun h => ⟨fun i hi => by
      rw [e i hi, f]
      exact h.1 i hi, h.2⟩
theorem loop (n : Int) (s : List Lnk) (hs : s.length ≤ 20) (h1 : 1 ≤ n) (h4 : n ≤ 4) : ∀ d i (acc : List Lnk), i + d = s.length → acc.length = i → acc ++ (s.drop i).map turn = s.map turn →
    Ev (fun k => laws_FnLinksOk.l0 k n s (linksB n s) acc (i : Int)) true := by
  intro d
  induction d with
  | zero =>
    intro i acc hi ha he
    refine Ev.step (fun k => by rw [laws_FnLinksOk.l0]) ?_
    refine ev_neg (by omega) ?_
    refine ev_bind (impl_linksE n [] (by decide)) ?_
    refine ev_pos ((linksB_iff n []).2 ⟨fun i hi => absurd hi (Nat.not_lt_zero _), ⟨h1, h4⟩, by decide⟩) ?_
    rw [List.drop_eq_nil_of_le (by omega), List.map_nil, List.append_nil] at he
    refine ev_bind (impl_linksE n acc (by omega)) ?_
    refine ev_pos ?_ ?_
    · rw [beq_iff_eq, Bool.eq_iff_iff, linksB_iff, linksB_iff, he]
      exact turned n s
    exact ev_bindc alive_ok (ev_ret rfl)
  | succ d ih =>
    intro i acc hi ha he
    refine Ev.step (fun k => by rw [laws_FnLinksOk.l0]) ?_
    rw [rdLnk, w64s (by omega)]
    refine ev_pos (by omega) ?_
    refine ev_pos (by omega) ?_
    refine ev_pos (by omega) ?_
    refine ih (i + 1) _ (by omega) (by simp; omega) ?_
    rw [List.append_assoc, ← he, List.drop_eq_getElem_cons (show i < s.length by omega), List.map_cons, ← getD_lt s zL i (by omega)]
    rfl
theorem FnLinksOk : laws_FnLinksOk.Pure := by
  intro l h1 h2 hw
  refine Ev.rounds ?_
  unfold laws_FnLinksOk.f
  by_cases h : (l.length : Int) > 1048576
  · exact ev_pos h (ev_ret rfl)
  refine ev_neg h ?_
  obtain ⟨b, hb, hB⟩ := openE l hw
  obtain ⟨n, s, q, hd, hs, hq⟩ := l20LinksE b hB 0 (by omega)
  obtain ⟨r, e, _⟩ := pickE b hB q (by omega) 4
  have hD : Ev (fun k => spec_DrawLinksOk.f k l) (wrap64 (n - wrap64 (Int.tdiv (r : Int) 3)), s) := by
    unfold spec_DrawLinksOk.f
    refine ev_bindc hb ?_
    refine ev_bind hd ?_
    refine ev_bind e ?_
    exact ev_ret rfl
  generalize wrap64 (n - wrap64 (Int.tdiv (r : Int) 3)) = n at hD
  refine ev_bind hD ?_
  dsimp only
  refine ev_bind (impl_linksE n s (by omega)) ?_
  refine ev_bind (spec_linksE n s (by omega)) ?_
  refine ev_neg (by simp) ?_
  have no : ¬ (1 ≤ n ∧ n ≤ 4) → Ev (fun k => laws_FnLinksOk.j0 k n s (linksB n s) true) true := fun hn => by
    refine Ev.step (fun k => by rw [laws_FnLinksOk.j0]) ?_
    refine ev_pos rfl ?_
    refine ev_neg (fun h => hn ((linksB_iff n s).1 h).2.1) ?_
    exact ev_bindc alive_ok (ev_ret rfl)
  by_cases hn1 : n < 1
  · exact ev_pos hn1 (no fun h => by omega)
  refine ev_neg hn1 ?_
  by_cases hn4 : n > 4
  · rw [decide_eq_true hn4]
    exact no fun h => by omega
  · rw [decide_eq_false hn4]
    refine Ev.step (fun k => by rw [laws_FnLinksOk.j0]) ?_
    refine ev_neg (by decide) ?_
    exact loop n s hs (by omega) (by omega) s.length 0 [] (by omega) rfl rfl
end Go.Proofs.Ytnmkifpifmdplaa.Pure

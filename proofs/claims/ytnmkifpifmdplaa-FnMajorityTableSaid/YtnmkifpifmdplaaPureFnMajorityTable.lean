/- MajorityTable: whatever number of people is drawn, the table is the reference's, no world and its opposite lie in it, and of an odd number all worlds lie in it or its opposite: no condition. -/
import Derived.Test.YtnmkifpifmdplaaPureFnExactMajorityTable
import Derived.Test.YtnmkifpifmdplaaMPick
import Derived.Test.YtnmkifpifmdplaaPx11
import Derived.Test.YtnmkifpifmdplaaPx9
import Derived.Test.YtnmkifpifmdplaaPx10
import Derived.Test.YtnmkifpifmdplaaPx9
set_option linter.unusedVariables false
set_option linter.unusedSimpArgs false
namespace Go.Proofs.Ytnmkifpifmdplaa.Pure
open Go Go.RowKit Go.Proofs.Ytnmkifpifmdplaa.P Go.Proofs.YtnmkifpifmdplaaW.PrintWords Go.Proofs.YtnmkifpifmdplaaW.PrintLast Go.Proofs.Ytnmkifpifmdplaa.M
theorem alive_ok' : laws_alive.f = some true := by decide +kernel
theorem FnMajorityTable : laws_FnMajorityTable.Pure := by
  intro b _ _ hb
  refine Ev.rounds ?_
  unfold laws_FnMajorityTable.f
  by_cases hlen : (b.length : Int) > 1048576
  · exact ev_pos hlen (ev_ret rfl)
  refine ev_neg hlen ?_
  have hD : ∃ n : Int, Ev (fun k => spec_DrawMajorityTable.f k b) n := by
    unfold spec_DrawMajorityTable.f
    obtain ⟨b', hb', hB⟩ := openE b hb
    obtain ⟨r, e, _⟩ := pickE b' hB 0 (by omega) 7
    exact ⟨wrap64 ((r : Int) - 1), ev_bindc hb' (ev_bind e (ev_ret rfl))⟩
  obtain ⟨n, hn⟩ := hD
  refine ev_bind hn ?_
  refine ev_bindc (impl_majF n) ?_
  refine ev_bind (spec_majF n) ?_
  refine ev_pos rfl ?_
  by_cases h : 1 ≤ n ∧ n ≤ 4
  · have ht : ∀ (n v o : Int), majF n = v → ¬ v < 0 → impl_OppositeTable.f n v = some o → impl_TableOk.f n v = some true → Go.bits .and .i64 v o = 0 → 0 ≤ n → (Int.tmod n 2 = 0 ∨ wrap64 (v + o) = wrap64 ((shl .i64 1 (shl .u64 1 n)) - 1)) → Ev (fun k => if majF n < 0 then (if majF n = (-1) then ((laws_alive.f).bind fun t149 => (some t149)) else (some false)) else ((impl_OppositeTable.f n (majF n)).bind fun t150 => ((impl_TableOk.f n (majF n)).bind fun t151 => (if t151 = true then (if (Go.bits .and .i64 (majF n) t150) = 0 then (if (Int.tmod n 2) = 0 then (some true) else (if 0 ≤ n then (some ((wrap64 (majF n + t150)) == (wrap64 ((shl .i64 1 (shl .u64 1 n)) - 1)))) else (none))) else (some false)) else (some false))))) true := by
      intro n v o e h0 h1 h2 h3 h4 h5
      rw [e]
      refine ev_neg h0 ?_
      refine ev_bindc h1 ?_
      refine ev_bindc h2 ?_
      refine ev_pos rfl ?_
      refine ev_pos h3 ?_
      by_cases h6 : Int.tmod n 2 = 0
      · exact ev_pos h6 (ev_ret rfl)
      · refine ev_neg h6 (ev_pos h4 (ev_ret ?_))
        rcases h5 with h5 | h5
        · exact absurd h5 h6
        · rw [h5, beq_self_eq_true]
    rcases (by omega : n = 1 ∨ n = 2 ∨ n = 3 ∨ n = 4) with rfl | rfl | rfl | rfl
    · exact ht 1 2 1 (by decide) (by decide) (by decide +kernel) (by decide +kernel) (by decide +kernel) (by decide) (.inr (by decide +kernel))
    · exact ht 2 8 1 (by decide) (by decide) (by decide +kernel) (by decide +kernel) (by decide +kernel) (by decide) (.inl (by decide))
    · exact ht 3 232 23 (by decide) (by decide) (by decide +kernel) (by decide +kernel) (by decide +kernel) (by decide) (.inr (by decide +kernel))
    · exact ht 4 59520 279 (by decide) (by decide) (by decide +kernel) (by decide +kernel) (by decide +kernel) (by decide) (.inl (by decide))
  · rw [majF_out n h]
    refine ev_pos (by decide) ?_
    refine ev_pos rfl ?_
    refine ev_bindc alive_ok' ?_
    exact ev_ret rfl
end Go.Proofs.Ytnmkifpifmdplaa.Pure

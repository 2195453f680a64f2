/- VotesAgainst: of a unit in the set that is told at least as many tell that it is broken as are not in it, of another one at most as many as are in it, whatever is drawn: no condition. -/
import Derived.Test.YtgfchnfceomcbaaMDraw
import Derived.Test.YtgfchnfceomcbaaMOnlyI
import Derived.Test.YtgfchnfceomcbaaMVotes
import Derived.Test.YtgfchnfceomcbaaMHas
import Derived.Test.YtgfchnfceomcbaaPx21
import Derived.Test.YtgfchnfceomcbaaPx20
import Derived.Test.YtgfchnfceomcbaaPx3
set_option linter.unusedVariables false
set_option linter.unusedSimpArgs false
namespace Go.Proofs.Ytgfchnfceomcbaa.Pure
open Go Go.RowKit Go.Proofs.Ytgfchnfceomcbaa.P Go.Proofs.YtgfchnfceomcbaaW.PrintWords Go.Proofs.YtgfchnfceomcbaaW.PrintLast Go.Proofs.Ytgfchnfceomcbaa.M
theorem alive_ok : laws_alive.f = some true := by decide +kernel
theorem FnVotesAgainst : laws_FnVotesAgainst.Pure := by
  intro l h1 h2 hw
  refine Ev.rounds ?_
  unfold laws_FnVotesAgainst.f
  by_cases h : (l.length : Int) > 1048576
  · exact ev_pos h (ev_ret rfl)
  refine ev_neg h ?_
  obtain ⟨b, hb, hB⟩ := openE l hw
  obtain ⟨s, q, hs, hq, hS⟩ := syndromeE b hB 0 (by omega) 12 (by omega)
  have h5 := hS.1
  obtain ⟨r, hr, _⟩ := pickE b hB q (by omega) (s.length : Int)
  obtain ⟨r2, hr2, _⟩ := pickE b hB (q + 1) (by omega) 40
  have hd : Ev (fun k => spec_DrawVotesAgainst.f k l) (s, wrap64 ((r : Int) + wrap64 (wrap64 (Int.tdiv (r2 : Int) 39) * 5))) := by
    unfold spec_DrawVotesAgainst.f
    refine ev_bindc hb ?_
    refine ev_bind hs ?_
    refine ev_bind hr ?_
    refine ev_bind hr2 ?_
    exact ev_ret rfl
  generalize wrap64 ((r : Int) + wrap64 (wrap64 (Int.tdiv (r2 : Int) 39) * 5)) = u at hd
  refine ev_bind hd ?_
  dsimp only
  refine ev_bind (impl_votesE s (by omega) u) ?_
  refine ev_bind (spec_votesE s (by omega) u) ?_
  refine ev_pos rfl ?_
  unfold votesF
  by_cases hu : Syn s ∧ 0 ≤ u ∧ u < (s.length : Int)
  · rw [if_pos hu]
    obtain ⟨hsy, hu0, hu1⟩ := hu
    obtain ⟨u, rfl⟩ : ∃ u' : Nat, u = (u' : Int) := ⟨u.toNat, by omega⟩
    rw [Int.toNat_natCast]
    have hbd := vsum_bd s hsy u (by omega) s.length 0 (by omega)
    have hless := votes_less s hsy u (by omega) s.length 0 (by omega) (by omega) (by omega)
    refine ev_neg (by omega) ?_
    refine ev_bind (impl_onlyE s (by omega)) ?_
    unfold onlyF
    cases hx : setsF s (sureM (s.length : Int)) with
    | nil =>
      refine ev_neg (by simp) ?_
      refine ev_pos hless ?_
      exact ev_bindc alive_ok (ev_ret rfl)
    | cons x t =>
      obtain ⟨A, rfl, a, b', c⟩ := (mem_sets s hsy _ x).1 (by rw [hx]; simp)
      have hp := pw5 h5
      refine ev_pos rfl ?_
      refine ev_bind (law_headsE 5 A (by omega) (by omega)) ?_
      refine ev_pos hu0 ?_
      have hbs := bsum_pop s.length (by omega) A a
      rw [shr_tmod2 A u (by omega)]
      by_cases h1 : ((bitN A u : Nat) : Int) = 1
      · refine ev_pos h1 (ev_ret ?_)
        have := votes_in s hsy A u (by omega) c (by omega) s.length 0 (by omega)
        rw [hbs] at this
        rw [decide_eq_true_eq]
        have hq1 : popN 5 A ≤ 5 := by
          have : ∀ A, A < 32 → popN 5 A ≤ 5 := by decide +kernel
          exact this A (by omega)
        rw [w64 (by omega) (by omega)]
        omega
      · refine ev_neg h1 ?_
        have h01 := bitN_01 A u
        have := votes_out s hsy A u (by omega) c (by omega) s.length 0 (by omega)
        rw [hbs] at this
        refine ev_pos this (ev_ret ?_)
        rw [decide_eq_true_eq]
        exact hless
  · rw [if_neg hu]
    refine ev_pos (by decide) ?_
    refine ev_pos rfl ?_
    exact ev_bindc alive_ok (ev_ret rfl)
end Go.Proofs.Ytgfchnfceomcbaa.Pure

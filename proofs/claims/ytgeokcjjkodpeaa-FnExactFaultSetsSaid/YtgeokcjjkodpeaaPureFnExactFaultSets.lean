/- The program's FaultSets returns what the reference's returns, for all arguments, leaves them as they were and returns memory of its own: no condition. -/
import Derived.Test.YtgeokcjjkodpeaaMAllFnExactFaultSets1
import Derived.Test.YtgeokcjjkodpeaaPx6
set_option linter.unusedVariables false
set_option linter.unusedSimpArgs false
namespace Go.Proofs.Ytgeokcjjkodpeaa.Pure
open Go Go.RowKit Go.Proofs.Ytgeokcjjkodpeaa.P Go.Proofs.YtgeokcjjkodpeaaW.PrintWords Go.Proofs.YtgeokcjjkodpeaaW.PrintLast Go.Proofs.Ytgeokcjjkodpeaa.M
theorem sets_len (s : List (List Int)) (most : Int) : (setsF s most).length ≤ 32 := by
  unfold setsF
  by_cases h : Syn s
  · rw [if_pos h]
    unfold setsFrom
    rw [List.length_map]
    refine Nat.le_trans (List.length_filter_le _ _) ?_
    rw [List.length_range']
    exact pw5 h.1.2
  · rw [if_neg h]
    exact Nat.zero_le _
theorem FnExactFaultSets : laws_FnExactFaultSets.Pure := by
  intro s most hs hm
  refine Ev.rounds ?_
  unfold laws_FnExactFaultSets.f
  obtain ⟨h1, h2⟩ := came_in s hs
  obtain ⟨r, hr, hb⟩ := sz_rows s h1 h2
  refine ev_bind hr ?_
  by_cases h : r < 0
  · exact ev_pos h (ev_ret rfl)
  obtain ⟨b1, b2⟩ := hb (by omega)
  refine ev_neg h ?_
  have hspec := spec_setsE s (by omega) most
  have himpl := impl_setsE s (by omega) most
  have hlen := sets_len s most
  obtain ⟨g, hg⟩ : ∃ g, setsF s most = g := ⟨_, rfl⟩
  rw [hg] at hspec himpl hlen
  have heq := eq_int g (by omega)
  have hrows : ∀ r ∈ s, r.length ≤ 1048576 := fun r hr => by
    obtain ⟨i, hi, rfl⟩ := List.getElem_of_mem hr
    have := b2 i
    rwa [getD_lt s [] i hi] at this
  have hend := endR_bound 1048576 s 1 hrows
  have hge := endR_le s 1
  have hmark := mark_rows s (by omega) (by omega) hrows
  have hm1 := mark_int g 1 (by omega) (by decide) (by decide)
  have hh1 := held_int g.length 1 (by omega) (by decide) (by decide)
  refine ev_bind (to_rows s b1 b2) ?_
  refine ev_bind hspec ?_
  refine ev_bind (to_rows s b1 b2) ?_
  refine ev_bind himpl ?_
  refine ev_bind heq ?_
  refine ev_pos rfl ?_
  refine ev_bind (to_rows s b1 b2) ?_
  refine ev_bind (eq_rows s b1 b2) ?_
  refine ev_pos rfl ?_
  refine ev_bind hmark ?_
  dsimp only
  refine ev_neg (by omega) ?_
  refine ev_bind heq ?_
  refine Ev.step (fun k => by rw [laws_FnExactFaultSets.j0]) ?_
  refine ev_neg (by decide) ?_
  refine ev_bind hm1 ?_
  dsimp only
  refine ev_bind hh1 ?_
  refine ev_neg (by omega) ?_
  refine ev_pos rfl ?_
  refine ev_bind (to_rows s b1 b2) ?_
  refine ev_bind himpl ?_
  refine ev_bind heq ?_
  refine ev_pos rfl ?_
  refine ev_bind hh1 ?_
  refine ev_neg (by omega) ?_
  exact ev_pos rfl (ev_ret rfl)
end Go.Proofs.Ytgeokcjjkodpeaa.Pure

/- The program's MadeStory returns what the reference's returns, for all arguments, leaves them as they were and returns memory of its own: no condition. -/
import Derived.Test.YtbhmippoeimliaaMAllFnExactMadeStory1
import Derived.Test.YtbhmippoeimliaaPx17
set_option linter.unusedVariables false
set_option linter.unusedSimpArgs false
namespace Go.Proofs.Ytbhmippoeimliaa.Pure
open Go Go.RowKit Go.Proofs.Ytbhmippoeimliaa.P Go.Proofs.YtbhmippoeimliaaW.PrintWords Go.Proofs.YtbhmippoeimliaaW.PrintLast Go.Proofs.Ytbhmippoeimliaa.M
theorem endC_14 : ∀ (s : List Cl) (a : Int), (∀ c ∈ s, c.f1.length ≤ 14) → endC s a ≤ a + 29 * s.length
  | [], a, _ => by simp [endC]
  | c :: s, a, h => by
    have h1 := h c (by simp)
    have := endC_14 s (a + 1 + 2 * c.f1.length) fun x hx => h x (by simp [hx])
    unfold endC
    rw [List.length_cons]
    omega
theorem FnExactMadeStory : laws_FnExactMadeStory.Pure := by
  intro n w l hn hw hl
  refine Ev.rounds ?_
  unfold laws_FnExactMadeStory.f
  obtain ⟨r, hr, hsm⟩ := sz_mm l hl.1 fun i => by
    by_cases hi : i < l.length
    · exact (hl.2 _ (getD_mem l [] i hi)).1
    · rw [List.getD_eq_getElem?_getD, List.getElem?_eq_none (by omega)]
      exact Nat.zero_le _
  refine ev_bind hr ?_
  by_cases h0 : r < 0
  · exact ev_pos h0 (ev_ret rfl)
  refine ev_neg h0 ?_
  have hS := hsm (by omega)
  have hlen : ∀ j, ((toMM l).getD j []).length ≤ 1048576 := fun j => by
    rw [toMM_getD, toMs_len]
    exact hS.2 j
  have h64 : ∀ j, M64 ((toMM l).getD j []) := fun j => by
    rw [toMM_getD]
    refine toMs64 _ ?_
    by_cases hj : j < l.length
    · exact (hl.2 _ (getD_mem l [] j hj)).2
    · rw [List.getD_eq_getElem?_getD, List.getElem?_eq_none (by omega)]
      exact fun y hy => by cases hy
  have hto := to_mm l hS
  have hi := impl_madeE n w (toMM l) hlen
  have hs := spec_madeE n w (toMM l) hlen h64
  have hsmall := madeSt_small n w (toMM l)
  have hcnt : (toMM l).length ≤ 1048576 := by rw [toMM_len]; exact hS.1
  have heqx := eq_mm (toMM l) hcnt hlen
  obtain ⟨b, y, hm, hb1⟩ := mark_mm (toMM l) hcnt fun r hr => by
    obtain ⟨i, hi, rfl⟩ := List.getElem_of_mem hr
    have := hlen i
    rwa [getD_lt _ [] i hi] at this
  obtain ⟨g, hg⟩ : ∃ x, (madeStF n w (toMM l)).1 = x := ⟨_, rfl⟩
  obtain ⟨ok, hok⟩ : ∃ x, (madeStF n w (toMM l)).2 = x := ⟨_, rfl⟩
  have he : madeStF n w (toMM l) = (g, ok) := Prod.ext hg hok
  rw [he] at hi hs hsmall
  dsimp only at hsmall
  obtain ⟨h4, h14⟩ := hsmall
  have hend := endC_14 g 1 h14
  have hge := endC_le g 1
  have hgeq := eq_claims g (by omega) fun j => by
    by_cases hj : j < g.length
    · have := h14 _ (getD_mem g zC j hj)
      omega
    · rw [List.getD_eq_getElem?_getD, List.getElem?_eq_none (by omega)]
      decide
  refine ev_bind hto ?_
  refine ev_bind hs ?_
  refine ev_bind hto ?_
  refine ev_bind hi ?_
  refine ev_bind hgeq ?_
  refine ev_pos rfl ?_
  rw [show (ok != ok) = false by simp]
  refine Ev.step (fun k => by rw [laws_FnExactMadeStory.j0]) ?_
  refine ev_neg (by decide) ?_
  refine ev_bind hto ?_
  refine ev_bind heqx ?_
  refine ev_pos rfl ?_
  refine ev_bind hm ?_
  refine ev_neg (by show ¬ (b < 0); omega) ?_
  refine ev_bind hgeq ?_
  refine ev_pos rfl ?_
  rw [show (ok != ok) = false by simp]
  refine Ev.step (fun k => by rw [laws_FnExactMadeStory.j1]) ?_
  refine ev_neg (by decide) ?_
  refine ev_bind (mark_claims g (by omega) (by omega)) ?_
  dsimp only
  refine ev_bind (held_claims g (by omega) (by omega)) ?_
  refine ev_neg (by omega) ?_
  refine ev_pos rfl ?_
  refine ev_bind hto ?_
  refine ev_bind hi ?_
  refine ev_bind hgeq ?_
  refine ev_pos rfl ?_
  rw [show (ok != ok) = false by simp]
  refine Ev.step (fun k => by rw [laws_FnExactMadeStory.j2]) ?_
  refine ev_neg (by decide) ?_
  refine ev_bind (held_claims g (by omega) (by omega)) ?_
  refine ev_neg (by omega) ?_
  exact ev_pos rfl (ev_ret rfl)
end Go.Proofs.Ytbhmippoeimliaa.Pure

/- The program's LinkStory returns what the reference's returns, for all arguments, leaves them as they were and returns memory of its own: no condition. -/
import Derived.Test.YtbhmippoeimliaaMAllFnExactLinkStory1
import Derived.Test.YtbhmippoeimliaaPx13
set_option linter.unusedVariables false
set_option linter.unusedSimpArgs false
namespace Go.Proofs.Ytbhmippoeimliaa.Pure
open Go Go.RowKit Go.Proofs.Ytbhmippoeimliaa.P Go.Proofs.YtbhmippoeimliaaW.PrintWords Go.Proofs.YtbhmippoeimliaaW.PrintLast Go.Proofs.Ytbhmippoeimliaa.M
theorem endC_small : ∀ (s : List Cl) (a : Int), (∀ c ∈ s, c.f1.length ≤ 2) → endC s a ≤ a + 5 * s.length
  | [], a, _ => by simp [endC]
  | c :: s, a, h => by
    have h1 := h c (by simp)
    have := endC_small s (a + 1 + 2 * c.f1.length) fun x hx => h x (by simp [hx])
    unfold endC
    rw [List.length_cons]
    omega
theorem linkStory_small (n : Int) (s : List Lnk) : (linkStoryF n s).1.length ≤ 6 ∧ ∀ c ∈ (linkStoryF n s).1, c.f1.length ≤ 2 := by
  unfold linkStoryF
  by_cases h : linksB n s = true
  · rw [if_pos h]
    have hS := linkStory_ok n s ((linksB_iff n s).1 h)
    refine ⟨hS.2.2, fun c hc => ?_⟩
    obtain ⟨l, _, rfl⟩ := List.mem_map.1 hc
    exact linkM_len l
  · rw [if_neg h]
    exact ⟨Nat.zero_le _, fun c hc => by cases hc⟩
theorem FnExactLinkStory : laws_FnExactLinkStory.Pure := by
  intro n l _ hl
  refine Ev.rounds ?_
  unfold laws_FnExactLinkStory.f
  obtain ⟨r, hr, hsm⟩ := sz_links l hl.1
  refine ev_bindc hr ?_
  by_cases h0 : r < 0
  · exact ev_pos h0 (ev_ret rfl)
  refine ev_neg h0 ?_
  have hn := hsm (by omega)
  have hlen : (l.map toL).length < 4611686018427387904 := by rw [List.length_map]; omega
  obtain ⟨b, y, hm⟩ := mark_links (l.map toL) (by simpa using hn)
  have hi := impl_linkStoryE n (l.map toL) hlen
  have hs := spec_linkStoryE n (l.map toL) hlen
  have hsmall := linkStory_small n (l.map toL)
  obtain ⟨g, hg⟩ : ∃ x, (linkStoryF n (l.map toL)).1 = x := ⟨_, rfl⟩
  obtain ⟨ok, hok⟩ : ∃ x, (linkStoryF n (l.map toL)).2 = x := ⟨_, rfl⟩
  have he : linkStoryF n (l.map toL) = (g, ok) := Prod.ext hg hok
  rw [he] at hi hs hsmall
  dsimp only at hsmall
  obtain ⟨h6, h2⟩ := hsmall
  have hend := endC_small g 1 h2
  have hge := endC_le g 1
  have hgeq := eq_claims g (by omega) fun j => by
    by_cases hj : j < g.length
    · have := h2 _ (getD_mem g zC j hj)
      omega
    · rw [List.getD_eq_getElem?_getD, List.getElem?_eq_none (by omega)]
      decide
  refine ev_bind (to_links l hn) ?_
  refine ev_bind hs ?_
  refine ev_bind (to_links l hn) ?_
  refine ev_bind hi ?_
  refine ev_bind hgeq ?_
  refine ev_pos rfl ?_
  rw [show (ok != ok) = false by simp]
  refine Ev.step (fun k => by rw [laws_FnExactLinkStory.j0]) ?_
  refine ev_neg (by decide) ?_
  refine ev_bind (to_links l hn) ?_
  refine ev_bind (eq_links (l.map toL) (by simpa using hn)) ?_
  refine ev_pos rfl ?_
  refine ev_bind hm ?_
  refine ev_neg (by show ¬ ((b : Int) < 0); omega) ?_
  refine ev_bind hgeq ?_
  refine ev_pos rfl ?_
  rw [show (ok != ok) = false by simp]
  refine Ev.step (fun k => by rw [laws_FnExactLinkStory.j1]) ?_
  refine ev_neg (by decide) ?_
  refine ev_bind (mark_claims g (by omega) (by omega)) ?_
  dsimp only
  refine ev_bind (held_claims g (by omega) (by omega)) ?_
  refine ev_neg (by omega) ?_
  refine ev_pos rfl ?_
  refine ev_bind (to_links l hn) ?_
  refine ev_bind hi ?_
  refine ev_bind hgeq ?_
  refine ev_pos rfl ?_
  rw [show (ok != ok) = false by simp]
  refine Ev.step (fun k => by rw [laws_FnExactLinkStory.j2]) ?_
  refine ev_neg (by decide) ?_
  refine ev_bind (held_claims g (by omega) (by omega)) ?_
  refine ev_neg (by omega) ?_
  exact ev_pos rfl (ev_ret rfl)
end Go.Proofs.Ytbhmippoeimliaa.Pure

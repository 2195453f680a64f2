/- The program's MadeSyndrome returns what the reference's returns, for all arguments, and memory of its own: no condition. -/
import Derived.Test.YtgeokcjjkodpeaaMAllFnExactMadeSyndrome1
import Derived.Test.YtgeokcjjkodpeaaPx5
set_option linter.unusedVariables false
set_option linter.unusedSimpArgs false
namespace Go.Proofs.Ytgeokcjjkodpeaa.Pure
open Go Go.RowKit Go.Proofs.Ytgeokcjjkodpeaa.P Go.Proofs.YtgeokcjjkodpeaaW.PrintWords Go.Proofs.YtgeokcjjkodpeaaW.PrintLast Go.Proofs.Ytgeokcjjkodpeaa.M
theorem made_small (n m w : Int) : (madeF n m w).length ≤ 5 ∧ ∀ r ∈ madeF n m w, r.length ≤ 5 := by
  unfold madeF
  by_cases h : 1 ≤ n ∧ n ≤ 5 ∧ 0 ≤ m ∧ m < (pw n.toNat : Int) ∧ 0 ≤ w
  · rw [if_pos h]
    obtain ⟨h1, h2⟩ := made_rows n.toNat m.toNat w.toNat
    refine ⟨by omega, fun r hr => ?_⟩
    obtain ⟨i, hi, rfl⟩ := List.getElem_of_mem hr
    have := (h2 i (by omega)).1
    rw [List.getD_eq_getElem?_getD, List.getElem?_eq_getElem hi] at this
    have e : ((some (made n.toNat m.toNat w.toNat)[i]).getD []) = (made n.toNat m.toNat w.toNat)[i] := rfl
    rw [e] at this
    omega
  · rw [if_neg h]
    exact ⟨Nat.zero_le _, fun r hr => by cases hr⟩
theorem FnExactMadeSyndrome : laws_FnExactMadeSyndrome.Pure := by
  intro n m w hn hm hw
  have hw2 : w ≤ 9223372036854775807 := by
    simp [Lit.wf, IntKind.min, IntKind.max, IntKind.bits, IntKind.signed] at hw
    omega
  refine Ev.rounds ?_
  unfold laws_FnExactMadeSyndrome.f
  have hs := spec_madeE n m w (by omega)
  have hi := impl_madeE n m w (by omega)
  obtain ⟨h5, hr⟩ := made_small n m w
  obtain ⟨g, hg⟩ : ∃ g, madeF n m w = g := ⟨_, rfl⟩
  rw [hg] at hs hi h5 hr
  have hend := endR_bound 5 g 1 hr
  have hge := endR_le g 1
  have heq := eq_rows g (by omega) fun j => by
    by_cases hj : j < g.length
    · have := hr _ (getD_mem g [] j hj)
      omega
    · rw [List.getD_eq_getElem?_getD, List.getElem?_eq_none (by omega)]
      decide
  have hmark := mark_rows g (by omega) (by omega) (fun r h => by have := hr r h; omega)
  have hheld := held_rows g (by omega) (by omega) (fun r h => by have := hr r h; omega)
  refine ev_bind hs ?_
  refine ev_bind hi ?_
  refine ev_bind heq ?_
  refine ev_pos rfl ?_
  refine ev_bind hmark ?_
  dsimp only
  refine ev_bind hheld ?_
  refine ev_neg (by omega) ?_
  refine ev_pos rfl ?_
  refine ev_bind hi ?_
  refine ev_bind heq ?_
  refine ev_pos rfl ?_
  refine ev_bind hheld ?_
  refine ev_neg (by omega) ?_
  exact ev_pos rfl (ev_ret rfl)
end Go.Proofs.Ytgeokcjjkodpeaa.Pure

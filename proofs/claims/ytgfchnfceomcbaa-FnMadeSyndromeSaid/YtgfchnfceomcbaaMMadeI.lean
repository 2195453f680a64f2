/- The program's MadeSyndrome makes the rows that the reference's makes. -/
import Derived.Test.YtgfchnfceomcbaaMMade
import Derived.Test.YtgfchnfceomcbaaPx10
set_option linter.unusedVariables false
set_option linter.unusedSimpArgs false
namespace Go.Proofs.Ytgfchnfceomcbaa.M
open Go Go.RowKit Go.Proofs.YtgfchnfceomcbaaW.PrintWords Go.Proofs.Ytgfchnfceomcbaa.P

theorem impl_made_l (n m : Nat) (hn : n ≤ 5) (hm : m < 32) : ∀ d i (w : Nat) (acc : List (List Int)), i + d = n → acc.length = i → w < 9223372036854775807 →
    Ev (fun k => impl_MadeSyndrome.l0 k (n : Int) (m : Int) (w : Int) acc (n : Int) (i : Int)) ((List.range' i d).foldl (allStep m n) (acc, w)).1 := by
  intro d
  induction d with
  | zero =>
    intro i w acc hi ha hw
    refine Ev.step (fun k => by rw [impl_MadeSyndrome.l0]) ?_
    exact ev_neg (by omega) (ev_ret rfl)
  | succ d ih =>
    intro i w acc hi ha hw
    have inner : ∀ e j (row : List Int) (w' : Nat), j + e = n → row.length = n → w' < 9223372036854775807 →
        Ev (fun k => impl_MadeSyndrome.l1 k (n : Int) (m : Int) (w' : Int) acc (i : Int) row (n : Int) (i : Int) (n : Int) (j : Int))
          ((List.range' (i + 1) d).foldl (allStep m n) (acc ++ [((List.range' j e).foldl (rowStep m i) (row, w')).1], ((List.range' j e).foldl (rowStep m i) (row, w')).2)).1 := by
      intro e
      induction e with
      | zero =>
        intro j row w' hj hr hw'
        refine Ev.step (fun k => by rw [impl_MadeSyndrome.l1]) ?_
        refine ev_neg (by omega) ?_
        refine ev_pos (by omega) ?_
        rw [w64s (by omega)]
        exact ih (i + 1) w' (acc ++ [row]) (by omega) (by simp [ha]) hw'
      | succ e ihe =>
        intro j row w' hj hr hw'
        refine Ev.step (fun k => by rw [impl_MadeSyndrome.l1]) ?_
        rw [shr_and1 m i (by omega) (by omega), shr_and1 m j (by omega) (by omega), and1 w' (by omega), w64s (show j < 9223372036854775807 by omega), Int.toNat_natCast, tdiv2, w64 (by omega) (by omega)]
        refine ev_pos (by omega) ?_
        rw [List.range'_succ, List.foldl_cons]
        by_cases e1 : i = j
        · refine ev_pos (by omega) ?_
          rw [show rowStep m i (row, w') j = (row, w') by unfold rowStep; rw [if_pos e1.symm]]
          exact ihe (j + 1) row w' (by omega) hr hw'
        · refine ev_neg (by omega) ?_
          refine ev_pos (by omega) ?_
          have e1' : ¬ j = i := fun h => e1 h.symm
          by_cases z : bitN m i = 0
          · refine ev_pos (by omega) ?_
            refine ev_pos (by omega) ?_
            refine ev_pos (by omega) ?_
            rw [show rowStep m i (row, w') j = (row.set j (bitN m j : Int), w') by unfold rowStep; rw [if_neg e1', if_pos z]]
            exact ihe (j + 1) _ w' (by omega) (by simpa using hr) hw'
          · refine ev_neg (by omega) ?_
            refine ev_pos (by omega) ?_
            refine ev_pos (by omega) ?_
            rw [show rowStep m i (row, w') j = (row.set j ((w' % 2 : Nat) : Int), w' / 2) by unfold rowStep; rw [if_neg e1', if_neg z]]
            exact ihe (j + 1) _ (w' / 2) (by omega) (by simpa using hr) (by omega)
    refine Ev.step (fun k => by rw [impl_MadeSyndrome.l0]) ?_
    rw [Int.toNat_natCast]
    refine ev_pos (by omega) ?_
    refine ev_pos (by omega) ?_
    refine ev_pos (by omega) ?_
    refine ev_bindc (a := List.replicate n 0) rfl ?_
    rw [List.range'_succ, List.foldl_cons]
    rw [List.length_replicate]
    exact inner n 0 _ w (by omega) (by simp) hw
theorem impl_madeE (n m w : Int) (hw : w < 9223372036854775807) : Ev (fun k => impl_MadeSyndrome.f k n m w) (madeF n m w) := by
  unfold impl_MadeSyndrome.f
  have no : ¬ (1 ≤ n ∧ n ≤ 5 ∧ 0 ≤ m ∧ m < (pw n.toNat : Int) ∧ 0 ≤ w) → Ev (fun k => impl_MadeSyndrome.j0 k n m w true) (madeF n m w) := fun h => by
    refine Ev.step (fun k => by rw [impl_MadeSyndrome.j0]) ?_
    refine ev_pos rfl (ev_ret ?_)
    unfold madeF
    rw [if_neg h]
  by_cases h1 : n < 1
  · exact ev_pos h1 (no fun h => by omega)
  refine ev_neg h1 ?_
  by_cases h5 : n > 5
  · exact ev_pos h5 (no fun h => by omega)
  refine ev_neg h5 ?_
  by_cases hm : m < 0
  · exact ev_pos hm (no fun h => by omega)
  refine ev_neg hm ?_
  refine ev_pos (by omega) ?_
  obtain ⟨n, rfl⟩ : ∃ n' : Nat, n = (n' : Int) := ⟨n.toNat, by omega⟩
  have hp := pw5 (n := n) (by omega)
  rw [shl_nat n (by omega)]
  rw [Int.toNat_natCast] at no
  by_cases hm2 : m ≥ (pw n : Int)
  · exact ev_pos hm2 (no fun h => by omega)
  refine ev_neg hm2 ?_
  by_cases h0 : w < 0
  · rw [decide_eq_true h0]
    exact no fun h => by omega
  · rw [decide_eq_false h0]
    refine Ev.step (fun k => by rw [impl_MadeSyndrome.j0]) ?_
    refine ev_neg (by decide) ?_
    obtain ⟨m, rfl⟩ : ∃ m' : Nat, m = (m' : Int) := ⟨m.toNat, by omega⟩
    obtain ⟨w, rfl⟩ : ∃ w' : Nat, w = (w' : Int) := ⟨w.toNat, by omega⟩
    unfold madeF
    rw [Int.toNat_natCast, Int.toNat_natCast, Int.toNat_natCast, if_pos ⟨by omega, by omega, by omega, by omega, by omega⟩]
    exact impl_made_l n m (by omega) (by omega) n 0 w [] (by omega) rfl (by omega)
end Go.Proofs.Ytgfchnfceomcbaa.M

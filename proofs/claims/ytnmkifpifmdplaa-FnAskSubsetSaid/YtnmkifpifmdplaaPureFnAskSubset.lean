/- LeastAsks: of fewer worlds no more questions are needed, if they can be told for all of them: here without the last one, whatever is drawn: no condition. -/
import Derived.Test.YtnmkifpifmdplaaMLeastN
import Derived.Test.YtnmkifpifmdplaaMTabDraw
import Derived.Test.YtnmkifpifmdplaaPx15
import Derived.Test.YtnmkifpifmdplaaPx18
import Derived.Test.YtnmkifpifmdplaaPx17
import Derived.Test.YtnmkifpifmdplaaPx9
set_option linter.unusedVariables false
set_option linter.unusedSimpArgs false
namespace Go.Proofs.Ytnmkifpifmdplaa.Pure
open Go Go.RowKit Go.Proofs.Ytnmkifpifmdplaa.P Go.Proofs.YtnmkifpifmdplaaW.PrintWords Go.Proofs.YtnmkifpifmdplaaW.PrintLast Go.Proofs.Ytnmkifpifmdplaa.M
theorem alive_ok : laws_alive.f = some true := by decide +kernel
theorem castL_take (l : List Nat) (m : Nat) : (castL l).take m = castL (l.take m) := by simp [castL, List.map_take]
theorem leastF_lo (n t : Int) : -1 ≤ leastF n t := by
  unfold leastF
  by_cases h : TabOk n t
  · rw [if_pos h]
    obtain ⟨h1, h4, h0, ht⟩ := h
    obtain ⟨n, rfl⟩ : ∃ m : Nat, n = (m : Int) := ⟨n.toNat, by omega⟩
    rw [Int.toNat_natCast] at *
    exact (leastN_is (n := n) (T := t.toNat) (by omega) (by omega)).1
  · rw [if_neg h]
    decide
theorem FnAskSubset : laws_FnAskSubset.Pure := by
  intro l h1 h2 hw
  refine Ev.rounds ?_
  unfold laws_FnAskSubset.f
  by_cases h : (l.length : Int) > 1048576
  · exact ev_pos h (ev_ret rfl)
  refine ev_neg h ?_
  obtain ⟨b, hb, hB⟩ := openE l hw
  obtain ⟨n, t, q, hd, _⟩ := l20KnownE b hB 0 (by omega)
  have hD : Ev (fun k => spec_DrawLeastAsks.f k l) (n, t) := by
    unfold spec_DrawLeastAsks.f
    refine ev_bindc hb ?_
    refine ev_bind hd ?_
    exact ev_ret rfl
  refine ev_bind hD ?_
  dsimp only
  refine ev_bindc (a := leastF n t) rfl ?_
  refine ev_bind (impl_worldsE n t) ?_
  have hlo := leastF_lo n t
  have out : ∀ x : List Int, Ev (fun k => laws_FnAskSubset.j0 k n (leastF n t) x true) true := fun x => by
    refine Ev.step (fun k => by rw [laws_FnAskSubset.j0]) ?_
    refine ev_pos rfl ?_
    refine ev_pos (by omega) ?_
    exact ev_bindc alive_ok (ev_ret rfl)
  by_cases hneg : leastF n t < 0
  · exact ev_pos hneg (out _)
  refine ev_neg hneg ?_
  unfold worldsF
  by_cases ht : TabOk n t
  · rw [if_pos ht]
    have ef : leastF n t = leastN n.toNat t.toNat := if_pos ht
    rw [ef] at hneg out ⊢
    obtain ⟨a, b', c, d⟩ := ht
    obtain ⟨n, rfl⟩ : ∃ m : Nat, n = (m : Int) := ⟨n.toNat, by omega⟩
    obtain ⟨t, rfl⟩ : ∃ m : Nat, t = (m : Int) := ⟨t.toNat, by omega⟩
    rw [Int.toNat_natCast] at d
    rw [Int.toNat_natCast, Int.toNat_natCast] at hneg out ⊢
    have hp := pw4 (n := n) (by omega)
    have hle := wl_len t n
    rw [castL_len]
    by_cases hz : (wl t n).length = 0
    · rw [show (((wl t n).length : Int) == 0) = true by rw [beq_iff_eq]; omega]
      exact out _
    rw [show (((wl t n).length : Int) == 0) = false by rw [beq_eq_false_iff_ne]; omega]
    refine Ev.step (fun k => by rw [laws_FnAskSubset.j0]) ?_
    refine ev_neg (by decide) ?_
    rw [castL_len, w64 (x := ((wl t n).length : Int) - 1) (by omega) (by omega)]
    refine ev_bindc (a := []) rfl ?_
    refine ev_pos (by omega) ?_
    refine ev_pos (by omega) ?_
    rw [show ((wl t n).length : Int) - 1 = (((wl t n).length - 1 : Nat) : Int) by omega, Int.toNat_natCast, castL_take]
    refine ev_bindc (a := castL ((wl t n).take ((wl t n).length - 1))) rfl ?_
    have hl : ∀ w ∈ (wl t n).take ((wl t n).length - 1), w < pw n ∧ bitN t w = 1 := fun w hw => (mem_wl t n w).1 (List.mem_of_mem_take hw)
    refine ev_pos ?_ ?_
    · rw [castL_len, List.length_take]
      simp
      omega
    rw [List.nil_append]
    refine ev_bind (impl_towE n (by omega) (by omega) _ (fun w hw => (hl w hw).1) (by rw [List.length_take]; omega)) ?_
    have hlt := tow_lt (pw n) _ (fun w hw => (hl w hw).1) 0 (pw_pos _)
    have hbit := fun w => tow_bit ((wl t n).take ((wl t n).length - 1)) w 0
    generalize tow 0 ((wl t n).take ((wl t n).length - 1)) = t' at hlt hbit ⊢
    have hsub : Sub t' t := fun w hw => by
      rcases (hbit w).1 hw with h | h
      · simp [bitN] at h
      · exact (hl w h).2
    have ef' : leastF (n : Int) (t' : Int) = leastN n t' := by
      unfold leastF
      rw [if_pos ((tabOk_nat n _).2 ⟨by omega, by omega, by omega, by omega⟩), Int.toNat_natCast, Int.toNat_natCast]
    refine ev_bindc (a := leastF (n : Int) (t' : Int)) rfl ?_
    rw [ef']
    have hfin := isLeast_sub hlt (by omega) hsub (leastN_is (n := n) (T := t) (by omega) (by omega)) (leastN_is (n := n) (T := t') (by omega) hlt) (by omega)
    refine ev_bindc alive_ok ?_
    refine ev_pos rfl ?_
    refine ev_pos (by omega) (ev_ret ?_)
    exact decide_eq_true hfin.2
  · exact absurd (show leastF n t < 0 by unfold leastF; rw [if_neg ht]; decide) hneg
end Go.Proofs.Ytnmkifpifmdplaa.Pure

/- KnownTeller: in each world of the table the person tells the truth, and without its last world somebody is known still, whatever is drawn: no condition. -/
import Derived.Test.YtnmkifpifmdplaaMTabDraw
import Derived.Test.YtnmkifpifmdplaaMTow
import Derived.Test.YtnmkifpifmdplaaPx6
import Derived.Test.YtnmkifpifmdplaaPx5
import Derived.Test.YtnmkifpifmdplaaPx4
set_option linter.unusedVariables false
set_option linter.unusedSimpArgs false
namespace Go.Proofs.Ytnmkifpifmdplaa.Pure
open Go Go.RowKit Go.Proofs.Ytnmkifpifmdplaa.P Go.Proofs.YtnmkifpifmdplaaW.PrintWords Go.Proofs.YtnmkifpifmdplaaW.PrintLast Go.Proofs.Ytnmkifpifmdplaa.M
theorem alive_ok : laws_alive.f = some true := by decide +kernel
theorem castL_take (l : List Nat) (m : Nat) : (castL l).take m = castL (l.take m) := by simp [castL, List.map_take]
theorem law_loop (n t j : Nat) (h1 : 1 ≤ n) (h4 : n ≤ 4) (ht : t < pw (pw n)) (ht0 : t ≠ 0) (hj : j < n) (hk : ∀ w, w < pw n → bitN t w = 1 → bitN w j = 1) : ∀ d i : Nat, i + d = (wl t n).length →
    Ev (fun k => laws_FnKnownTeller.l0 k (n : Int) (j : Int) (castL (wl t n)) (i : Int)) true := by
  have hp := pw4 h4
  have hle := wl_len t n
  have hlen : 0 < (wl t n).length := List.length_pos_iff.2 fun h => ht0 ((wl_nil ht).1 h)
  intro d
  induction d with
  | zero =>
    intro i hi
    refine Ev.step (fun k => by rw [laws_FnKnownTeller.l0]) ?_
    rw [castL_len, w64 (x := ((wl t n).length : Int) - 1) (by omega) (by omega)]
    refine ev_neg (by omega) ?_
    by_cases h2 : ((wl t n).length : Int) < 2
    · refine ev_pos h2 (ev_ret ?_)
      rw [beq_iff_eq]
      omega
    · refine ev_neg h2 ?_
      refine ev_bindc (a := []) rfl ?_
      refine ev_pos (by omega) ?_
      refine ev_pos (by omega) ?_
      rw [show ((wl t n).length : Int) - 1 = (((wl t n).length - 1 : Nat) : Int) by omega, Int.toNat_natCast, castL_take]
      refine ev_bindc (a := castL ((wl t n).take ((wl t n).length - 1))) rfl ?_
      have hl : ∀ w ∈ (wl t n).take ((wl t n).length - 1), w < pw n ∧ bitN t w = 1 := fun w hw => (mem_wl t n w).1 (List.mem_of_mem_take hw)
      refine ev_pos ?_ ?_
      · rw [castL_len, List.length_take]
        simp
        omega
      rw [List.nil_append]
      refine ev_bind (impl_towE n h1 h4 _ (fun w hw => (hl w hw).1) (by rw [List.length_take]; omega)) ?_
      have hlt := tow_lt (pw n) _ (fun w hw => (hl w hw).1) 0 (pw_pos _)
      have hbit := fun w => tow_bit ((wl t n).take ((wl t n).length - 1)) w 0
      generalize tow 0 ((wl t n).take ((wl t n).length - 1)) = t' at hlt hbit ⊢
      have hne : t' ≠ 0 := fun e => by
        have hx : (wl t n)[0] ∈ (wl t n).take ((wl t n).length - 1) := by
          rw [List.mem_take_iff_getElem]
          exact ⟨0, by omega, rfl⟩
        have := (hbit (wl t n)[0]).2 (.inr hx)
        rw [e] at this
        simp [bitN] at this
      refine ev_bind (impl_knownE (n : Int) (t' : Int)) ?_
      have hkf : knownF (n : Int) (t' : Int) = least (knownB t' n) 0 n := by
        unfold knownF
        rw [if_pos ⟨(tabOk_nat n _).2 ⟨h1, h4, by omega, by omega⟩, by omega⟩, Int.toNat_natCast, Int.toNat_natCast]
      rw [hkf]
      have hkj : knownB t' n j = true := by
        rw [knownB_iff]
        intro w hw hb
        rcases (hbit w).1 hb with h | h
        · simp [bitN] at h
        · exact hk w hw (hl w h).2
      rcases least_spec (p := knownB t' n) n 0 with ⟨_, h⟩ | ⟨m, e, _, hm, h5, h6⟩
      · rw [h j (by omega) (by omega)] at hkj
        cases hkj
      · rw [e]
        have hmj : m ≤ j := by
          refine Nat.le_of_not_lt fun h => ?_
          rw [h6 j (by omega) h] at hkj
          cases hkj
        refine ev_pos (by omega) (ev_ret ?_)
        exact decide_eq_true (by omega)
  | succ d ih =>
    intro i hi
    have hw := (mem_wl t n _).1 (getD_mem (wl t n) 0 i (by omega))
    refine Ev.step (fun k => by rw [laws_FnKnownTeller.l0]) ?_
    rw [castL_len, rdN, castL_getD, shr_tmod2 _ j (by omega), w64s (by omega)]
    refine ev_pos (by omega) ?_
    refine ev_pos (by omega) ?_
    refine ev_pos (by omega) ?_
    refine ev_pos ?_ (ih (i + 1) (by omega))
    have := hk _ hw.1 hw.2
    omega
theorem FnKnownTeller : laws_FnKnownTeller.Pure := by
  intro l h1 h2 hw
  refine Ev.rounds ?_
  unfold laws_FnKnownTeller.f
  by_cases h : (l.length : Int) > 1048576
  · exact ev_pos h (ev_ret rfl)
  refine ev_neg h ?_
  obtain ⟨b, hb, hB⟩ := openE l hw
  obtain ⟨n, t, q, hd, _⟩ := l20KnownE b hB 0 (by omega)
  have hD : Ev (fun k => spec_DrawKnownTeller.f k l) (n, t) := by
    unfold spec_DrawKnownTeller.f
    refine ev_bindc hb ?_
    refine ev_bind hd ?_
    exact ev_ret rfl
  refine ev_bind hD ?_
  dsimp only
  refine ev_bind (impl_knownE n t) ?_
  refine ev_bind (spec_knownE n t) ?_
  refine ev_pos rfl ?_
  refine ev_bind (impl_worldsE n t) ?_
  unfold knownF worldsF
  by_cases ht : TabOk n t ∧ t ≠ 0
  · rw [if_pos ht, if_pos ht.1]
    obtain ⟨⟨a, b', c, d⟩, e⟩ := ht
    obtain ⟨n, rfl⟩ : ∃ m : Nat, n = (m : Int) := ⟨n.toNat, by omega⟩
    obtain ⟨t, rfl⟩ : ∃ m : Nat, t = (m : Int) := ⟨t.toNat, by omega⟩
    rw [Int.toNat_natCast] at d
    rw [Int.toNat_natCast, Int.toNat_natCast]
    rcases least_spec (p := knownB t n) n 0 with ⟨e', _⟩ | ⟨m, e', _, hm, h5, h6⟩
    · rw [e']
      refine ev_pos (by decide) ?_
      refine ev_pos rfl ?_
      exact ev_bindc alive_ok (ev_ret rfl)
    · rw [e']
      refine ev_neg (by omega) ?_
      exact law_loop n t m (by omega) (by omega) (by omega) (by omega) (by omega) ((knownB_iff t n m).1 h5) (wl t n).length 0 (by omega)
  · rw [if_neg ht]
    refine ev_pos (by decide) ?_
    refine ev_pos rfl ?_
    exact ev_bindc alive_ok (ev_ret rfl)
end Go.Proofs.Ytnmkifpifmdplaa.Pure

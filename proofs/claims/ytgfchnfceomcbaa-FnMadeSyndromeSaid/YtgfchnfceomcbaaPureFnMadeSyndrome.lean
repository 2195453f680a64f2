/- MadeSyndrome: what it makes is a syndrome that the set fits, and a set of fewer than half is found again, whatever is drawn: no condition. -/
import Derived.Test.YtgfchnfceomcbaaMPick
import Derived.Test.YtgfchnfceomcbaaMMadeI
import Derived.Test.YtgfchnfceomcbaaMOnlyI
import Derived.Test.YtgfchnfceomcbaaMHas
import Derived.Test.YtgfchnfceomcbaaMHelp
import Derived.Test.YtgfchnfceomcbaaPx17
import Derived.Test.YtgfchnfceomcbaaPx15
set_option linter.unusedVariables false
set_option linter.unusedSimpArgs false
namespace Go.Proofs.Ytgfchnfceomcbaa.Pure
open Go Go.RowKit Go.Proofs.Ytgfchnfceomcbaa.P Go.Proofs.YtgfchnfceomcbaaW.PrintWords Go.Proofs.YtgfchnfceomcbaaW.PrintLast Go.Proofs.Ytgfchnfceomcbaa.M
theorem drawn (l : List Int) (hw : ∀ x ∈ l, (Lit.int .u8 x).wf = true) : ∃ n m w, Ev (fun k => spec_DrawMadeSyndrome.f k l) (n, m, w) ∧ w < 9223372036854775807 := by
  obtain ⟨b, hb, hB⟩ := openE l hw
  obtain ⟨r1, e1, b1, _⟩ := pickE b hB 0 (by omega) 5
  have b1 := b1 (by omega)
  have hw1 : wrap64 (1 + (r1 : Int)) = ((r1 + 1 : Nat) : Int) := by rw [w64 (by omega) (by omega)]; omega
  obtain ⟨r2, e2, b2, _⟩ := pickE b hB 1 (by omega) 40
  obtain ⟨r3, e3, b3, _⟩ := pickE b hB 2 (by omega) (shl .i64 1 ((r1 + 1 : Nat) : Int))
  obtain ⟨r4, e4, b4, _⟩ := pickE b hB 3 (by omega) 40
  obtain ⟨r5, e5, b5, _⟩ := pickE b hB 4 (by omega) 256
  obtain ⟨r6, e6, b6, _⟩ := pickE b hB 5 (by omega) 256
  obtain ⟨r7, e7, b7, _⟩ := pickE b hB 6 (by omega) 60
  have b5 := b5 (by omega)
  have b6 := b6 (by omega)
  have b7 := b7 (by omega)
  have hq := tdiv_bd (r7 : Int) 59 (by omega) (by omega)
  refine ⟨wrap64 (((r1 + 1 : Nat) : Int) + wrap64 (wrap64 (Int.tdiv (r2 : Int) 39) * 5)), wrap64 ((r3 : Int) + wrap64 (wrap64 (Int.tdiv (r4 : Int) 39) * 32)), wrap64 (wrap64 (wrap64 ((r5 : Int) * 256) + (r6 : Int)) - wrap64 (wrap64 (Int.tdiv (r7 : Int) 59) * 70000)), ?_, ?_⟩
  · unfold spec_DrawMadeSyndrome.f
    refine ev_bindc hb ?_
    refine ev_bind e1 ?_
    refine ev_bind e2 ?_
    dsimp only
    rw [hw1]
    refine ev_pos (by omega) ?_
    refine ev_bind e3 ?_
    refine ev_bind e4 ?_
    refine ev_bind e5 ?_
    refine ev_bind e6 ?_
    refine ev_bind e7 ?_
    exact ev_ret rfl
  · show wrap64 (wrap64 (wrap64 ((r5 : Int) * 256) + (r6 : Int)) - wrap64 (wrap64 (Int.tdiv (r7 : Int) 59) * 70000)) < 9223372036854775807
    generalize Int.tdiv (r7 : Int) 59 = t at *
    rw [w64 (x := t) (by omega) (by omega), w64 (x := t * 70000) (by omega) (by omega), w64 (x := (r5 : Int) * 256) (by omega) (by omega), w64 (x := (r5 : Int) * 256 + (r6 : Int)) (by omega) (by omega), w64 (by omega) (by omega)]
    omega
theorem FnMadeSyndrome : laws_FnMadeSyndrome.Pure := by
  intro l h1 h2 hw
  refine Ev.rounds ?_
  unfold laws_FnMadeSyndrome.f
  by_cases h : (l.length : Int) > 1048576
  · exact ev_pos h (ev_ret rfl)
  refine ev_neg h ?_
  obtain ⟨n, m, w, hd, hwb⟩ := drawn l hw
  refine ev_bind hd ?_
  dsimp only
  refine ev_bind (impl_madeE n m w hwb) ?_
  refine ev_bind (spec_madeE n m w hwb) ?_
  by_cases hv : 1 ≤ n ∧ n ≤ 5 ∧ 0 ≤ m ∧ m < (pw n.toNat : Int) ∧ 0 ≤ w
  · have hmf : madeF n m w = made n.toNat m.toNat w.toNat := if_pos hv
    obtain ⟨n, rfl⟩ : ∃ n' : Nat, n = (n' : Int) := ⟨n.toNat, by omega⟩
    obtain ⟨m, rfl⟩ : ∃ m' : Nat, m = (m' : Int) := ⟨m.toNat, by omega⟩
    rw [Int.toNat_natCast] at hv
    rw [Int.toNat_natCast, Int.toNat_natCast] at hmf
    have hsy := made_syn n m w.toNat (by omega) (by omega)
    have hfit := made_fits n m w.toNat
    have hrows := made_rows n m w.toNat
    rw [← hmf] at hsy hfit hrows
    generalize madeF (n : Int) (m : Int) w = s at *
    have h5 := hsy.1.2
    have hp := pw5 (n := n) (by omega)
    have hr : ∀ i, (s.getD i []).length < 4611686018427387904 := fun i => by
      by_cases hi : i < n
      · have := (hrows.2 i hi).1
        omega
      · rw [List.getD_eq_getElem?_getD, List.getElem?_eq_none (by omega)]
        decide
    refine ev_bind (same_rows s (by omega) hr) ?_
    refine ev_pos rfl ?_
    refine ev_neg (by omega) ?_
    refine ev_bind (impl_onlyE s (by omega)) ?_
    refine ev_bind (impl_synE s (by omega)) ?_
    refine ev_pos ((synB_iff s).2 hsy) ?_
    refine ev_bind (impl_fitsE s (by omega) _) ?_
    have hpe : pw s.length = pw n := by rw [hrows.1]
    refine ev_pos ((fitsFB_iff _ _).2 ⟨hsy, by omega, by omega, hfit⟩) ?_
    refine ev_bind (law_headsE 5 m (by omega) (by omega)) ?_
    refine ev_bindc (impl_sure _) ?_
    by_cases hgt : ((popN 5 m : Nat) : Int) > sureM (n : Int)
    · exact ev_pos hgt (ev_ret rfl)
    refine ev_neg hgt ?_
    have hmem : (m : Int) ∈ setsF s (sureM (s.length : Int)) := (mem_sets s hsy _ _).2 ⟨m, rfl, by omega, by rw [hrows.1]; omega, hfit⟩
    have hshort := sets_short s hsy
    unfold onlyF
    cases hx : setsF s (sureM (s.length : Int)) with
    | nil =>
      rw [hx] at hmem
      cases hmem
    | cons x t =>
      rw [hx] at hmem hshort
      have ht : t = [] := by
        cases t with
        | nil => rfl
        | cons y t => simp at hshort
      subst ht
      have : (m : Int) = x := by simpa using hmem
      refine ev_pos rfl (ev_ret ?_)
      simp [this]
  · have hmf : madeF n m w = [] := if_neg hv
    rw [hmf]
    refine ev_bind (same_rows [] (by decide) (fun i => by simp)) ?_
    refine ev_pos rfl ?_
    refine ev_pos rfl ?_
    exact ev_bindc aliveE (ev_ret rfl)
end Go.Proofs.Ytgfchnfceomcbaa.Pure

/- FitsFaults: the set of all units fits, and that of all but the first one just if this one tells that all others are broken, whatever is drawn: no condition. -/
import Derived.Test.YtgfchnfceomcbaaMDraw
import Derived.Test.YtgfchnfceomcbaaMSets
import Derived.Test.YtgfchnfceomcbaaPx14
import Derived.Test.YtgfchnfceomcbaaPx13
import Derived.Test.YtgfchnfceomcbaaPx3
set_option linter.unusedVariables false
set_option linter.unusedSimpArgs false
namespace Go.Proofs.Ytgfchnfceomcbaa.Pure
open Go Go.RowKit Go.Proofs.Ytgfchnfceomcbaa.P Go.Proofs.YtgfchnfceomcbaaW.PrintWords Go.Proofs.YtgfchnfceomcbaaW.PrintLast Go.Proofs.Ytgfchnfceomcbaa.M
theorem alive_ok : laws_alive.f = some true := by decide +kernel
theorem all_bits : ∀ n, n < 6 → ∀ i, i < n → bitN (pw n - 1) i = 1 := by
  show ∀ n, n < 6 → ∀ i, i < n → bitN (2 ^ n - 1) i = 1
  decide +kernel
theorem but_bits : ∀ n, n < 6 → ∀ i, i < n → bitN (pw n - 2) i = if i = 0 then 0 else 1 := by
  show ∀ n, n < 6 → ∀ i, i < n → bitN (2 ^ n - 2) i = if i = 0 then 0 else 1
  decide +kernel
theorem pw_ge {n : Nat} (h : 1 ≤ n) : 2 ≤ pw n := by
  obtain ⟨m, rfl⟩ : ∃ m, n = m + 1 := ⟨n - 1, by omega⟩
  have := Nat.two_pow_pos m
  unfold pw
  rw [Nat.pow_succ]
  omega
theorem fits_all (s : List (List Int)) (hs : Syn s) : Fits s (pw s.length - 1) := fun i hi z => by
  have := all_bits s.length (by have := hs.1.2; omega) i hi
  omega
theorem fits_but (s : List (List Int)) (hs : Syn s) : Fits s (pw s.length - 2) ↔ ∀ j, 1 ≤ j → j < s.length → ent s 0 j = 1 := by
  have h5 := hs.1.2
  have h1 := hs.1.1
  have hb := but_bits s.length (by omega)
  constructor
  · intro h j hj hl
    have := h 0 (by omega) (by rw [hb 0 (by omega)]; rfl) j hl (by omega)
    rw [hb j hl, if_neg (by omega)] at this
    exact this
  · intro h i hi z j hj hne
    rw [hb i hi] at z
    have hi0 : i = 0 := by
      by_cases e : i = 0
      · exact e
      · rw [if_neg e] at z
        omega
    subst hi0
    rw [hb j hj, if_neg hne]
    exact h j (by omega) hj
theorem told_loop (s : List (List Int)) (hs : Syn s) : ∀ d j (b : Bool), j + d = s.length → 1 ≤ j → (b = true ↔ ∀ j', 1 ≤ j' → j' < j → ent s 0 j' = 1) →
    Ev (fun k => laws_FnFitsFaults.l0 k s ((pw s.length - 1 : Nat) : Int) b (j : Int)) true := by
  have h5 := hs.1.2
  have h1 := hs.1.1
  have hp := pw5 h5
  have hpp := pw_ge h1
  intro d
  induction d with
  | zero =>
    intro j b hj hj1 hb
    obtain rfl : j = s.length := by omega
    refine Ev.step (fun k => by rw [laws_FnFitsFaults.l0]) ?_
    refine ev_neg (by omega) ?_
    refine ev_bind (impl_fitsE s (by omega) _) ?_
    refine ev_pos ?_ ?_
    · rw [fitsFB_iff, Int.toNat_natCast]
      exact ⟨hs, by omega, by omega, fits_all s hs⟩
    rw [w64 (x := ((pw s.length - 1 : Nat) : Int) - 1) (by omega) (by omega), w64 (x := ((pw s.length - 1 : Nat) : Int) + 1) (by omega) (by omega)]
    refine ev_bind (impl_fitsE s (by omega) _) ?_
    refine ev_pos ?_ ?_
    · rw [beq_iff_eq, Bool.eq_iff_iff, hb, fitsFB_iff, ← fits_but s hs, show (((pw s.length - 1 : Nat) : Int) - 1).toNat = pw s.length - 2 by omega]
      exact ⟨fun h => h.2.2.2, fun h => ⟨hs, by omega, by omega, h⟩⟩
    refine ev_bind (impl_fitsE s (by omega) _) (ev_ret ?_)
    have : ¬ fitsFB s (((pw s.length - 1 : Nat) : Int) + 1) = true := fun h => by
      rw [fitsFB_iff] at h
      omega
    simpa using this
  | succ d ih =>
    intro j b hj hj1 hb
    refine Ev.step (fun k => by rw [laws_FnFitsFaults.l0]) ?_
    refine ev_pos (by omega) ?_
    rw [w64s (by omega), show rd_L2 s 0 = s.getD 0 [] from rdL s 0, rdN, show (s.getD 0 []).getD j 0 = ent s 0 j from rfl]
    have hl := (hs.2 0 (by omega)).1
    by_cases h : b = true
    · refine ev_pos h ?_
      refine ev_pos (by omega) ?_
      refine ev_pos (by omega) ?_
      refine ev_pos (by omega) ?_
      refine ih (j + 1) _ (by omega) (by omega) ?_
      rw [beq_iff_eq]
      exact ⟨fun e j' h1 h2 => by
        by_cases e' : j' = j
        · exact e' ▸ e
        · exact hb.1 h j' h1 (by omega), fun h => h j hj1 (by omega)⟩
    · refine ev_neg h ?_
      refine ih (j + 1) _ (by omega) (by omega) ?_
      exact ⟨fun e => (by cases e), fun h' => absurd (hb.2 fun j' h1 h2 => h' j' h1 (by omega)) h⟩
theorem drawn (l : List Int) (hw : ∀ x ∈ l, (Lit.int .u8 x).wf = true) : ∃ s set, Ev (fun k => spec_DrawFitsFaults.f k l) (s, set) ∧ Shape s := by
  obtain ⟨b, hb, hB⟩ := openE l hw
  obtain ⟨s, q, hs, hq, hS⟩ := syndromeE b hB 0 (by omega) 14 (by omega)
  have h5 := hS.1
  have go : ∀ (p : Nat), p ≤ 1000 → ∃ set, Ev (fun k => spec_DrawFitsFaults.j0 k s (setsF s 5) false b (p : Int)) (s, set) := fun p hp => by
    obtain ⟨r, hr, _⟩ := pickE b hB p (by omega) (shl .i64 1 (s.length : Int))
    obtain ⟨r2, hr2, _⟩ := pickE b hB (p + 1) (by omega) 40
    refine ⟨wrap64 ((r : Int) + wrap64 (wrap64 (Int.tdiv (r2 : Int) 39) * 32)), Ev.step (fun k => by rw [spec_DrawFitsFaults.j0]) ?_⟩
    refine ev_neg (by decide) ?_
    refine ev_bind hr ?_
    refine ev_bind hr2 ?_
    exact ev_ret rfl
  have start : ∀ {set}, Ev (fun k => if ((setsF s 5).length : Int) > 0 then ((spec_l20Rd_pick.f k b (q : Int) 2).bind fun bt354 => (spec_DrawFitsFaults.j0 k s (setsF s 5) (bt354.1 == 0) b bt354.2)) else (spec_DrawFitsFaults.j0 k s (setsF s 5) false b (q : Int))) (s, set) → Ev (fun k => spec_DrawFitsFaults.f k l) (s, set) := fun h => by
    unfold spec_DrawFitsFaults.f
    refine ev_bindc hb ?_
    refine ev_bind hs ?_
    refine ev_bind (spec_setsE s (by omega) 5) ?_
    exact h
  by_cases hl : ((setsF s 5).length : Int) > 0
  · obtain ⟨r, hr, _⟩ := pickE b hB q (by omega) 2
    cases e : ((r : Int) == 0) with
    | false =>
      obtain ⟨set, h⟩ := go (q + 1) (by omega)
      refine ⟨s, set, start (ev_pos hl (ev_bind hr ?_)), hS⟩
      show Ev (fun k => spec_DrawFitsFaults.j0 k s (setsF s 5) ((r : Int) == 0) b ((q + 1 : Nat) : Int)) (s, set)
      rw [e]
      exact h
    | true =>
      obtain ⟨r2, hr2, hb2, _⟩ := pickE b hB (q + 1) (by omega) ((setsF s 5).length : Int)
      have hb2 := hb2 (by omega)
      refine ⟨s, rd (setsF s 5) (r2 : Int), start (ev_pos hl (ev_bind hr ?_)), hS⟩
      show Ev (fun k => spec_DrawFitsFaults.j0 k s (setsF s 5) ((r : Int) == 0) b ((q + 1 : Nat) : Int)) (s, _)
      rw [e]
      refine Ev.step (fun k => by rw [spec_DrawFitsFaults.j0]) ?_
      refine ev_pos rfl ?_
      refine ev_bind hr2 ?_
      refine ev_pos (by omega) ?_
      exact ev_pos hb2 (ev_ret rfl)
  · obtain ⟨set, h⟩ := go q (by omega)
    exact ⟨s, set, start (ev_neg hl h), hS⟩
theorem FnFitsFaults : laws_FnFitsFaults.Pure := by
  intro l h1 h2 hw
  refine Ev.rounds ?_
  unfold laws_FnFitsFaults.f
  by_cases h : (l.length : Int) > 1048576
  · exact ev_pos h (ev_ret rfl)
  refine ev_neg h ?_
  obtain ⟨s, set, hd, hS⟩ := drawn l hw
  have h5 := hS.1
  refine ev_bind hd ?_
  dsimp only
  refine ev_bind (impl_fitsE s (by omega) set) ?_
  refine ev_bind (spec_fitsE s (by omega) set) ?_
  refine ev_neg (by simp) ?_
  refine ev_bind (spec_synE s (by omega)) ?_
  by_cases hs : Syn s
  · refine ev_pos ((synB_iff s).2 hs) ?_
    have hp := pw5 h5
    have hpp := pw_pos s.length
    rw [shl_nat s.length (by omega), w64 (by omega) (by omega), show (pw s.length : Int) - 1 = ((pw s.length - 1 : Nat) : Int) by omega]
    exact told_loop s hs (s.length - 1) 1 true (by have := hs.1.1; omega) (by omega) ⟨fun _ j h1 h2 => by omega, fun _ => rfl⟩
  · refine ev_neg (fun h => hs ((synB_iff s).1 h)) ?_
    refine ev_neg (fun h => hs ((fitsFB_iff s set).1 h).1) ?_
    exact ev_bindc alive_ok (ev_ret rfl)
end Go.Proofs.Ytgfchnfceomcbaa.Pure

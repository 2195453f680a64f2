/- From a clash all follows: a term and its denial both have proofs exactly if the story has no world, whatever is drawn: no condition. -/
import Derived.Test.YtcaogllnbpmcgaaMAllFnProofBoth3
import Derived.Test.YtcaogllnbpmcgaaPx16
import Derived.Test.YtcaogllnbpmcgaaPx15
import Derived.Test.YtcaogllnbpmcgaaPx7
import Derived.Test.YtcaogllnbpmcgaaPx12
import Derived.Test.YtcaogllnbpmcgaaPx2
set_option linter.unusedVariables false
set_option linter.unusedSimpArgs false
namespace Go.Proofs.Ytcaogllnbpmcgaa.Pure
open Go Go.RowKit Go.Proofs.Ytcaogllnbpmcgaa.P Go.Proofs.YtcaogllnbpmcgaaW.PrintWords Go.Proofs.YtcaogllnbpmcgaaW.PrintLast Go.Proofs.Ytcaogllnbpmcgaa.M
theorem alive_okP : laws_alive.f = some true := by decide +kernel
theorem impl_findE (n : Int) (s : List Cl) (t : List Mk) (h : s.length < 4611686018427387904) : impl_FindProof.f n s t = some (findF n s t) := by
  unfold impl_FindProof.f
  rw [if_pos h]
theorem hold_not {n : Int} {l : List Mk} (h : TermP n l) (w : Nat) : holdB (l ++ [⟨2, 0⟩]) w = !holdB l w := by
  obtain ⟨t, ht, rfl⟩ := h.tree
  have e : t.enc ++ [(⟨2, 0⟩ : Mk)] = (Tm.neg t).enc := rfl
  rw [e, holdB_enc n w (.neg t) ht, holdB_enc n w t ht]
  rfl
theorem impl_clashT (n : Nat) (s : List Cl) (h : StoryP n s) : Tells (fun k => impl_ClashOk.f k (n : Int) s) (tabS n s = 0) := by
  unfold impl_ClashOk.f
  refine Tells.bind (impl_storyTableE n s h) ⟨_, Ev.now _, ?_⟩
  rw [beq_iff_eq]
  omega
theorem clash_iff (n : Nat) (s : List Cl) : tabS n s = 0 ↔ ∀ w, w < pw n → ¬ ∀ c ∈ s, mayB c.f0.toNat c.f1 w = true := by
  constructor
  · intro h w hw hm
    have := (tabS_bit n s w).2 ⟨hw, hm⟩
    rw [h] at this
    simp [bitN] at this
  · intro h
    refine Nat.eq_of_testBit_eq fun w => ?_
    rw [Nat.zero_testBit, Bool.eq_false_iff]
    intro hb
    obtain ⟨h1, h2⟩ := (tabS_bit n s w).1 ((bit_test _ _).2 hb)
    exact h w h1 h2
theorem FnProofBoth : laws_FnProofBoth.Pure := by
  intro l0 hl h2 hw
  refine Ev.rounds ?_
  unfold laws_FnProofBoth.f
  by_cases hbig : (l0.length : Int) > 1048576
  · exact ev_pos hbig (ev_ret rfl)
  refine ev_neg hbig ?_
  obtain ⟨b, hb, hB⟩ := openE l0 hw
  obtain ⟨n, s, l, q, ep, hsl, hss, hll, hls, hn4, _⟩ := l20ProvedE b hB
  have ed : Ev (fun k => spec_DrawFindProof.f k l0) (n, s, l) := by
    unfold spec_DrawFindProof.f
    exact ev_bindc hb (ev_bind ep (ev_ret rfl))
  refine ev_bind ed ?_
  dsimp only
  have h64 := hss.S64 (by omega)
  have hns : SmallL (l ++ [(⟨2, 0⟩ : Mk)]) := hls.app (SmallL.one (by decide))
  refine ev_bindc rfl (ev_pos (by simp only [List.length_nil]; omega) (ev_bindc rfl ?_))
  rw [List.nil_append]
  refine ev_pos (by omega) (ev_bindc rfl ?_)
  have bad : Ev (fun k => laws_FnProofBoth.j0 k n s l (l ++ [⟨2, 0⟩]) true) true := Ev.step (fun k => by rw [laws_FnProofBoth.j0]) (ev_pos rfl (ev_bindc alive_okP (ev_ret rfl)))
  obtain ⟨c1, hc1, hi1⟩ := spec_storyOk n (by omega) s h64
  obtain ⟨c2, hc2, hi2⟩ := spec_termOk n (by omega) l hls.M64 (by omega)
  obtain ⟨c3, hc3, hi3⟩ := spec_termOk n (by omega) (l ++ [⟨2, 0⟩]) hns.M64 (by simp; omega)
  refine ev_bind hc1 ?_
  cases c1 with
  | false => exact ev_neg (by decide) bad
  | true =>
    refine ev_pos rfl (ev_bind hc2 ?_)
    cases c2 with
    | false => exact ev_neg (by decide) bad
    | true =>
      refine ev_pos rfl (ev_bind hc3 ?_)
      cases c3 with
      | false => exact bad
      | true =>
        have hS := hi1.1 rfl
        have hT := hi2.1 rfl
        have hN := hi3.1 rfl
        have hn := hS.2.1
        obtain ⟨m, rfl⟩ : ∃ m : Nat, n = (m : Int) := ⟨n.toNat, by omega⟩
        refine Ev.step (fun k => by rw [laws_FnProofBoth.j0]) (ev_neg (by decide) ?_)
        refine ev_bindc (impl_findE (m : Int) s l (by omega)) (ev_bindc (impl_findE (m : Int) s (l ++ [⟨2, 0⟩]) (by omega)) (ev_bindc alive_okP (ev_pos rfl ?_)))
        obtain ⟨cl, hcl, hicl⟩ := impl_clashT m s hS
        have told : ∀ {l : List Mk}, TermP (m : Int) l → ((findF (m : Int) s l).2.2 = true ↔ ∀ w, w < pw m → (∀ c ∈ s, mayB c.f0.toNat c.f1 w = true) → holdB l w = true) := fun {l} hT => by
          rw [← found_iff (n := m) (s := s) (t := l) (by omega), findF_yes hS hT]
          cases grQ m s l m 0 0 0 with
          | none => exact ⟨fun h => h, fun h => h⟩
          | some q => exact ⟨fun _ => rfl, fun _ => rfl⟩
        have t1 := told hT
        have t2 := told hN
        have both : (findF (m : Int) s l).2.2 = true ∧ (findF (m : Int) s (l ++ [⟨2, 0⟩])).2.2 = true ↔ cl = true := by
          rw [t1, t2, hicl, clash_iff]
          constructor
          · rintro ⟨h1, h2⟩ w hw hm
            have h3 := h1 w hw hm
            have h4 := h2 w hw hm
            rw [hold_not hT, h3] at h4
            cases h4
          · exact fun h => ⟨fun w hw hm => absurd hm (h w hw), fun w hw hm => absurd hm (h w hw)⟩
        cases h1 : (findF (m : Int) s l).2.2 with
        | true =>
          rw [h1] at both
          refine ev_pos rfl (ev_bind hcl (ev_ret ?_))
          rw [beq_iff_eq, Bool.eq_iff_iff, ← both]
          exact ⟨fun h => ⟨rfl, h⟩, fun h => h.2⟩
        | false =>
          rw [h1] at both
          refine ev_neg (by decide) (ev_bind hcl (ev_ret ?_))
          rw [beq_iff_eq, Bool.eq_iff_iff, ← both]
          exact ⟨fun h => (by cases h), fun h => h.1⟩
end Go.Proofs.Ytcaogllnbpmcgaa.Pure

/- Stories without worlds need spies, whatever is drawn: no condition. -/
import Derived.Test.YtcaogllnbpmcgaaMAllFnFewestSpies3
import Derived.Test.YtcaogllnbpmcgaaPx17
import Derived.Test.YtcaogllnbpmcgaaPx14
import Derived.Test.YtcaogllnbpmcgaaPx16
set_option linter.unusedVariables false
set_option linter.unusedSimpArgs false
namespace Go.Proofs.Ytcaogllnbpmcgaa.Pure
open Go Go.RowKit Go.Proofs.Ytcaogllnbpmcgaa.P Go.Proofs.YtcaogllnbpmcgaaW.PrintWords Go.Proofs.YtcaogllnbpmcgaaW.PrintLast Go.Proofs.Ytcaogllnbpmcgaa.M
theorem alive_okW : laws_alive.f = some true := by decide +kernel
theorem impl_clashW (n : Nat) (s : List Cl) (h : StoryP n s) : Tells (fun k => impl_ClashOk.f k (n : Int) s) (tabS n s = 0) := by
  unfold impl_ClashOk.f
  refine Tells.bind (impl_storyTableE n s h) ⟨_, Ev.now _, ?_⟩
  rw [beq_iff_eq]
  omega
theorem few_end (n : Nat) (s : List Cl) (h : StoryP n s) : Ev (fun k => laws_FnFewestSpies.l0 k (n : Int) s ((fewS n s : Nat) : Int) ((whoS s n : Nat) : Int) (n : Int)) true := by
  have hn := h.2.1
  have hl := h.2.2
  obtain ⟨b, hb, hi⟩ := impl_clashW n s h
  have hz := few_zero n s h
  have hw := few_who n s h
  have hcond : ((((fewS n s : Nat) : Int) == 0) == (!b)) = true := by
    rw [beq_iff_eq, Bool.eq_iff_iff, beq_iff_eq, Bool.not_eq_true']
    cases b with
    | true =>
      have := hi.1 rfl
      exact ⟨fun h' => absurd this (hz.1 (by omega)), fun h' => (by cases h')⟩
    | false =>
      have : ¬ tabS n s = 0 := fun h' => Bool.noConfusion (hi.2 h')
      exact ⟨fun _ => rfl, fun _ => by have := hz.2 this; omega⟩
  have fin : ∀ less : List Cl, (∃ k, less = s.take k) → Ev (fun k => (impl_ClashOk.f k (n : Int) s).bind fun t => if ((((fewS n s : Nat) : Int) == 0) == (!t)) = true then (if ((fewS n s : Nat) : Int) ≤ ((whoS s n : Nat) : Int) then ((impl_FewestSpies.f k (n : Int) less).bind fun t2 => some (decide (t2 ≤ ((fewS n s : Nat) : Int)))) else some false) else some false) true := by
    rintro less ⟨k, rfl⟩
    obtain ⟨hS, hle⟩ := few_less n s h k
    refine ev_bind hb ?_
    refine ev_pos hcond ?_
    refine ev_pos (by omega) ?_
    refine ev_bind (impl_fewE (n : Int) (s.take k) (by have := hS.2.2; omega)) (ev_ret ?_)
    unfold fewF
    rw [if_pos hS, Int.toNat_natCast]
    exact decide_eq_true (by omega)
  refine Ev.step (fun k => by rw [laws_FnFewestSpies.l0]) ?_
  refine ev_neg (by omega) ?_
  simp only [Option.bind_some, List.nil_append, List.length_nil]
  refine ev_pos (by omega) ?_
  by_cases h0 : (s.length : Int) > 0
  · refine ev_pos h0 ?_
    rw [w64 (x := (s.length : Int) - 1) (by omega) (by omega)]
    refine ev_pos (by omega) ?_
    refine ev_pos (by omega) ?_
    refine ev_pos (by simp only [List.length_take]; omega) ?_
    exact fin _ ⟨_, rfl⟩
  · refine ev_neg h0 ?_
    exact fin s ⟨s.length, List.take_length.symm⟩
theorem whoS_S (s : List Cl) (k : Nat) : whoS s (k + 1) = whoS s k + if makes s k then 1 else 0 := rfl
theorem whoS_le (s : List Cl) : ∀ k, whoS s k ≤ k
  | 0 => Nat.le_refl _
  | k + 1 => by
    have := whoS_le s k
    rw [whoS_S]
    split <;> omega
theorem few_l0 (n : Nat) (s : List Cl) (h : StoryP n s) : ∀ d i, i + d = n → Ev (fun k => laws_FnFewestSpies.l0 k (n : Int) s ((fewS n s : Nat) : Int) ((whoS s i : Nat) : Int) (i : Int)) true := by
  have hn := h.2.1
  have hl := h.2.2
  intro d
  induction d with
  | zero =>
    intro i hi
    rw [show i = n by omega]
    exact few_end n s h
  | succ d ih =>
    intro i hi
    have hnext := ih (i + 1) (by omega)
    have hwl := whoS_le s i
    refine Ev.step (fun k => by rw [laws_FnFewestSpies.l0]) ?_
    refine ev_pos (by omega) ?_
    have inner : ∀ d j : Nat, j + d = s.length → (∀ q, q < j → (s.getD q zC).f0 ≠ (i : Int)) → Ev (fun k => laws_FnFewestSpies.l1 k (n : Int) s ((fewS n s : Nat) : Int) ((whoS s i : Nat) : Int) (i : Int) (j : Int)) true := by
      intro d
      induction d with
      | zero =>
        intro j hj hno
        have hm : makes s i = false := by
          rw [Bool.eq_false_iff]
          intro hm
          unfold makes at hm
          rw [List.any_eq_true] at hm
          obtain ⟨c, hc, hce⟩ := hm
          obtain ⟨q, hq, rfl⟩ := List.getElem_of_mem hc
          refine hno q (by omega) ?_
          rw [getD_lt s zC q hq]
          exact eq_of_beq hce
        rw [whoS_S, hm] at hnext
        refine Ev.step (fun k => by rw [laws_FnFewestSpies.l1]) ?_
        refine ev_neg (by omega) ?_
        rw [w64s (by omega)]
        exact hnext
      | succ d ihd =>
        intro j hj hno
        refine Ev.step (fun k => by rw [laws_FnFewestSpies.l1]) ?_
        refine ev_pos (by omega) ?_
        refine ev_pos (by omega) ?_
        rw [show rd_T38 s (j : Int) = s.getD j zC from by simp [rd_T38]]
        by_cases he : (s.getD j zC).f0 = (i : Int)
        · have hm : makes s i = true := by
            unfold makes
            rw [List.any_eq_true]
            exact ⟨_, getD_mem s zC j (by omega), beq_iff_eq.2 he⟩
          rw [whoS_S, if_pos hm] at hnext
          refine ev_pos he ?_
          rw [w64s (i := i) (by omega), w64s (by omega)]
          exact hnext
        · refine ev_neg he ?_
          rw [w64s (by omega)]
          refine ihd (j + 1) (by omega) fun q hq => ?_
          rcases Nat.lt_succ_iff_lt_or_eq.1 hq with hq | rfl
          · exact hno q hq
          · exact he
    exact inner s.length 0 (by omega) (fun q hq => absurd hq (by omega))
theorem FnFewestSpies : laws_FnFewestSpies.Pure := by
  intro l0 hl h2 hw
  refine Ev.rounds ?_
  unfold laws_FnFewestSpies.f
  by_cases hbig : (l0.length : Int) > 1048576
  · exact ev_pos hbig (ev_ret rfl)
  refine ev_neg hbig ?_
  obtain ⟨b, hb, hB⟩ := openE l0 hw
  obtain ⟨n, s, q, es, hn1, hn4, hsl, hss, hq⟩ := l20StoryE b hB 0 (by omega) 12
  have ed : Ev (fun k => spec_DrawFewestSpies.f k l0) (n, s) := by
    unfold spec_DrawFewestSpies.f
    exact ev_bindc hb (ev_bind es (ev_ret rfl))
  refine ev_bind ed ?_
  dsimp only
  have h64 := hss.S64 (by omega)
  refine ev_bind (impl_fewE n s (by omega)) ?_
  refine ev_bind (spec_fewE n (by omega) s h64) ?_
  refine ev_pos rfl ?_
  unfold fewF
  by_cases hS : StoryP n s
  · rw [if_pos hS]
    refine ev_neg (by omega) ?_
    obtain ⟨m, rfl⟩ : ∃ m : Nat, n = (m : Int) := ⟨n.toNat, by omega⟩
    exact few_l0 m s hS m 0 (by omega)
  · rw [if_neg hS]
    refine ev_pos (by decide) ?_
    refine ev_pos rfl ?_
    obtain ⟨c, hc, hi⟩ := impl_storyOk n s (by omega)
    refine ev_bind hc ?_
    cases c with
    | true => exact absurd (hi.1 rfl) hS
    | false => exact ev_neg (by decide) (ev_bindc alive_okW (ev_ret rfl))
end Go.Proofs.Ytcaogllnbpmcgaa.Pure

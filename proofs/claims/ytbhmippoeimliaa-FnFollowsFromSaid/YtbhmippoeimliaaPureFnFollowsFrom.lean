/- From nothing just what always holds follows, and what follows from less follows, whatever is drawn: no condition. -/
import Derived.Test.YtbhmippoeimliaaMAllFnFollowsFrom
import Derived.Test.YtbhmippoeimliaaPx17
import Derived.Test.YtbhmippoeimliaaPx16
import Derived.Test.YtbhmippoeimliaaPx16
import Derived.Test.YtbhmippoeimliaaPx16
import Derived.Test.YtbhmippoeimliaaPx15
import Derived.Test.YtbhmippoeimliaaPx15
import Derived.Test.YtbhmippoeimliaaPx2
set_option linter.unusedVariables false
set_option linter.unusedSimpArgs false
namespace Go.Proofs.Ytbhmippoeimliaa.Pure
open Go Go.RowKit Go.Proofs.Ytbhmippoeimliaa.P Go.Proofs.YtbhmippoeimliaaW.PrintWords Go.Proofs.YtbhmippoeimliaaW.PrintLast Go.Proofs.Ytbhmippoeimliaa.M
theorem alive_okF : laws_alive.f = some true := by decide +kernel
theorem l1InF (a b c : Int) : spec_l1In.f a b c = some (decide (b ≤ a ∧ a ≤ c)) := by
  unfold spec_l1In.f
  by_cases h : a ≥ b
  · rw [if_pos h]
    simp [h]
  · rw [if_neg h]
    simp
    intro h'
    omega
theorem spec_tabOkF (n t : Int) : spec_TableOk.f n t = some (decide (TabOk n t)) := by
  unfold spec_TableOk.f
  rw [l1InF]
  simp only [Option.bind_some]
  by_cases h : 1 ≤ n ∧ n ≤ 4
  · obtain ⟨m, rfl⟩ : ∃ m : Nat, n = (m : Int) := ⟨n.toNat, by omega⟩
    have := ppw (n := m) (by omega)
    have := pw_pos (pw m)
    rw [if_pos (decide_eq_true h), shl2 m (by omega), if_pos (by omega), l1InF, w64 (by omega) (by omega)]
    simp only [Option.bind_some]
    refine some_dec ?_
    rw [tabOk_nat, decide_eq_true_eq]
    omega
  · rw [if_neg (fun h' => h (of_decide_eq_true h'))]
    exact some_dec ⟨fun h => (by cases h), fun h' => absurd ⟨h'.1, h'.2.1⟩ h⟩
theorem worlds_ex (n : Nat) (hn : n ≤ 4) (T : Nat) (hT : TabOk (n : Int) (T : Int)) : ∀ (d i : Nat) (acc : List Int), i + d = pw n → acc.length ≤ i → ∃ L, Ev (fun k => spec_WorldsIn.l0 k (n : Int) (T : Int) acc (i : Int)) L := by
  have hp := pw4 hn
  intro d
  induction d with
  | zero =>
    intro i acc hi ha
    refine ⟨acc, Ev.step (fun k => by rw [spec_WorldsIn.l0, spec_tabOkF]) ?_⟩
    simp only [Option.bind_some]
    refine ev_pos (decide_eq_true hT) (ev_pos (by omega) ?_)
    rw [shl_nat n (by omega), decide_eq_false (by omega)]
    refine Ev.step (fun k => by rw [spec_WorldsIn.j1]) ?_
    exact ev_neg (by simp) (ev_ret rfl)
  | succ d ih =>
    intro i acc hi ha
    by_cases h1 : Int.tmod (shr .i64 (T : Int) (i : Int)) 2 = 1
    · obtain ⟨L, hL⟩ := ih (i + 1) (acc ++ [(i : Int)]) (by omega) (by simp; omega)
      refine ⟨L, Ev.step (fun k => by rw [spec_WorldsIn.l0, spec_tabOkF]) ?_⟩
      simp only [Option.bind_some]
      refine ev_pos (decide_eq_true hT) (ev_pos (by omega) ?_)
      rw [shl_nat n (by omega), decide_eq_true (by omega : (i : Int) < ((pw n : Nat) : Int))]
      refine Ev.step (fun k => by rw [spec_WorldsIn.j1, w64s (by omega)]) ?_
      exact ev_pos rfl (ev_pos (by omega) (ev_pos h1 (ev_pos (by omega) hL)))
    · obtain ⟨L, hL⟩ := ih (i + 1) acc (by omega) (by omega)
      refine ⟨L, Ev.step (fun k => by rw [spec_WorldsIn.l0, spec_tabOkF]) ?_⟩
      simp only [Option.bind_some]
      refine ev_pos (decide_eq_true hT) (ev_pos (by omega) ?_)
      rw [shl_nat n (by omega), decide_eq_true (by omega : (i : Int) < ((pw n : Nat) : Int))]
      refine Ev.step (fun k => by rw [spec_WorldsIn.j1, w64s (by omega)]) ?_
      exact ev_pos rfl (ev_pos (by omega) (ev_neg h1 hL))
theorem worldsInE (n : Int) (h1 : 1 ≤ n) (h4 : n ≤ 4) (t : Int) : ∃ L, Ev (fun k => spec_WorldsIn.f k n t) L := by
  unfold spec_WorldsIn.f
  by_cases hT : TabOk n t
  · obtain ⟨m, rfl⟩ : ∃ m : Nat, n = (m : Int) := ⟨n.toNat, by omega⟩
    obtain ⟨T, rfl⟩ : ∃ T : Nat, t = (T : Int) := ⟨t.toNat, by have := hT.2.2.1; omega⟩
    exact worlds_ex m (by omega) T hT (pw m) 0 [] (by omega) (by simp)
  · refine ⟨[], Ev.step (fun k => by rw [spec_WorldsIn.l0, spec_tabOkF]) ?_⟩
    simp only [Option.bind_some]
    refine ev_neg (by simpa using hT) ?_
    refine Ev.step (fun k => by rw [spec_WorldsIn.j1]) ?_
    exact ev_neg (by simp) (ev_ret rfl)
theorem l20ProvedE (b : List Int) (hb : Bytes b) : ∃ (n : Int) (s : List Cl) (l : List Mk) (q : Nat), Ev (fun k => spec_l20Proved.f k b ((0 : Nat) : Int)) (n, s, l, (q : Int)) ∧ s.length ≤ 20 ∧ SmallS s ∧ l.length ≤ 4097 ∧ SmallL l ∧ n ≤ 4 := by
  obtain ⟨n, s, q, es, hn1, hn4, hsl, hss, hq⟩ := l20StoryE b hb 0 (by omega) 14
  obtain ⟨l, q2, el, hl1, hl2, hq2⟩ := l20TermE b hb q (by omega) n 14
  have h64 := hss.S64 (by omega)
  obtain ⟨t, et⟩ : ∃ t, Ev (fun k => spec_StoryTable.f k n s) t := by
    unfold spec_StoryTable.f
    obtain ⟨c, hc, hi⟩ := spec_storyOk n (by omega) s h64
    cases c with
    | false => exact ⟨-1, ev_bind hc (ev_neg (by decide) (ev_ret rfl))⟩
    | true =>
      obtain ⟨m, rfl⟩ : ∃ m : Nat, n = (m : Int) := ⟨n.toNat, by omega⟩
      exact ⟨_, ev_bind hc (ev_pos rfl (ev_bind (spec_storyE m s (hi.1 rfl)) (ev_ret rfl)))⟩
  obtain ⟨L, eL⟩ := worldsInE n hn1 hn4 t
  unfold spec_l20Proved.f
  by_cases hL : (L.length : Int) > 0
  · obtain ⟨r, e, _⟩ := pickE b hb q2 (by omega) 2
    by_cases h0 : r = 0
    · obtain ⟨r2, e2, h2, _⟩ := pickE b hb (q2 + 1) (by omega) n
      have h2 := h2 hn1
      by_cases hz : Int.tmod (shr .i64 (rd L 0) (r2 : Int)) 2 = 0
      · refine ⟨n, s, [⟨0, (r2 : Int)⟩, ⟨2, 0⟩], q2 + 2, ?_, hsl, hss, by simp, fun x hx => ?_, hn4⟩
        · refine ev_bind es (ev_bind el (ev_bind et (ev_bind eL (ev_pos hL (ev_bind e ?_)))))
          dsimp only
          rw [show (((r : Nat) : Int) == 0) = true by simp [h0]]
          refine Ev.step (fun k => by rw [spec_l20Proved.j0]) ?_
          refine ev_pos rfl (ev_bind e2 ?_)
          simp only [Option.bind_some]
          refine ev_pos (by omega) (ev_pos (by omega) (ev_pos hz (ev_pos (by simp) (ev_ret rfl))))
        · rcases List.mem_cons.1 hx with rfl | hx
          · show (r2 : Int) ≤ _
            omega
          · rw [List.mem_singleton.1 hx]
            show (0 : Int) ≤ _
            decide
      · refine ⟨n, s, [⟨0, (r2 : Int)⟩], q2 + 2, ?_, hsl, hss, by simp, SmallL.one (show (r2 : Int) ≤ _ by omega), hn4⟩
        refine ev_bind es (ev_bind el (ev_bind et (ev_bind eL (ev_pos hL (ev_bind e ?_)))))
        dsimp only
        rw [show (((r : Nat) : Int) == 0) = true by simp [h0]]
        refine Ev.step (fun k => by rw [spec_l20Proved.j0]) ?_
        refine ev_pos rfl (ev_bind e2 ?_)
        simp only [Option.bind_some]
        refine ev_pos (by omega) (ev_pos (by omega) (ev_neg hz (ev_ret rfl)))
    · refine ⟨n, s, l, q2 + 1, ?_, hsl, hss, hl1, hl2, hn4⟩
      refine ev_bind es (ev_bind el (ev_bind et (ev_bind eL (ev_pos hL (ev_bind e ?_)))))
      dsimp only
      rw [show (((r : Nat) : Int) == 0) = false from beq_eq_false_iff_ne.mpr (by omega)]
      refine Ev.step (fun k => by rw [spec_l20Proved.j0]) ?_
      exact ev_neg (by simp) (ev_ret rfl)
  · refine ⟨n, s, l, q2, ?_, hsl, hss, hl1, hl2, hn4⟩
    refine ev_bind es (ev_bind el (ev_bind et (ev_bind eL (ev_neg hL ?_))))
    dsimp only
    refine Ev.step (fun k => by rw [spec_l20Proved.j0]) ?_
    exact ev_neg (by simp) (ev_ret rfl)
theorem impl_alwaysT (n : Int) (l : List Mk) : Tells (fun k => impl_AlwaysOk.f k n l) (TermP n l ∧ ∀ w, w < pw n.toNat → holdB l w = true) := by
  unfold impl_AlwaysOk.f
  obtain ⟨c, hc, hj⟩ := impl_termOk n l
  refine Tells.bind hc (Tells.ite (fun h2 => ?_) (fun h2 => Tells.no fun h' => h2 (hj.2 h'.1)))
  have hT := hj.1 h2
  have hn := hT.1
  obtain ⟨m, rfl⟩ : ∃ m : Nat, n = (m : Int) := ⟨n.toNat, by omega⟩
  refine Tells.bindc (impl_tableOfE m l hT) (Tells.pos (by omega) ⟨_, Ev.now _, ?_⟩)
  have hp := ppw' (n := m) (by omega)
  have hpos := pw_pos (pw m)
  rw [shl2' m (by omega), w64 (by omega) (by omega), beq_iff_eq]
  have := tab_all (holdB l) (pw m)
  constructor
  · intro h
    exact ⟨hT, this.1 (by omega)⟩
  · intro h
    have := this.2 h.2
    omega
theorem impl_clashT (n : Nat) (s : List Cl) (h : StoryP n s) : Tells (fun k => impl_ClashOk.f k (n : Int) s) (tabS n s = 0) := by
  unfold impl_ClashOk.f
  refine Tells.bind (impl_storyTableE n s h) ⟨_, Ev.now _, ?_⟩
  rw [beq_iff_eq]
  omega
theorem FnFollowsFrom : laws_FnFollowsFrom.Pure := by
  intro l0 hl h2 hw
  refine Ev.rounds ?_
  unfold laws_FnFollowsFrom.f
  by_cases hbig : (l0.length : Int) > 1048576
  · exact ev_pos hbig (ev_ret rfl)
  refine ev_neg hbig ?_
  obtain ⟨b, hb, hB⟩ := openE l0 hw
  obtain ⟨n, s, l, q, ep, hsl, hss, hll, hls, hn4⟩ := l20ProvedE b hB
  have ed : Ev (fun k => spec_DrawFollowsFrom.f k l0) (n, s, l) := by
    unfold spec_DrawFollowsFrom.f
    exact ev_bindc hb (ev_bind ep (ev_ret rfl))
  refine ev_bind ed ?_
  dsimp only
  have h64 := hss.S64 (by omega)
  obtain ⟨c, hc, hi⟩ := impl_followsT n s (by omega) l
  have hc2 := (spec_followsT n (by omega) s h64 l hls.M64 (by omega)).ev hi
  refine ev_bind hc (ev_bind hc2 (ev_neg (by simp) ?_))
  have bad : ¬ (StoryP n s ∧ TermP n l) → Ev (fun k => laws_FnFollowsFrom.j0 k n s l c true) true := fun h => by
    cases c with
    | true => exact absurd ⟨(hi.1 rfl).1, (hi.1 rfl).2.1⟩ h
    | false =>
      refine Ev.step (fun k => by rw [laws_FnFollowsFrom.j0]) ?_
      exact ev_pos rfl (ev_neg (by decide) (ev_bindc alive_okF (ev_ret rfl)))
  obtain ⟨c1, hc1, hi1⟩ := spec_storyOk n (by omega) s h64
  refine ev_bind hc1 ?_
  cases c1 with
  | false => exact ev_neg (by decide) (bad fun h => Bool.noConfusion (hi1.2 h.1))
  | true =>
    refine ev_pos rfl ?_
    obtain ⟨c3, hc3, hi3⟩ := spec_termOk n (by omega) l hls.M64 (by omega)
    refine ev_bind hc3 ?_
    cases c3 with
    | false => exact bad fun h => Bool.noConfusion (hi3.2 h.2)
    | true =>
      have hS := hi1.1 rfl
      have hT := hi3.1 rfl
      obtain ⟨m, rfl⟩ : ∃ m : Nat, n = (m : Int) := ⟨n.toNat, by have := hS.2.1.1; omega⟩
      have j1 : ∀ less : List Cl, (∀ x ∈ less, x ∈ s) → less.length ≤ 20 → Ev (fun k => laws_FnFollowsFrom.j1 k (m : Int) s l c less) true := fun less hsub hlen => by
        refine Ev.step (fun k => by rw [laws_FnFollowsFrom.j1]) ?_
        obtain ⟨c4, hc4, hi4⟩ := impl_followsT (m : Int) [] (by simp) l
        obtain ⟨c5, hc5, hi5⟩ := impl_alwaysT (m : Int) l
        refine ev_bind hc4 (ev_bind hc5 ?_)
        have h45 : c4 = c5 := by
          rw [Bool.eq_iff_iff, hi4, hi5]
          constructor
          · intro h
            exact ⟨h.2.1, fun w hw => h.2.2 w hw (fun c hc => by cases hc)⟩
          · intro h
            exact ⟨⟨fun i hi => by simp at hi, hS.2.1, by simp⟩, h.1, fun w hw _ => h.2 w hw⟩
        refine ev_pos (by rw [h45]; simp) ?_
        obtain ⟨c6, hc6, hi6⟩ := impl_followsT (m : Int) less (by omega) l
        obtain ⟨c7, hc7, hi7⟩ := impl_clashT m s hS
        refine ev_bind hc6 ?_
        cases c6 with
        | true =>
          have hfl := (hi6.1 rfl).2.2
          have hct : c = true := hi.2 ⟨hS, hT, fun w hw hm => hfl w hw (fun x hx => hm x (hsub x hx))⟩
          subst hct
          refine ev_pos rfl (ev_pos rfl (ev_bind hc7 ?_))
          cases c7 with
          | true => exact ev_pos rfl (ev_bindc alive_okF (ev_ret rfl))
          | false => exact ev_neg (by decide) (ev_bindc alive_okF (ev_ret rfl))
        | false =>
          refine ev_neg (by decide) (ev_bind hc7 ?_)
          cases c7 with
          | true =>
            have h0 := hi7.1 rfl
            have hct : c = true := hi.2 ⟨hS, hT, fun w hw hm => by
              have := (tabS_bit m s w).2 ⟨hw, hm⟩
              rw [h0] at this
              simp [bitN] at this⟩
            subst hct
            exact ev_pos rfl (ev_pos rfl (ev_bindc alive_okF (ev_ret rfl)))
          | false => exact ev_neg (by decide) (ev_bindc alive_okF (ev_ret rfl))
      refine Ev.step (fun k => by rw [laws_FnFollowsFrom.j0]) (?_)
      refine ev_neg (by decide) ?_
      simp only [Option.bind_some, List.nil_append, List.length_nil]
      refine ev_pos (by omega) ?_
      by_cases h0 : (s.length : Int) > 0
      · refine ev_pos h0 ?_
        rw [w64 (x := (s.length : Int) - 1) (by omega) (by omega)]
        refine ev_pos (by omega) (ev_pos (by omega) ?_)
        refine ev_pos (by simp only [List.length_take]; omega) ?_
        exact j1 _ (fun x hx => List.mem_of_mem_take hx) (by simp only [List.length_take]; omega)
      · exact ev_neg h0 (j1 s (fun x hx => hx) hsl)
end Go.Proofs.Ytbhmippoeimliaa.Pure

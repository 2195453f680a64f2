/- With a spy more no story is worse, whatever is drawn: no condition. -/
import Derived.Test.YtbhmippoeimliaaMAllFnSpyBetter
import Derived.Test.YtbhmippoeimliaaPx12
import Derived.Test.YtbhmippoeimliaaPx4
import Derived.Test.YtbhmippoeimliaaPx2
set_option linter.unusedVariables false
set_option linter.unusedSimpArgs false
namespace Go.Proofs.Ytbhmippoeimliaa.Pure
open Go Go.RowKit Go.Proofs.Ytbhmippoeimliaa.P Go.Proofs.YtbhmippoeimliaaW.PrintWords Go.Proofs.YtbhmippoeimliaaW.PrintLast Go.Proofs.Ytbhmippoeimliaa.M
theorem alive_okB : laws_alive.f = some true := by decide +kernel
theorem set_get (ks : List Int) (i j : Nat) (v : Int) (hi : i < ks.length) : (ks.set i v).getD j 0 = if j = i then v else ks.getD j 0 := set_getD 0 ks i v hi j
theorem world_set (ks : List Int) (i : Nat) (hi : i < ks.length) (h0 : ks.getD i 0 = 0) : worldK (ks.set i 2) = worldK ks := by
  unfold worldK
  rw [List.length_set]
  congr 1
  funext j
  rw [set_get ks i j 2 hi]
  by_cases hj : j = i
  · rw [if_pos hj, hj, h0]
    decide
  · rw [if_neg hj]
theorem kinds_set (ks : List Int) (i : Nat) (hi : i < ks.length) (h : KindsP ks) : KindsP (ks.set i 2) := by
  refine ⟨fun j hj => ?_, by rw [List.length_set]; exact h.2⟩
  rw [List.length_set] at hj
  rw [set_get ks i j 2 hi]
  by_cases he : j = i
  · rw [if_pos he]; decide
  · rw [if_neg he]; exact h.1 j hj
theorem spies_set (ks : List Int) (s : List Cl) (i : Nat) (hi : i < ks.length) (h0 : ks.getD i 0 = 0) (h : spiesP ks s) : spiesP (ks.set i 2) s := by
  refine ⟨kinds_set ks i hi h.1, by rw [List.length_set]; exact h.2.1, fun j hj => ?_⟩
  have h1 := h.2.2 j hj
  unfold spyB at h1 ⊢
  rw [world_set ks i hi h0, set_get ks i _ 2 hi]
  by_cases he : (s.getD j zC).f0.toNat = i
  · rw [if_pos he]; rfl
  · rw [if_neg he]; exact h1
theorem better_l0 (ks : List Int) (hk : ks.length ≤ 200) (s : List Cl) (hs : s.length ≤ 20) (h : spiesP ks s) : ∀ d i : Nat, i + d = ks.length → Ev (fun k => laws_FnSpyBetter.l0 k ks s (i : Int)) true := by
  intro d
  induction d with
  | zero =>
    intro i hi
    refine Ev.step (fun k => by rw [laws_FnSpyBetter.l0]) (ev_neg (by omega) ?_)
    exact ev_bindc alive_okB (ev_ret rfl)
  | succ d ih =>
    intro i hi
    refine Ev.step (fun k => by rw [laws_FnSpyBetter.l0]) (ev_pos (by omega) (ev_pos (by omega) ?_))
    rw [rdN, w64s (by omega)]
    by_cases h0 : ks.getD i 0 = 0
    · refine ev_pos h0 ?_
      simp only [Option.bind_some, List.nil_append, List.length_nil, Int.toNat_natCast]
      refine ev_pos (by omega) (ev_pos (by omega) ?_)
      refine ev_bind ((impl_spies (ks.set i 2) (by rw [List.length_set]; omega) s (by omega)).ev (b := true) ⟨fun _ => spies_set ks s i (by omega) h0 h, fun _ => rfl⟩) ?_
      exact ev_pos rfl (ih (i + 1) (by omega))
    · exact ev_neg h0 (ih (i + 1) (by omega))
theorem FnSpyBetter : laws_FnSpyBetter.Pure := by
  intro l0 hl h2 hw
  refine Ev.rounds ?_
  unfold laws_FnSpyBetter.f
  by_cases hbig : (l0.length : Int) > 1048576
  · exact ev_pos hbig (ev_ret rfl)
  refine ev_neg hbig ?_
  obtain ⟨b, hb, hB⟩ := openE l0 hw
  obtain ⟨n, s, q, es, hn1, hn4, hsl, hss, hq⟩ := l20StoryE b hB 0 (by omega) 14
  obtain ⟨ks, q2, ek, hkl, _⟩ := l20KindsE b hB q (by omega) n (by omega) (by omega) 14
  have ed : Ev (fun k => spec_DrawSpyStory.f k l0) (ks, s) := by
    unfold spec_DrawSpyStory.f
    exact ev_bindc hb (ev_bind es (ev_bind ek (ev_ret rfl)))
  refine ev_bind ed ?_
  dsimp only
  obtain ⟨c, hc, hi⟩ := impl_spies ks (by omega) s (by omega)
  have hc2 := (spec_spies ks (by omega) s (hss.S64 (by omega))).ev hi
  refine ev_bind hc ?_
  cases c with
  | true =>
    refine ev_pos rfl (ev_bind hc2 ?_)
    refine Ev.step (fun k => by rw [laws_FnSpyBetter.j0]) (ev_neg (by decide) ?_)
    exact better_l0 ks hkl s hsl (hi.1 rfl) ks.length 0 (by omega)
  | false =>
    refine ev_neg (by decide) ?_
    refine Ev.step (fun k => by rw [laws_FnSpyBetter.j0]) (ev_pos rfl ?_)
    exact ev_bind hc (ev_bind hc2 (ev_pos rfl (ev_bindc alive_okB (ev_ret rfl))))
end Go.Proofs.Ytbhmippoeimliaa.Pure

/- LinkStory: it is a story whose table is its own opposite, so there is no only world, whatever is drawn: no condition. -/
import Derived.Test.YtbhmippoeimliaaMAllFnLinkStory
import Derived.Test.YtbhmippoeimliaaMOppLit
import Derived.Test.YtbhmippoeimliaaPx17
import Derived.Test.YtbhmippoeimliaaPx16
import Derived.Test.YtbhmippoeimliaaPx18
import Derived.Test.YtbhmippoeimliaaPx16
import Derived.Test.YtbhmippoeimliaaPx9
set_option linter.unusedVariables false
set_option linter.unusedSimpArgs false
namespace Go.Proofs.Ytbhmippoeimliaa.Pure
open Go Go.RowKit Go.Proofs.Ytbhmippoeimliaa.P Go.Proofs.YtbhmippoeimliaaW.PrintWords Go.Proofs.YtbhmippoeimliaaW.PrintLast Go.Proofs.Ytbhmippoeimliaa.M
theorem alive_ok : laws_alive.f = some true := by decide +kernel
/-- The links' table is its own opposite. -/
theorem opp_links (m : Nat) (s : List Lnk) (h : LinksP m s) : tabN (oppP m (tabS m (s.map linkC))) (pw m) = tabS m (s.map linkC) := by
  have hm := h.2.1
  have hp := pw_pos m
  refine Nat.eq_of_testBit_eq fun w => ?_
  rw [Bool.eq_iff_iff, ← bit_test, ← bit_test, tab_bit, tabS_bit]
  unfold oppP
  rw [beq_iff_eq, tabS_bit, ← sat_links, ← sat_links]
  constructor
  · rintro ⟨a, b, c⟩
    rw [sat_flip (T := edgesT s) (by omega) (edges_row h) a] at c
    exact ⟨a, c⟩
  · rintro ⟨a, c⟩
    refine ⟨a, by omega, ?_⟩
    rw [sat_flip (T := edgesT s) (by omega) (edges_row h) a]
    exact c
theorem not_one (m : Nat) (s : List Lnk) (h : LinksP m s) : (wl (tabS m (s.map linkC)) m).length ≠ 1 := by
  have hm := h.2.1
  obtain ⟨_, e2⟩ := groups_row h
  have hwd := worlds_of (T := edgesT s) (by omega) (by omega) (by rw [edg_edgesT]; exact e2) (edges_row h)
  rw [wl_links]
  rcases hwd.2 with e | e
  · omega
  · rw [e]
    obtain ⟨k, hk⟩ : ∃ k, roots m (roundsR (edgesOf s) (List.range m) m) = k + 1 := ⟨_, (Nat.sub_add_cancel hwd.1).symm⟩
    rw [hk, Nat.pow_succ]
    omega
theorem FnLinkStory : laws_FnLinkStory.Pure := by
  intro l h1 h2 hw
  refine Ev.rounds ?_
  unfold laws_FnLinkStory.f
  by_cases h : (l.length : Int) > 1048576
  · exact ev_pos h (ev_ret rfl)
  refine ev_neg h ?_
  obtain ⟨b, hb, hB⟩ := openE l hw
  obtain ⟨n, s, q, hd, hs, hq⟩ := l20LinksE b hB 0 (by omega)
  have hD : Ev (fun k => spec_DrawLinkStory.f k l) (n, s) := by
    unfold spec_DrawLinkStory.f
    refine ev_bindc hb ?_
    refine ev_bind hd ?_
    exact ev_ret rfl
  refine ev_bind hD ?_
  dsimp only
  refine ev_bind (impl_linkStoryE n s (by omega)) ?_
  refine ev_bind (spec_linkStoryE n s (by omega)) ?_
  unfold linkStoryF
  by_cases hL : LinksP n s
  · rw [if_pos ((linksB_iff n s).2 hL)]
    obtain ⟨m, rfl⟩ : ∃ m : Nat, n = (m : Int) := ⟨n.toNat, by have := hL.2.1; omega⟩
    have hm := hL.2.1
    have hS := linkStory_ok m s hL
    dsimp only
    refine ev_bind (same_story _ (by simp; omega) fun j => ?_) ?_
    · refine getD_all (s.map linkC) zC (fun c => c.f1.length < 4611686018427387904) (by decide) (fun c hc => ?_) j
      obtain ⟨x, _, rfl⟩ := List.mem_map.1 hc
      have := linkM_len x
      show (linkM x).length < _
      omega
    refine ev_pos rfl ?_
    refine Ev.step (fun k => by rw [laws_FnLinkStory.j0]) ?_
    refine ev_neg (by decide) ?_
    refine ev_pos rfl ?_
    have hmax := tabS_max m (s.map linkC)
    have hst := impl_storyTableE m _ hS
    refine ev_bind hst ?_
    have honly : Ev (fun k => impl_OnlyWorld.f k (m : Int) (s.map linkC)) ((-1 : Int), false) := by
      unfold impl_OnlyWorld.f
      refine ev_bind hst ?_
      refine ev_bind (impl_worldsE (m : Int) _) ?_
      rw [worldsS m (by omega) (by omega), castL_len]
      have := not_one m s hL
      exact ev_neg (by omega) (ev_ret rfl)
    refine ev_bind honly ?_
    refine ev_bind ((impl_storyOk (m : Int) _ (by simp; omega)).ev (b := true) ⟨fun _ => hS, fun _ => rfl⟩) ?_
    refine ev_pos rfl ?_
    refine ev_pos (by simp) ?_
    have hopp : impl_OppositeTable.f (m : Int) ((tabS m (s.map linkC) : Nat) : Int) = some ((tabS m (s.map linkC) : Nat) : Int) := by
      unfold impl_OppositeTable.f
      rw [if_pos ((tabOk_nat m _).2 ⟨by omega, by omega, by omega, by omega⟩), Int.toNat_natCast, Int.toNat_natCast, opp_links m s hL]
    refine ev_bindc hopp ?_
    refine ev_pos rfl ?_
    refine ev_neg (by decide) (ev_ret ?_)
    exact decide_eq_true (by omega)
  · rw [if_neg fun h => hL ((linksB_iff n s).1 h)]
    dsimp only
    refine ev_bind (same_story [] (by decide) fun j => by rw [List.getD_nil]; decide) ?_
    refine ev_pos rfl ?_
    refine Ev.step (fun k => by rw [laws_FnLinkStory.j0]) ?_
    refine ev_neg (by decide) ?_
    refine ev_neg (by decide) ?_
    refine ev_pos rfl ?_
    refine ev_bind (impl_linksE n s (by omega)) ?_
    refine ev_neg (fun h => hL ((linksB_iff n s).1 h)) ?_
    exact ev_bindc alive_ok (ev_ret rfl)
end Go.Proofs.Ytbhmippoeimliaa.Pure

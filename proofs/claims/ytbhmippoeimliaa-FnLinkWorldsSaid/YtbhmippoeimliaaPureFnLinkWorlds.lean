/- LinkWorlds: it is 0, or 2 to the power of the number of groups, and the worlds of the story are as many, whatever is drawn: no condition. -/
import Derived.Test.YtbhmippoeimliaaMAllFnLinkWorlds
import Derived.Test.YtbhmippoeimliaaPx15
import Derived.Test.YtbhmippoeimliaaPx2
import Derived.Test.YtbhmippoeimliaaPx9
set_option linter.unusedVariables false
set_option linter.unusedSimpArgs false
namespace Go.Proofs.Ytbhmippoeimliaa.Pure
open Go Go.RowKit Go.Proofs.Ytbhmippoeimliaa.P Go.Proofs.YtbhmippoeimliaaW.PrintWords Go.Proofs.YtbhmippoeimliaaW.PrintLast Go.Proofs.Ytbhmippoeimliaa.M
theorem alive_ok : laws_alive.f = some true := by decide +kernel
theorem law_l0 (n : Nat) (s : List Lnk) (h : LinksP n s) (c : Nat) (r : List Nat) (hr : r.length = n) (hc : c = cntW n (satT (edgesT s))) (hw : 1 ≤ roots n r ∧ (c = 0 ∨ c = 2 ^ roots n r)) : ∀ d i, i + d = n →
    Ev (fun k => laws_FnLinkWorlds.l0 k (n : Int) s (c : Int) (castL r) ((((List.range i).filter fun k => r.getD k 0 == k).length : Nat) : Int) (i : Int)) true := by
  have hn := h.2.1
  intro d
  induction d with
  | zero =>
    intro i hi
    obtain rfl : i = n := by omega
    refine Ev.step (fun k => by rw [laws_FnLinkWorlds.l0]) ?_
    rw [castL_len, hr]
    refine ev_neg (by omega) ?_
    refine ev_bind (impl_linkStoryE i s (by have := h.2.2; omega)) ?_
    unfold linkStoryF
    rw [if_pos ((linksB_iff _ _).2 h)]
    refine ev_pos rfl ?_
    have hS := linkStory_ok i s h
    have hle : roots i r ≤ 4 := by
      have := List.length_filter_le (fun k => r.getD k 0 == k) (List.range i)
      rw [List.length_range] at this
      unfold roots
      omega
    have hx : ((List.range i).filter fun k => r.getD k 0 == k).length = roots i r := rfl
    rw [hx]
    have fin : Ev (fun k => (impl_StoryTable.f k (i : Int) (s.map linkC)).bind fun t => (impl_WorldsIn.f k (i : Int) t).bind fun t2 => if (t2.length : Int) = (c : Int) then some (decide (((roots i r : Nat) : Int) ≥ 1)) else some false) true := by
      refine ev_bind (impl_storyTableE i _ hS) ?_
      refine ev_bind (impl_worldsE (i : Int) _) ?_
      rw [worldsS i (by omega) (by omega), castL_len, wl_links, ← hc]
      refine ev_pos rfl (ev_ret ?_)
      exact decide_eq_true (by omega)
    by_cases h0 : (c : Int) = 0
    · exact ev_pos h0 fin
    · refine ev_neg h0 ?_
      refine ev_pos (by omega) ?_
      refine ev_pos ?_ fin
      rw [shl_nat _ (by omega)]
      have := hw.2.resolve_left (by omega)
      rw [this]
      rfl
  | succ d ih =>
    intro i hi
    refine Ev.step (fun k => by rw [laws_FnLinkWorlds.l0]) ?_
    have hle := List.length_filter_le (fun k => r.getD k 0 == k) (List.range i)
    rw [List.length_range] at hle
    rw [castL_len, hr, rdN, castL_getD, w64s (i := i) (by omega)]
    refine ev_pos (by omega) ?_
    refine ev_pos (by omega) ?_
    have step := ih (i + 1) (by omega)
    rw [List.range_succ, List.filter_append, List.length_append] at step
    by_cases hk : r.getD i 0 = i
    · refine ev_pos (by omega) ?_
      rw [w64s (by omega)]
      have e : ([i].filter fun k => r.getD k 0 == k).length = 1 := by
        rw [List.filter_cons, if_pos (by rw [hk]; exact beq_self_eq_true i)]
        rfl
      rw [e] at step
      exact step
    · refine ev_neg (by omega) ?_
      have e : ([i].filter fun k => r.getD k 0 == k).length = 0 := by
        rw [List.filter_cons, if_neg (by rw [beq_iff_eq]; exact hk)]
        rfl
      rw [e] at step
      exact step
theorem FnLinkWorlds : laws_FnLinkWorlds.Pure := by
  intro l h1 h2 hw
  refine Ev.rounds ?_
  unfold laws_FnLinkWorlds.f
  by_cases h : (l.length : Int) > 1048576
  · exact ev_pos h (ev_ret rfl)
  refine ev_neg h ?_
  obtain ⟨b, hb, hB⟩ := openE l hw
  obtain ⟨n, s, q, hd, hs, hq⟩ := l20LinksE b hB 0 (by omega)
  have hD : Ev (fun k => spec_DrawLinkWorlds.f k l) (n, s) := by
    unfold spec_DrawLinkWorlds.f
    refine ev_bindc hb ?_
    refine ev_bind hd ?_
    exact ev_ret rfl
  refine ev_bind hD ?_
  dsimp only
  refine ev_bind (impl_linkWorldsE n s (by omega)) ?_
  refine ev_bind (spec_linkWorldsE n s (by omega)) ?_
  refine ev_pos rfl ?_
  unfold linkWorldsF
  by_cases hL : LinksP n s
  · rw [if_pos ((linksB_iff n s).2 hL)]
    obtain ⟨m, rfl⟩ : ∃ m : Nat, n = (m : Int) := ⟨n.toNat, by have := hL.2.1; omega⟩
    have hm := hL.2.1
    rw [Int.toNat_natCast, pop_links m (by omega)]
    refine ev_neg (by omega) ?_
    refine ev_bind (impl_groupsE (m : Int) s (by omega)) ?_
    obtain ⟨e1, e2⟩ := groups_row hL
    rw [e1]
    have hwd := worlds_of (T := edgesT s) (by omega) (by omega) (by rw [edg_edgesT]; exact e2) (edges_row hL)
    exact law_l0 m s hL _ _ e2.1.1 rfl hwd m 0 (by omega)
  · rw [if_neg fun h => hL ((linksB_iff n s).1 h)]
    refine ev_pos (by decide) ?_
    refine ev_pos rfl ?_
    refine ev_bind (impl_linksE n s (by omega)) ?_
    refine ev_neg (fun h => hL ((linksB_iff n s).1 h)) ?_
    exact ev_bindc alive_ok (ev_ret rfl)
end Go.Proofs.Ytbhmippoeimliaa.Pure

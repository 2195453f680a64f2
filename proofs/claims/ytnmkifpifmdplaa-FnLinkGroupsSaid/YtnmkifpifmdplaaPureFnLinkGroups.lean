/- LinkGroups: both of each link are in one group, each group is told by its least person, and with links in the other order it is the same, whatever is drawn: no condition. -/
import Derived.Test.YtnmkifpifmdplaaMGroupsE
import Derived.Test.YtnmkifpifmdplaaMLinksDraw
import Derived.Test.YtnmkifpifmdplaaPx23
import Derived.Test.YtnmkifpifmdplaaPx21
import Derived.Test.YtnmkifpifmdplaaPx19
import Derived.Test.YtnmkifpifmdplaaPx9
set_option linter.unusedVariables false
set_option linter.unusedSimpArgs false
namespace Go.Proofs.Ytnmkifpifmdplaa.Pure
open Go Go.RowKit Go.Proofs.Ytnmkifpifmdplaa.P Go.Proofs.YtnmkifpifmdplaaW.PrintWords Go.Proofs.YtnmkifpifmdplaaW.PrintLast Go.Proofs.Ytnmkifpifmdplaa.M
theorem alive_ok : laws_alive.f = some true := by decide +kernel
theorem same_l (l : List Int) (hn : l.length ≤ 1048576) : ∀ d i, i + d = l.length → Ev (fun k => laws_sameInts.l0 k l l (i : Int)) true := by
  intro d
  induction d with
  | zero =>
    intro i hi
    refine Ev.step (fun k => by rw [laws_sameInts.l0]) ?_
    exact ev_neg (by omega) (ev_ret rfl)
  | succ d ih =>
    intro i hi
    refine Ev.step (fun k => by rw [laws_sameInts.l0]) ?_
    rw [w64s (by omega)]
    refine ev_pos (by omega) ?_
    refine ev_pos (by omega) ?_
    refine ev_pos (by omega) ?_
    exact ev_pos rfl (ih (i + 1) (by omega))
theorem same_ints (l : List Int) (hn : l.length ≤ 1048576) : Ev (fun k => laws_sameInts.f k l l) true := by
  unfold laws_sameInts.f
  exact ev_pos rfl (same_l l hn l.length 0 (by omega))
theorem back_ok {n : Int} {s : List Lnk} (h : LinksP n s) : LinksP n s.reverse := by
  refine ⟨fun i hi => ?_, h.2.1, by simpa using h.2.2⟩
  rw [List.length_reverse] at hi
  have := h.1 (s.length - 1 - i) (by omega)
  rw [getD_lt _ _ _ (by omega)] at this
  rw [getD_lt _ _ _ (by simpa using hi), List.getElem_reverse]
  exact this
theorem law_l1 (n : Nat) (s : List Lnk) (h : LinksP n s) (r : List Nat) (hr : IsRow n (edgesOf s) r) (he : groupsF n s = castL r) : ∀ d i, i + d = n → Ev (fun k => laws_FnLinkGroups.l1 k (n : Int) (castL r) s.reverse (i : Int)) true := by
  have hn := h.2.1
  have hl := h.2.2
  have hrl := hr.1.1
  intro d
  induction d with
  | zero =>
    intro i hi
    refine Ev.step (fun k => by rw [laws_FnLinkGroups.l1]) ?_
    refine ev_neg (by omega) ?_
    rw [castL_len, hrl]
    refine ev_pos rfl ?_
    refine ev_bind (impl_groupsE n s.reverse (by rw [List.length_reverse]; omega)) ?_
    have e : groupsF n s.reverse = castL r := by
      obtain ⟨e1, e2⟩ := groups_row (back_ok h)
      rw [e1, isRow_uniq e2 (isRow_same (fun e => ?_) hr)]
      unfold edgesOf
      simp
    rw [e]
    exact ev_bind (same_ints _ (by rw [castL_len]; omega)) (ev_ret rfl)
  | succ d ih =>
    intro i hi
    have hw := hr.1.2 i (by omega)
    have hi' := isRow_idem hr (j := i) (by omega)
    refine Ev.step (fun k => by rw [laws_FnLinkGroups.l1]) ?_
    rw [castL_len, rdN, castL_getD, rdN, castL_getD, hi', w64s (by omega)]
    refine ev_pos (by omega) ?_
    refine ev_pos (by omega) ?_
    refine ev_pos (by omega) ?_
    refine ev_neg (by omega) ?_
    refine ev_pos (by omega) ?_
    refine ev_pos (by omega) ?_
    exact ev_pos rfl (ih (i + 1) (by omega))
theorem law_l0 (n : Nat) (s : List Lnk) (h : LinksP n s) (r : List Nat) (hr : IsRow n (edgesOf s) r) (he : groupsF n s = castL r) : ∀ d i, i + d = s.length → Ev (fun k => laws_FnLinkGroups.l0 k (n : Int) s (castL r) (s.take i).reverse (i : Int)) true := by
  have hn := h.2.1
  have hl := h.2.2
  have hrl := hr.1.1
  intro d
  induction d with
  | zero =>
    intro i hi
    refine Ev.step (fun k => by rw [laws_FnLinkGroups.l0]) ?_
    refine ev_neg (by omega) ?_
    rw [List.take_of_length_le (by omega)]
    exact law_l1 n s h r hr he n 0 (by omega)
  | succ d ih =>
    intro i hi
    obtain ⟨h0, h1, h2, h3⟩ := h.1 i (by omega)
    refine Ev.step (fun k => by rw [laws_FnLinkGroups.l0]) ?_
    rw [rdLnk, castL_len, rd_castL _ _ h0, rd_castL _ _ h2, w64s (by omega)]
    refine ev_pos (by omega) ?_
    refine ev_pos (by omega) ?_
    refine ev_bindc (a := [(s.getD i zL)]) rfl ?_
    refine ev_pos (by simp; omega) ?_
    refine ev_pos h0 ?_
    refine ev_pos (by omega) ?_
    refine ev_pos h2 ?_
    refine ev_pos (by omega) ?_
    refine ev_pos ?_ ?_
    · have := hr.2 (edgeOf (s.getD i zL)) (List.mem_map.2 ⟨_, getD_mem s zL i (by omega), rfl⟩)
      exact congrArg (fun x : Nat => (x : Int)) this
    · have e : [s.getD i zL] ++ (s.take i).reverse = (s.take (i + 1)).reverse := by
        rw [List.take_add_one, List.reverse_append, getD_lt s zL i (by omega), List.getElem?_eq_getElem (by omega)]
        rfl
      rw [e]
      exact ih (i + 1) (by omega)
theorem FnLinkGroups : laws_FnLinkGroups.Pure := by
  intro l h1 h2 hw
  refine Ev.rounds ?_
  unfold laws_FnLinkGroups.f
  by_cases h : (l.length : Int) > 1048576
  · exact ev_pos h (ev_ret rfl)
  refine ev_neg h ?_
  obtain ⟨b, hb, hB⟩ := openE l hw
  obtain ⟨n, s, q, hd, hs, hq⟩ := l20LinksE b hB 0 (by omega)
  have hD : Ev (fun k => spec_DrawLinkGroups.f k l) (n, s) := by
    unfold spec_DrawLinkGroups.f
    refine ev_bindc hb ?_
    refine ev_bind hd ?_
    exact ev_ret rfl
  refine ev_bind hD ?_
  dsimp only
  refine ev_bind (impl_groupsE n s (by omega)) ?_
  refine ev_bind (spec_groupsE n s (by omega)) ?_
  by_cases hL : LinksP n s
  · obtain ⟨m, rfl⟩ : ∃ m : Nat, n = (m : Int) := ⟨n.toNat, by have := hL.2.1; omega⟩
    have hm := hL.2.1
    obtain ⟨e1, e2⟩ := groups_row hL
    have hrl := e2.1.1
    have e3 := e1
    rw [e1]
    generalize roundsR (edgesOf s) (List.range m) m = r at e1 e2 hrl ⊢
    refine ev_bind (same_ints _ (by rw [castL_len]; omega)) ?_
    refine ev_pos rfl ?_
    refine ev_neg (by rw [castL_len]; omega) ?_
    exact law_l0 m s hL r e2 e1 s.length 0 (by omega)
  · have e : groupsF n s = [] := by
      unfold groupsF
      rw [if_neg fun h => hL ((linksB_iff n s).1 h)]
    rw [e]
    refine ev_bind (same_ints [] (by decide)) ?_
    refine ev_pos rfl ?_
    refine ev_pos rfl ?_
    refine ev_bind (impl_linksE n s (by omega)) ?_
    refine ev_neg (fun h => hL ((linksB_iff n s).1 h)) ?_
    exact ev_bindc alive_ok (ev_ret rfl)
end Go.Proofs.Ytnmkifpifmdplaa.Pure

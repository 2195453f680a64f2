/- LinkWorlds: with a link more between two people of one group the worlds are the same, or none; between two groups they are half as many, if that are links: here by the first person of the last one, whatever is drawn: no condition. -/
import Derived.Test.YtbhmippoeimliaaMAllFnLinkClash
import Derived.Test.YtbhmippoeimliaaPx19
import Derived.Test.YtbhmippoeimliaaPx2
import Derived.Test.YtbhmippoeimliaaPx9
set_option linter.unusedVariables false
set_option linter.unusedSimpArgs false
namespace Go.Proofs.Ytbhmippoeimliaa.Pure
open Go Go.RowKit Go.Proofs.Ytbhmippoeimliaa.P Go.Proofs.YtbhmippoeimliaaW.PrintWords Go.Proofs.YtbhmippoeimliaaW.PrintLast Go.Proofs.Ytbhmippoeimliaa.M
theorem alive_ok : laws_alive.f = some true := by decide +kernel
theorem more_ok (m : Nat) (s : List Lnk) (h : LinksP m s) (h6 : s.length < 6) : LinksP m (s ++ [(⟨0, (m : Int) - 1, true⟩ : Lnk)]) := by
  have hm := h.2.1
  refine ⟨fun i hi => ?_, h.2.1, by simp; omega⟩
  rw [List.length_append, List.length_singleton] at hi
  by_cases e : i < s.length
  · have := h.1 i e
    rw [List.getD_eq_getElem?_getD] at this ⊢
    rw [List.getElem?_append_left e]
    exact this
  · obtain rfl : i = s.length := by omega
    rw [List.getD_eq_getElem?_getD, List.getElem?_append_right (Nat.le_refl _), Nat.sub_self]
    exact ⟨Int.le_refl _, by show (0 : Int) < m; omega, by show (0 : Int) ≤ (m : Int) - 1; omega, by show (m : Int) - 1 < m; omega⟩
theorem FnLinkClash : laws_FnLinkClash.Pure := by
  intro l h1 h2 hw
  refine Ev.rounds ?_
  unfold laws_FnLinkClash.f
  by_cases h : (l.length : Int) > 1048576
  · exact ev_pos h (ev_ret rfl)
  refine ev_neg h ?_
  obtain ⟨b, hb, hB⟩ := openE l hw
  obtain ⟨n, s, q, hd, hs, hq⟩ := l20LinksE b hB 0 (by omega)
  have hD : Ev (fun k => spec_DrawLinkWorlds.f k l) (n, s) := by
    unfold spec_DrawLinkWorlds.f
    refine ev_bindc hb ?_
    refine ev_bind hd ?_
    exact ev_ret rfl
  refine ev_bind hD ?_
  dsimp only
  refine ev_bind (impl_linkWorldsE n s (by omega)) ?_
  have out : ∀ c : Int, -1 ≤ c → Ev (fun k => laws_FnLinkClash.j0 k n s c true) true := fun c hc => by
    refine Ev.step (fun k => by rw [laws_FnLinkClash.j0]) ?_
    refine ev_pos rfl ?_
    refine ev_pos (by omega) ?_
    exact ev_bindc alive_ok (ev_ret rfl)
  by_cases hL : LinksP n s
  · have ef : linkWorldsF n s = ((popN 16 (tabS n.toNat (s.map linkC)) : Nat) : Int) := if_pos ((linksB_iff n s).2 hL)
    rw [ef]
    refine ev_neg (by omega) ?_
    by_cases h6 : (s.length : Int) ≥ 6
    · rw [decide_eq_true h6]
      exact out _ (by omega)
    rw [decide_eq_false h6]
    obtain ⟨m, rfl⟩ : ∃ m : Nat, n = (m : Int) := ⟨n.toNat, by have := hL.2.1; omega⟩
    have hm := hL.2.1
    rw [Int.toNat_natCast, pop_links m (by omega)]
    refine Ev.step (fun k => by rw [laws_FnLinkClash.j0]) ?_
    refine ev_neg (by decide) ?_
    refine ev_bind (impl_groupsE (m : Int) s (by omega)) ?_
    obtain ⟨e1, e2⟩ := groups_row hL
    have hrl := e2.1.1
    rw [e1]
    have hwd := worlds_more (T := edgesT s) (by omega) (by omega) (by rw [edg_edgesT]; exact e2) (edges_row hL)
    generalize roundsR (edgesOf s) (List.range m) m = r at e1 e2 hrl hwd ⊢
    rw [w64 (x := (m : Int) - 1) (by omega) (by omega)]
    refine ev_bindc (a := []) rfl ?_
    refine ev_pos (by simp; omega) ?_
    refine ev_bindc (a := s) rfl ?_
    refine ev_pos (by omega) ?_
    have hmore := more_ok m s hL (by omega)
    refine ev_bind (impl_linkWorldsE (m : Int) _ (by simp; omega)) ?_
    have ef2 : linkWorldsF (m : Int) (s ++ [(⟨0, (m : Int) - 1, true⟩ : Lnk)]) = ((cntW m (satT (edgesT s ++ [(0, m - 1, true)])) : Nat) : Int) := by
      unfold linkWorldsF
      rw [if_pos ((linksB_iff _ _).2 hmore), Int.toNat_natCast, pop_links m (by omega)]
      have e : edgesT (s ++ [(⟨0, (m : Int) - 1, true⟩ : Lnk)]) = edgesT s ++ [(0, m - 1, true)] := by
        unfold edgesT
        rw [List.map_append]
        have : ((m : Int) - 1).toNat = m - 1 := by omega
        simp [this]
      rw [e]
    rw [ef2, castL_len, hrl]
    have hle : cntW m (satT (edgesT s ++ [(0, m - 1, true)])) ≤ 16 := by
      have := pwm4 (n := m) (by omega)
      unfold cntW
      refine Nat.le_trans (List.length_filter_le _ _) ?_
      rw [List.length_range']
      omega
    generalize cntW m (satT (edgesT s ++ [(0, m - 1, true)])) = x at hwd hle ⊢
    generalize cntW m (satT (edgesT s)) = y at hwd ⊢
    refine ev_pos rfl ?_
    refine ev_pos (by omega) ?_
    refine ev_pos (by omega) ?_
    refine ev_pos (by omega) ?_
    rw [show (0 : Int) = ((0 : Nat) : Int) from rfl, show (m : Int) - 1 = ((m - 1 : Nat) : Int) by omega, rdN, castL_getD, rdN, castL_getD]
    by_cases e : r.getD 0 0 = r.getD (m - 1) 0
    · refine ev_pos (by omega) ?_
      rcases hwd.1 e with h' | h'
      · exact ev_pos (by omega) (ev_ret rfl)
      · by_cases e' : (x : Int) = (y : Int)
        · exact ev_pos e' (ev_ret rfl)
        · refine ev_neg e' (ev_ret ?_)
          rw [beq_iff_eq]
          omega
    · refine ev_neg (by omega) ?_
      have h' := hwd.2 e
      refine ev_bindc alive_ok ?_
      refine ev_pos rfl (ev_ret ?_)
      rw [w64 (by omega) (by omega), beq_iff_eq]
      omega
  · have ef : linkWorldsF n s = -1 := if_neg fun h => hL ((linksB_iff n s).1 h)
    rw [ef]
    exact ev_pos (by decide) (out _ (by decide))
end Go.Proofs.Ytbhmippoeimliaa.Pure

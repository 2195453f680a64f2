/- The program's LinkGroups returns what the reference's returns, for all arguments, and leaves them as they were: no condition. -/
import Derived.Test.YtnmkifpifmdplaaMGroupsE
import Derived.Test.YtnmkifpifmdplaaMExactLinks
import Derived.Test.YtnmkifpifmdplaaMMarkI
import Derived.Test.YtnmkifpifmdplaaMMarkL
import Derived.Test.YtnmkifpifmdplaaPx25
set_option linter.unusedVariables false
set_option linter.unusedSimpArgs false
namespace Go.Proofs.Ytnmkifpifmdplaa.Pure
open Go Go.RowKit Go.Proofs.Ytnmkifpifmdplaa.P Go.Proofs.YtnmkifpifmdplaaW.PrintWords Go.Proofs.YtnmkifpifmdplaaW.PrintLast Go.Proofs.Ytnmkifpifmdplaa.M
theorem groups_len (n : Int) (s : List Lnk) : (groupsF n s).length ≤ 4 := by
  unfold groupsF
  by_cases h : linksB n s = true
  · rw [if_pos h, castL_len]
    have hL := (linksB_iff n s).1 h
    obtain ⟨m, rfl⟩ : ∃ m : Nat, n = (m : Int) := ⟨n.toNat, by have := hL.2.1; omega⟩
    rw [Int.toNat_natCast, (isRow_rounds (edges_in hL)).1.1]
    have := hL.2.1
    omega
  · rw [if_neg h]
    exact Nat.zero_le _
theorem FnExactLinkGroups : laws_FnExactLinkGroups.Pure := by
  intro n l _ hl
  refine Ev.rounds ?_
  unfold laws_FnExactLinkGroups.f
  obtain ⟨r, hr, hsm⟩ := sz_links l hl.1
  refine ev_bindc hr ?_
  by_cases h0 : r < 0
  · exact ev_pos h0 (ev_ret rfl)
  refine ev_neg h0 ?_
  have hn := hsm (by omega)
  have hlen : (l.map toL).length < 4611686018427387904 := by rw [List.length_map]; omega
  have hg := groups_len n (l.map toL)
  obtain ⟨b, y, hm⟩ := mark_links (l.map toL) (by simpa using hn)
  refine ev_bind (to_links l hn) ?_
  refine ev_bind (spec_groupsE n (l.map toL) hlen) ?_
  refine ev_bind (to_links l hn) ?_
  refine ev_bind (impl_groupsE n (l.map toL) hlen) ?_
  refine ev_bind (eq_ints _ (by omega)) ?_
  refine ev_pos rfl ?_
  refine ev_bind (to_links l hn) ?_
  refine ev_bind (eq_links (l.map toL) (by simpa using hn)) ?_
  refine ev_pos rfl ?_
  refine ev_bind hm ?_
  refine ev_neg (by show ¬ ((b : Int) < 0); omega) ?_
  refine ev_bind (eq_ints _ (by omega)) ?_
  refine Ev.step (fun k => by rw [laws_FnExactLinkGroups.j0]) ?_
  refine ev_neg (by decide) ?_
  refine ev_bind (mark_int _ 1 (by omega) (by decide) (by decide)) ?_
  refine ev_bind (held_int _ 1 (by omega) (by decide) (by decide)) ?_
  refine ev_neg (by omega) ?_
  refine ev_pos rfl ?_
  refine ev_bind (to_links l hn) ?_
  refine ev_bind (impl_groupsE n (l.map toL) hlen) ?_
  refine ev_bind (eq_ints _ (by omega)) ?_
  refine ev_pos rfl ?_
  refine ev_bind (held_int _ 1 (by omega) (by decide) (by decide)) ?_
  refine ev_neg (by omega) ?_
  exact ev_pos rfl (ev_ret rfl)
end Go.Proofs.Ytnmkifpifmdplaa.Pure

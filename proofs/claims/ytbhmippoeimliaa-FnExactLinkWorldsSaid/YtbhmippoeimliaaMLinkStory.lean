/- The story of links: both LinkStory tell it. -/
import Derived.Test.YtbhmippoeimliaaMStoryS
import Derived.Test.YtbhmippoeimliaaMLinksOk
import Derived.Test.YtbhmippoeimliaaPx5
import Derived.Test.YtbhmippoeimliaaPx5
import Derived.Test.YtbhmippoeimliaaPx5
import Derived.Test.YtbhmippoeimliaaPx4
import Derived.Test.YtbhmippoeimliaaPx12
import Derived.Test.YtbhmippoeimliaaPx12
set_option linter.unusedVariables false
set_option linter.unusedSimpArgs false
namespace Go.Proofs.Ytbhmippoeimliaa.M
open Go Go.RowKit Go.Proofs.YtbhmippoeimliaaW.PrintWords Go.Proofs.Ytbhmippoeimliaa.P
/-- What a link says. -/
def linkM (l : Lnk) : List Mk := if l.f2 = true then [⟨0, l.f1⟩] else [⟨0, l.f1⟩, ⟨2, 0⟩]
def linkC (l : Lnk) : Cl := ⟨l.f0, linkM l⟩
theorem linkM_len (l : Lnk) : (linkM l).length ≤ 2 := by
  unfold linkM
  split <;> simp
theorem linkM_ok (n : Int) (l : Lnk) (hn : 1 ≤ n ∧ n ≤ 4) (h : LinkIn n l) : ClaimP n l.f0 (linkM l) := by
  obtain ⟨h0, h1, h2, h3⟩ := h
  refine ⟨h0, h1, ?_, by have := linkM_len l; omega⟩
  unfold linkM
  split
  · exact termP_enc n (.leaf ⟨0, l.f1⟩) hn (.inl ⟨rfl, h2, h3⟩) (by simp [Tm.enc])
  · exact termP_enc n (.neg (.leaf ⟨0, l.f1⟩)) hn (show Tm.Ok n (.leaf ⟨0, l.f1⟩) from .inl ⟨rfl, h2, h3⟩) (by simp [Tm.enc])
theorem linkM_64 (n : Int) (l : Lnk) (hn : 1 ≤ n ∧ n ≤ 4) (h : LinkIn n l) : M64 (linkM l) := by
  obtain ⟨h0, h1, h2, h3⟩ := h
  refine getD_all (linkM l) zM (fun m => m.f1 ≤ 9223372036854775807) (by decide) fun m hm => ?_
  unfold linkM at hm
  split at hm
  · obtain rfl : m = ⟨0, l.f1⟩ := by simpa using hm
    show l.f1 ≤ _
    omega
  · rcases List.mem_cons.1 hm with rfl | hm
    · show l.f1 ≤ _
      omega
    · obtain rfl : m = ⟨2, 0⟩ := by simpa using hm
      decide
theorem impl_clone (l : List Mk) (h : l.length < 8796093022208) : impl_Mark.f l = some l := by
  unfold impl_Mark.f
  simp [h]
theorem impl_claimByE (n who : Int) (l : List Mk) (h : ClaimP n who l) : Ev (fun k => impl_claimBy.f k n who l) (who, l, true) := by
  have hl := h.2.2.2
  unfold impl_claimBy.f
  refine ev_bindc (impl_clone l (by omega)) ?_
  refine ev_bind ((impl_claimOk n who l).ev (b := true) ⟨fun _ => h, fun _ => rfl⟩) ?_
  exact ev_pos rfl (ev_ret rfl)
theorem impl_kindE (n : Int) (l : Lnk) (hn : 1 ≤ n ∧ n ≤ 4) (h : LinkIn n l) : Ev (fun k => impl_KindClaim.f k n l.f0 l.f1 l.f2) (l.f0, linkM l, true) := by
  have hc := linkM_ok n l hn h
  unfold impl_KindClaim.f
  refine ev_bindc rfl ?_
  unfold linkM at *
  by_cases ht : l.f2 = true
  · rw [if_pos ht] at *
    refine ev_pos ht ?_
    exact ev_bind (impl_claimByE n _ _ hc) (ev_ret rfl)
  · rw [if_neg ht] at *
    refine ev_neg ht ?_
    refine ev_pos (by simp) ?_
    exact ev_bind (impl_claimByE n _ _ hc) (ev_ret rfl)
theorem spec_kindE (n : Int) (l : Lnk) (hn : 1 ≤ n ∧ n ≤ 4) (h : LinkIn n l) : Ev (fun k => spec_KindClaim.f k n l.f0 l.f1 l.f2) (l.f0, linkM l, true) := by
  have hc := linkM_ok n l hn h
  have h64 := linkM_64 n l hn h
  have hlen := linkM_len l
  unfold spec_KindClaim.f
  refine ev_bindc rfl ?_
  unfold linkM at *
  by_cases ht : l.f2 = true
  · rw [if_pos ht] at *
    refine ev_pos ht ?_
    refine ev_bind ((spec_claimOk n (by omega) _ _ h64 (by omega)).ev (b := true) ⟨fun _ => hc, fun _ => rfl⟩) ?_
    exact ev_pos rfl (ev_ret rfl)
  · rw [if_neg ht] at *
    refine ev_neg ht ?_
    refine ev_pos (by simp) ?_
    refine ev_bindc rfl ?_
    refine ev_bind ((spec_claimOk n (by omega) _ _ h64 (by omega)).ev (b := true) ⟨fun _ => hc, fun _ => rfl⟩) ?_
    exact ev_pos rfl (ev_ret rfl)
theorem map_take_succ (s : List Lnk) (i : Nat) (h : i < s.length) : (s.take i).map linkC ++ [linkC (s.getD i zL)] = (s.take (i + 1)).map linkC := by
  rw [List.take_add_one, List.map_append, getD_lt s zL i h, List.getElem?_eq_getElem h]
  rfl
theorem impl_linkStory_l (n : Int) (s : List Lnk) (h : LinksP n s) : ∀ d i : Nat, i + d = s.length →
    Ev (fun k => impl_LinkStory.l0 k n ((s.take i).map linkC) s (s.length : Int) (i : Int)) (s.map linkC, true) := by
  intro d
  have hl := h.2.2
  induction d with
  | zero =>
    intro i hi
    refine Ev.step (fun k => by rw [impl_LinkStory.l0]) ?_
    refine ev_neg (by omega) (ev_ret ?_)
    rw [List.take_of_length_le (by omega)]
  | succ d ih =>
    intro i hi
    refine Ev.step (fun k => by rw [impl_LinkStory.l0]) ?_
    rw [rdLnk, w64s (i := i) (by omega)]
    refine ev_pos (by omega) ?_
    refine ev_pos (by omega) ?_
    refine ev_pos (by omega) ?_
    refine ev_bind (impl_kindE n _ h.2.1 (h.1 i (by omega))) ?_
    refine ev_pos (by simp; omega) ?_
    have := ih (i + 1) (by omega)
    rw [← map_take_succ s i (by omega)] at this
    exact this
theorem spec_linkStory_l (n : Int) (s : List Lnk) (h : LinksP n s) : ∀ d i : Nat, i + d = s.length →
    Ev (fun k => spec_LinkStory.l0 k n s ((s.take i).map linkC) (i : Int)) (s.map linkC, true) := by
  intro d
  have hl := h.2.2
  induction d with
  | zero =>
    intro i hi
    refine Ev.step (fun k => by rw [spec_LinkStory.l0]) ?_
    refine ev_neg (by omega) (ev_ret ?_)
    rw [List.take_of_length_le (by omega)]
  | succ d ih =>
    intro i hi
    refine Ev.step (fun k => by rw [spec_LinkStory.l0]) ?_
    rw [rdLnk, w64s (i := i) (by omega)]
    refine ev_pos (by omega) ?_
    refine ev_pos (by omega) ?_
    refine ev_bind (spec_kindE n _ h.2.1 (h.1 i (by omega))) ?_
    refine ev_pos (by simp; omega) ?_
    have := ih (i + 1) (by omega)
    rw [← map_take_succ s i (by omega)] at this
    exact this
/-- LinkStory, as both tell it. -/
noncomputable def linkStoryF (n : Int) (s : List Lnk) : List Cl × Bool := if linksB n s = true then (s.map linkC, true) else ([], false)
theorem impl_linkStoryE (n : Int) (s : List Lnk) (hs : s.length < 4611686018427387904) : Ev (fun k => impl_LinkStory.f k n s) (linkStoryF n s) := by
  unfold impl_LinkStory.f linkStoryF
  refine ev_bind (impl_linksE n s hs) ?_
  by_cases h : linksB n s = true
  · refine ev_pos h ?_
    rw [if_pos h]
    exact impl_linkStory_l n s ((linksB_iff n s).1 h) s.length 0 (by omega)
  · refine ev_neg h (ev_ret ?_)
    rw [if_neg h]
theorem spec_linkStoryE (n : Int) (s : List Lnk) (hs : s.length < 4611686018427387904) : Ev (fun k => spec_LinkStory.f k n s) (linkStoryF n s) := by
  unfold spec_LinkStory.f linkStoryF
  refine ev_bindc rfl ?_
  refine ev_bind (spec_linksE n s hs) ?_
  by_cases h : linksB n s = true
  · refine ev_pos h ?_
    rw [if_pos h]
    exact spec_linkStory_l n s ((linksB_iff n s).1 h) s.length 0 (by omega)
  · refine ev_neg h (ev_ret ?_)
    rw [if_neg h]
theorem linkStory_ok (n : Int) (s : List Lnk) (h : LinksP n s) : StoryP n (s.map linkC) := by
  refine ⟨fun i hi => ?_, h.2.1, by simpa using h.2.2⟩
  rw [List.length_map] at hi
  have e : (s.map linkC).getD i zC = linkC (s.getD i zL) := by
    rw [getD_lt _ _ _ (by simpa using hi), getD_lt _ _ _ hi, List.getElem_map]
  rw [e]
  exact linkM_ok n _ h.2.1 (h.1 i hi)
end Go.Proofs.Ytbhmippoeimliaa.M

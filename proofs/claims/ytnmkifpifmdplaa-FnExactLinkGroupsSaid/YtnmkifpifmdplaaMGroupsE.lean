/- LinkGroups of the program and of the reference: both tell the row of least ones. -/
import Derived.Test.YtnmkifpifmdplaaMGroups
import Derived.Test.YtnmkifpifmdplaaMCast
import Derived.Test.YtnmkifpifmdplaaMLinksOk
import Derived.Test.YtnmkifpifmdplaaPx20
import Derived.Test.YtnmkifpifmdplaaPx22
set_option linter.unusedVariables false
set_option linter.unusedSimpArgs false
namespace Go.Proofs.Ytnmkifpifmdplaa.M
open Go Go.RowKit Go.Proofs.YtnmkifpifmdplaaW.PrintWords Go.Proofs.Ytnmkifpifmdplaa.P
def edgeOf (l : Lnk) : Nat × Nat := (l.f0.toNat, l.f1.toNat)
def edgesOf (s : List Lnk) : Edges := s.map edgeOf
theorem edges_in {n : Nat} {s : List Lnk} (h : LinksP n s) : ∀ e ∈ edgesOf s, e.1 < n ∧ e.2 < n := fun e he => by
  obtain ⟨l, hl, rfl⟩ := List.mem_map.1 he
  obtain ⟨i, hi, e⟩ := List.getElem_of_mem hl
  have := h.1 i hi
  rw [getD_lt _ _ _ hi, e] at this
  obtain ⟨h0, h1, h2, h3⟩ := this
  constructor
  · show l.f0.toNat < n
    omega
  · show l.f1.toNat < n
    omega
theorem mnN (a b : Nat) : mn (a : Int) (b : Int) = ((min a b : Nat) : Int) := by
  unfold mn
  split <;> omega
theorem mxN (a b : Nat) : mx (a : Int) (b : Int) = ((max a b : Nat) : Int) := by
  unfold mx
  split <;> omega
theorem castL_set (r : List Nat) (i x : Nat) : (castL r).set i (x : Int) = castL (r.set i x) := by simp [castL, List.map_set]
theorem castL_snoc (r : List Nat) (x : Nat) : castL r ++ [(x : Int)] = castL (r ++ [x]) := by simp [castL]
theorem rd_castL (r : List Nat) (i : Int) (h : 0 ≤ i) : rd (castL r) i = ((r.getD i.toNat 0 : Nat) : Int) := by
  obtain ⟨m, rfl⟩ : ∃ m : Nat, i = (m : Int) := ⟨i.toNat, by omega⟩
  rw [rdN, castL_getD, Int.toNat_natCast]
theorem low_cast (r : List Nat) (l : Lnk) (h0 : 0 ≤ l.f0) (h1 : 0 ≤ l.f1) : ((castL r).set l.f0.toNat (mn (rd (castL r) l.f0) (rd (castL r) l.f1))).set l.f1.toNat (mn (rd (castL r) l.f0) (rd (castL r) l.f1)) = castL (lowL r (edgeOf l)) := by
  rw [rd_castL _ _ h0, rd_castL _ _ h1, mnN, castL_set, castL_set]
  rfl
theorem fold_len (L : Edges) : ∀ r : List Nat, (L.foldl lowL r).length = r.length := by
  induction L with
  | nil => exact fun r => rfl
  | cons x L ih => exact fun r => by rw [List.foldl_cons, ih, lowL_len]
theorem rounds_front (E : Edges) (r : List Nat) (t : Nat) : roundsR E (E.foldl lowL r) t = roundsR E r (t + 1) := by
  induction t with
  | zero => rfl
  | succ t ih =>
    show E.foldl lowL (roundsR E (E.foldl lowL r) t) = _
    rw [ih]
    rfl
theorem drop_L (s : List Lnk) (i : Nat) (h : i < s.length) : s.drop i = s.getD i zL :: s.drop (i + 1) := by
  rw [List.drop_eq_getElem_cons h, getD_lt s zL i h]
theorem impl_groups_l2 (n : Nat) (s : List Lnk) (h : LinksP n s) (t : Int) (v : List Int) : ∀ d i (r : List Nat), i + d = s.length → r.length = n →
    Ev (fun k => impl_LinkGroups.l1 k s (castL ((edgesOf (s.drop i)).foldl lowL r)) (n : Int) (wrap64 (t + 1))) v → Ev (fun k => impl_LinkGroups.l2 k s (castL r) (n : Int) t s (s.length : Int) (i : Int)) v := by
  have hl := h.2.2
  intro d
  induction d with
  | zero =>
    intro i r hi hr hE
    refine Ev.step (fun k => by rw [impl_LinkGroups.l2]) ?_
    refine ev_neg (by omega) ?_
    rw [List.drop_eq_nil_of_le (by omega)] at hE
    exact hE
  | succ d ih =>
    intro i r hi hr hE
    obtain ⟨h0, h1, h2, h3⟩ := h.1 i (by omega)
    refine Ev.step (fun k => by rw [impl_LinkGroups.l2]) ?_
    rw [rdLnk, low_cast r _ h0 h2, w64s (by omega), castL_len]
    refine ev_pos (by omega) ?_
    refine ev_pos (by omega) ?_
    refine ev_pos (by omega) ?_
    refine ev_pos h0 ?_
    refine ev_pos (by omega) ?_
    refine ev_pos h2 ?_
    refine ev_pos (by omega) ?_
    refine ih (i + 1) _ (by omega) (by rw [lowL_len, hr]) ?_
    rw [drop_L s i (by omega)] at hE
    exact hE
theorem impl_groups_l1 (n : Nat) (s : List Lnk) (h : LinksP n s) : ∀ d t (r : List Nat), t + d = n → r.length = n → Ev (fun k => impl_LinkGroups.l1 k s (castL r) (n : Int) (t : Int)) (castL (roundsR (edgesOf s) r d)) := by
  have hn := h.2.1
  intro d
  induction d with
  | zero =>
    intro t r ht hr
    refine Ev.step (fun k => by rw [impl_LinkGroups.l1]) ?_
    exact ev_neg (by omega) (ev_ret rfl)
  | succ d ih =>
    intro t r ht hr
    refine Ev.step (fun k => by rw [impl_LinkGroups.l1]) ?_
    refine ev_pos (by omega) ?_
    refine impl_groups_l2 n s h t _ s.length 0 r (by omega) hr ?_
    rw [w64s (by omega), List.drop_zero, ← rounds_front]
    exact ih (t + 1) _ (by omega) (by rw [fold_len, hr])
theorem impl_groups_l0 (n : Nat) (s : List Lnk) (h : LinksP n s) : ∀ d i, i + d = n → Ev (fun k => impl_LinkGroups.l0 k (n : Int) s (castL (List.range i)) (n : Int) (i : Int)) (castL (roundsR (edgesOf s) (List.range n) n)) := by
  have hn := h.2.1
  intro d
  induction d with
  | zero =>
    intro i hi
    obtain rfl : i = n := by omega
    refine Ev.step (fun k => by rw [impl_LinkGroups.l0]) ?_
    refine ev_neg (by omega) ?_
    exact impl_groups_l1 i s h i 0 _ (by omega) List.length_range
  | succ d ih =>
    intro i hi
    refine Ev.step (fun k => by rw [impl_LinkGroups.l0]) ?_
    rw [castL_len, List.length_range, castL_snoc, w64s (by omega), ← List.range_succ]
    refine ev_pos (by omega) ?_
    refine ev_pos (by omega) ?_
    exact ih (i + 1) (by omega)
theorem spec_groups_l1 (n : Nat) (s : List Lnk) (h : LinksP n s) : ∀ d i (r : List Nat), i + d = s.length → IsRow n (edgesOf (s.take i)) r → Ev (fun k => spec_LinkGroups.l1 k (n : Int) s (castL r) (i : Int)) (castL (roundsR (edgesOf s) (List.range n) n)) := by
  have hl := h.2.2
  have hn := h.2.1
  intro d
  induction d with
  | zero =>
    intro i r hi hr
    refine Ev.step (fun k => by rw [spec_LinkGroups.l1]) ?_
    refine ev_neg (by omega) (ev_ret ?_)
    rw [List.take_of_length_le (by omega)] at hr
    rw [isRow_uniq hr (isRow_rounds (edges_in h))]
  | succ d ih =>
    intro i r hi hr
    obtain ⟨h0, h1, h2, h3⟩ := h.1 i (by omega)
    have hrl := hr.1.1
    have hnext : IsRow n (edgesOf (s.take (i + 1))) (joinL (r.getD (s.getD i zL).f0.toNat 0) (r.getD (s.getD i zL).f1.toNat 0) r) := by
      have e : edgesOf (s.take (i + 1)) = edgesOf (s.take i) ++ [edgeOf (s.getD i zL)] := by
        unfold edgesOf
        rw [List.take_add_one, List.map_append, getD_lt s zL i (by omega), List.getElem?_eq_getElem (by omega)]
        rfl
      rw [e]
      refine isRow_join hr (fun x hx => ?_) (by show (s.getD i zL).f0.toNat < n; omega) (by show (s.getD i zL).f1.toNat < n; omega)
      obtain ⟨l, hl', rfl⟩ := List.mem_map.1 hx
      exact edges_in h _ (List.mem_map.2 ⟨l, List.mem_of_mem_take hl', rfl⟩)
    have inner : ∀ e j (p : List Nat), j + e = n → p.length = n → (∀ q, q < j → p.getD q 0 = (joinL (r.getD (s.getD i zL).f0.toNat 0) (r.getD (s.getD i zL).f1.toNat 0) r).getD q 0) → (∀ q, j ≤ q → p.getD q 0 = r.getD q 0) →
        Ev (fun k => spec_LinkGroups.l2 k (n : Int) s (castL p) (i : Int) ((r.getD (s.getD i zL).f0.toNat 0 : Nat) : Int) ((r.getD (s.getD i zL).f1.toNat 0 : Nat) : Int) (j : Int)) (castL (roundsR (edgesOf s) (List.range n) n)) := by
      intro e
      induction e with
      | zero =>
        intro j p hj hp hq1 hq2
        refine Ev.step (fun k => by rw [spec_LinkGroups.l2]) ?_
        refine ev_neg (by omega) ?_
        rw [w64s (by omega)]
        have e : p = joinL (r.getD (s.getD i zL).f0.toNat 0) (r.getD (s.getD i zL).f1.toNat 0) r := ext_getD 0 _ _ (by simp [joinL, hp, hrl]) fun q hq => hq1 q (by simp [joinL, hrl] at hq; omega)
        rw [e]
        exact ih (i + 1) _ (by omega) hnext
      | succ e ihe =>
        intro j p hj hp hq1 hq2
        refine Ev.step (fun k => by rw [spec_LinkGroups.l2]) ?_
        rw [castL_len, rdN, castL_getD, hq2 j (Nat.le_refl _), mxN, mnN, w64s (by omega), Int.toNat_natCast, castL_set]
        refine ev_pos (by omega) ?_
        refine ev_pos (by omega) ?_
        refine ev_pos (by omega) ?_
        have jl := joinL_getD (r.getD (s.getD i zL).f0.toNat 0) (r.getD (s.getD i zL).f1.toNat 0) r j (by omega)
        by_cases hm : r.getD j 0 = max (r.getD (s.getD i zL).f0.toNat 0) (r.getD (s.getD i zL).f1.toNat 0)
        · refine ev_pos (by omega) ?_
          rw [if_pos hm] at jl
          refine ihe (j + 1) _ (by omega) (by simpa using hp) (fun q hq => ?_) (fun q hq => ?_)
          · rw [set_getD 0 _ _ _ (by omega)]
            split
            · rename_i e
              rw [e, jl]
            · exact hq1 q (by omega)
          · rw [set_getD 0 _ _ _ (by omega), if_neg (by omega)]
            exact hq2 q (by omega)
        · refine ev_neg (by omega) ?_
          rw [if_neg hm] at jl
          refine ihe (j + 1) p (by omega) hp (fun q hq => ?_) (fun q hq => hq2 q (by omega))
          by_cases e : q = j
          · rw [e, jl]
            exact hq2 j (Nat.le_refl _)
          · exact hq1 q (by omega)
    refine Ev.step (fun k => by rw [spec_LinkGroups.l1]) ?_
    rw [rdLnk, castL_len, rd_castL _ _ h0, rd_castL _ _ h2]
    refine ev_pos (by omega) ?_
    refine ev_pos (by omega) ?_
    refine ev_pos h0 ?_
    refine ev_pos (by omega) ?_
    refine ev_pos h2 ?_
    refine ev_pos (by omega) ?_
    exact inner n 0 r (by omega) hrl (fun q hq => by omega) (fun q _ => rfl)
theorem spec_groups_l0 (n : Nat) (s : List Lnk) (h : LinksP n s) : ∀ d i, i + d = n → Ev (fun k => spec_LinkGroups.l0 k (n : Int) s (castL (List.range i)) (i : Int)) (castL (roundsR (edgesOf s) (List.range n) n)) := by
  have hn := h.2.1
  intro d
  induction d with
  | zero =>
    intro i hi
    obtain rfl : i = n := by omega
    refine Ev.step (fun k => by rw [spec_LinkGroups.l0]) ?_
    refine ev_neg (by omega) ?_
    exact spec_groups_l1 i s h s.length 0 _ (by omega) (isRow_start i)
  | succ d ih =>
    intro i hi
    refine Ev.step (fun k => by rw [spec_LinkGroups.l0]) ?_
    rw [castL_len, List.length_range, castL_snoc, w64s (by omega), ← List.range_succ]
    refine ev_pos (by omega) ?_
    refine ev_pos (by omega) ?_
    exact ih (i + 1) (by omega)
/-- LinkGroups, as both tell it. -/
noncomputable def groupsF (n : Int) (s : List Lnk) : List Int := if linksB n s = true then castL (roundsR (edgesOf s) (List.range n.toNat) n.toNat) else []
theorem impl_groupsE (n : Int) (s : List Lnk) (hs : s.length < 4611686018427387904) : Ev (fun k => impl_LinkGroups.f k n s) (groupsF n s) := by
  unfold impl_LinkGroups.f groupsF
  refine ev_bind (impl_linksE n s hs) ?_
  by_cases h : linksB n s = true
  · refine ev_pos h ?_
    rw [if_pos h]
    have hL := (linksB_iff n s).1 h
    obtain ⟨m, rfl⟩ : ∃ m : Nat, n = (m : Int) := ⟨n.toNat, by have := hL.2.1; omega⟩
    rw [Int.toNat_natCast]
    exact impl_groups_l0 m s hL m 0 (by omega)
  · refine ev_neg h ?_
    rw [if_neg h]
    exact ev_ret rfl
theorem spec_groupsE (n : Int) (s : List Lnk) (hs : s.length < 4611686018427387904) : Ev (fun k => spec_LinkGroups.f k n s) (groupsF n s) := by
  unfold spec_LinkGroups.f groupsF
  refine ev_bindc rfl ?_
  refine ev_bind (spec_linksE n s hs) ?_
  by_cases h : linksB n s = true
  · refine ev_pos h ?_
    rw [if_pos h]
    have hL := (linksB_iff n s).1 h
    obtain ⟨m, rfl⟩ : ∃ m : Nat, n = (m : Int) := ⟨n.toNat, by have := hL.2.1; omega⟩
    rw [Int.toNat_natCast]
    exact spec_groups_l0 m s hL m 0 (by omega)
  · refine ev_neg h ?_
    rw [if_neg h]
    exact ev_ret rfl
/-- The row of links: what is known of it. -/
theorem groups_row {n : Nat} {s : List Lnk} (h : LinksP n s) : groupsF n s = castL (roundsR (edgesOf s) (List.range n) n) ∧ IsRow n (edgesOf s) (roundsR (edgesOf s) (List.range n) n) := by
  unfold groupsF
  rw [if_pos ((linksB_iff _ _).2 h), Int.toNat_natCast]
  exact ⟨rfl, isRow_rounds (edges_in h)⟩
end Go.Proofs.Ytnmkifpifmdplaa.M

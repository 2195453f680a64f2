/- ProofOk's plain answer, and the world in which it begins to check. (Function and type numbers of this seat stand in this text.) -/
import Derived.Test.YtcaogllnbpmcgaaMAllFnFindProof2
import Derived.Test.YtcaogllnbpmcgaaPx18
import Derived.Laws.MakeOwn
set_option linter.unusedVariables false
set_option linter.unusedSimpArgs false
namespace Go.Proofs.Ytcaogllnbpmcgaa.M
open Go Go.RowKit Go.Proofs.YtcaogllnbpmcgaaW.PrintWords Go.Proofs.Ytcaogllnbpmcgaa.P
theorem rdBl (l : List Bool) (i : Nat) : rdOf false l (i : Int) = l.getD i false := by simp [rdOf]
theorem dropBl (l : List Bool) (i : Nat) (h : i < l.length) : l.drop i = l.getD i false :: l.drop (i + 1) := by
  rw [List.drop_eq_getElem_cons h, List.getD_eq_getElem?_getD, List.getElem?_eq_getElem h]
  rfl
theorem index_false (l : List Bool) (hl : l.length < 1000) : ∀ d i : Nat, i + d = l.length → ∃ r : Int, Ev (fun k => slices_Index_bool_bool.l0 k l false (l.length : Int) (i : Int)) r ∧ (0 ≤ r ↔ false ∈ l.drop i) := by
  intro d
  induction d with
  | zero =>
    intro i hi
    refine ⟨-1, Ev.step (fun k => by rw [slices_Index_bool_bool.l0]) (ev_neg (by omega) (ev_ret rfl)), ?_⟩
    rw [List.drop_eq_nil_of_le (by omega)]
    simp
  | succ d ih =>
    intro i hi
    have hlt : i < l.length := by omega
    cases hb : l.getD i false with
    | false =>
      refine ⟨(i : Int), Ev.step (fun k => by rw [slices_Index_bool_bool.l0]) (ev_pos (by omega) (ev_pos (by omega) (ev_pos (by omega) ?_))), ?_⟩
      · refine ev_pos ?_ (ev_ret rfl)
        rw [rdBl, hb]
        rfl
      · rw [dropBl l i hlt, hb]
        simp
    | true =>
      obtain ⟨r, hr, hi2⟩ := ih (i + 1) (by omega)
      refine ⟨r, Ev.step (fun k => by rw [slices_Index_bool_bool.l0]) (ev_pos (by omega) (ev_pos (by omega) (ev_pos (by omega) ?_))), ?_⟩
      · refine ev_neg ?_ ?_
        · rw [rdBl, hb]
          decide
        · rw [w64s (by omega)]
          exact hr
      · rw [dropBl l i hlt, hb, hi2]
        simp
theorem contains_false (l : List Bool) (hl : l.length < 1000) : ∃ c : Bool, Ev (fun k => slices_Contains_bool_bool.f k l false) c ∧ (c = true ↔ false ∈ l) := by
  obtain ⟨r, hr, hi⟩ := index_false l hl l.length 0 (by omega)
  refine ⟨decide (r ≥ 0), ?_, ?_⟩
  · unfold slices_Contains_bool_bool.f slices_Index_bool_bool.f
    exact ev_bind hr (ev_ret rfl)
  · rw [decide_eq_true_iff, ge_iff_le, hi, List.drop_zero]
theorem made_false (n : Nat) (h : n ≤ 15) : madeCells #[.bool false] n = ((List.replicate n false).map Value.bool).toArray := by
  rcases (by omega : n = 0 ∨ n = 1 ∨ n = 2 ∨ n = 3 ∨ n = 4 ∨ n = 5 ∨ n = 6 ∨ n = 7 ∨ n = 8 ∨ n = 9 ∨ n = 10 ∨ n = 11 ∨ n = 12 ∨ n = 13 ∨ n = 14 ∨ n = 15) with rfl | rfl | rfl | rfl | rfl | rfl | rfl | rfl | rfl | rfl | rfl | rfl | rfl | rfl | rfl | rfl <;> kernel_rfl
theorem CE.row {n : Nat} {s : List Cl} {A1 : Option Addr} {c1 : Nat} {t : List Mk} {A2 : Option Addr} {c2 : Nat} {fi : Int} {S : List Q.Sp} {A3 : Option Addr} {c3 b0 b1 b2 b3 b4 b5 g : Nat} {w0 W : World} {come : List Bool}
    (h : CE n s A1 c1 t A2 c2 fi S A3 c3 b0 b1 b2 b3 b4 b5 g w0 W come) (h15 : S.length ≤ 15) : Kd.C Kd.bool W (some ⟨g, 0, none⟩) come.length come := by
  have hl := h.hl
  refine ⟨rfl, by omega, fun _ => ⟨_, rfl, fun j p hj => ⟨[.bool p], rfl, rfl, fun i u hu => ?_⟩⟩⟩
  obtain ⟨hlt, hp⟩ := List.getElem?_eq_some_iff.1 hj
  have hi : i = 0 := by
    have := (List.getElem?_eq_some_iff.1 hu).1
    simp at this
    omega
  subst hi
  simp at hu
  subst hu
  show W.cell? (Addr.add _ (j * 1 + 0)) = _
  rw [Addr.add_lit, Nat.mul_one, Nat.add_zero, Nat.zero_add, blk_cell h.hg j]
  simp [hj]
theorem CE.contains {n : Nat} {s : List Cl} {A1 : Option Addr} {c1 : Nat} {t : List Mk} {A2 : Option Addr} {c2 : Nat} {fi : Int} {S : List Q.Sp} {A3 : Option Addr} {c3 b0 b1 b2 b3 b4 b5 g : Nat} {w0 W : World} {come : List Bool}
    (h : CE n s A1 c1 t A2 c2 fi S A3 c3 b0 b1 b2 b3 b4 b5 g w0 W come) (h15 : S.length ≤ 15) : ∃ cb : Bool, (cb = true ↔ false ∈ come) ∧ Calls Try.prog 75 #[.slice (some ⟨g, 0, none⟩) S.length S.length, .bool false] W fun e w' => e = .returned (.bool cb) ∧ Below W.heap.size W w' := by
  have hl := h.hl
  obtain ⟨cb, ⟨K, hK⟩, hcb⟩ := contains_false come (by omega)
  refine ⟨cb, hcb, ?_⟩
  have T := slices_Contains_bool_bool.calls K (some ⟨g, 0, none⟩) come.length come false cb W (h.row h15) (Nat.le_refl _) (hK K (Nat.le_refl _))
  rw [hl] at T
  refine T.mono ?_
  rintro e w' ⟨he, hd⟩
  exact ⟨he, hd.below⟩
/-- The captured variables ahead of the test. -/
def prfW (n : Nat) (l : Nat) (A1 : Option Addr) (c1 m : Nat) (A2 : Option Addr) (c2 : Nat) (fi : Int) (k : Nat) (A3 : Option Addr) (c3 : Nat) (w : World) : World :=
  (((w.alloc (.cells #[.int .i64 (n : Int)] 3)).alloc (.cells #[.slice A1 l c1] 25)).alloc (.cells #[.slice A2 m c2] 36)).alloc (.cells #[.int .i64 fi, .slice A3 k c3] 51)
/-- .. and behind it. -/
def prfW2 (k b0 b1 b2 b3 : Nat) (W : World) : World :=
  ((W.alloc (.cells (madeCells #[.bool false] k) 4)).alloc (.cells #[.slice (some ⟨W.heap.size, 0, none⟩) k k] 102)).alloc
    (.cells #[.func (.func 74) #[] #[ptr b0, ptr b1, ptr b2, ptr b3, ptr (W.heap.size + 1), ptr (W.heap.size + 1 + 1)]] 103)
theorem CE.start {n : Nat} {s : List Cl} {A1 : Option Addr} {c1 : Nat} {t : List Mk} {A2 : Option Addr} {c2 : Nat} {fi : Int} {S : List Q.Sp} {A3 : Option Addr} {c3 : Nat} {w0 W : World} (h15 : S.length ≤ 15)
    (hb : Below (prfW n s.length A1 c1 t.length A2 c2 fi S.length A3 c3 w0).heap.size (prfW n s.length A1 c1 t.length A2 c2 fi S.length A3 c3 w0) W) :
    CE n s A1 c1 t A2 c2 fi S A3 c3 w0.heap.size (w0.heap.size + 1) (w0.heap.size + 1 + 1) (w0.heap.size + 1 + 1 + 1) (W.heap.size + 1) (W.heap.size + 1 + 1) W.heap.size w0 (prfW2 S.length w0.heap.size (w0.heap.size + 1) (w0.heap.size + 1 + 1) (w0.heap.size + 1 + 1 + 1) W) (List.replicate S.length false) := by
  have hb0 : Below w0.heap.size w0 W := below_step (below_alloc (below_alloc (below_alloc (below_alloc (Below.refl _ _) _) _) _) _) hb
  unfold prfW at hb
  unfold prfW2
  refine ⟨?_, ?_, ?_, ?_, ?_, ?_, ?_, by simp, below_alloc (below_alloc (below_alloc hb0 _) _) _, hb0.size⟩
  · exact blk_alloc (blk_alloc (blk_alloc (blk_below (blk_alloc (blk_alloc (blk_alloc (new_at_ _ _ _ rfl) _) _) _) hb) _) _) _
  · exact blk_alloc (blk_alloc (blk_alloc (blk_below (blk_alloc (blk_alloc (new_at_ _ _ _ (by simp only [alloc_size_])) _) _) hb) _) _) _
  · exact blk_alloc (blk_alloc (blk_alloc (blk_below (blk_alloc (new_at_ _ _ _ (by simp only [alloc_size_])) _) hb) _) _) _
  · exact blk_alloc (blk_alloc (blk_alloc (blk_below (new_at_ _ _ _ (by simp only [alloc_size_])) hb) _) _) _
  · exact blk_alloc (new_at_ _ _ _ (by simp only [alloc_size_])) _
  · exact new_at_ _ _ _ (by simp only [alloc_size_])
  · rw [← made_false S.length h15]
    exact blk_alloc (blk_alloc (new_at_ _ _ _ rfl) _) _
end Go.Proofs.Ytcaogllnbpmcgaa.M

/- SyndromeOk: that in which nobody tells that anybody is broken is a syndrome, and one turned round is one exactly if it is, whatever is drawn: no condition. -/
import Derived.Test.YtgfchnfceomcbaaMDraw
import Derived.Test.YtgfchnfceomcbaaPx9
import Derived.Test.YtgfchnfceomcbaaPx8
set_option linter.unusedVariables false
set_option linter.unusedSimpArgs false
namespace Go.Proofs.Ytgfchnfceomcbaa.Pure
open Go Go.RowKit Go.Proofs.Ytgfchnfceomcbaa.P Go.Proofs.YtgfchnfceomcbaaW.PrintWords Go.Proofs.YtgfchnfceomcbaaW.PrintLast Go.Proofs.Ytgfchnfceomcbaa.M

def back (s : List (List Int)) : List (List Int) := (s.map List.reverse).reverse
theorem back_back (s : List (List Int)) : back (back s) = s := by
  have h : (List.reverse ∘ List.reverse : List Int → List Int) = id := funext List.reverse_reverse
  simp [back, List.map_reverse, List.map_map, h]
theorem drop_getD (r : List Int) (j : Nat) (h : j < r.length) : r.drop j = r.getD j 0 :: r.drop (j + 1) := by
  rw [List.drop_eq_getElem_cons h, List.getD_eq_getElem?_getD, List.getElem?_eq_getElem h]
  rfl
theorem back_row (s : List (List Int)) (i : Nat) (hi : i < s.length) : (back s).getD i [] = (s.getD (s.length - 1 - i) []).reverse := by
  have h : s.length - 1 - i < s.length := by omega
  simp [back, List.getD_eq_getElem?_getD, List.getElem?_reverse (show i < (s.map List.reverse).length by simpa using hi), List.getElem?_map, List.getElem?_eq_getElem h]
theorem rev_getD (r : List Int) (j : Nat) (hj : j < r.length) : r.reverse.getD j 0 = r.getD (r.length - 1 - j) 0 := by
  simp [List.getD_eq_getElem?_getD, List.getElem?_reverse hj]
theorem back_syn (s : List (List Int)) (hs : Syn s) : Syn (back s) := by
  have hl : (back s).length = s.length := by simp [back]
  obtain ⟨⟨h1, h5⟩, hr⟩ := hs
  refine ⟨⟨by omega, by omega⟩, fun i hi => ?_⟩
  obtain ⟨a, b, c⟩ := hr (s.length - 1 - i) (by omega)
  have e : ∀ j, j < s.length → ent (back s) i j = ent s (s.length - 1 - i) (s.length - 1 - j) := fun j hj => by
    unfold ent
    rw [back_row s i (by omega), rev_getD _ j (by omega), a]
  refine ⟨by rw [back_row s i (by omega), List.length_reverse]; omega, by rw [e i (by omega)]; exact b, fun j hj => ?_⟩
  rw [e j (by omega)]
  exact c _ (by omega)
theorem back_iff (s : List (List Int)) : Syn (back s) ↔ Syn s := ⟨fun h => by
  have := back_syn _ h
  rwa [back_back] at this, back_syn s⟩

theorem inner (s : List (List Int)) (b : Bool) (x5 : List (List Int)) (i : Nat) (hi : i < s.length) (h5 : s.length ≤ 5) (hx : x5.length ≤ i) (hr : (s.getD i []).length ≤ 6) (P : Prop) : ∀ e j (acc : List Int), j + e = (s.getD i []).length → acc.length ≤ j →
    Tells (fun k => laws_FnSyndromeOk.l0 k s b ([((s.getD i []).drop j).reverse ++ acc] ++ x5) ((i + 1 : Nat) : Int)) P → Tells (fun k => laws_FnSyndromeOk.l1 k s b x5 (i : Int) acc (j : Int)) P := by
  intro e
  induction e with
  | zero =>
    intro j acc hj ha h
    refine Tells.step (fun k => by rw [laws_FnSyndromeOk.l1]) ?_
    rw [rdL, w64s (show i < 9223372036854775807 by omega)]
    refine Tells.pos (by omega) ?_
    refine Tells.pos (by omega) ?_
    refine Tells.neg (by omega) ?_
    refine Tells.bindc (a := [acc]) rfl ?_
    refine Tells.pos (by simp; omega) ?_
    rw [List.drop_eq_nil_of_le (by omega)] at h
    exact h
  | succ e ih =>
    intro j acc hj ha h
    refine Tells.step (fun k => by rw [laws_FnSyndromeOk.l1]) ?_
    rw [rdL, rdN, w64s (show j < 9223372036854775807 by omega)]
    refine Tells.pos (by omega) ?_
    refine Tells.pos (by omega) ?_
    refine Tells.pos (by omega) ?_
    refine Tells.pos (by omega) ?_
    refine Tells.bindc (a := [(s.getD i []).getD j 0]) rfl ?_
    refine Tells.pos (by simp; omega) ?_
    refine ih (j + 1) _ (by omega) (by simp; omega) ?_
    have hd := drop_getD (s.getD i []) j (by omega)
    rw [hd, List.reverse_cons, List.append_assoc] at h
    exact h
theorem outer (s : List (List Int)) (b : Bool) (hS : Shape s) (P : Prop) : ∀ d i (x5 : List (List Int)), i + d = s.length → x5.length ≤ i →
    Tells (fun k => laws_FnSyndromeOk.l0 k s b (((s.drop i).map List.reverse).reverse ++ x5) (s.length : Int)) P → Tells (fun k => laws_FnSyndromeOk.l0 k s b x5 (i : Int)) P := by
  have h5 := hS.1
  intro d
  induction d with
  | zero =>
    intro i x5 hi hx h
    rw [List.drop_eq_nil_of_le (by omega)] at h
    obtain rfl : i = s.length := by omega
    exact h
  | succ d ih =>
    intro i x5 hi hx h
    refine Tells.step (fun k => by rw [laws_FnSyndromeOk.l0]) ?_
    refine Tells.pos (by omega) ?_
    refine inner s b x5 i (by omega) h5 hx (hS.2 i) P (s.getD i []).length 0 [] (by omega) (by simp) ?_
    refine ih (i + 1) _ (by omega) (by simp; omega) ?_
    have hd : s.drop i = s.getD i [] :: s.drop (i + 1) := by
      rw [List.drop_eq_getElem_cons (by omega), List.getD_eq_getElem?_getD, List.getElem?_eq_getElem (by omega)]
      rfl
    rw [hd, List.map_cons, List.reverse_cons, List.append_assoc] at h
    simpa using h
theorem FnSyndromeOk : laws_FnSyndromeOk.Pure := by
  intro l h1 h2 hw
  refine Ev.rounds ?_
  unfold laws_FnSyndromeOk.f
  by_cases h : (l.length : Int) > 1048576
  · exact ev_pos h (ev_ret rfl)
  refine ev_neg h ?_
  obtain ⟨b, hb, hB⟩ := openE l hw
  obtain ⟨s, q, hs, _, hS⟩ := syndromeE b hB 0 (by omega) 2 (by omega)
  have h5 := hS.1
  have hd : Ev (fun k => spec_DrawSyndromeOk.f k l) s := by
    unfold spec_DrawSyndromeOk.f
    refine ev_bindc hb ?_
    refine ev_bind hs ?_
    exact ev_ret rfl
  refine ev_bind hd ?_
  refine ev_bind (impl_synE s (by omega)) ?_
  refine ev_bind (spec_synE s (by omega)) ?_
  refine ev_neg (by simp) ?_
  refine Tells.ev (P := True) ?_ (by simp)
  refine outer s (synB s) hS True s.length 0 [] (by omega) (by simp) ?_
  refine Tells.step (fun k => by rw [laws_FnSyndromeOk.l0]) ?_
  refine Tells.neg (by omega) ?_
  refine Tells.bind (impl_synE [[0, 0], [0, 0]] (by decide)) ?_
  refine Tells.pos ?_ ?_
  · rw [synB_iff]
    refine ⟨⟨by decide, by decide⟩, ?_⟩
    unfold RowOk ent
    decide
  refine Tells.bind (impl_synE [] (by decide)) ?_
  refine Tells.neg ?_ ?_
  · rw [synB_iff]
    exact fun h => absurd h.1.1 (by decide)
  rw [List.append_nil, List.drop_zero]
  have hl : (back s).length = s.length := by simp [back]
  refine Tells.bind (impl_synE (back s) (by omega)) ?_
  have : (synB (back s) == synB s) = true := by
    rw [beq_iff_eq, Bool.eq_iff_iff, synB_iff, synB_iff]
    exact back_iff s
  rw [this]
  exact Tells.yes trivial
end Go.Proofs.Ytgfchnfceomcbaa.Pure

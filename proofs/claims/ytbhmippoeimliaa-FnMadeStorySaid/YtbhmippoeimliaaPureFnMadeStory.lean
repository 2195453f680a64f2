/- For each world there is a story: what MadeStory returns is a story of which the world is one, and each claim says the term or denies it, whatever is drawn: no condition. -/
import Derived.Test.YtbhmippoeimliaaMAllFnMadeStory2
import Derived.Test.YtbhmippoeimliaaPx18
import Derived.Test.YtbhmippoeimliaaPx17
import Derived.Test.YtbhmippoeimliaaPx15
import Derived.Test.YtbhmippoeimliaaPx2
set_option linter.unusedVariables false
set_option linter.unusedSimpArgs false
namespace Go.Proofs.Ytbhmippoeimliaa.Pure
open Go Go.RowKit Go.Proofs.Ytbhmippoeimliaa.P Go.Proofs.YtbhmippoeimliaaW.PrintWords Go.Proofs.YtbhmippoeimliaaW.PrintLast Go.Proofs.Ytbhmippoeimliaa.M
theorem alive_okS : laws_alive.f = some true := by decide +kernel
theorem hasInt_l (l : List Nat) (x : Nat) (hl : l.length < 4611686018427387904) : ∀ d i : Nat, i + d = l.length → (∀ j, j < i → l.getD j 0 ≠ x) → Ev (fun k => laws_hasInt.l0 k (castL l) (x : Int) (i : Int)) (decide (x ∈ l)) := by
  intro d
  induction d with
  | zero =>
    intro i hi hno
    refine Ev.step (fun k => by rw [laws_hasInt.l0]) (ev_neg (by rw [castL_len]; omega) (ev_ret ?_))
    have : x ∉ l := fun hm => by
      obtain ⟨j, hj, rfl⟩ := List.getElem_of_mem hm
      exact hno j (by omega) (getD_lt l 0 j hj)
    simp [this]
  | succ d ih =>
    intro i hi hno
    refine Ev.step (fun k => by rw [laws_hasInt.l0]) (ev_pos (by rw [castL_len]; omega) (ev_pos (by omega) ?_))
    rw [rdN, castL_getD, w64s (by omega)]
    by_cases h : l.getD i 0 = x
    · refine ev_pos (by rw [h]) (ev_ret ?_)
      have : x ∈ l := h ▸ getD_mem l 0 i (by omega)
      simp [this]
    · refine ev_neg (by omega) (ih (i + 1) (by omega) (fun j hj => ?_))
      rcases Nat.lt_succ_iff_lt_or_eq.1 hj with hj | rfl
      · exact hno j hj
      · exact h
theorem hasIntE (l : List Nat) (x : Nat) (hl : l.length < 4611686018427387904) : Ev (fun k => laws_hasInt.f k (castL l) (x : Int)) (decide (x ∈ l)) := hasInt_l l x hl l.length 0 (by omega) (fun j hj => absurd hj (by omega))
/-- Rows of marks none of which is long. -/
def SmallT (ts : List (List Mk)) : Prop := ∀ t ∈ ts, t.length ≤ 4097 ∧ SmallL t
theorem draw_l (b : List Int) (hb : Bytes b) (n w : Int) : ∀ (d : Nat) (ts : List (List Mk)) (p : Nat), p + 40 * d ≤ 3000 → ts.length + d ≤ 10 → SmallT ts →
    ∃ ts', Ev (fun k => spec_DrawMadeStory.l0 k n w ts (d : Int) b (p : Int)) (n, w, ts') ∧ ts'.length ≤ 10 ∧ SmallT ts' := by
  intro d
  induction d with
  | zero =>
    intro ts p hp hl hs
    exact ⟨ts, Ev.step (fun k => by rw [spec_DrawMadeStory.l0]) (ev_neg (by decide) (ev_ret rfl)), by omega, hs⟩
  | succ d ih =>
    intro ts p hp hl hs
    obtain ⟨t, q, et, ht1, ht2, hq⟩ := l20TermE b hb p (by omega) n 30
    obtain ⟨ts', hE, h1, h2⟩ := ih (ts ++ [t]) q (by omega) (by simp; omega) (fun x hx => by
      rcases List.mem_append.1 hx with hx | hx
      · exact hs x hx
      · rw [List.mem_singleton.1 hx]; exact ⟨ht1, ht2⟩)
    refine ⟨ts', Ev.step (fun k => by rw [spec_DrawMadeStory.l0]) ?_, h1, h2⟩
    rw [show wrap64 (((d + 1 : Nat) : Int) - 1) = (d : Int) by rw [w64 (by omega) (by omega)]; omega]
    exact ev_pos (by omega) (ev_bind et (ev_pos (by omega) hE))
theorem div39 (r : Nat) (h : (r : Int) < 40) : ∃ z : Nat, wrap64 (Int.tdiv (r : Int) 39) = (z : Int) ∧ z ≤ 1 := by
  have h : ∀ r : Fin 40, wrap64 (Int.tdiv (r.val : Int) 39) = ((r.val / 39 : Nat) : Int) := by decide +kernel
  exact ⟨r / 39, h ⟨r, by omega⟩, by omega⟩
theorem drawE (b : List Int) (hb : Bytes b) (l0 : List Int) (ho : spec_l20Open.f l0 = some (b, ((0 : Nat) : Int))) : ∃ (n w : Int) (ts : List (List Mk)), Ev (fun k => spec_DrawMadeStory.f k l0) (n, w, ts) ∧ n ≤ 8 ∧ ts.length ≤ 10 ∧ SmallT ts := by
  obtain ⟨r1, e1, h1, _⟩ := pickE b hb 0 (by omega) 4
  have h1 := h1 (by decide)
  obtain ⟨r2, e2, h2, _⟩ := pickE b hb 1 (by omega) 40
  obtain ⟨z2, hz2, hz2'⟩ := div39 r2 (h2 (by decide))
  obtain ⟨r3, e3, _⟩ := pickE b hb 2 (by omega) (shl .i64 1 (wrap64 (1 + (r1 : Int))))
  obtain ⟨r4, e4, h4, _⟩ := pickE b hb 3 (by omega) 40
  obtain ⟨n, hn⟩ : ∃ n : Int, wrap64 ((wrap64 (1 + (r1 : Int))) + (wrap64 ((wrap64 (Int.tdiv (r2 : Int) 39)) * 4))) = n := ⟨_, rfl⟩
  obtain ⟨w, hw⟩ : ∃ w : Int, wrap64 ((r3 : Int) + (wrap64 ((wrap64 (Int.tdiv (r4 : Int) 39)) * 16))) = w := ⟨_, rfl⟩
  have hn8 : 1 ≤ n ∧ n ≤ 8 := by
    rw [← hn, hz2, w64 (x := 1 + (r1 : Int)) (by omega) (by omega), w64 (x := (z2 : Int) * 4) (by omega) (by omega), w64 (by omega) (by omega)]
    omega
  have eW : Ev (fun k => spec_l20World.f k b ((0 : Nat) : Int)) (n, w, ((4 : Nat) : Int)) := by
    unfold spec_l20World.f
    refine ev_bind e1 (ev_bind e2 (ev_pos ?_ (ev_bind e3 (ev_bind e4 (ev_ret ?_)))))
    · show 0 ≤ wrap64 (1 + (r1 : Int))
      rw [w64 (by omega) (by omega)]; omega
    · rw [← hn, ← hw]
  have hm : 1 ≤ mn n 4 ∧ mn n 4 ≤ 4 := by unfold mn; split <;> omega
  obtain ⟨r5, e5, h5, _⟩ := pickE b hb 4 (by omega) (wrap64 ((mn n 4) + 1))
  have h5 : (r5 : Int) < 5 := by have := h5 (by rw [w64 (by omega) (by omega)]; omega); rw [w64 (by omega) (by omega)] at this; omega
  obtain ⟨r6, e6, h6, _⟩ := pickE b hb 5 (by omega) 40
  obtain ⟨z6, hz6, hz6'⟩ := div39 r6 (h6 (by decide))
  obtain ⟨ts, hE, hl, hs⟩ := draw_l b hb n w (r5 + z6) [] 6 (by omega) (by simp; omega) (fun x hx => by cases hx)
  refine ⟨n, w, ts, ?_, hn8.2, hl, hs⟩
  unfold spec_DrawMadeStory.f
  refine ev_bindc ho (ev_bind eW (ev_bind e5 (ev_bind e6 ?_)))
  dsimp only
  rw [hz6, w64 (x := (r5 : Int) + (z6 : Int)) (by omega) (by omega), show (r5 : Int) + (z6 : Int) = ((r5 + z6 : Nat) : Int) by omega]
  exact hE
theorem marks_ne (l : List Mk) (h : l.length < 4611686018427387904) : Ev (fun k => laws_sameMarks.f k (M.notM l) l) false := by
  unfold laws_sameMarks.f
  exact ev_neg (by unfold M.notM; simp; omega) (ev_ret rfl)
theorem FnMadeStory : laws_FnMadeStory.Pure := by
  intro l0 hl h2 hw
  refine Ev.rounds ?_
  unfold laws_FnMadeStory.f
  by_cases hbig : (l0.length : Int) > 1048576
  · exact ev_pos hbig (ev_ret rfl)
  refine ev_neg hbig ?_
  obtain ⟨b, hb, hB⟩ := openE l0 hw
  obtain ⟨n, w, ts, ed, hn8, htl, hts⟩ := drawE b hB l0 hb
  refine ev_bind ed ?_
  dsimp only
  have hsm : ∀ j, (ts.getD j []).length ≤ 4097 ∧ SmallL (ts.getD j []) := fun j => by
    by_cases hj : j < ts.length
    · exact hts _ (getD_mem ts [] j hj)
    · rw [List.getD_eq_getElem?_getD, List.getElem?_eq_none (by omega)]
      exact ⟨Nat.zero_le _, fun x hx => by cases hx⟩
  have hlen : ∀ j, (ts.getD j []).length ≤ 1048576 := fun j => Nat.le_trans (hsm j).1 (by decide)
  refine ev_bind (impl_madeE n w ts hlen) ?_
  refine ev_bind (spec_madeE n w ts hlen fun j => (hsm j).2.M64) ?_
  obtain ⟨hA, hB2⟩ := madeSt_all n w ts
  obtain ⟨h4, h14⟩ := madeSt_small n w ts
  obtain ⟨g, hg⟩ : ∃ x, (madeStF n w ts).1 = x := ⟨_, rfl⟩
  obtain ⟨ok, hok⟩ : ∃ x, (madeStF n w ts).2 = x := ⟨_, rfl⟩
  have he : madeStF n w ts = (g, ok) := Prod.ext hg hok
  rw [hg, hok] at hA
  rw [hg, hok] at hB2
  rw [hg] at h4 h14
  rw [he]
  refine ev_bind (same_story g (by omega) fun j => ?_) ?_
  · by_cases hj : j < g.length
    · have := h14 _ (getD_mem g zC j hj)
      omega
    · rw [List.getD_eq_getElem?_getD, List.getElem?_eq_none (by omega)]
      decide
  refine ev_pos rfl ?_
  dsimp only
  rw [show (ok != ok) = false by simp]
  refine Ev.step (fun k => by rw [laws_FnMadeStory.j0]) (ev_neg (by decide) ?_)
  cases ok with
  | false =>
    rw [hB2 rfl]
    exact ev_neg (by decide) (ev_pos rfl (ev_bindc alive_okS (ev_ret rfl)))
  | true =>
    obtain ⟨hW, hle, hgl, hall⟩ := hA rfl
    refine ev_pos rfl ?_
    obtain ⟨w1, w2, w3, w4⟩ := hW
    obtain ⟨m, rfl⟩ : ∃ m : Nat, n = (m : Int) := ⟨n.toNat, by omega⟩
    obtain ⟨v, rfl⟩ : ∃ v : Nat, w = (v : Int) := ⟨w.toNat, by omega⟩
    rw [Int.toNat_natCast] at w4 hall
    have hS : StoryP (m : Int) g := ⟨fun i hi => (hall i (by omega)).2.2.1, ⟨w1, w2⟩, by omega⟩
    have fin : Ev (fun k => laws_FnMadeStory.l0 k (m : Int) (v : Int) ts g (g.length : Int)) true := by
      refine Ev.step (fun k => by rw [laws_FnMadeStory.l0]) (ev_neg (by omega) ?_)
      refine ev_bind ((impl_storyOk (m : Int) g (by omega)).ev (b := true) ⟨fun _ => hS, fun _ => rfl⟩) (ev_pos rfl (ev_pos (by omega) ?_))
      refine ev_bind (impl_storyTableE m g hS) (ev_bind (impl_worldsE (m : Int) _) ?_)
      rw [worldsS m (by omega) (by omega)]
      have hw16 := pw4 (n := m) (by omega)
      have hwl := wl_len (tabS m g) m
      refine ev_bind (hasIntE _ v (by omega)) (ev_ret ?_)
      refine decide_eq_true ((mem_wl _ _ _).2 ⟨by omega, (tabS_bit m g v).2 ⟨by omega, fun c hc => ?_⟩⟩)
      obtain ⟨i, hi, rfl⟩ := List.getElem_of_mem hc
      have := (hall i (by omega)).2.2.2
      rwa [getD_lt g zC i hi] at this
    have loop : ∀ d i : Nat, i + d = g.length → Ev (fun k => laws_FnMadeStory.l0 k (m : Int) (v : Int) ts g (i : Int)) true := by
      intro d
      induction d with
      | zero =>
        intro i hi
        obtain rfl : i = g.length := by omega
        exact fin
      | succ d ih =>
        intro i hi
        have hs := (hsm i).1
        obtain ⟨a1, a2, _⟩ := hall i (by omega)
        refine Ev.step (fun k => by rw [laws_FnMadeStory.l0]) ?_
        refine ev_pos (by omega) ?_
        refine ev_bindc rfl ?_
        refine ev_pos (by omega) (ev_pos (by omega) ?_)
        rw [rdM2, rdC, w64s (by omega)]
        refine ev_pos (by simp only [List.length_nil]; omega) (ev_bindc rfl ?_)
        rw [List.nil_append]
        refine ev_pos (by omega) (ev_pos a1 ?_)
        rcases a2 with a2 | a2
        · rw [a2]
          exact ev_bind (same_marks _ (by omega)) (ev_pos rfl (ih (i + 1) (by omega)))
        · rw [a2]
          refine ev_bind (marks_ne _ (by omega)) (ev_neg (by decide) ?_)
          exact ev_bind (same_marks (M.notM (ts.getD i [])) (by unfold M.notM; rw [List.length_append, List.length_singleton]; omega)) (ev_pos rfl (ih (i + 1) (by omega)))
    exact loop g.length 0 (by omega)
end Go.Proofs.Ytbhmippoeimliaa.Pure

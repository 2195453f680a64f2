/- Without spies kinds are worlds, and all spies may say anything, whatever is drawn: no condition. -/
import Derived.Test.YtbhmippoeimliaaMAllFnSpyStory
import Derived.Test.YtbhmippoeimliaaPx15
import Derived.Test.YtbhmippoeimliaaPx14
import Derived.Test.YtbhmippoeimliaaPx9
import Derived.Test.YtbhmippoeimliaaPx2
set_option linter.unusedVariables false
set_option linter.unusedSimpArgs false
namespace Go.Proofs.Ytbhmippoeimliaa.Pure
open Go Go.RowKit Go.Proofs.Ytbhmippoeimliaa.P Go.Proofs.YtbhmippoeimliaaW.PrintWords Go.Proofs.YtbhmippoeimliaaW.PrintLast Go.Proofs.Ytbhmippoeimliaa.M
theorem alive_okS : laws_alive.f = some true := by decide +kernel
theorem hasInt_l (l : List Nat) (x : Nat) (hl : l.length < 4611686018427387904) : ∀ d i : Nat, i + d = l.length → (∀ j, j < i → l.getD j 0 ≠ x) → Ev (fun k => laws_hasInt.l0 k (castL l) (x : Int) (i : Int)) (decide (x ∈ l)) := by
  intro d
  induction d with
  | zero =>
    intro i hi hno
    refine Ev.step (fun k => by rw [laws_hasInt.l0]) (ev_neg (by rw [castL_len]; omega) (ev_ret ?_))
    have : x ∉ l := fun hm => by
      obtain ⟨j, hj, rfl⟩ := List.getElem_of_mem hm
      exact hno j (by omega) (getD_lt l 0 j hj)
    simp [this]
  | succ d ih =>
    intro i hi hno
    refine Ev.step (fun k => by rw [laws_hasInt.l0]) (ev_pos (by rw [castL_len]; omega) (ev_pos (by omega) ?_))
    rw [rdN, castL_getD, w64s (by omega)]
    by_cases h : l.getD i 0 = x
    · refine ev_pos (by rw [h]) (ev_ret ?_)
      have : x ∈ l := h ▸ getD_mem l 0 i (by omega)
      simp [this]
    · refine ev_neg (by omega) (ih (i + 1) (by omega) (fun j hj => ?_))
      rcases Nat.lt_succ_iff_lt_or_eq.1 hj with hj | rfl
      · exact hno j hj
      · exact h
theorem hasIntE (l : List Nat) (x : Nat) (hl : l.length < 4611686018427387904) : Ev (fun k => laws_hasInt.f k (castL l) (x : Int)) (decide (x ∈ l)) := hasInt_l l x hl l.length 0 (by omega) (fun j hj => absurd hj (by omega))
/-- How many are spies. -/
def spyN (ks : List Int) : Nat → Nat
  | 0 => 0
  | i + 1 => spyN ks i + if ks.getD i 0 = 2 then 1 else 0
theorem spyN_le (ks : List Int) : ∀ i, spyN ks i ≤ i
  | 0 => Nat.le_refl _
  | i + 1 => by
    have := spyN_le ks i
    unfold spyN
    split <;> omega
theorem spyN_zero (ks : List Int) : ∀ n, spyN ks n = 0 → ∀ i, i < n → ks.getD i 0 ≠ 2
  | 0 => fun _ i hi => absurd hi (by omega)
  | n + 1 => fun h i hi => by
    unfold spyN at h
    by_cases h2 : ks.getD n 0 = 2
    · rw [if_pos h2] at h; omega
    · rcases Nat.lt_succ_iff_lt_or_eq.1 hi with hi | rfl
      · exact spyN_zero ks n (by omega) i hi
      · exact h2
theorem all_getD (n j : Nat) : (List.replicate n (2 : Int)).getD j 0 = if j < n then 2 else 0 := by
  by_cases h : j < n
  · rw [if_pos h, getD_lt _ _ _ (by simpa using h), List.getElem_replicate]
  · rw [if_neg h, List.getD_eq_getElem?_getD, List.getElem?_eq_none (by simpa using h)]
    rfl
theorem all_spies (ks : List Int) (s : List Cl) (hk : KindsP ks) (hs : StoryP ks.length s) : spiesP (List.replicate ks.length 2) s := by
  refine ⟨⟨fun i hi => ?_, by rw [List.length_replicate]; exact hk.2⟩, by rw [List.length_replicate]; exact hs, fun i hi => ?_⟩
  · rw [List.length_replicate] at hi
    rw [all_getD, if_pos hi]
    decide
  · have hc := hs.1 i hi
    have h1 := hc.1
    have h2 := hc.2.1
    unfold spyB
    rw [all_getD, if_pos (by omega)]
    rfl
/-- Without spies: by kinds just if the world is one of the story. -/
theorem nospy (ks : List Int) (s : List Cl) (hk : KindsP ks) (hs : StoryP ks.length s) (h0 : spyN ks ks.length = 0) : spiesP ks s ↔ worldK ks ∈ wl (tabS ks.length s) ks.length := by
  have hno := spyN_zero ks ks.length h0
  rw [mem_wl, tabS_bit]
  have hlt : worldK ks < pw ks.length := tabN_lt _ _
  have one : ∀ c : Cl, ClaimP ks.length c.f0 c.f1 → (spyB ks c.f0 c.f1 = mayB c.f0.toNat c.f1 (worldK ks)) := fun c hc => by
    have h1 := hc.1
    have h2 := hc.2.1
    have h3 : ks.getD c.f0.toNat 0 ≠ 2 := hno _ (by omega)
    unfold spyB
    rw [show (ks.getD c.f0.toNat 0 == 2) = false from beq_eq_false_iff_ne.mpr h3, Bool.false_or]
  constructor
  · intro h
    refine ⟨hlt, hlt, fun c hc => ?_⟩
    obtain ⟨i, hi, rfl⟩ := List.getElem_of_mem hc
    have h3 := h.2.2 i hi
    have h4 := hs.1 i hi
    rw [getD_lt s zC i hi] at h3 h4
    rw [← one _ h4]
    exact h3
  · intro h
    refine ⟨hk, hs, fun i hi => ?_⟩
    rw [one _ (hs.1 i hi)]
    exact h.2.2 _ (getD_mem s zC i hi)
theorem spy_l0 (ks : List Int) (s : List Cl) (hk : KindsP ks) (hs : StoryP ks.length s) (ok : Bool) (hok : ok = true ↔ spiesP ks s) : ∀ d i : Nat, i + d = ks.length →
    Ev (fun k => laws_FnSpyStory.l0 k ks s ok ((spyN ks i : Nat) : Int) (List.replicate i 2) (i : Int)) true := by
  have h4 := hk.2.2
  have hs6 := hs.2.2
  intro d
  induction d with
  | zero =>
    intro i hi
    obtain rfl : i = ks.length := by omega
    refine Ev.step (fun k => by rw [laws_FnSpyStory.l0]) (ev_neg (by omega) ?_)
    refine ev_bind (impl_storyTableE ks.length s hs) ?_
    refine ev_bind (impl_worldsE _ _) ?_
    rw [worldsS ks.length hk.2.1 h4 s]
    refine ev_bind ((impl_spies (List.replicate ks.length 2) (by rw [List.length_replicate]; omega) s (by omega)).ev (b := true) ⟨fun _ => all_spies ks s hk hs, fun _ => rfl⟩) ?_
    refine ev_pos rfl ?_
    by_cases h0 : spyN ks ks.length = 0
    · refine ev_neg (by omega) ?_
      refine ev_bind (impl_worldKE ks hk) ?_
      refine ev_bind (hasIntE _ _ (by have := wl_len (tabS ks.length s) ks.length; have := pw4 h4; omega)) (ev_ret ?_)
      have h := nospy ks s hk hs h0
      cases ok with
      | true => simp [h.1 (hok.1 rfl)]
      | false =>
        have h5 : ¬ worldK ks ∈ wl (tabS ks.length s) ks.length := fun h' => Bool.noConfusion (hok.2 (h.2 h'))
        rw [decide_eq_false h5]
        rfl
    · exact ev_pos (by omega) (ev_ret rfl)
  | succ d ih =>
    intro i hi
    refine Ev.step (fun k => by rw [laws_FnSpyStory.l0]) (ev_pos (by omega) (ev_pos (by rw [List.length_replicate]; omega) ?_))
    simp only [Option.bind_some]
    refine ev_pos (by omega) ?_
    have hle := spyN_le ks i
    rw [rdN, w64s (by omega), w64s (by omega), show List.replicate i (2 : Int) ++ [2] = List.replicate (i + 1) 2 from (List.replicate_succ' ).symm]
    have := ih (i + 1) (by omega)
    unfold spyN at this
    by_cases h2 : ks.getD i 0 = 2
    · rw [if_pos h2] at this
      exact ev_pos h2 this
    · rw [if_neg h2] at this
      exact ev_neg h2 this
theorem FnSpyStory : laws_FnSpyStory.Pure := by
  intro l0 hl h2 hw
  refine Ev.rounds ?_
  unfold laws_FnSpyStory.f
  by_cases hbig : (l0.length : Int) > 1048576
  · exact ev_pos hbig (ev_ret rfl)
  refine ev_neg hbig ?_
  obtain ⟨b, hb, hB⟩ := openE l0 hw
  obtain ⟨n, s, q, es, hn1, hn4, hsl, hss, hq⟩ := l20StoryE b hB 0 (by omega) 14
  obtain ⟨ks, q2, ek, hkl, _⟩ := l20KindsE b hB q (by omega) n (by omega) (by omega) 14
  have ed : Ev (fun k => spec_DrawSpyStory.f k l0) (ks, s) := by
    unfold spec_DrawSpyStory.f
    exact ev_bindc hb (ev_bind es (ev_bind ek (ev_ret rfl)))
  refine ev_bind ed ?_
  dsimp only
  have h64 := hss.S64 (by omega)
  obtain ⟨c, hc, hi⟩ := impl_spies ks (by omega) s (by omega)
  have hc2 := (spec_spies ks (by omega) s h64).ev hi
  refine ev_bind hc (ev_bind hc2 (ev_neg (by simp) ?_))
  have bad : ¬ spiesP ks s → Ev (fun k => laws_FnSpyStory.j0 k ks s c true) true := fun h => by
    cases c with
    | true => exact absurd (hi.1 rfl) h
    | false => exact Ev.step (fun k => by rw [laws_FnSpyStory.j0]) (ev_pos rfl (ev_neg (by decide) (ev_bindc alive_okS (ev_ret rfl))))
  obtain ⟨c1, hc1, hi1⟩ := spec_kinds ks (by omega)
  refine ev_bind hc1 ?_
  cases c1 with
  | false => exact ev_neg (by decide) (bad fun h => by simpa using hi1.2 h.1)
  | true =>
    refine ev_pos rfl ?_
    obtain ⟨c3, hc3, hi3⟩ := spec_storyOk (ks.length : Int) (by omega) s h64
    refine ev_bind hc3 ?_
    cases c3 with
    | false => exact bad fun h => by simpa using hi3.2 h.2.1
    | true =>
      refine Ev.step (fun k => by rw [laws_FnSpyStory.j0]) (ev_neg (by decide) ?_)
      exact spy_l0 ks s (hi1.1 rfl) (hi3.1 rfl) c hi ks.length 0 (by omega)
end Go.Proofs.Ytbhmippoeimliaa.Pure

/- The program's LinkWorlds returns what the reference's returns, for all arguments, and leaves them as they were: no condition. -/
import Derived.Test.YtbhmippoeimliaaMLinkStory
import Derived.Test.YtbhmippoeimliaaMTables
import Derived.Test.YtbhmippoeimliaaMWorlds
import Derived.Test.YtbhmippoeimliaaMExactLinks
import Derived.Test.YtbhmippoeimliaaPx9
import Derived.Test.YtbhmippoeimliaaPx13
import Derived.Test.YtbhmippoeimliaaPx14
set_option linter.unusedVariables false
set_option linter.unusedSimpArgs false
namespace Go.Proofs.Ytbhmippoeimliaa.M
open Go Go.RowKit Go.Proofs.YtbhmippoeimliaaW.PrintWords Go.Proofs.Ytbhmippoeimliaa.P
theorem heads_l : ∀ m T a : Nat, T < 2 ^ m → a + m ≤ 1000 → m ≤ 60 → Ev (fun k => spec_l1Heads.l0 k (T : Int) (a : Int)) ((a + popN m T : Nat) : Int) := by
  intro m
  induction m with
  | zero =>
    intro T a h _ _
    obtain rfl : T = 0 := by simpa using h
    refine Ev.step (fun k => by rw [spec_l1Heads.l0]) ?_
    exact ev_neg (by omega) (ev_ret (by simp [popN]))
  | succ m ih =>
    intro T a h ha hm
    refine Ev.step (fun k => by rw [spec_l1Heads.l0]) ?_
    have hT : T < 1152921504606846976 * 2 := Nat.lt_of_lt_of_le h (by
      have : (2 : Nat) ^ (m + 1) ≤ 2 ^ 61 := Nat.pow_le_pow_right (by decide) (by omega)
      simpa using this)
    by_cases h0 : T = 0
    · subst h0
      exact ev_neg (by omega) (ev_ret (by rw [popN_zero]; rfl))
    · refine ev_pos (by omega) ?_
      have e1 : Int.tdiv (T : Int) 2 = ((T / 2 : Nat) : Int) := by
        rw [Int.tdiv_eq_ediv_of_nonneg (by omega)]
        omega
      have e2 : Int.tmod (T : Int) 2 = ((T % 2 : Nat) : Int) := by
        rw [Int.tmod_eq_emod_of_nonneg (by omega)]
        omega
      have hm2 : T % 2 < 2 := Nat.mod_lt _ (by decide)
      rw [e1, e2, w64 (x := ((T / 2 : Nat) : Int)) (by omega) (by omega), w64 (x := (a : Int) + ((T % 2 : Nat) : Int)) (by omega) (by omega), show (a : Int) + ((T % 2 : Nat) : Int) = ((a + T % 2 : Nat) : Int) by omega]
      refine ev_eq (ih (T / 2) (a + T % 2) (by rw [Nat.pow_succ] at h; omega) (by omega) (by omega)) ?_
      rw [popN, Nat.add_assoc]
theorem headsE (T : Nat) (h : T < 65536) : Ev (fun k => spec_l1Heads.f k (T : Int)) ((popN 16 T : Nat) : Int) := by
  have := heads_l 16 T 0 h (by omega) (by omega)
  rwa [Nat.zero_add] at this
theorem tabS_lt (n : Nat) (s : List Cl) : tabS n s < pw (pw n) := by
  have h : ∀ (s : List Cl) (a : Nat), a < pw (pw n) → s.foldl (fun t c => t &&& tabC n c) a < pw (pw n) := by
    intro s
    induction s with
    | nil => exact fun a h => h
    | cons c s ih => exact fun a h => ih _ (Nat.lt_of_le_of_lt Nat.and_le_left h)
  have := pw_pos (pw n)
  exact h s _ (by omega)
/-- How many worlds the links' story has, as both tell it. -/
noncomputable def linkWorldsF (n : Int) (s : List Lnk) : Int := if linksB n s = true then ((popN 16 (tabS n.toNat (s.map linkC)) : Nat) : Int) else -1
theorem impl_linkWorldsE (n : Int) (s : List Lnk) (hs : s.length < 4611686018427387904) : Ev (fun k => impl_LinkWorlds.f k n s) (linkWorldsF n s) := by
  unfold impl_LinkWorlds.f linkWorldsF
  refine ev_bind (impl_linkStoryE n s hs) ?_
  unfold linkStoryF
  by_cases h : linksB n s = true
  · rw [if_pos h, if_pos h]
    dsimp only
    refine ev_pos rfl ?_
    have hL := (linksB_iff n s).1 h
    have hS := linkStory_ok n s hL
    obtain ⟨m, rfl⟩ : ∃ m : Nat, n = (m : Int) := ⟨n.toNat, by have := hL.2.1; omega⟩
    have hm := hL.2.1
    have hlt := tabS_lt m (s.map linkC)
    have hpp := ppw' (n := m) (by omega)
    refine ev_bind (impl_storyE m _ hS) ?_
    refine ev_bind (impl_worldsE (m : Int) _) (ev_ret ?_)
    unfold worldsF
    rw [if_pos ⟨by omega, by omega, by omega, by rw [Int.toNat_natCast]; omega⟩, castL_len, Int.toNat_natCast, Int.toNat_natCast, wl_pop]
    have := popN_more (n := pw m) (m := tabS m (s.map linkC)) hlt 16 (pwm4 (by omega))
    rw [this]
  · rw [if_neg h, if_neg h]
    dsimp only
    exact ev_neg (by decide) (ev_ret rfl)
theorem spec_linkWorldsE (n : Int) (s : List Lnk) (hs : s.length < 4611686018427387904) : Ev (fun k => spec_LinkWorlds.f k n s) (linkWorldsF n s) := by
  unfold spec_LinkWorlds.f linkWorldsF
  refine ev_bind (spec_linkStoryE n s hs) ?_
  unfold linkStoryF
  by_cases h : linksB n s = true
  · rw [if_pos h, if_pos h]
    dsimp only
    refine ev_pos rfl ?_
    have hL := (linksB_iff n s).1 h
    have hS := linkStory_ok n s hL
    obtain ⟨m, rfl⟩ : ∃ m : Nat, n = (m : Int) := ⟨n.toNat, by have := hL.2.1; omega⟩
    have hm := hL.2.1
    have hlt := tabS_lt m (s.map linkC)
    have hpp := ppw' (n := m) (by omega)
    refine ev_bind (spec_storyE m _ hS) ?_
    rw [Int.toNat_natCast]
    exact ev_bind (headsE _ (by omega)) (ev_ret rfl)
  · rw [if_neg h, if_neg h]
    dsimp only
    exact ev_neg (by decide) (ev_ret rfl)
end Go.Proofs.Ytbhmippoeimliaa.M
namespace Go.Proofs.Ytbhmippoeimliaa.Pure
open Go Go.RowKit Go.Proofs.Ytbhmippoeimliaa.P Go.Proofs.YtbhmippoeimliaaW.PrintWords Go.Proofs.YtbhmippoeimliaaW.PrintLast Go.Proofs.Ytbhmippoeimliaa.M
theorem FnExactLinkWorlds : laws_FnExactLinkWorlds.Pure := by
  intro n l _ hl
  refine Ev.rounds ?_
  unfold laws_FnExactLinkWorlds.f
  obtain ⟨r, hr, hsm⟩ := sz_links l hl.1
  refine ev_bindc hr ?_
  by_cases h0 : r < 0
  · exact ev_pos h0 (ev_ret rfl)
  refine ev_neg h0 ?_
  have hn := hsm (by omega)
  have hlen : (l.map toL).length < 4611686018427387904 := by rw [List.length_map]; omega
  refine ev_bind (to_links l hn) ?_
  refine ev_bind (spec_linkWorldsE n (l.map toL) hlen) ?_
  refine ev_bind (to_links l hn) ?_
  refine ev_bind (impl_linkWorldsE n (l.map toL) hlen) ?_
  refine ev_pos rfl ?_
  refine ev_bind (to_links l hn) ?_
  refine ev_bind (eq_links (l.map toL) (by simpa using hn)) ?_
  exact ev_pos rfl (ev_ret rfl)
end Go.Proofs.Ytbhmippoeimliaa.Pure

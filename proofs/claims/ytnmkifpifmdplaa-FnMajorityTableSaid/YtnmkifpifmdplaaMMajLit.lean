/- MajorityTable's function literal, and tableBy handed it. -/
import Derived.Test.YtnmkifpifmdplaaMKnown
import Derived.Test.YtnmkifpifmdplaaMTab
import Derived.Test.YtnmkifpifmdplaaPx6
import Derived.Lib.Hide
set_option linter.unusedVariables false
set_option linter.unusedSimpArgs false
namespace Go.Proofs.Ytnmkifpifmdplaa.M
open Go Go.RowKit Go.Proofs.YtnmkifpifmdplaaW.PrintWords Go.Proofs.Ytnmkifpifmdplaa.P
/-- More tell the truth than lie. -/
def majP (people : Int) (w : Nat) : Bool := decide (people < 2 * ((impl_TellersIn.f people (w : Int)).getD 0))
theorem majOk (people : Int) (hp : people = 1 ∨ people = 2 ∨ people = 3 ∨ people = 4) (i : Int) (h0 : 0 ≤ i) (h1 : i < 2 ^ people.toNat) : ∃ t : Int, impl_TellersIn.f people i = some t ∧ (t = 0 ∨ t = 1 ∨ t = 2 ∨ t = 3 ∨ t = 4) := by
  obtain ⟨m, rfl⟩ : ∃ m : Nat, i = (m : Int) := ⟨i.toNat, by omega⟩
  have h2 : ∀ m : Fin 16, ∀ p : Fin 5, 1 ≤ p.val → m.val < 2 ^ p.val → (((impl_TellersIn.f (p.val : Int) (m.val : Int)).map fun t => decide (t = 0 ∨ t = 1 ∨ t = 2 ∨ t = 3 ∨ t = 4)) = some true) := by
    decide +kernel
  have h3 : ∀ p : Nat, p < 5 → 1 ≤ p → m < 2 ^ p → ∃ t : Int, impl_TellersIn.f (p : Int) (m : Int) = some t ∧ (t = 0 ∨ t = 1 ∨ t = 2 ∨ t = 3 ∨ t = 4) := fun p hp1 hp2 hm => by
    have hm16 : m < 16 := Nat.lt_of_lt_of_le hm (by
      have : (2 : Nat) ^ p ≤ 2 ^ 4 := Nat.pow_le_pow_right (by decide) (by omega)
      simpa using this)
    have := h2 ⟨m, hm16⟩ ⟨p, hp1⟩ hp2 hm
    dsimp only at this
    revert this
    cases impl_TellersIn.f (p : Int) (m : Int) with
    | none => exact fun h => by simp at h
    | some t => exact fun h => ⟨t, rfl, by simpa using h⟩
  rcases hp with rfl | rfl | rfl | rfl
  · exact h3 1 (by decide) (by decide) (by simp at h1; omega)
  · exact h3 2 (by decide) (by decide) (by simp at h1; omega)
  · exact h3 3 (by decide) (by decide) (by simp at h1; omega)
  · exact h3 4 (by decide) (by decide) (by simp at h1; omega)
theorem maj_ret {a b : Bool} (h : a = b) : Ending.returned (.bool a) = .returned (.bool b) := by rw [h]
set_option maxHeartbeats 4000000 in
set_option maxRecDepth 100000 in
theorem maj_lit (people i t : Int) (hp : people = 1 ∨ people = 2 ∨ people = 3 ∨ people = 4) (ht : t = 0 ∨ t = 1 ∨ t = 2 ∨ t = 3 ∨ t = 4) (a : Addr) (W : World) (hc : impl_TellersIn.f people i = some t)
    (ca : W.cell? a = some (.int .i64 people)) :
    Calls Try.prog 52 #[.int .i64 i, .pointer (some a)] W fun e W' => e = .returned (.bool (decide (people < 2 * t))) ∧ Below W.heap.size W W' := by
  have hC := Lib.hid hc
  clear hc
  rcases hp with rfl | rfl | rfl | rfl
  all_goals rcases ht with rfl | rfl | rfl | rfl | rfl
  all_goals
    go_enter Try.func52, Try.ntmps52
    go_wp2
    go_quiet (first | (go_at_call 53; (with_reducible refine (impl_TellersIn.calls _ _ _ _ hC.out).mono ?_); rintro e w' ⟨rfl, ⟨nd, rfl⟩⟩; (try first | exact ⟨rfl, _, World.drewN_drewN _ _ _⟩ | exact ⟨rfl, _, Eq.trans (World.drewN_drewN _ _ _) (congrArg (World.drewN _) (Nat.add_assoc _ _ _))⟩)))
    go_wp2
    go_ret
    exact ⟨maj_ret (by decide), pw_below_drewN (Below.refl _ _) _⟩
set_option maxHeartbeats 4000000 in
set_option maxRecDepth 100000 in
theorem tableBy_MajorityTable (v0 : Value) (people : Int) (hp : people = 1 ∨ people = 2 ∨ people = 3 ∨ people = 4) (p : Nat → Bool) (w : World)
    (HC : ∀ (i : Int) (W : World), 0 ≤ i → i < 2 ^ people.toNat → Below w.heap.size w W → Calls Try.prog 52 #[.int .i64 i, v0] W fun e W' => e = .returned (.bool (p i.toNat)) ∧ Below W.heap.size W W') :
    Calls Try.prog 47 #[.int .i64 people, .func (.func 52) #[] #[v0]] w fun e w' => e = .returned (.int .i64 (tabN p (pw people.toNat) : Nat)) ∧ Below w.heap.size w w' := by
  rcases hp with rfl | rfl | rfl | rfl
  · go_enter Try.func47, Try.ntmps47
    go_wp2
    go_loopw [5, 9] (fun t i wr => ∃ j : Nat, j ≤ 2 ∧ i = .int .i64 j ∧ t = .int .i64 (tabN p j : Nat) ∧ Below w.heap.size w wr) (fun _ i _ => 2 - (intOf i).toNat)
    case atStart => exact ⟨0, by omega, rfl, rfl, Below.refl _ _⟩
    case round =>
      obtain ⟨j, hj, rfl, rfl, hb⟩ := hrel
      by_cases hlt : j < 2
      · rcases (by omega : j = 0 ∨ j = 1) with rfl | rfl
        all_goals go_wp2_with (go_at_call 52; (refine (HC _ _ (by decide) (by decide) hb).mono ?_); rintro e w' ⟨rfl, hb'⟩)
        · exact ⟨⟨1, by decide, rfl, tab_yes p 0 (by decide) (by assumption), below_then hb hb.size hb'⟩, by decide⟩
        · exact ⟨⟨1, by decide, rfl, tab_no p 0 (by assumption), below_then hb hb.size hb'⟩, by decide⟩
        · exact ⟨⟨2, by decide, rfl, tab_yes p 1 (by decide) (by assumption), below_then hb hb.size hb'⟩, by decide⟩
        · exact ⟨⟨2, by decide, rfl, tab_no p 1 (by assumption), below_then hb hb.size hb'⟩, by decide⟩
      · obtain rfl : j = 2 := by omega
        go_wp2
        go_ret
        exact ⟨rfl, hb⟩
  · go_enter Try.func47, Try.ntmps47
    go_wp2
    go_loopw [5, 9] (fun t i wr => ∃ j : Nat, j ≤ 4 ∧ i = .int .i64 j ∧ t = .int .i64 (tabN p j : Nat) ∧ Below w.heap.size w wr) (fun _ i _ => 4 - (intOf i).toNat)
    case atStart => exact ⟨0, by omega, rfl, rfl, Below.refl _ _⟩
    case round =>
      obtain ⟨j, hj, rfl, rfl, hb⟩ := hrel
      by_cases hlt : j < 4
      · rcases (by omega : j = 0 ∨ j = 1 ∨ j = 2 ∨ j = 3) with rfl | rfl | rfl | rfl
        all_goals go_wp2_with (go_at_call 52; (refine (HC _ _ (by decide) (by decide) hb).mono ?_); rintro e w' ⟨rfl, hb'⟩)
        · exact ⟨⟨1, by decide, rfl, tab_yes p 0 (by decide) (by assumption), below_then hb hb.size hb'⟩, by decide⟩
        · exact ⟨⟨1, by decide, rfl, tab_no p 0 (by assumption), below_then hb hb.size hb'⟩, by decide⟩
        · exact ⟨⟨2, by decide, rfl, tab_yes p 1 (by decide) (by assumption), below_then hb hb.size hb'⟩, by decide⟩
        · exact ⟨⟨2, by decide, rfl, tab_no p 1 (by assumption), below_then hb hb.size hb'⟩, by decide⟩
        · exact ⟨⟨3, by decide, rfl, tab_yes p 2 (by decide) (by assumption), below_then hb hb.size hb'⟩, by decide⟩
        · exact ⟨⟨3, by decide, rfl, tab_no p 2 (by assumption), below_then hb hb.size hb'⟩, by decide⟩
        · exact ⟨⟨4, by decide, rfl, tab_yes p 3 (by decide) (by assumption), below_then hb hb.size hb'⟩, by decide⟩
        · exact ⟨⟨4, by decide, rfl, tab_no p 3 (by assumption), below_then hb hb.size hb'⟩, by decide⟩
      · obtain rfl : j = 4 := by omega
        go_wp2
        go_ret
        exact ⟨rfl, hb⟩
  · go_enter Try.func47, Try.ntmps47
    go_wp2
    go_loopw [5, 9] (fun t i wr => ∃ j : Nat, j ≤ 8 ∧ i = .int .i64 j ∧ t = .int .i64 (tabN p j : Nat) ∧ Below w.heap.size w wr) (fun _ i _ => 8 - (intOf i).toNat)
    case atStart => exact ⟨0, by omega, rfl, rfl, Below.refl _ _⟩
    case round =>
      obtain ⟨j, hj, rfl, rfl, hb⟩ := hrel
      by_cases hlt : j < 8
      · rcases (by omega : j = 0 ∨ j = 1 ∨ j = 2 ∨ j = 3 ∨ j = 4 ∨ j = 5 ∨ j = 6 ∨ j = 7) with rfl | rfl | rfl | rfl | rfl | rfl | rfl | rfl
        all_goals go_wp2_with (go_at_call 52; (refine (HC _ _ (by decide) (by decide) hb).mono ?_); rintro e w' ⟨rfl, hb'⟩)
        · exact ⟨⟨1, by decide, rfl, tab_yes p 0 (by decide) (by assumption), below_then hb hb.size hb'⟩, by decide⟩
        · exact ⟨⟨1, by decide, rfl, tab_no p 0 (by assumption), below_then hb hb.size hb'⟩, by decide⟩
        · exact ⟨⟨2, by decide, rfl, tab_yes p 1 (by decide) (by assumption), below_then hb hb.size hb'⟩, by decide⟩
        · exact ⟨⟨2, by decide, rfl, tab_no p 1 (by assumption), below_then hb hb.size hb'⟩, by decide⟩
        · exact ⟨⟨3, by decide, rfl, tab_yes p 2 (by decide) (by assumption), below_then hb hb.size hb'⟩, by decide⟩
        · exact ⟨⟨3, by decide, rfl, tab_no p 2 (by assumption), below_then hb hb.size hb'⟩, by decide⟩
        · exact ⟨⟨4, by decide, rfl, tab_yes p 3 (by decide) (by assumption), below_then hb hb.size hb'⟩, by decide⟩
        · exact ⟨⟨4, by decide, rfl, tab_no p 3 (by assumption), below_then hb hb.size hb'⟩, by decide⟩
        · exact ⟨⟨5, by decide, rfl, tab_yes p 4 (by decide) (by assumption), below_then hb hb.size hb'⟩, by decide⟩
        · exact ⟨⟨5, by decide, rfl, tab_no p 4 (by assumption), below_then hb hb.size hb'⟩, by decide⟩
        · exact ⟨⟨6, by decide, rfl, tab_yes p 5 (by decide) (by assumption), below_then hb hb.size hb'⟩, by decide⟩
        · exact ⟨⟨6, by decide, rfl, tab_no p 5 (by assumption), below_then hb hb.size hb'⟩, by decide⟩
        · exact ⟨⟨7, by decide, rfl, tab_yes p 6 (by decide) (by assumption), below_then hb hb.size hb'⟩, by decide⟩
        · exact ⟨⟨7, by decide, rfl, tab_no p 6 (by assumption), below_then hb hb.size hb'⟩, by decide⟩
        · exact ⟨⟨8, by decide, rfl, tab_yes p 7 (by decide) (by assumption), below_then hb hb.size hb'⟩, by decide⟩
        · exact ⟨⟨8, by decide, rfl, tab_no p 7 (by assumption), below_then hb hb.size hb'⟩, by decide⟩
      · obtain rfl : j = 8 := by omega
        go_wp2
        go_ret
        exact ⟨rfl, hb⟩
  · go_enter Try.func47, Try.ntmps47
    go_wp2
    go_loopw [5, 9] (fun t i wr => ∃ j : Nat, j ≤ 16 ∧ i = .int .i64 j ∧ t = .int .i64 (tabN p j : Nat) ∧ Below w.heap.size w wr) (fun _ i _ => 16 - (intOf i).toNat)
    case atStart => exact ⟨0, by omega, rfl, rfl, Below.refl _ _⟩
    case round =>
      obtain ⟨j, hj, rfl, rfl, hb⟩ := hrel
      by_cases hlt : j < 16
      · rcases (by omega : j = 0 ∨ j = 1 ∨ j = 2 ∨ j = 3 ∨ j = 4 ∨ j = 5 ∨ j = 6 ∨ j = 7 ∨ j = 8 ∨ j = 9 ∨ j = 10 ∨ j = 11 ∨ j = 12 ∨ j = 13 ∨ j = 14 ∨ j = 15) with rfl | rfl | rfl | rfl | rfl | rfl | rfl | rfl | rfl | rfl | rfl | rfl | rfl | rfl | rfl | rfl
        all_goals go_wp2_with (go_at_call 52; (refine (HC _ _ (by decide) (by decide) hb).mono ?_); rintro e w' ⟨rfl, hb'⟩)
        · exact ⟨⟨1, by decide, rfl, tab_yes p 0 (by decide) (by assumption), below_then hb hb.size hb'⟩, by decide⟩
        · exact ⟨⟨1, by decide, rfl, tab_no p 0 (by assumption), below_then hb hb.size hb'⟩, by decide⟩
        · exact ⟨⟨2, by decide, rfl, tab_yes p 1 (by decide) (by assumption), below_then hb hb.size hb'⟩, by decide⟩
        · exact ⟨⟨2, by decide, rfl, tab_no p 1 (by assumption), below_then hb hb.size hb'⟩, by decide⟩
        · exact ⟨⟨3, by decide, rfl, tab_yes p 2 (by decide) (by assumption), below_then hb hb.size hb'⟩, by decide⟩
        · exact ⟨⟨3, by decide, rfl, tab_no p 2 (by assumption), below_then hb hb.size hb'⟩, by decide⟩
        · exact ⟨⟨4, by decide, rfl, tab_yes p 3 (by decide) (by assumption), below_then hb hb.size hb'⟩, by decide⟩
        · exact ⟨⟨4, by decide, rfl, tab_no p 3 (by assumption), below_then hb hb.size hb'⟩, by decide⟩
        · exact ⟨⟨5, by decide, rfl, tab_yes p 4 (by decide) (by assumption), below_then hb hb.size hb'⟩, by decide⟩
        · exact ⟨⟨5, by decide, rfl, tab_no p 4 (by assumption), below_then hb hb.size hb'⟩, by decide⟩
        · exact ⟨⟨6, by decide, rfl, tab_yes p 5 (by decide) (by assumption), below_then hb hb.size hb'⟩, by decide⟩
        · exact ⟨⟨6, by decide, rfl, tab_no p 5 (by assumption), below_then hb hb.size hb'⟩, by decide⟩
        · exact ⟨⟨7, by decide, rfl, tab_yes p 6 (by decide) (by assumption), below_then hb hb.size hb'⟩, by decide⟩
        · exact ⟨⟨7, by decide, rfl, tab_no p 6 (by assumption), below_then hb hb.size hb'⟩, by decide⟩
        · exact ⟨⟨8, by decide, rfl, tab_yes p 7 (by decide) (by assumption), below_then hb hb.size hb'⟩, by decide⟩
        · exact ⟨⟨8, by decide, rfl, tab_no p 7 (by assumption), below_then hb hb.size hb'⟩, by decide⟩
        · exact ⟨⟨9, by decide, rfl, tab_yes p 8 (by decide) (by assumption), below_then hb hb.size hb'⟩, by decide⟩
        · exact ⟨⟨9, by decide, rfl, tab_no p 8 (by assumption), below_then hb hb.size hb'⟩, by decide⟩
        · exact ⟨⟨10, by decide, rfl, tab_yes p 9 (by decide) (by assumption), below_then hb hb.size hb'⟩, by decide⟩
        · exact ⟨⟨10, by decide, rfl, tab_no p 9 (by assumption), below_then hb hb.size hb'⟩, by decide⟩
        · exact ⟨⟨11, by decide, rfl, tab_yes p 10 (by decide) (by assumption), below_then hb hb.size hb'⟩, by decide⟩
        · exact ⟨⟨11, by decide, rfl, tab_no p 10 (by assumption), below_then hb hb.size hb'⟩, by decide⟩
        · exact ⟨⟨12, by decide, rfl, tab_yes p 11 (by decide) (by assumption), below_then hb hb.size hb'⟩, by decide⟩
        · exact ⟨⟨12, by decide, rfl, tab_no p 11 (by assumption), below_then hb hb.size hb'⟩, by decide⟩
        · exact ⟨⟨13, by decide, rfl, tab_yes p 12 (by decide) (by assumption), below_then hb hb.size hb'⟩, by decide⟩
        · exact ⟨⟨13, by decide, rfl, tab_no p 12 (by assumption), below_then hb hb.size hb'⟩, by decide⟩
        · exact ⟨⟨14, by decide, rfl, tab_yes p 13 (by decide) (by assumption), below_then hb hb.size hb'⟩, by decide⟩
        · exact ⟨⟨14, by decide, rfl, tab_no p 13 (by assumption), below_then hb hb.size hb'⟩, by decide⟩
        · exact ⟨⟨15, by decide, rfl, tab_yes p 14 (by decide) (by assumption), below_then hb hb.size hb'⟩, by decide⟩
        · exact ⟨⟨15, by decide, rfl, tab_no p 14 (by assumption), below_then hb hb.size hb'⟩, by decide⟩
        · exact ⟨⟨16, by decide, rfl, tab_yes p 15 (by decide) (by assumption), below_then hb hb.size hb'⟩, by decide⟩
        · exact ⟨⟨16, by decide, rfl, tab_no p 15 (by assumption), below_then hb hb.size hb'⟩, by decide⟩
      · obtain rfl : j = 16 := by omega
        go_wp2
        go_ret
        exact ⟨rfl, hb⟩
end Go.Proofs.Ytnmkifpifmdplaa.M

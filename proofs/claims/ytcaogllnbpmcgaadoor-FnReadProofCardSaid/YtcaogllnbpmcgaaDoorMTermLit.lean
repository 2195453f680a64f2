/- TableOf's function literal, and tableBy handed it. -/
import Derived.Test.YtcaogllnbpmcgaaDoorMAllFnReadProof1
import Derived.Lib.Hide
set_option linter.unusedVariables false
set_option linter.unusedSimpArgs false
namespace Go.Proofs.YtcaogllnbpmcgaaDoor.M
open Go Go.RowKit Go.Proofs.YtcaogllnbpmcgaaDoorW.PrintWords Go.Proofs.YtcaogllnbpmcgaaDoor.P
set_option maxHeartbeats 4000000 in
set_option maxRecDepth 100000 in
theorem term_lit (k : Nat) (A : Option Addr) (c : Nat) (l : List Mk) (i : Int) (r : Bool) (a : Addr) (W : World) (c0 : W.cell? a = some (.slice A l.length c))
    (hr : Kd.C k82 W A l.length l) (hc : l.length ≤ c) (h : impl_holds.f k l i = some r) :
    Calls Tryd.prog 82 #[.int .i64 i, .pointer (some a)] W fun e W' => e = .returned (.bool r) ∧ Below W.heap.size W W' := by
  have hh := Lib.hid h
  clear h
  go_enter Tryd.func82, Tryd.ntmps82
  go_wp2_with (go_at_call 83; (refine (impl_holds.calls k A c l i r _ hr hc hh.out).mono ?_); rintro e w' ⟨rfl, hb⟩)
  go_ret
  exact ⟨rfl, hb⟩
set_option maxHeartbeats 4000000 in
set_option maxRecDepth 100000 in
theorem tableBy_TableOf (v0 : Value) (people : Int) (hp : people = 1 ∨ people = 2 ∨ people = 3 ∨ people = 4) (p : Nat → Bool) (w : World)
    (HC : ∀ (i : Int) (W : World), 0 ≤ i → i < 2 ^ people.toNat → Below w.heap.size w W → Calls Tryd.prog 82 #[.int .i64 i, v0] W fun e W' => e = .returned (.bool (p i.toNat)) ∧ Below W.heap.size W W') :
    Calls Tryd.prog 65 #[.int .i64 people, .func (.func 82) #[] #[v0]] w fun e w' => e = .returned (.int .i64 (tabN p (pw people.toNat) : Nat)) ∧ Below w.heap.size w w' := by
  rcases hp with rfl | rfl | rfl | rfl
  · go_enter Tryd.func65, Tryd.ntmps65
    go_wp2
    go_loopw [5, 9] (fun t i wr => ∃ j : Nat, j ≤ 2 ∧ i = .int .i64 j ∧ t = .int .i64 (tabN p j : Nat) ∧ Below w.heap.size w wr) (fun _ i _ => 2 - (intOf i).toNat)
    case atStart => exact ⟨0, by omega, rfl, rfl, Below.refl _ _⟩
    case round =>
      obtain ⟨j, hj, rfl, rfl, hb⟩ := hrel
      by_cases hlt : j < 2
      · rcases (by omega : j = 0 ∨ j = 1) with rfl | rfl
        all_goals go_wp2_with (go_at_call 82; (refine (HC _ _ (by decide) (by decide) hb).mono ?_); rintro e w' ⟨rfl, hb'⟩)
        · exact ⟨⟨1, by decide, rfl, tab_yes p 0 (by decide) (by assumption), below_then hb hb.size hb'⟩, by decide⟩
        · exact ⟨⟨1, by decide, rfl, tab_no p 0 (by assumption), below_then hb hb.size hb'⟩, by decide⟩
        · exact ⟨⟨2, by decide, rfl, tab_yes p 1 (by decide) (by assumption), below_then hb hb.size hb'⟩, by decide⟩
        · exact ⟨⟨2, by decide, rfl, tab_no p 1 (by assumption), below_then hb hb.size hb'⟩, by decide⟩
      · obtain rfl : j = 2 := by omega
        go_wp2
        go_ret
        exact ⟨rfl, hb⟩
  · go_enter Tryd.func65, Tryd.ntmps65
    go_wp2
    go_loopw [5, 9] (fun t i wr => ∃ j : Nat, j ≤ 4 ∧ i = .int .i64 j ∧ t = .int .i64 (tabN p j : Nat) ∧ Below w.heap.size w wr) (fun _ i _ => 4 - (intOf i).toNat)
    case atStart => exact ⟨0, by omega, rfl, rfl, Below.refl _ _⟩
    case round =>
      obtain ⟨j, hj, rfl, rfl, hb⟩ := hrel
      by_cases hlt : j < 4
      · rcases (by omega : j = 0 ∨ j = 1 ∨ j = 2 ∨ j = 3) with rfl | rfl | rfl | rfl
        all_goals go_wp2_with (go_at_call 82; (refine (HC _ _ (by decide) (by decide) hb).mono ?_); rintro e w' ⟨rfl, hb'⟩)
        · exact ⟨⟨1, by decide, rfl, tab_yes p 0 (by decide) (by assumption), below_then hb hb.size hb'⟩, by decide⟩
        · exact ⟨⟨1, by decide, rfl, tab_no p 0 (by assumption), below_then hb hb.size hb'⟩, by decide⟩
        · exact ⟨⟨2, by decide, rfl, tab_yes p 1 (by decide) (by assumption), below_then hb hb.size hb'⟩, by decide⟩
        · exact ⟨⟨2, by decide, rfl, tab_no p 1 (by assumption), below_then hb hb.size hb'⟩, by decide⟩
        · exact ⟨⟨3, by decide, rfl, tab_yes p 2 (by decide) (by assumption), below_then hb hb.size hb'⟩, by decide⟩
        · exact ⟨⟨3, by decide, rfl, tab_no p 2 (by assumption), below_then hb hb.size hb'⟩, by decide⟩
        · exact ⟨⟨4, by decide, rfl, tab_yes p 3 (by decide) (by assumption), below_then hb hb.size hb'⟩, by decide⟩
        · exact ⟨⟨4, by decide, rfl, tab_no p 3 (by assumption), below_then hb hb.size hb'⟩, by decide⟩
      · obtain rfl : j = 4 := by omega
        go_wp2
        go_ret
        exact ⟨rfl, hb⟩
  · go_enter Tryd.func65, Tryd.ntmps65
    go_wp2
    go_loopw [5, 9] (fun t i wr => ∃ j : Nat, j ≤ 8 ∧ i = .int .i64 j ∧ t = .int .i64 (tabN p j : Nat) ∧ Below w.heap.size w wr) (fun _ i _ => 8 - (intOf i).toNat)
    case atStart => exact ⟨0, by omega, rfl, rfl, Below.refl _ _⟩
    case round =>
      obtain ⟨j, hj, rfl, rfl, hb⟩ := hrel
      by_cases hlt : j < 8
      · rcases (by omega : j = 0 ∨ j = 1 ∨ j = 2 ∨ j = 3 ∨ j = 4 ∨ j = 5 ∨ j = 6 ∨ j = 7) with rfl | rfl | rfl | rfl | rfl | rfl | rfl | rfl
        all_goals go_wp2_with (go_at_call 82; (refine (HC _ _ (by decide) (by decide) hb).mono ?_); rintro e w' ⟨rfl, hb'⟩)
        · exact ⟨⟨1, by decide, rfl, tab_yes p 0 (by decide) (by assumption), below_then hb hb.size hb'⟩, by decide⟩
        · exact ⟨⟨1, by decide, rfl, tab_no p 0 (by assumption), below_then hb hb.size hb'⟩, by decide⟩
        · exact ⟨⟨2, by decide, rfl, tab_yes p 1 (by decide) (by assumption), below_then hb hb.size hb'⟩, by decide⟩
        · exact ⟨⟨2, by decide, rfl, tab_no p 1 (by assumption), below_then hb hb.size hb'⟩, by decide⟩
        · exact ⟨⟨3, by decide, rfl, tab_yes p 2 (by decide) (by assumption), below_then hb hb.size hb'⟩, by decide⟩
        · exact ⟨⟨3, by decide, rfl, tab_no p 2 (by assumption), below_then hb hb.size hb'⟩, by decide⟩
        · exact ⟨⟨4, by decide, rfl, tab_yes p 3 (by decide) (by assumption), below_then hb hb.size hb'⟩, by decide⟩
        · exact ⟨⟨4, by decide, rfl, tab_no p 3 (by assumption), below_then hb hb.size hb'⟩, by decide⟩
        · exact ⟨⟨5, by decide, rfl, tab_yes p 4 (by decide) (by assumption), below_then hb hb.size hb'⟩, by decide⟩
        · exact ⟨⟨5, by decide, rfl, tab_no p 4 (by assumption), below_then hb hb.size hb'⟩, by decide⟩
        · exact ⟨⟨6, by decide, rfl, tab_yes p 5 (by decide) (by assumption), below_then hb hb.size hb'⟩, by decide⟩
        · exact ⟨⟨6, by decide, rfl, tab_no p 5 (by assumption), below_then hb hb.size hb'⟩, by decide⟩
        · exact ⟨⟨7, by decide, rfl, tab_yes p 6 (by decide) (by assumption), below_then hb hb.size hb'⟩, by decide⟩
        · exact ⟨⟨7, by decide, rfl, tab_no p 6 (by assumption), below_then hb hb.size hb'⟩, by decide⟩
        · exact ⟨⟨8, by decide, rfl, tab_yes p 7 (by decide) (by assumption), below_then hb hb.size hb'⟩, by decide⟩
        · exact ⟨⟨8, by decide, rfl, tab_no p 7 (by assumption), below_then hb hb.size hb'⟩, by decide⟩
      · obtain rfl : j = 8 := by omega
        go_wp2
        go_ret
        exact ⟨rfl, hb⟩
  · go_enter Tryd.func65, Tryd.ntmps65
    go_wp2
    go_loopw [5, 9] (fun t i wr => ∃ j : Nat, j ≤ 16 ∧ i = .int .i64 j ∧ t = .int .i64 (tabN p j : Nat) ∧ Below w.heap.size w wr) (fun _ i _ => 16 - (intOf i).toNat)
    case atStart => exact ⟨0, by omega, rfl, rfl, Below.refl _ _⟩
    case round =>
      obtain ⟨j, hj, rfl, rfl, hb⟩ := hrel
      by_cases hlt : j < 16
      · rcases (by omega : j = 0 ∨ j = 1 ∨ j = 2 ∨ j = 3 ∨ j = 4 ∨ j = 5 ∨ j = 6 ∨ j = 7 ∨ j = 8 ∨ j = 9 ∨ j = 10 ∨ j = 11 ∨ j = 12 ∨ j = 13 ∨ j = 14 ∨ j = 15) with rfl | rfl | rfl | rfl | rfl | rfl | rfl | rfl | rfl | rfl | rfl | rfl | rfl | rfl | rfl | rfl
        all_goals go_wp2_with (go_at_call 82; (refine (HC _ _ (by decide) (by decide) hb).mono ?_); rintro e w' ⟨rfl, hb'⟩)
        · exact ⟨⟨1, by decide, rfl, tab_yes p 0 (by decide) (by assumption), below_then hb hb.size hb'⟩, by decide⟩
        · exact ⟨⟨1, by decide, rfl, tab_no p 0 (by assumption), below_then hb hb.size hb'⟩, by decide⟩
        · exact ⟨⟨2, by decide, rfl, tab_yes p 1 (by decide) (by assumption), below_then hb hb.size hb'⟩, by decide⟩
        · exact ⟨⟨2, by decide, rfl, tab_no p 1 (by assumption), below_then hb hb.size hb'⟩, by decide⟩
        · exact ⟨⟨3, by decide, rfl, tab_yes p 2 (by decide) (by assumption), below_then hb hb.size hb'⟩, by decide⟩
        · exact ⟨⟨3, by decide, rfl, tab_no p 2 (by assumption), below_then hb hb.size hb'⟩, by decide⟩
        · exact ⟨⟨4, by decide, rfl, tab_yes p 3 (by decide) (by assumption), below_then hb hb.size hb'⟩, by decide⟩
        · exact ⟨⟨4, by decide, rfl, tab_no p 3 (by assumption), below_then hb hb.size hb'⟩, by decide⟩
        · exact ⟨⟨5, by decide, rfl, tab_yes p 4 (by decide) (by assumption), below_then hb hb.size hb'⟩, by decide⟩
        · exact ⟨⟨5, by decide, rfl, tab_no p 4 (by assumption), below_then hb hb.size hb'⟩, by decide⟩
        · exact ⟨⟨6, by decide, rfl, tab_yes p 5 (by decide) (by assumption), below_then hb hb.size hb'⟩, by decide⟩
        · exact ⟨⟨6, by decide, rfl, tab_no p 5 (by assumption), below_then hb hb.size hb'⟩, by decide⟩
        · exact ⟨⟨7, by decide, rfl, tab_yes p 6 (by decide) (by assumption), below_then hb hb.size hb'⟩, by decide⟩
        · exact ⟨⟨7, by decide, rfl, tab_no p 6 (by assumption), below_then hb hb.size hb'⟩, by decide⟩
        · exact ⟨⟨8, by decide, rfl, tab_yes p 7 (by decide) (by assumption), below_then hb hb.size hb'⟩, by decide⟩
        · exact ⟨⟨8, by decide, rfl, tab_no p 7 (by assumption), below_then hb hb.size hb'⟩, by decide⟩
        · exact ⟨⟨9, by decide, rfl, tab_yes p 8 (by decide) (by assumption), below_then hb hb.size hb'⟩, by decide⟩
        · exact ⟨⟨9, by decide, rfl, tab_no p 8 (by assumption), below_then hb hb.size hb'⟩, by decide⟩
        · exact ⟨⟨10, by decide, rfl, tab_yes p 9 (by decide) (by assumption), below_then hb hb.size hb'⟩, by decide⟩
        · exact ⟨⟨10, by decide, rfl, tab_no p 9 (by assumption), below_then hb hb.size hb'⟩, by decide⟩
        · exact ⟨⟨11, by decide, rfl, tab_yes p 10 (by decide) (by assumption), below_then hb hb.size hb'⟩, by decide⟩
        · exact ⟨⟨11, by decide, rfl, tab_no p 10 (by assumption), below_then hb hb.size hb'⟩, by decide⟩
        · exact ⟨⟨12, by decide, rfl, tab_yes p 11 (by decide) (by assumption), below_then hb hb.size hb'⟩, by decide⟩
        · exact ⟨⟨12, by decide, rfl, tab_no p 11 (by assumption), below_then hb hb.size hb'⟩, by decide⟩
        · exact ⟨⟨13, by decide, rfl, tab_yes p 12 (by decide) (by assumption), below_then hb hb.size hb'⟩, by decide⟩
        · exact ⟨⟨13, by decide, rfl, tab_no p 12 (by assumption), below_then hb hb.size hb'⟩, by decide⟩
        · exact ⟨⟨14, by decide, rfl, tab_yes p 13 (by decide) (by assumption), below_then hb hb.size hb'⟩, by decide⟩
        · exact ⟨⟨14, by decide, rfl, tab_no p 13 (by assumption), below_then hb hb.size hb'⟩, by decide⟩
        · exact ⟨⟨15, by decide, rfl, tab_yes p 14 (by decide) (by assumption), below_then hb hb.size hb'⟩, by decide⟩
        · exact ⟨⟨15, by decide, rfl, tab_no p 14 (by assumption), below_then hb hb.size hb'⟩, by decide⟩
        · exact ⟨⟨16, by decide, rfl, tab_yes p 15 (by decide) (by assumption), below_then hb hb.size hb'⟩, by decide⟩
        · exact ⟨⟨16, by decide, rfl, tab_no p 15 (by assumption), below_then hb hb.size hb'⟩, by decide⟩
      · obtain rfl : j = 16 := by omega
        go_wp2
        go_ret
        exact ⟨rfl, hb⟩
end Go.Proofs.YtcaogllnbpmcgaaDoor.M

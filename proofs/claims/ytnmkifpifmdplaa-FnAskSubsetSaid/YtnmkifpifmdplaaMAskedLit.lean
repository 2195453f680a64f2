/- AskedTable's function literal, and tableBy handed it. -/
import Derived.Test.YtnmkifpifmdplaaMKnown
import Derived.Test.YtnmkifpifmdplaaMTab
import Derived.Lib.Hide
set_option linter.unusedVariables false
set_option linter.unusedSimpArgs false
namespace Go.Proofs.Ytnmkifpifmdplaa.M
open Go Go.RowKit Go.Proofs.YtnmkifpifmdplaaW.PrintWords Go.Proofs.Ytnmkifpifmdplaa.P
theorem bt_k (i : Int) (k : Nat) (hi : 0 ≤ i) (hi2 : i < 16) (hk : k ≤ 64) : Go.bits .and .i64 (i / 2 ^ k) 1 = ((bitN i.toNat k : Nat) : Int) := by
  obtain ⟨m, rfl⟩ : ∃ m : Nat, i = (m : Int) := ⟨i.toNat, by omega⟩
  rw [Int.toNat_natCast, ← shr_and1 m k hk (by omega)]
  unfold shr
  rw [Int.toNat_natCast, bits_i64, Nat.min_eq_left hk]
theorem bt_0 (i : Int) (hi : 0 ≤ i) (hi2 : i < 16) : Go.bits .and .i64 i 1 = ((bitN i.toNat 0 : Nat) : Int) := by
  have := bt_k i 0 hi hi2 (by decide)
  simpa using this
theorem cast_beq (a b : Nat) : ((a : Int) == (b : Int)) = (a == b) := by
  rw [Bool.eq_iff_iff, beq_iff_eq, beq_iff_eq]
  omega
theorem ret_bool {a b : Bool} (h : a = b) : Ending.returned (.bool a) = .returned (.bool b) := by rw [h]
set_option maxHeartbeats 4000000 in
set_option maxRecDepth 100000 in
theorem asked_lit (i : Int) (who whom : Nat) (yes : Bool) (a b c : Addr) (W : World) (hi : 0 ≤ i) (hi2 : i < 16) (h0 : who < 4) (h1 : whom < 4)
    (ca : W.cell? a = some (.int .i64 (who : Int))) (cb : W.cell? b = some (.int .i64 (whom : Int))) (cc : W.cell? c = some (.bool yes)) :
    Calls Try.prog 48 #[.int .i64 i, .pointer (some a), .pointer (some b), .pointer (some c)] W fun e W' => e = .returned (.bool ((bitN i.toNat who == bitN i.toNat whom) == yes)) ∧ Below W.heap.size W W' := by
  have e0 := Lib.hid (bt_0 i hi hi2)
  have e1 := Lib.hid (bt_k i 1 hi hi2 (by decide))
  have e2 := Lib.hid (bt_k i 2 hi hi2 (by decide))
  have e3 := Lib.hid (bt_k i 3 hi hi2 (by decide))
  rcases (by omega : who = 0 ∨ who = 1 ∨ who = 2 ∨ who = 3) with rfl | rfl | rfl | rfl
  all_goals rcases (by omega : whom = 0 ∨ whom = 1 ∨ whom = 2 ∨ whom = 3) with rfl | rfl | rfl | rfl
  all_goals
    go_enter Try.func48, Try.ntmps48
    go_wp2
    go_quiet (fail)
    go_wp2
    go_ret
    refine ⟨ret_bool ?_, pw_below_drewN (Below.refl _ _) _⟩
    first
      | (simp only [beq_self_eq_true]; cases yes <;> rfl)
      | (have f0 := e0.out; have f1 := e1.out; have f2 := e2.out; have f3 := e3.out; simp at f0 f1 f2 f3; simp only [f0, f1, f2, f3, cast_beq])
      | go_show
set_option maxHeartbeats 4000000 in
set_option maxRecDepth 100000 in
theorem tableBy_AskedTable (v0 v1 v2 : Value) (people : Int) (hp : people = 1 ∨ people = 2 ∨ people = 3 ∨ people = 4) (p : Nat → Bool) (w : World)
    (HC : ∀ (i : Int) (W : World), 0 ≤ i → i < 2 ^ people.toNat → Below w.heap.size w W → Calls Try.prog 48 #[.int .i64 i, v0, v1, v2] W fun e W' => e = .returned (.bool (p i.toNat)) ∧ Below W.heap.size W W') :
    Calls Try.prog 47 #[.int .i64 people, .func (.func 48) #[] #[v0, v1, v2]] w fun e w' => e = .returned (.int .i64 (tabN p (pw people.toNat) : Nat)) ∧ Below w.heap.size w w' := by
  rcases hp with rfl | rfl | rfl | rfl
  · go_enter Try.func47, Try.ntmps47
    go_wp2
    go_loopw [5, 9] (fun t i wr => ∃ j : Nat, j ≤ 2 ∧ i = .int .i64 j ∧ t = .int .i64 (tabN p j : Nat) ∧ Below w.heap.size w wr) (fun _ i _ => 2 - (intOf i).toNat)
    case atStart => exact ⟨0, by omega, rfl, rfl, Below.refl _ _⟩
    case round =>
      obtain ⟨j, hj, rfl, rfl, hb⟩ := hrel
      by_cases hlt : j < 2
      · rcases (by omega : j = 0 ∨ j = 1) with rfl | rfl
        all_goals go_wp2_with (go_at_call 48; (refine (HC _ _ (by decide) (by decide) hb).mono ?_); rintro e w' ⟨rfl, hb'⟩)
        · exact ⟨⟨1, by decide, rfl, tab_yes p 0 (by decide) (by assumption), below_then hb hb.size hb'⟩, by decide⟩
        · exact ⟨⟨1, by decide, rfl, tab_no p 0 (by assumption), below_then hb hb.size hb'⟩, by decide⟩
        · exact ⟨⟨2, by decide, rfl, tab_yes p 1 (by decide) (by assumption), below_then hb hb.size hb'⟩, by decide⟩
        · exact ⟨⟨2, by decide, rfl, tab_no p 1 (by assumption), below_then hb hb.size hb'⟩, by decide⟩
      · obtain rfl : j = 2 := by omega
        go_wp2
        go_ret
        exact ⟨rfl, hb⟩
  · go_enter Try.func47, Try.ntmps47
    go_wp2
    go_loopw [5, 9] (fun t i wr => ∃ j : Nat, j ≤ 4 ∧ i = .int .i64 j ∧ t = .int .i64 (tabN p j : Nat) ∧ Below w.heap.size w wr) (fun _ i _ => 4 - (intOf i).toNat)
    case atStart => exact ⟨0, by omega, rfl, rfl, Below.refl _ _⟩
    case round =>
      obtain ⟨j, hj, rfl, rfl, hb⟩ := hrel
      by_cases hlt : j < 4
      · rcases (by omega : j = 0 ∨ j = 1 ∨ j = 2 ∨ j = 3) with rfl | rfl | rfl | rfl
        all_goals go_wp2_with (go_at_call 48; (refine (HC _ _ (by decide) (by decide) hb).mono ?_); rintro e w' ⟨rfl, hb'⟩)
        · exact ⟨⟨1, by decide, rfl, tab_yes p 0 (by decide) (by assumption), below_then hb hb.size hb'⟩, by decide⟩
        · exact ⟨⟨1, by decide, rfl, tab_no p 0 (by assumption), below_then hb hb.size hb'⟩, by decide⟩
        · exact ⟨⟨2, by decide, rfl, tab_yes p 1 (by decide) (by assumption), below_then hb hb.size hb'⟩, by decide⟩
        · exact ⟨⟨2, by decide, rfl, tab_no p 1 (by assumption), below_then hb hb.size hb'⟩, by decide⟩
        · exact ⟨⟨3, by decide, rfl, tab_yes p 2 (by decide) (by assumption), below_then hb hb.size hb'⟩, by decide⟩
        · exact ⟨⟨3, by decide, rfl, tab_no p 2 (by assumption), below_then hb hb.size hb'⟩, by decide⟩
        · exact ⟨⟨4, by decide, rfl, tab_yes p 3 (by decide) (by assumption), below_then hb hb.size hb'⟩, by decide⟩
        · exact ⟨⟨4, by decide, rfl, tab_no p 3 (by assumption), below_then hb hb.size hb'⟩, by decide⟩
      · obtain rfl : j = 4 := by omega
        go_wp2
        go_ret
        exact ⟨rfl, hb⟩
  · go_enter Try.func47, Try.ntmps47
    go_wp2
    go_loopw [5, 9] (fun t i wr => ∃ j : Nat, j ≤ 8 ∧ i = .int .i64 j ∧ t = .int .i64 (tabN p j : Nat) ∧ Below w.heap.size w wr) (fun _ i _ => 8 - (intOf i).toNat)
    case atStart => exact ⟨0, by omega, rfl, rfl, Below.refl _ _⟩
    case round =>
      obtain ⟨j, hj, rfl, rfl, hb⟩ := hrel
      by_cases hlt : j < 8
      · rcases (by omega : j = 0 ∨ j = 1 ∨ j = 2 ∨ j = 3 ∨ j = 4 ∨ j = 5 ∨ j = 6 ∨ j = 7) with rfl | rfl | rfl | rfl | rfl | rfl | rfl | rfl
        all_goals go_wp2_with (go_at_call 48; (refine (HC _ _ (by decide) (by decide) hb).mono ?_); rintro e w' ⟨rfl, hb'⟩)
        · exact ⟨⟨1, by decide, rfl, tab_yes p 0 (by decide) (by assumption), below_then hb hb.size hb'⟩, by decide⟩
        · exact ⟨⟨1, by decide, rfl, tab_no p 0 (by assumption), below_then hb hb.size hb'⟩, by decide⟩
        · exact ⟨⟨2, by decide, rfl, tab_yes p 1 (by decide) (by assumption), below_then hb hb.size hb'⟩, by decide⟩
        · exact ⟨⟨2, by decide, rfl, tab_no p 1 (by assumption), below_then hb hb.size hb'⟩, by decide⟩
        · exact ⟨⟨3, by decide, rfl, tab_yes p 2 (by decide) (by assumption), below_then hb hb.size hb'⟩, by decide⟩
        · exact ⟨⟨3, by decide, rfl, tab_no p 2 (by assumption), below_then hb hb.size hb'⟩, by decide⟩
        · exact ⟨⟨4, by decide, rfl, tab_yes p 3 (by decide) (by assumption), below_then hb hb.size hb'⟩, by decide⟩
        · exact ⟨⟨4, by decide, rfl, tab_no p 3 (by assumption), below_then hb hb.size hb'⟩, by decide⟩
        · exact ⟨⟨5, by decide, rfl, tab_yes p 4 (by decide) (by assumption), below_then hb hb.size hb'⟩, by decide⟩
        · exact ⟨⟨5, by decide, rfl, tab_no p 4 (by assumption), below_then hb hb.size hb'⟩, by decide⟩
        · exact ⟨⟨6, by decide, rfl, tab_yes p 5 (by decide) (by assumption), below_then hb hb.size hb'⟩, by decide⟩
        · exact ⟨⟨6, by decide, rfl, tab_no p 5 (by assumption), below_then hb hb.size hb'⟩, by decide⟩
        · exact ⟨⟨7, by decide, rfl, tab_yes p 6 (by decide) (by assumption), below_then hb hb.size hb'⟩, by decide⟩
        · exact ⟨⟨7, by decide, rfl, tab_no p 6 (by assumption), below_then hb hb.size hb'⟩, by decide⟩
        · exact ⟨⟨8, by decide, rfl, tab_yes p 7 (by decide) (by assumption), below_then hb hb.size hb'⟩, by decide⟩
        · exact ⟨⟨8, by decide, rfl, tab_no p 7 (by assumption), below_then hb hb.size hb'⟩, by decide⟩
      · obtain rfl : j = 8 := by omega
        go_wp2
        go_ret
        exact ⟨rfl, hb⟩
  · go_enter Try.func47, Try.ntmps47
    go_wp2
    go_loopw [5, 9] (fun t i wr => ∃ j : Nat, j ≤ 16 ∧ i = .int .i64 j ∧ t = .int .i64 (tabN p j : Nat) ∧ Below w.heap.size w wr) (fun _ i _ => 16 - (intOf i).toNat)
    case atStart => exact ⟨0, by omega, rfl, rfl, Below.refl _ _⟩
    case round =>
      obtain ⟨j, hj, rfl, rfl, hb⟩ := hrel
      by_cases hlt : j < 16
      · rcases (by omega : j = 0 ∨ j = 1 ∨ j = 2 ∨ j = 3 ∨ j = 4 ∨ j = 5 ∨ j = 6 ∨ j = 7 ∨ j = 8 ∨ j = 9 ∨ j = 10 ∨ j = 11 ∨ j = 12 ∨ j = 13 ∨ j = 14 ∨ j = 15) with rfl | rfl | rfl | rfl | rfl | rfl | rfl | rfl | rfl | rfl | rfl | rfl | rfl | rfl | rfl | rfl
        all_goals go_wp2_with (go_at_call 48; (refine (HC _ _ (by decide) (by decide) hb).mono ?_); rintro e w' ⟨rfl, hb'⟩)
        · exact ⟨⟨1, by decide, rfl, tab_yes p 0 (by decide) (by assumption), below_then hb hb.size hb'⟩, by decide⟩
        · exact ⟨⟨1, by decide, rfl, tab_no p 0 (by assumption), below_then hb hb.size hb'⟩, by decide⟩
        · exact ⟨⟨2, by decide, rfl, tab_yes p 1 (by decide) (by assumption), below_then hb hb.size hb'⟩, by decide⟩
        · exact ⟨⟨2, by decide, rfl, tab_no p 1 (by assumption), below_then hb hb.size hb'⟩, by decide⟩
        · exact ⟨⟨3, by decide, rfl, tab_yes p 2 (by decide) (by assumption), below_then hb hb.size hb'⟩, by decide⟩
        · exact ⟨⟨3, by decide, rfl, tab_no p 2 (by assumption), below_then hb hb.size hb'⟩, by decide⟩
        · exact ⟨⟨4, by decide, rfl, tab_yes p 3 (by decide) (by assumption), below_then hb hb.size hb'⟩, by decide⟩
        · exact ⟨⟨4, by decide, rfl, tab_no p 3 (by assumption), below_then hb hb.size hb'⟩, by decide⟩
        · exact ⟨⟨5, by decide, rfl, tab_yes p 4 (by decide) (by assumption), below_then hb hb.size hb'⟩, by decide⟩
        · exact ⟨⟨5, by decide, rfl, tab_no p 4 (by assumption), below_then hb hb.size hb'⟩, by decide⟩
        · exact ⟨⟨6, by decide, rfl, tab_yes p 5 (by decide) (by assumption), below_then hb hb.size hb'⟩, by decide⟩
        · exact ⟨⟨6, by decide, rfl, tab_no p 5 (by assumption), below_then hb hb.size hb'⟩, by decide⟩
        · exact ⟨⟨7, by decide, rfl, tab_yes p 6 (by decide) (by assumption), below_then hb hb.size hb'⟩, by decide⟩
        · exact ⟨⟨7, by decide, rfl, tab_no p 6 (by assumption), below_then hb hb.size hb'⟩, by decide⟩
        · exact ⟨⟨8, by decide, rfl, tab_yes p 7 (by decide) (by assumption), below_then hb hb.size hb'⟩, by decide⟩
        · exact ⟨⟨8, by decide, rfl, tab_no p 7 (by assumption), below_then hb hb.size hb'⟩, by decide⟩
        · exact ⟨⟨9, by decide, rfl, tab_yes p 8 (by decide) (by assumption), below_then hb hb.size hb'⟩, by decide⟩
        · exact ⟨⟨9, by decide, rfl, tab_no p 8 (by assumption), below_then hb hb.size hb'⟩, by decide⟩
        · exact ⟨⟨10, by decide, rfl, tab_yes p 9 (by decide) (by assumption), below_then hb hb.size hb'⟩, by decide⟩
        · exact ⟨⟨10, by decide, rfl, tab_no p 9 (by assumption), below_then hb hb.size hb'⟩, by decide⟩
        · exact ⟨⟨11, by decide, rfl, tab_yes p 10 (by decide) (by assumption), below_then hb hb.size hb'⟩, by decide⟩
        · exact ⟨⟨11, by decide, rfl, tab_no p 10 (by assumption), below_then hb hb.size hb'⟩, by decide⟩
        · exact ⟨⟨12, by decide, rfl, tab_yes p 11 (by decide) (by assumption), below_then hb hb.size hb'⟩, by decide⟩
        · exact ⟨⟨12, by decide, rfl, tab_no p 11 (by assumption), below_then hb hb.size hb'⟩, by decide⟩
        · exact ⟨⟨13, by decide, rfl, tab_yes p 12 (by decide) (by assumption), below_then hb hb.size hb'⟩, by decide⟩
        · exact ⟨⟨13, by decide, rfl, tab_no p 12 (by assumption), below_then hb hb.size hb'⟩, by decide⟩
        · exact ⟨⟨14, by decide, rfl, tab_yes p 13 (by decide) (by assumption), below_then hb hb.size hb'⟩, by decide⟩
        · exact ⟨⟨14, by decide, rfl, tab_no p 13 (by assumption), below_then hb hb.size hb'⟩, by decide⟩
        · exact ⟨⟨15, by decide, rfl, tab_yes p 14 (by decide) (by assumption), below_then hb hb.size hb'⟩, by decide⟩
        · exact ⟨⟨15, by decide, rfl, tab_no p 14 (by assumption), below_then hb hb.size hb'⟩, by decide⟩
        · exact ⟨⟨16, by decide, rfl, tab_yes p 15 (by decide) (by assumption), below_then hb hb.size hb'⟩, by decide⟩
        · exact ⟨⟨16, by decide, rfl, tab_no p 15 (by assumption), below_then hb hb.size hb'⟩, by decide⟩
      · obtain rfl : j = 16 := by omega
        go_wp2
        go_ret
        exact ⟨rfl, hb⟩

end Go.Proofs.Ytnmkifpifmdplaa.M

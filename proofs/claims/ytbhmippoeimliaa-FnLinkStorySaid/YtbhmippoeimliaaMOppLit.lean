/- OppositeTable's function literal, and tableBy handed it. -/
import Derived.Test.YtbhmippoeimliaaMWorlds
import Derived.Test.YtbhmippoeimliaaMTab
import Derived.Lib.Hide
set_option linter.unusedVariables false
set_option linter.unusedSimpArgs false
namespace Go.Proofs.Ytbhmippoeimliaa.M
open Go Go.RowKit Go.Proofs.YtbhmippoeimliaaW.PrintWords Go.Proofs.Ytbhmippoeimliaa.P
/-- The opposite of the world is in the table. -/
def oppP (people table w : Nat) : Bool := bitN table (pw people - 1 - w) == 1
theorem ot_k (i : Int) (k : Nat) (hi : 0 ≤ i) (hi2 : i < 65536) (hk : k ≤ 64) : Go.bits .and .i64 (i / 2 ^ k) 1 = ((bitN i.toNat k : Nat) : Int) := by
  obtain ⟨m, rfl⟩ : ∃ m : Nat, i = (m : Int) := ⟨i.toNat, by omega⟩
  rw [Int.toNat_natCast, ← shr_and1 m k hk (by omega)]
  unfold shr
  rw [Int.toNat_natCast, bits_i64, Nat.min_eq_left hk]
theorem ot_0 (i : Int) (hi : 0 ≤ i) (hi2 : i < 65536) : Go.bits .and .i64 i 1 = ((bitN i.toNat 0 : Nat) : Int) := by
  have := ot_k i 0 hi hi2 (by decide)
  simpa using this
theorem opp_ret {a b : Bool} (h : a = b) : Ending.returned (.bool a) = .returned (.bool b) := by rw [h]
theorem cast_one (a : Nat) : ((a : Int) == (1 : Int)) = (a == 1) := by
  rw [Bool.eq_iff_iff, beq_iff_eq, beq_iff_eq]
  omega
set_option maxHeartbeats 4000000 in
set_option maxRecDepth 100000 in
theorem opp_lit (people i : Int) (k : Nat) (table : Int) (hp : people = 1 ∧ i = 0 ∧ k = 1 ∨ people = 1 ∧ i = 1 ∧ k = 0 ∨ people = 2 ∧ i = 0 ∧ k = 3 ∨ people = 2 ∧ i = 1 ∧ k = 2 ∨ people = 2 ∧ i = 2 ∧ k = 1 ∨ people = 2 ∧ i = 3 ∧ k = 0 ∨ people = 3 ∧ i = 0 ∧ k = 7 ∨ people = 3 ∧ i = 1 ∧ k = 6 ∨ people = 3 ∧ i = 2 ∧ k = 5 ∨ people = 3 ∧ i = 3 ∧ k = 4 ∨ people = 3 ∧ i = 4 ∧ k = 3 ∨ people = 3 ∧ i = 5 ∧ k = 2 ∨ people = 3 ∧ i = 6 ∧ k = 1 ∨ people = 3 ∧ i = 7 ∧ k = 0 ∨ people = 4 ∧ i = 0 ∧ k = 15 ∨ people = 4 ∧ i = 1 ∧ k = 14 ∨ people = 4 ∧ i = 2 ∧ k = 13 ∨ people = 4 ∧ i = 3 ∧ k = 12 ∨ people = 4 ∧ i = 4 ∧ k = 11 ∨ people = 4 ∧ i = 5 ∧ k = 10 ∨ people = 4 ∧ i = 6 ∧ k = 9 ∨ people = 4 ∧ i = 7 ∧ k = 8 ∨ people = 4 ∧ i = 8 ∧ k = 7 ∨ people = 4 ∧ i = 9 ∧ k = 6 ∨ people = 4 ∧ i = 10 ∧ k = 5 ∨ people = 4 ∧ i = 11 ∧ k = 4 ∨ people = 4 ∧ i = 12 ∧ k = 3 ∨ people = 4 ∧ i = 13 ∧ k = 2 ∨ people = 4 ∧ i = 14 ∧ k = 1 ∨ people = 4 ∧ i = 15 ∧ k = 0) (ht0 : 0 ≤ table) (ht1 : table < 65536) (a b : Addr) (W : World)
    (ca : W.cell? a = some (.int .i64 table)) (cb : W.cell? b = some (.int .i64 people)) :
    Calls Try.prog 82 #[.int .i64 i, .pointer (some a), .pointer (some b)] W fun e W' => e = .returned (.bool (bitN table.toNat k == 1)) ∧ Below W.heap.size W W' := by
  have e0 := Lib.hid (ot_0 table ht0 ht1)
  have ek := Lib.hid (ot_k table k ht0 ht1)
  clear ht0 ht1
  rcases hp with ⟨rfl, rfl, rfl⟩ | ⟨rfl, rfl, rfl⟩ | ⟨rfl, rfl, rfl⟩ | ⟨rfl, rfl, rfl⟩ | ⟨rfl, rfl, rfl⟩ | ⟨rfl, rfl, rfl⟩ | ⟨rfl, rfl, rfl⟩ | ⟨rfl, rfl, rfl⟩ | ⟨rfl, rfl, rfl⟩ | ⟨rfl, rfl, rfl⟩ | ⟨rfl, rfl, rfl⟩ | ⟨rfl, rfl, rfl⟩ | ⟨rfl, rfl, rfl⟩ | ⟨rfl, rfl, rfl⟩ | ⟨rfl, rfl, rfl⟩ | ⟨rfl, rfl, rfl⟩ | ⟨rfl, rfl, rfl⟩ | ⟨rfl, rfl, rfl⟩ | ⟨rfl, rfl, rfl⟩ | ⟨rfl, rfl, rfl⟩ | ⟨rfl, rfl, rfl⟩ | ⟨rfl, rfl, rfl⟩ | ⟨rfl, rfl, rfl⟩ | ⟨rfl, rfl, rfl⟩ | ⟨rfl, rfl, rfl⟩ | ⟨rfl, rfl, rfl⟩ | ⟨rfl, rfl, rfl⟩ | ⟨rfl, rfl, rfl⟩ | ⟨rfl, rfl, rfl⟩ | ⟨rfl, rfl, rfl⟩
  all_goals
    go_enter Try.func82, Try.ntmps82
    go_wp2
    go_quiet (fail)
    go_wp2
    go_ret
    refine ⟨opp_ret ?_, pw_below_drewN (Below.refl _ _) _⟩
    first
      | (have f0 := e0.out; simp only [f0, cast_one])
      | (have fk := ek.out (by decide); simp at fk; simp only [fk, cast_one])
      | go_show
set_option maxHeartbeats 4000000 in
set_option maxRecDepth 100000 in
theorem tableBy_OppositeTable (v0 v1 : Value) (people : Int) (hp : people = 1 ∨ people = 2 ∨ people = 3 ∨ people = 4) (p : Nat → Bool) (w : World)
    (HC : ∀ (i : Int) (W : World), 0 ≤ i → i < 2 ^ people.toNat → Below w.heap.size w W → Calls Try.prog 82 #[.int .i64 i, v0, v1] W fun e W' => e = .returned (.bool (p i.toNat)) ∧ Below W.heap.size W W') :
    Calls Try.prog 81 #[.int .i64 people, .func (.func 82) #[] #[v0, v1]] w fun e w' => e = .returned (.int .i64 (tabN p (pw people.toNat) : Nat)) ∧ Below w.heap.size w w' := by
  rcases hp with rfl | rfl | rfl | rfl
  · go_enter Try.func81, Try.ntmps81
    go_wp2
    go_loopw [5, 9] (fun t i wr => ∃ j : Nat, j ≤ 2 ∧ i = .int .i64 j ∧ t = .int .i64 (tabN p j : Nat) ∧ Below w.heap.size w wr) (fun _ i _ => 2 - (intOf i).toNat)
    case atStart => exact ⟨0, by omega, rfl, rfl, Below.refl _ _⟩
    case round =>
      obtain ⟨j, hj, rfl, rfl, hb⟩ := hrel
      by_cases hlt : j < 2
      · rcases (by omega : j = 0 ∨ j = 1) with rfl | rfl
        all_goals go_wp2_with (go_at_call 82; (refine (HC _ _ (by decide) (by decide) hb).mono ?_); rintro e w' ⟨rfl, hb'⟩)
        · exact ⟨⟨1, by decide, rfl, tab_yes p 0 (by decide) (by assumption), below_then hb hb.size hb'⟩, by decide⟩
        · exact ⟨⟨1, by decide, rfl, tab_no p 0 (by assumption), below_then hb hb.size hb'⟩, by decide⟩
        · exact ⟨⟨2, by decide, rfl, tab_yes p 1 (by decide) (by assumption), below_then hb hb.size hb'⟩, by decide⟩
        · exact ⟨⟨2, by decide, rfl, tab_no p 1 (by assumption), below_then hb hb.size hb'⟩, by decide⟩
      · obtain rfl : j = 2 := by omega
        go_wp2
        go_ret
        exact ⟨rfl, hb⟩
  · go_enter Try.func81, Try.ntmps81
    go_wp2
    go_loopw [5, 9] (fun t i wr => ∃ j : Nat, j ≤ 4 ∧ i = .int .i64 j ∧ t = .int .i64 (tabN p j : Nat) ∧ Below w.heap.size w wr) (fun _ i _ => 4 - (intOf i).toNat)
    case atStart => exact ⟨0, by omega, rfl, rfl, Below.refl _ _⟩
    case round =>
      obtain ⟨j, hj, rfl, rfl, hb⟩ := hrel
      by_cases hlt : j < 4
      · rcases (by omega : j = 0 ∨ j = 1 ∨ j = 2 ∨ j = 3) with rfl | rfl | rfl | rfl
        all_goals go_wp2_with (go_at_call 82; (refine (HC _ _ (by decide) (by decide) hb).mono ?_); rintro e w' ⟨rfl, hb'⟩)
        · exact ⟨⟨1, by decide, rfl, tab_yes p 0 (by decide) (by assumption), below_then hb hb.size hb'⟩, by decide⟩
        · exact ⟨⟨1, by decide, rfl, tab_no p 0 (by assumption), below_then hb hb.size hb'⟩, by decide⟩
        · exact ⟨⟨2, by decide, rfl, tab_yes p 1 (by decide) (by assumption), below_then hb hb.size hb'⟩, by decide⟩
        · exact ⟨⟨2, by decide, rfl, tab_no p 1 (by assumption), below_then hb hb.size hb'⟩, by decide⟩
        · exact ⟨⟨3, by decide, rfl, tab_yes p 2 (by decide) (by assumption), below_then hb hb.size hb'⟩, by decide⟩
        · exact ⟨⟨3, by decide, rfl, tab_no p 2 (by assumption), below_then hb hb.size hb'⟩, by decide⟩
        · exact ⟨⟨4, by decide, rfl, tab_yes p 3 (by decide) (by assumption), below_then hb hb.size hb'⟩, by decide⟩
        · exact ⟨⟨4, by decide, rfl, tab_no p 3 (by assumption), below_then hb hb.size hb'⟩, by decide⟩
      · obtain rfl : j = 4 := by omega
        go_wp2
        go_ret
        exact ⟨rfl, hb⟩
  · go_enter Try.func81, Try.ntmps81
    go_wp2
    go_loopw [5, 9] (fun t i wr => ∃ j : Nat, j ≤ 8 ∧ i = .int .i64 j ∧ t = .int .i64 (tabN p j : Nat) ∧ Below w.heap.size w wr) (fun _ i _ => 8 - (intOf i).toNat)
    case atStart => exact ⟨0, by omega, rfl, rfl, Below.refl _ _⟩
    case round =>
      obtain ⟨j, hj, rfl, rfl, hb⟩ := hrel
      by_cases hlt : j < 8
      · rcases (by omega : j = 0 ∨ j = 1 ∨ j = 2 ∨ j = 3 ∨ j = 4 ∨ j = 5 ∨ j = 6 ∨ j = 7) with rfl | rfl | rfl | rfl | rfl | rfl | rfl | rfl
        all_goals go_wp2_with (go_at_call 82; (refine (HC _ _ (by decide) (by decide) hb).mono ?_); rintro e w' ⟨rfl, hb'⟩)
        · exact ⟨⟨1, by decide, rfl, tab_yes p 0 (by decide) (by assumption), below_then hb hb.size hb'⟩, by decide⟩
        · exact ⟨⟨1, by decide, rfl, tab_no p 0 (by assumption), below_then hb hb.size hb'⟩, by decide⟩
        · exact ⟨⟨2, by decide, rfl, tab_yes p 1 (by decide) (by assumption), below_then hb hb.size hb'⟩, by decide⟩
        · exact ⟨⟨2, by decide, rfl, tab_no p 1 (by assumption), below_then hb hb.size hb'⟩, by decide⟩
        · exact ⟨⟨3, by decide, rfl, tab_yes p 2 (by decide) (by assumption), below_then hb hb.size hb'⟩, by decide⟩
        · exact ⟨⟨3, by decide, rfl, tab_no p 2 (by assumption), below_then hb hb.size hb'⟩, by decide⟩
        · exact ⟨⟨4, by decide, rfl, tab_yes p 3 (by decide) (by assumption), below_then hb hb.size hb'⟩, by decide⟩
        · exact ⟨⟨4, by decide, rfl, tab_no p 3 (by assumption), below_then hb hb.size hb'⟩, by decide⟩
        · exact ⟨⟨5, by decide, rfl, tab_yes p 4 (by decide) (by assumption), below_then hb hb.size hb'⟩, by decide⟩
        · exact ⟨⟨5, by decide, rfl, tab_no p 4 (by assumption), below_then hb hb.size hb'⟩, by decide⟩
        · exact ⟨⟨6, by decide, rfl, tab_yes p 5 (by decide) (by assumption), below_then hb hb.size hb'⟩, by decide⟩
        · exact ⟨⟨6, by decide, rfl, tab_no p 5 (by assumption), below_then hb hb.size hb'⟩, by decide⟩
        · exact ⟨⟨7, by decide, rfl, tab_yes p 6 (by decide) (by assumption), below_then hb hb.size hb'⟩, by decide⟩
        · exact ⟨⟨7, by decide, rfl, tab_no p 6 (by assumption), below_then hb hb.size hb'⟩, by decide⟩
        · exact ⟨⟨8, by decide, rfl, tab_yes p 7 (by decide) (by assumption), below_then hb hb.size hb'⟩, by decide⟩
        · exact ⟨⟨8, by decide, rfl, tab_no p 7 (by assumption), below_then hb hb.size hb'⟩, by decide⟩
      · obtain rfl : j = 8 := by omega
        go_wp2
        go_ret
        exact ⟨rfl, hb⟩
  · go_enter Try.func81, Try.ntmps81
    go_wp2
    go_loopw [5, 9] (fun t i wr => ∃ j : Nat, j ≤ 16 ∧ i = .int .i64 j ∧ t = .int .i64 (tabN p j : Nat) ∧ Below w.heap.size w wr) (fun _ i _ => 16 - (intOf i).toNat)
    case atStart => exact ⟨0, by omega, rfl, rfl, Below.refl _ _⟩
    case round =>
      obtain ⟨j, hj, rfl, rfl, hb⟩ := hrel
      by_cases hlt : j < 16
      · rcases (by omega : j = 0 ∨ j = 1 ∨ j = 2 ∨ j = 3 ∨ j = 4 ∨ j = 5 ∨ j = 6 ∨ j = 7 ∨ j = 8 ∨ j = 9 ∨ j = 10 ∨ j = 11 ∨ j = 12 ∨ j = 13 ∨ j = 14 ∨ j = 15) with rfl | rfl | rfl | rfl | rfl | rfl | rfl | rfl | rfl | rfl | rfl | rfl | rfl | rfl | rfl | rfl
        all_goals go_wp2_with (go_at_call 82; (refine (HC _ _ (by decide) (by decide) hb).mono ?_); rintro e w' ⟨rfl, hb'⟩)
        · exact ⟨⟨1, by decide, rfl, tab_yes p 0 (by decide) (by assumption), below_then hb hb.size hb'⟩, by decide⟩
        · exact ⟨⟨1, by decide, rfl, tab_no p 0 (by assumption), below_then hb hb.size hb'⟩, by decide⟩
        · exact ⟨⟨2, by decide, rfl, tab_yes p 1 (by decide) (by assumption), below_then hb hb.size hb'⟩, by decide⟩
        · exact ⟨⟨2, by decide, rfl, tab_no p 1 (by assumption), below_then hb hb.size hb'⟩, by decide⟩
        · exact ⟨⟨3, by decide, rfl, tab_yes p 2 (by decide) (by assumption), below_then hb hb.size hb'⟩, by decide⟩
        · exact ⟨⟨3, by decide, rfl, tab_no p 2 (by assumption), below_then hb hb.size hb'⟩, by decide⟩
        · exact ⟨⟨4, by decide, rfl, tab_yes p 3 (by decide) (by assumption), below_then hb hb.size hb'⟩, by decide⟩
        · exact ⟨⟨4, by decide, rfl, tab_no p 3 (by assumption), below_then hb hb.size hb'⟩, by decide⟩
        · exact ⟨⟨5, by decide, rfl, tab_yes p 4 (by decide) (by assumption), below_then hb hb.size hb'⟩, by decide⟩
        · exact ⟨⟨5, by decide, rfl, tab_no p 4 (by assumption), below_then hb hb.size hb'⟩, by decide⟩
        · exact ⟨⟨6, by decide, rfl, tab_yes p 5 (by decide) (by assumption), below_then hb hb.size hb'⟩, by decide⟩
        · exact ⟨⟨6, by decide, rfl, tab_no p 5 (by assumption), below_then hb hb.size hb'⟩, by decide⟩
        · exact ⟨⟨7, by decide, rfl, tab_yes p 6 (by decide) (by assumption), below_then hb hb.size hb'⟩, by decide⟩
        · exact ⟨⟨7, by decide, rfl, tab_no p 6 (by assumption), below_then hb hb.size hb'⟩, by decide⟩
        · exact ⟨⟨8, by decide, rfl, tab_yes p 7 (by decide) (by assumption), below_then hb hb.size hb'⟩, by decide⟩
        · exact ⟨⟨8, by decide, rfl, tab_no p 7 (by assumption), below_then hb hb.size hb'⟩, by decide⟩
        · exact ⟨⟨9, by decide, rfl, tab_yes p 8 (by decide) (by assumption), below_then hb hb.size hb'⟩, by decide⟩
        · exact ⟨⟨9, by decide, rfl, tab_no p 8 (by assumption), below_then hb hb.size hb'⟩, by decide⟩
        · exact ⟨⟨10, by decide, rfl, tab_yes p 9 (by decide) (by assumption), below_then hb hb.size hb'⟩, by decide⟩
        · exact ⟨⟨10, by decide, rfl, tab_no p 9 (by assumption), below_then hb hb.size hb'⟩, by decide⟩
        · exact ⟨⟨11, by decide, rfl, tab_yes p 10 (by decide) (by assumption), below_then hb hb.size hb'⟩, by decide⟩
        · exact ⟨⟨11, by decide, rfl, tab_no p 10 (by assumption), below_then hb hb.size hb'⟩, by decide⟩
        · exact ⟨⟨12, by decide, rfl, tab_yes p 11 (by decide) (by assumption), below_then hb hb.size hb'⟩, by decide⟩
        · exact ⟨⟨12, by decide, rfl, tab_no p 11 (by assumption), below_then hb hb.size hb'⟩, by decide⟩
        · exact ⟨⟨13, by decide, rfl, tab_yes p 12 (by decide) (by assumption), below_then hb hb.size hb'⟩, by decide⟩
        · exact ⟨⟨13, by decide, rfl, tab_no p 12 (by assumption), below_then hb hb.size hb'⟩, by decide⟩
        · exact ⟨⟨14, by decide, rfl, tab_yes p 13 (by decide) (by assumption), below_then hb hb.size hb'⟩, by decide⟩
        · exact ⟨⟨14, by decide, rfl, tab_no p 13 (by assumption), below_then hb hb.size hb'⟩, by decide⟩
        · exact ⟨⟨15, by decide, rfl, tab_yes p 14 (by decide) (by assumption), below_then hb hb.size hb'⟩, by decide⟩
        · exact ⟨⟨15, by decide, rfl, tab_no p 14 (by assumption), below_then hb hb.size hb'⟩, by decide⟩
        · exact ⟨⟨16, by decide, rfl, tab_yes p 15 (by decide) (by assumption), below_then hb hb.size hb'⟩, by decide⟩
        · exact ⟨⟨16, by decide, rfl, tab_no p 15 (by assumption), below_then hb hb.size hb'⟩, by decide⟩
      · obtain rfl : j = 16 := by omega
        go_wp2
        go_ret
        exact ⟨rfl, hb⟩
end Go.Proofs.Ytbhmippoeimliaa.M

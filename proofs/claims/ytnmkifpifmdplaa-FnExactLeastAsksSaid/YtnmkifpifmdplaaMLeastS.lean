/- The reference's LeastAsks tells the least number of questions. -/
import Derived.Test.YtnmkifpifmdplaaMLeastN
import Derived.Test.YtnmkifpifmdplaaPx14
import Derived.Test.YtnmkifpifmdplaaPx14
import Derived.Test.YtnmkifpifmdplaaPx4
import Derived.Test.YtnmkifpifmdplaaPx1
set_option linter.unusedVariables false
set_option linter.unusedSimpArgs false
namespace Go.Proofs.Ytnmkifpifmdplaa.M
open Go Go.RowKit Go.Proofs.YtnmkifpifmdplaaW.PrintWords Go.Proofs.Ytnmkifpifmdplaa.P
/-- The pairs that the reference's loops have taken. -/
def SP (n who whom i j : Nat) : Prop := i < j ∧ j < n ∧ (i < who ∨ (i = who ∧ j < whom))
theorem spec_partE (n T who whom : Nat) (yes : Bool) (hn : n ≤ 4) (hT : T < pw (pw n)) (h0 : who < 4) (h1 : whom < 4) : Ev (fun k => spec_l13Asked.f k (n : Int) (T : Int) (who : Int) (whom : Int) yes) ((partT n T who whom yes : Nat) : Int) := by
  have := ppw hn
  unfold spec_l13Asked.f
  exact asked_l T n who whom yes hn (by omega) h0 h1 (pw n) 0 (by omega)
theorem better_if (a c b : Int) (ha : -1 ≤ a) (hc : -1 ≤ c) (ha1 : a ≤ 1000) (hc1 : c ≤ 1000) :
    (a < 0 → better a c b = b) ∧ (¬ a < 0 → c < 0 → better a c b = b) ∧ (¬ a < 0 → ¬ c < 0 → b < 0 → better a c b = wrap64 (mx a c + 1)) ∧ (¬ a < 0 → ¬ c < 0 → ¬ b < 0 → wrap64 (mx a c + 1) < b → better a c b = wrap64 (mx a c + 1)) ∧ (¬ a < 0 → ¬ c < 0 → ¬ b < 0 → ¬ wrap64 (mx a c + 1) < b → better a c b = b) := by
  have e : mx a c = max a c := by
    unfold mx
    split <;> omega
  rw [e, w64 (x := max a c + 1) (by omega) (by omega)]
  unfold better
  refine ⟨fun h => ?_, fun h h' => ?_, fun h h' h2 => ?_, fun h h' h2 h3 => ?_, fun h h' h2 h3 => ?_⟩
  · rw [if_neg (by omega)]
  · rw [if_neg (by omega)]
  · rw [if_pos (by omega)]
    omega
  · rw [if_pos (by omega)]
    omega
  · rw [if_neg (by omega)]
theorem spec_least_loops (n T m : Nat) (hn : 1 ≤ n) (h4 : n ≤ 4) (hm : m ≤ 100) (hT : T < pw (pw n))
    (ih : ∀ T', T' < pw (pw n) → ∃ r, Ev (fun k => spec_l13Least.f k (n : Int) (T' : Int) (m : Int)) r ∧ IsL (fun d => d ≤ m) (m : Int) n T' r) : ∀ d who (b : Int), who + d = n → IsB (fun d => d ≤ m) (m : Int) n T (SP n who (who + 1)) b →
    ∃ r, Ev (fun k => spec_l13Least.l0 k (n : Int) (T : Int) ((m + 1 : Nat) : Int) b (who : Int)) r ∧ IsB (fun d => d ≤ m) (m : Int) n T (SP n n (n + 1)) r := by
  intro d
  induction d with
  | zero =>
    intro who b hw hB
    obtain rfl : who = n := by omega
    refine ⟨b, Ev.step (fun k => by rw [spec_l13Least.l0]) ?_, hB⟩
    exact ev_neg (by omega) (ev_ret rfl)
  | succ d ihd =>
    intro who b hw hB
    have inner : ∀ e whom (b : Int), whom + e = n → who < whom → IsB (fun d => d ≤ m) (m : Int) n T (SP n who whom) b →
        ∃ r, Ev (fun k => spec_l13Least.l1 k (n : Int) (T : Int) ((m + 1 : Nat) : Int) b (who : Int) (whom : Int)) r ∧ IsB (fun d => d ≤ m) (m : Int) n T (SP n n (n + 1)) r := by
      intro e
      induction e with
      | zero =>
        intro whom b he hlt hB
        obtain ⟨r, hr, hR⟩ := ihd (who + 1) b (by omega) (isB_congr (fun i j => by unfold SP; omega) hB)
        refine ⟨r, Ev.step (fun k => by rw [spec_l13Least.l1]) ?_, hR⟩
        rw [w64s (i := who) (by omega)]
        exact ev_neg (by omega) hr
      | succ e ihe =>
        intro whom b he hlt hB
        have hyes := spec_partE n T who whom true h4 hT (by omega) (by omega)
        have hno := spec_partE n T who whom false h4 hT (by omega) (by omega)
        have hS : ∀ x y, SP n who (whom + 1) x y ↔ SP n who whom x y ∨ x = who ∧ y = whom := fun x y => by unfold SP; omega
        have start : ∀ {r : Int}, Ev (fun k => if ((partT n T who whom true : Nat) : Int) = (T : Int) then (spec_l13Least.j3 k (n : Int) (T : Int) ((m + 1 : Nat) : Int) b (who : Int) (whom : Int) ((partT n T who whom true : Nat) : Int) ((partT n T who whom false : Nat) : Int) true) else (spec_l13Least.j3 k (n : Int) (T : Int) ((m + 1 : Nat) : Int) b (who : Int) (whom : Int) ((partT n T who whom true : Nat) : Int) ((partT n T who whom false : Nat) : Int) (((partT n T who whom false : Nat) : Int) == (T : Int)))) r →
            Ev (fun k => spec_l13Least.l1 k (n : Int) (T : Int) ((m + 1 : Nat) : Int) b (who : Int) (whom : Int)) r := fun h => by
          refine Ev.step (fun k => by rw [spec_l13Least.l1]) ?_
          refine ev_pos (by omega) ?_
          refine ev_bind hyes ?_
          exact ev_bind hno h
        have skip : partT n T who whom true = 0 ∨ partT n T who whom false = 0 → ∃ r, Ev (fun k => spec_l13Least.j3 k (n : Int) (T : Int) ((m + 1 : Nat) : Int) b (who : Int) (whom : Int) ((partT n T who whom true : Nat) : Int) ((partT n T who whom false : Nat) : Int) true) r ∧ IsB (fun d => d ≤ m) (m : Int) n T (SP n n (n + 1)) r := fun h0 => by
          obtain ⟨r, hr, hR⟩ := ihe (whom + 1) b (by omega) (by omega) (isB_skip hB h0 hS)
          refine ⟨r, Ev.step (fun k => by rw [spec_l13Least.j3]) ?_, hR⟩
          rw [w64s (i := whom) (by omega)]
          exact ev_pos rfl hr
        by_cases ey : partT n T who whom true = T
        · obtain ⟨r, hr, hR⟩ := skip (.inr (part_full ey))
          exact ⟨r, start (ev_pos (by omega) hr), hR⟩
        by_cases en : partT n T who whom false = T
        · obtain ⟨r, hr, hR⟩ := skip (.inl (part_full (yes := false) en))
          refine ⟨r, start (ev_neg (by omega) ?_), hR⟩
          rw [show (((partT n T who whom false : Nat) : Int) == (T : Int)) = true by rw [beq_iff_eq]; omega]
          exact hr
        have h1 : partT n T who whom true ≠ 0 := fun h => en (part_eq (yes := false) hT h)
        have h2 : partT n T who whom false ≠ 0 := fun h => ey (part_eq (yes := true) hT h)
        obtain ⟨r1, e1, i1⟩ := ih _ (partT_lt n T who whom true)
        obtain ⟨r2, e2, i2⟩ := ih _ (partT_lt n T who whom false)
        obtain ⟨r, hr, hR⟩ := ihe (whom + 1) (better r1 r2 b) (by omega) (by omega) (isB_step hB h1 h2 i1 i2 hS)
        have a1 := i1.1
        have a2 := i1.2.1
        have c1 := i2.1
        have c2 := i2.2.1
        obtain ⟨q1, q2, q3, q4, q5⟩ := better_if r1 r2 b a1 c1 (by omega) (by omega)
        have j4 : ∀ f : Bool, (f = true → better r1 r2 b = b) → (f = false → ¬ r1 < 0 ∧ ¬ r2 < 0) → Ev (fun k => spec_l13Least.j4 k (n : Int) (T : Int) ((m + 1 : Nat) : Int) b (who : Int) (whom : Int) r1 r2 f) r := fun f hf hf' => by
          refine Ev.step (fun k => by rw [spec_l13Least.j4]) ?_
          rw [w64s (i := whom) (by omega)]
          cases f with
          | true =>
            rw [hf rfl] at hr
            exact ev_pos rfl hr
          | false =>
            obtain ⟨g1, g2⟩ := hf' rfl
            refine ev_neg (by decide) ?_
            by_cases g3 : b < 0
            · rw [q3 g1 g2 g3] at hr
              exact ev_pos g3 hr
            refine ev_neg g3 ?_
            by_cases g4 : wrap64 (mx r1 r2 + 1) < b
            · rw [q4 g1 g2 g3 g4] at hr
              exact ev_pos g4 hr
            · rw [q5 g1 g2 g3 g4] at hr
              exact ev_neg g4 hr
        refine ⟨r, start (ev_neg (by omega) ?_), hR⟩
        rw [show (((partT n T who whom false : Nat) : Int) == (T : Int)) = false by rw [beq_eq_false_iff_ne]; omega]
        refine Ev.step (fun k => by rw [spec_l13Least.j3]) ?_
        rw [w64 (x := ((m + 1 : Nat) : Int) - 1) (by omega) (by omega), show ((m + 1 : Nat) : Int) - 1 = (m : Int) by omega]
        refine ev_neg (by decide) ?_
        refine ev_bind e1 ?_
        refine ev_bind e2 ?_
        by_cases g1 : r1 < 0
        · exact ev_pos g1 (j4 true (fun _ => q1 g1) fun h => by cases h)
        · refine ev_neg g1 (j4 _ (fun h => q2 g1 (of_decide_eq_true h)) fun h => ⟨g1, of_decide_eq_false h⟩)
    obtain ⟨r, hr, hR⟩ := inner (n - (who + 1)) (who + 1) b (by omega) (by omega) hB
    refine ⟨r, Ev.step (fun k => by rw [spec_l13Least.l0]) ?_, hR⟩
    rw [w64s (i := who) (by omega)]
    exact ev_pos (by omega) hr
theorem spec_least (n : Nat) (hn : 1 ≤ n) (h4 : n ≤ 4) : ∀ m : Nat, m ≤ 100 → ∀ T, T < pw (pw n) → ∃ r, Ev (fun k => spec_l13Least.f k (n : Int) (T : Int) (m : Int)) r ∧ IsL (fun d => d ≤ m) (m : Int) n T r := by
  intro m
  induction m with
  | zero =>
    intro hm T hT
    have := ppw h4
    have fin : ∀ f : Bool, (f = true ↔ Settled n T) → ∃ r, Ev (fun k => spec_l13Least.j0 k (n : Int) (T : Int) ((0 : Nat) : Int) f) r ∧ IsL (fun d => d ≤ 0) ((0 : Nat) : Int) n T r := fun f hf => by
      cases f with
      | true => exact ⟨0, Ev.step (fun k => by rw [spec_l13Least.j0]) (ev_pos rfl (ev_ret rfl)), isL_settled (by decide) (hf.1 rfl)⟩
      | false =>
        have h0 : ¬ Settled n T := fun h => by
          have := hf.2 h
          cases this
        refine ⟨-1, ?_, by decide, by decide, fun d hd => ?_⟩
        · refine Ev.step (fun k => by rw [spec_l13Least.j0]) ?_
          refine ev_neg (by decide) ?_
          exact ev_pos rfl (ev_ret rfl)
        · obtain rfl : d = 0 := by omega
          exact ⟨fun k => absurd k h0, fun k => absurd k.1 (by decide)⟩
    by_cases h : T = 0
    · obtain ⟨r, hr, hR⟩ := fin true ⟨fun _ => .inl h, fun _ => rfl⟩
      exact ⟨r, Ev.step (fun k => by rw [spec_l13Least.f]) (ev_pos (by omega) hr), hR⟩
    · obtain ⟨r, hr, hR⟩ := fin (decide (least (knownB T n) 0 n ≥ 0)) (by rw [decide_eq_true_eq, settled_known]; exact ⟨fun h => .inr h, fun h' => h'.resolve_left h⟩)
      refine ⟨r, Ev.step (fun k => by rw [spec_l13Least.f]) (ev_neg (by omega) ?_), hR⟩
      exact ev_bind (spec_teller_l T n h4 (by omega) n 0 (by omega)) hr
  | succ m ih =>
    intro hm T hT
    have := ppw h4
    have fin : ∀ f : Bool, (f = true ↔ Settled n T) → ∃ r, Ev (fun k => spec_l13Least.j0 k (n : Int) (T : Int) ((m + 1 : Nat) : Int) f) r ∧ IsL (fun d => d ≤ m + 1) ((m + 1 : Nat) : Int) n T r := fun f hf => by
      cases f with
      | true => exact ⟨0, Ev.step (fun k => by rw [spec_l13Least.j0]) (ev_pos rfl (ev_ret rfl)), isL_settled (by omega) (hf.1 rfl)⟩
      | false =>
        have h0 : ¬ Settled n T := fun h => by
          have := hf.2 h
          cases this
        obtain ⟨r, hr, hR⟩ := spec_least_loops n T m hn h4 (by omega) hT (fun T' hT' => ih (by omega) T' hT') n 0 (-1) (by omega) (isB_none _ _ (by omega) _ _ _ fun i j h => by unfold SP at h; omega)
        refine ⟨r, ?_, ?_⟩
        · refine Ev.step (fun k => by rw [spec_l13Least.j0]) ?_
          refine ev_neg (by decide) ?_
          exact ev_neg (by omega) hr
        have hp := isL_pairs h0 (fun i j hi hj hne => by unfold SP; omega) (fun i j h => by unfold SP at h; omega) hR
        refine isL_weak (fun d hd => ?_) (by omega) hp
        cases d with
        | zero => exact .inl rfl
        | succ e => exact .inr ⟨e, rfl, fun f hf => by omega⟩
    by_cases h : T = 0
    · obtain ⟨r, hr, hR⟩ := fin true ⟨fun _ => .inl h, fun _ => rfl⟩
      exact ⟨r, Ev.step (fun k => by rw [spec_l13Least.f]) (ev_pos (by omega) hr), hR⟩
    · obtain ⟨r, hr, hR⟩ := fin (decide (least (knownB T n) 0 n ≥ 0)) (by rw [decide_eq_true_eq, settled_known]; exact ⟨fun h => .inr h, fun h' => h'.resolve_left h⟩)
      refine ⟨r, Ev.step (fun k => by rw [spec_l13Least.f]) (ev_neg (by omega) ?_), hR⟩
      exact ev_bind (spec_teller_l T n h4 (by omega) n 0 (by omega)) hr
theorem spec_leastE (n t : Int) : Ev (fun k => spec_LeastAsks.f k n t) (leastF n t) := by
  unfold spec_LeastAsks.f leastF
  refine ev_bindc (spec_tabOk n t) ?_
  by_cases h : TabOk n t
  · refine ev_pos (decide_eq_true h) ?_
    rw [if_pos h]
    obtain ⟨h1, h4, h0, ht⟩ := h
    obtain ⟨n, rfl⟩ : ∃ m : Nat, n = (m : Int) := ⟨n.toNat, by omega⟩
    obtain ⟨t, rfl⟩ : ∃ m : Nat, t = (m : Int) := ⟨t.toNat, by omega⟩
    rw [Int.toNat_natCast] at ht
    rw [Int.toNat_natCast, Int.toNat_natCast]
    obtain ⟨r, hr, hR⟩ := spec_least n (by omega) (by omega) n (by omega) t (by omega)
    rw [leastN_eq (isLeast_of (D := fun d => d ≤ n) (by omega) (by omega) (fun d hd => hd) hR hR.2.1)]
    exact ev_bind hr (ev_ret rfl)
  · refine ev_neg (fun h' => h (of_decide_eq_true h')) ?_
    rw [if_neg h]
    exact ev_ret rfl
end Go.Proofs.Ytnmkifpifmdplaa.M

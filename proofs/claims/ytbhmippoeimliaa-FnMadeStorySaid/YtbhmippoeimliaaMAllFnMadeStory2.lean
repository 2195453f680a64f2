/- What the proof of this law needs besides: texts of ours, one behind the other. -/
import Derived.Test.YtbhmippoeimliaaMAllFnMadeStory1
import Derived.Test.YtbhmippoeimliaaPx8
import Derived.Test.YtbhmippoeimliaaPx7
import Derived.Test.YtbhmippoeimliaaPx3
import Derived.Test.YtbhmippoeimliaaPx2
import Derived.Test.YtbhmippoeimliaaMBase
import Derived.Test.YtbhmippoeimliaaPx15
import Derived.Test.YtbhmippoeimliaaPx9
import Derived.Test.YtbhmippoeimliaaPx10
import Derived.Test.YtbhmippoeimliaaPx16
import Derived.Test.YtbhmippoeimliaaPx14
import Derived.Test.YtbhmippoeimliaaPx13
import Derived.Test.YtbhmippoeimliaaPx12
import Derived.Test.YtbhmippoeimliaaPx11
/- Bits of tables. -/
set_option linter.unusedVariables false
set_option linter.unusedSimpArgs false
namespace Go.Proofs.Ytbhmippoeimliaa.M
open Go Go.RowKit
theorem and_nat' (a b : Nat) (ha : a < 4294967296) (hb : b < 4294967296) : Go.bits .and .i64 (a : Int) (b : Int) = ((a &&& b : Nat) : Int) :=
 (bits_nat .i64 63 (by decide) wraps_i64 a b (by omega) (by omega)).1
theorem bit_test (m i : Nat) : bitN m i = 1 ↔ m.testBit i = true := by
 rw [Nat.testBit_eq_decide_div_mod_eq, decide_eq_true_eq]
 rfl
theorem tab_bit (p : Nat → Bool) (N w : Nat) : bitN (tabN p N) w = 1 ↔ w < N ∧ p w = true := by
 rw [bit_test]
 induction N with
 | zero => simp [tabN]
 | succ N ih =>
  simp only [tabN]
  have hl := tabN_lt p N
  unfold pw at hl ⊢
  by_cases h : p N = true
  ·rw [if_pos h, Nat.add_comm]
   rcases Nat.lt_trichotomy w N with hw | hw | hw
   ·rw [Nat.testBit_two_pow_add_gt hw, ih]
    exact ⟨fun h => ⟨by omega, h.2⟩, fun h => ⟨hw, h.2⟩⟩
   ·subst hw
    rw [Nat.testBit_two_pow_add_eq, Nat.testBit_lt_two_pow hl]
    exact ⟨fun _ => ⟨by omega, h⟩, fun _ => rfl⟩
   ·rw [Nat.testBit_lt_two_pow (by
     have : 2 ^ (N + 1) ≤ 2 ^ w := Nat.pow_le_pow_right (by decide) hw
     omega)]
    exact ⟨fun h => (by cases h), fun h => by omega⟩
  ·rw [if_neg h, Nat.add_zero, ih]
   constructor
   ·exact fun h => ⟨by omega, h.2⟩
   ·rintro ⟨a, b⟩
    refine ⟨?_, b⟩
    rcases Nat.lt_or_eq_of_le (Nat.le_of_lt_succ a) with c | c
    ·exact c
    ·exact absurd (c ▸ b) h
end Go.Proofs.Ytbhmippoeimliaa.M

/- Tables of claims. -/
set_option linter.unusedVariables false
set_option linter.unusedSimpArgs false
namespace Go.Proofs.Ytbhmippoeimliaa.M
open Go Go.RowKit Go.Proofs.YtbhmippoeimliaaW.PrintWords Go.Proofs.Ytbhmippoeimliaa.P
theorem tabS' (p : Nat → Bool) (j : Nat) (hj : j ≤ 16) (h : p j = true) : Go.bits .or .i64 (tabN p j : Int) (pw j : Int) = ((tabN p (j + 1) : Nat) : Int) := by
 rw [or_pw p j hj]
 simp [tabN, h]
theorem tabZ' (p : Nat → Bool) (j : Nat) (h : p j = false) : tabN p j = tabN p (j + 1) := by simp [tabN, h]
theorem shl_u64' (n : Nat) (hn : n ≤ 4) : shl .u64 1 (n : Int) = (pw n : Int) := by
 rcases (by omega : n = 0 ∨ n = 1 ∨ n = 2 ∨ n = 3 ∨ n = 4) with rfl | rfl | rfl | rfl | rfl <;> decide
theorem shl2' (n : Nat) (hn : n ≤ 4) : shl .i64 1 (shl .u64 1 (n : Int)) = (pw (pw n) : Int) := by
 have := pwm4 hn
 rw [shl_u64' n hn, shl_nat _ (by omega)]
theorem ppw' {n : Nat} (h : n ≤ 4) : pw (pw n) ≤ 65536 := pw16 (pwm4 h)
/-- The table of a claim, and of a story. -/
def tabC (n : Nat) (c : Cl) : Nat := tabN (mayB c.f0.toNat c.f1) (pw n)
def tabS (n : Nat) (s : List Cl) : Nat := s.foldl (fun t c => t &&& tabC n c) (pw (pw n) - 1)
theorem tabC_lt (n : Nat) (hn : n ≤ 4) (c : Cl) : tabC n c < 65536 := Nat.lt_of_lt_of_le (tabN_lt _ _) (ppw' hn)
end Go.Proofs.Ytbhmippoeimliaa.M

/- Tables of claims and stories: the program's. -/
set_option linter.unusedVariables false
set_option linter.unusedSimpArgs false
namespace Go.Proofs.Ytbhmippoeimliaa.M
open Go Go.RowKit Go.Proofs.YtbhmippoeimliaaW.PrintWords Go.Proofs.Ytbhmippoeimliaa.P
theorem impl_claimTableE (n : Nat) (c : Cl) (h : ClaimP n c.f0 c.f1) : impl_ClaimTable.f (n : Int) c.f0 c.f1 = some ((tabC n c : Nat) : Int) := by
 unfold impl_ClaimTable.f
 rw [if_pos h]
 rfl
theorem drop_C (s : List Cl) (i : Nat) (h : i < s.length) : s.drop i = s.getD i zC :: s.drop (i + 1) := by
 rw [List.drop_eq_getElem_cons h, getD_lt s zC i h]
theorem impl_story_l (n : Nat) (hn : n ≤ 4) (s : List Cl) (h : ∀ i, i < s.length → ClaimP n (s.getD i zC).f0 (s.getD i zC).f1) (hs : s.length ≤ 6) : ∀ d i a : Nat, i + d = s.length → a < 65536 →
  Ev (fun k => impl_storyTable.l0 k (n : Int) (a : Int) s (s.length : Int) (i : Int)) (((s.drop i).foldl (fun t c => t &&& tabC n c) a : Nat) : Int) := by
 intro d
 induction d with
 | zero =>
  intro i a hi ha
  refine Ev.step (fun k => by rw [impl_storyTable.l0]) ?_
  refine ev_neg (by omega) (ev_ret ?_)
  rw [List.drop_eq_nil_of_le (by omega)]
  rfl
 | succ d ih =>
  intro i a hi ha
  refine Ev.step (fun k => by rw [impl_storyTable.l0]) ?_
  have hc := tabC_lt n hn (s.getD i zC)
  rw [rdC, w64s (i := i) (by omega), drop_C s i (by omega), List.foldl_cons]
  refine ev_pos (by omega) ?_
  refine ev_pos (by omega) ?_
  refine ev_pos (by omega) ?_
  refine ev_bindc (impl_claimTableE n _ (h i (by omega))) ?_
  rw [and_nat' _ _ (by omega) (by omega)]
  exact ih (i + 1) _ (by omega) (Nat.lt_of_le_of_lt Nat.and_le_left ha)
theorem impl_storyE (n : Nat) (s : List Cl) (h : StoryP n s) : Ev (fun k => impl_storyTable.f k (n : Int) s) ((tabS n s : Nat) : Int) := by
 have hn : n ≤ 4 := by have := h.2.1.2; omega
 have hp := ppw' hn
 have hpos := pw_pos (pw n)
 unfold impl_storyTable.f tabS
 rw [shl2' n hn, w64 (by omega) (by omega), show (pw (pw n) : Int) - 1 = ((pw (pw n) - 1 : Nat) : Int) by omega]
 refine ev_pos (by omega) ?_
 exact impl_story_l n hn s h.1 h.2.2 s.length 0 (pw (pw n) - 1) (by omega) (by omega)
end Go.Proofs.Ytbhmippoeimliaa.M

/- The program's StoryOk tells whether it is a story. -/
set_option linter.unusedVariables false
set_option linter.unusedSimpArgs false
namespace Go.Proofs.Ytbhmippoeimliaa.M
open Go Go.RowKit Go.Proofs.YtbhmippoeimliaaW.PrintWords Go.Proofs.Ytbhmippoeimliaa.P
theorem impl_storyOk_l (n : Int) (s : List Cl) (hs : s.length < 4611686018427387904) : ∀ d i : Nat, i + d = s.length →
  Tells (fun k => impl_StoryOk.l0 k n s s (s.length : Int) (i : Int)) ((∀ j, i ≤ j → j < s.length → ClaimP n (s.getD j zC).f0 (s.getD j zC).f1) ∧ (1 ≤ n ∧ n ≤ 4) ∧ s.length ≤ 6) := by
 intro d
 induction d with
 | zero =>
  intro i hi
  refine Tells.step (fun k => by rw [impl_StoryOk.l0]) ?_
  refine Tells.neg (by omega) ?_
  refine Tells.bindc (peopleOkT n) ?_
  refine Tells.ite (fun h => Tells.dec ?_) (fun h => Tells.no fun h' => h (decide_eq_true h'.2.1))
  have h := of_decide_eq_true h
  exact ⟨fun h' => ⟨fun j h1 h2 => by omega, h, by omega⟩, fun h' => by omega⟩
 | succ d ih =>
  intro i hi
  refine Tells.step (fun k => by rw [impl_StoryOk.l0]) ?_
  rw [rdC, w64s (i := i) (by omega)]
  refine Tells.pos (by omega) ?_
  refine Tells.pos (by omega) ?_
  refine Tells.pos (by omega) ?_
  obtain ⟨b, hb, hi'⟩ := impl_claimOk n (s.getD i zC).f0 (s.getD i zC).f1
  refine Tells.bind hb ?_
  refine Tells.ite (fun h => ?_) (fun h => Tells.no fun h' => h (hi'.2 (h'.1 i (Nat.le_refl _) (by omega))))
  refine (ih (i + 1) (by omega)).iff ?_
  constructor
  ·intro h'
   refine ⟨fun j h1 h2 => ?_, h'.2⟩
   rcases Nat.eq_or_lt_of_le h1 with e | e
   ·exact e ▸ hi'.1 h
   ·exact h'.1 j e h2
  ·exact fun h' => ⟨fun j h1 h2 => h'.1 j (by omega) h2, h'.2⟩
theorem impl_storyOk (n : Int) (s : List Cl) (hs : s.length < 4611686018427387904) : Tells (fun k => impl_StoryOk.f k n s) (StoryP n s) := by
 unfold impl_StoryOk.f
 refine (impl_storyOk_l n s hs s.length 0 (by omega)).iff ?_
 exact ⟨fun h => ⟨fun j hj => h.1 j (by omega) hj, h.2⟩, fun h => ⟨fun j _ hj => h.1 j hj, h.2⟩⟩
end Go.Proofs.Ytbhmippoeimliaa.M

/- Tables and their worlds, apart from the program. -/
set_option linter.unusedVariables false
set_option linter.unusedSimpArgs false
namespace Go.Proofs.Ytbhmippoeimliaa.M
open Go Go.RowKit Go.Proofs.YtbhmippoeimliaaW.PrintWords
theorem pw4 {n : Nat} (h : n ≤ 4) : pw n ≤ 16 := Nat.pow_le_pow_right (n := 2) (by decide) h
theorem shl_u64 (n : Nat) (hn : n ≤ 4) : shl .u64 1 (n : Int) = (pw n : Int) := by
 rcases (by omega : n = 0 ∨ n = 1 ∨ n = 2 ∨ n = 3 ∨ n = 4) with rfl | rfl | rfl | rfl | rfl <;> decide
theorem shl2 (n : Nat) (hn : n ≤ 4) : shl .i64 1 (shl .u64 1 (n : Int)) = (pw (pw n) : Int) := by
 rw [shl_u64 n hn, shl_nat _ (by have := pw4 hn; omega)]
theorem ppw {n : Nat} (h : n ≤ 4) : pw (pw n) ≤ 65536 := pw16 (pw4 h)
/-- A table of so many people. -/
def TabOk (n t : Int) : Prop := 1 ≤ n ∧ n ≤ 4 ∧ 0 ≤ t ∧ t < (pw (pw n.toNat) : Int)
instance (n t : Int) : Decidable (TabOk n t) := by unfold TabOk; infer_instance
theorem some_dec {b : Bool} {P : Prop} [Decidable P] (h : b = true ↔ P) : some b = some (decide P) := by
 congr 1
 rw [Bool.eq_iff_iff, decide_eq_true_eq]
 exact h
theorem tabOk_nat (m : Nat) (t : Int) : TabOk (m : Int) t ↔ 1 ≤ m ∧ m ≤ 4 ∧ 0 ≤ t ∧ t < (pw (pw m) : Int) := by
 unfold TabOk
 rw [Int.toNat_natCast]
 omega
/-! ### the worlds of a table -/
def wl (T n : Nat) : List Nat := (List.range' 0 (pw n)).filter fun w => bitN T w == 1
theorem mem_wl (T n w : Nat) : w ∈ wl T n ↔ w < pw n ∧ bitN T w = 1 := by
 unfold wl
 rw [List.mem_filter, List.mem_range'_1, beq_iff_eq]
 omega
theorem wl_len (T n : Nat) : (wl T n).length ≤ pw n := Nat.le_trans (List.length_filter_le _ _) (by rw [List.length_range']; exact Nat.le_refl _)
/-- As many worlds as the table's number has ones. -/
theorem wl_popN (n : Nat) : ∀ T m : Nat, m = pw n → ((List.range' 0 m).filter fun w => bitN T w == 1).length = popN m T := by
 intro T m _
 have h : ∀ m T i : Nat, ((List.range' i m).filter fun w => bitN T w == 1).length = popN m (T / 2 ^ i) := by
  intro m
  induction m with
  | zero => intro T i; simp [popN]
  | succ m ih =>
   intro T i
   rw [List.range'_succ, List.filter_cons, popN]
   have e : T / 2 ^ i / 2 = T / 2 ^ (i + 1) := by rw [Nat.div_div_eq_div_mul, Nat.pow_succ]
   rw [e]
   have hb := bitN_01 T i
   have hd : T / 2 ^ i % 2 = bitN T i := rfl
   rw [hd]
   rcases hb with hb | hb
   ·rw [if_neg (by rw [hb]; decide), ih T (i + 1), hb, Nat.zero_add]
   ·rw [if_pos (by rw [hb]; rfl), List.length_cons, ih T (i + 1), hb, Nat.add_comm]
 have := h m T 0
 rwa [Nat.pow_zero, Nat.div_one] at this
theorem wl_pop (T n : Nat) : (wl T n).length = popN (pw n) T := wl_popN n T (pw n) rfl
end Go.Proofs.Ytbhmippoeimliaa.M

/- Which worlds a story's table has; the program's StoryTable tells it. -/
set_option linter.unusedVariables false
set_option linter.unusedSimpArgs false
namespace Go.Proofs.Ytbhmippoeimliaa.M
open Go Go.RowKit Go.Proofs.YtbhmippoeimliaaW.PrintWords Go.Proofs.Ytbhmippoeimliaa.P
theorem tabS_bit (n : Nat) (s : List Cl) (w : Nat) : bitN (tabS n s) w = 1 ↔ w < pw n ∧ ∀ c ∈ s, mayB c.f0.toNat c.f1 w = true := by
 have fold : ∀ (s : List Cl) (a : Nat), bitN (s.foldl (fun t c => t &&& tabC n c) a) w = 1 ↔ bitN a w = 1 ∧ ∀ c ∈ s, bitN (tabC n c) w = 1 := by
  intro s
  induction s with
  | nil => intro a; simp
  | cons c s ih =>
   intro a
   rw [List.foldl_cons, ih, bit_test, Nat.testBit_and, Bool.and_eq_true, ← bit_test, ← bit_test]
   constructor
   ·rintro ⟨⟨h1, h2⟩, h3⟩
    exact ⟨h1, fun x hx => by
     rcases List.mem_cons.1 hx with rfl | hx
     ·exact h2
     ·exact h3 x hx⟩
   ·rintro ⟨h1, h2⟩
    exact ⟨⟨h1, h2 c (by simp)⟩, fun x hx => h2 x (by simp [hx])⟩
 unfold tabS
 rw [fold]
 have e : bitN (pw (pw n) - 1) w = 1 ↔ w < pw n := by
  rw [bit_test]
  unfold pw
  rw [Nat.testBit_two_pow_sub_one, decide_eq_true_eq]
 rw [e]
 constructor
 ·rintro ⟨h1, h2⟩
  exact ⟨h1, fun c hc => ((tab_bit _ _ _).1 (h2 c hc)).2⟩
 ·rintro ⟨h1, h2⟩
  exact ⟨h1, fun c hc => (tab_bit _ _ _).2 ⟨h1, h2 c hc⟩⟩
theorem tabS_max (n : Nat) (s : List Cl) : tabS n s < pw (pw n) := by
 have h : ∀ (s : List Cl) (a : Nat), a < pw (pw n) → s.foldl (fun t c => t &&& tabC n c) a < pw (pw n) := by
  intro s
  induction s with
  | nil => exact fun a h => h
  | cons c s ih => exact fun a h => ih _ (Nat.lt_of_le_of_lt Nat.and_le_left h)
 have := pw_pos (pw n)
 exact h s _ (by omega)
theorem impl_storyTableE (n : Nat) (s : List Cl) (h : StoryP n s) : Ev (fun k => impl_StoryTable.f k (n : Int) s) ((tabS n s : Nat) : Int) := by
 unfold impl_StoryTable.f
 refine ev_bind ((impl_storyOk n s (by have := h.2.2; omega)).ev (b := true) ⟨fun _ => h, fun _ => rfl⟩) ?_
 refine ev_pos rfl ?_
 exact ev_bind (impl_storyE n s h) (ev_ret rfl)
end Go.Proofs.Ytbhmippoeimliaa.M

/- Tables and their worlds, as the program tells them. -/
set_option linter.unusedVariables false
set_option linter.unusedSimpArgs false
namespace Go.Proofs.Ytbhmippoeimliaa.M
open Go Go.RowKit Go.Proofs.YtbhmippoeimliaaW.PrintWords Go.Proofs.Ytbhmippoeimliaa.P
theorem peopleOk (n : Int) : impl_peopleOk.f n = some (decide (1 ≤ n ∧ n ≤ 4)) := by
 unfold impl_peopleOk.f
 by_cases h : n ≥ 1
 ·rw [if_pos h]
  simp [h]
 ·rw [if_neg h]
  simp
  intro h'
  omega
theorem impl_tabOk (n t : Int) : impl_TableOk.f n t = some (decide (TabOk n t)) := by
 unfold impl_TableOk.f
 rw [peopleOk]
 simp only [Option.bind_some]
 by_cases h : 1 ≤ n ∧ n ≤ 4
 ·obtain ⟨m, rfl⟩ : ∃ m : Nat, n = (m : Int) := ⟨n.toNat, by omega⟩
  rw [if_pos (decide_eq_true h), shl2 m (by omega)]
  by_cases h0 : t ≥ 0
  ·rw [if_pos h0, if_pos (by omega)]
   refine some_dec ?_
   rw [tabOk_nat, decide_eq_true_eq]
   omega
  ·rw [if_neg h0]
   refine some_dec ?_
   rw [tabOk_nat]
   exact ⟨fun h => (by cases h), fun h => by omega⟩
 ·rw [if_neg (fun h' => h (of_decide_eq_true h'))]
  exact some_dec ⟨fun h => (by cases h), fun h' => absurd ⟨h'.1, h'.2.1⟩ h⟩
theorem worlds_l (T n : Nat) (hn : n ≤ 4) (hT : T < 65536) : ∀ d i (acc : List Int), i + d = pw n → acc.length ≤ i →
  Ev (fun k => impl_WorldsIn.l0 k (T : Int) acc (pw n : Int) (i : Int)) (acc ++ castL ((List.range' i d).filter fun w => bitN T w == 1)) := by
 have hp := pw4 hn
 intro d
 induction d with
 | zero =>
  intro i acc hi ha
  refine Ev.step (fun k => by rw [impl_WorldsIn.l0]) ?_
  exact ev_neg (by omega) (ev_ret (by simp [castL]))
 | succ d ih =>
  intro i acc hi ha
  refine Ev.step (fun k => by rw [impl_WorldsIn.l0]) ?_
  rw [shr_and1 T i (by omega) (by omega), w64s (by omega), List.range'_succ, List.filter_cons]
  refine ev_pos (by omega) ?_
  refine ev_pos (by omega) ?_
  by_cases h : bitN T i = 1
  ·refine ev_pos (by omega) ?_
   refine ev_pos (by omega) ?_
   rw [if_pos (by simp [h])]
   refine ev_eq (ih (i + 1) _ (by omega) (by simp; omega)) (by simp [castL])
  ·refine ev_neg (by omega) ?_
   rw [if_neg (by simp [h])]
   exact ih (i + 1) acc (by omega) (by omega)
/-- WorldsIn, as the program tells it. -/
def worldsF (n t : Int) : List Int := if TabOk n t then castL (wl t.toNat n.toNat) else []
theorem impl_worldsE (n t : Int) : Ev (fun k => impl_WorldsIn.f k n t) (worldsF n t) := by
 unfold impl_WorldsIn.f worldsF
 refine ev_bindc (impl_tabOk n t) ?_
 by_cases h : TabOk n t
 ·refine ev_pos (decide_eq_true h) ?_
  rw [if_pos h]
  obtain ⟨h1, h4, h0, ht⟩ := h
  obtain ⟨n, rfl⟩ : ∃ m : Nat, n = (m : Int) := ⟨n.toNat, by omega⟩
  obtain ⟨t, rfl⟩ : ∃ m : Nat, t = (m : Int) := ⟨t.toNat, by omega⟩
  rw [Int.toNat_natCast] at *
  have := ppw (n := n) (by omega)
  rw [Int.toNat_natCast, shl_nat n (by omega)]
  refine ev_pos (by omega) ?_
  exact worlds_l t n (by omega) (by omega) (pw n) 0 [] (by omega) (by simp)
 ·refine ev_neg (fun h' => h (of_decide_eq_true h')) ?_
  rw [if_neg h]
  exact ev_ret rfl
end Go.Proofs.Ytbhmippoeimliaa.M

/- WorldsIn of a story's table. -/
set_option linter.unusedVariables false
set_option linter.unusedSimpArgs false
namespace Go.Proofs.Ytbhmippoeimliaa.M
open Go Go.RowKit Go.Proofs.YtbhmippoeimliaaW.PrintWords Go.Proofs.Ytbhmippoeimliaa.P
/-- The worlds of a story. -/
theorem worldsS (n : Nat) (h1 : 1 ≤ n) (h4 : n ≤ 4) (s : List Cl) : worldsF (n : Int) ((tabS n s : Nat) : Int) = castL (wl (tabS n s) n) := by
 have := tabS_max n s
 unfold worldsF
 rw [if_pos ((tabOk_nat n _).2 ⟨h1, h4, by omega, by omega⟩), Int.toNat_natCast, Int.toNat_natCast]
end Go.Proofs.Ytbhmippoeimliaa.M

/- The reader of draws: each pick tells a number in its bounds and goes one step on. -/
set_option linter.unusedVariables false
set_option linter.unusedSimpArgs false
namespace Go.Proofs.Ytbhmippoeimliaa.M
open Go Go.RowKit Go.Proofs.YtbhmippoeimliaaW.PrintWords Go.Proofs.Ytbhmippoeimliaa.P

theorem bits_xor_i64 (a b : Nat) (ha : a < 2 ^ 62) (hb : b < 2 ^ 62) : Go.bits .xor .i64 (a : Int) (b : Int) = ((a ^^^ b : Nat) : Int) := by
 have hx : a ^^^ b < 2 ^ 62 := Nat.xor_lt_two_pow ha hb
 have ea : a % 2 ^ IntKind.i64.bits = a := Nat.mod_eq_of_lt (Nat.lt_of_lt_of_le ha (by decide))
 have eb : b % 2 ^ IntKind.i64.bits = b := Nat.mod_eq_of_lt (Nat.lt_of_lt_of_le hb (by decide))
 simp only [Go.bits, BitVec.ofInt_natCast, BitVec.toNat_xor, BitVec.toNat_ofNat, ea, eb]
 generalize a ^^^ b = q at hx ⊢
 exact wraps_i64 (q : Int) (by omega) (by omega)
/-- The bytes of a code. -/
def Bytes (b : List Int) : Prop := b.length ≤ 2000 ∧ ∀ x ∈ b, 0 ≤ x ∧ x ≤ 255
theorem Bytes.rd {b : List Int} (h : Bytes b) (i : Int) : 0 ≤ rd b i ∧ rd b i ≤ 255 := by
 unfold Go.Proofs.YtbhmippoeimliaaW.PrintWords.rd
 by_cases hi : i.toNat < b.length
 ·rw [List.getD_eq_getElem?_getD, List.getElem?_eq_getElem hi]
  exact h.2 _ (List.getElem_mem hi)
 ·rw [List.getD_eq_getElem?_getD, List.getElem?_eq_none (by omega)]
  exact ⟨by decide, by decide⟩
theorem tmod_bd (x n : Int) (hx : 0 ≤ x) (hn : 0 < n) : 0 ≤ Int.tmod x n ∧ Int.tmod x n < n := by
 rw [Int.tmod_eq_emod_of_nonneg hx]
 exact ⟨Int.emod_nonneg _ (by omega), Int.emod_lt_of_pos _ hn⟩
theorem tdiv_bd (x n : Int) (hx : 0 ≤ x) (hn : 0 < n) : 0 ≤ Int.tdiv x n ∧ Int.tdiv x n ≤ x := by
 rw [Int.tdiv_eq_ediv_of_nonneg hx]
 exact ⟨Int.ediv_nonneg hx (by omega), Int.ediv_le_self _ hx⟩
/-- What a pick tells, and where it leaves the reader. -/
theorem pickE (b : List Int) (hb : Bytes b) (p : Nat) (hp : p ≤ 1000000) (n : Int) :
  ∃ r : Nat, Ev (fun k => spec_l20Rd_pick.f k b (p : Int) n) ((r : Int), ((p + 1 : Nat) : Int)) ∧ (1 ≤ n → (r : Int) < n) ∧ (n < 1 → r = 0) := by
 have hl := hb.1
 unfold spec_l20Rd_pick.f
 rw [w64s (by omega)]
 by_cases h : n < 1
 ·refine ⟨0, ev_pos h ?_, fun h' => by omega, fun _ => rfl⟩
  refine Ev.step (fun k => by rw [spec_l20Rd_pick.j0]) ?_
  exact ev_pos rfl (ev_ret rfl)
 by_cases h0 : b.length = 0
 ·refine ⟨0, ev_neg h ?_, fun h' => by omega, fun _ => rfl⟩
  rw [show ((b.length : Int) == 0) = true by simp [h0]]
  refine Ev.step (fun k => by rw [spec_l20Rd_pick.j0]) ?_
  exact ev_pos rfl (ev_ret rfl)
 have ep : wrap64 (((p + 1 : Nat) : Int) - 1) = (p : Int) := by
  rw [w64 (by omega) (by omega)]
  omega
 have eb : ((b.length : Int) == 0) = false := by
  rw [beq_eq_false_iff_ne]
  omega
 have out : ∀ x : Int, 0 ≤ x → Ev (fun k => spec_l20Rd_pick.j0 k n false b ((p + 1 : Nat) : Int)) (Int.tmod x n, ((p + 1 : Nat) : Int)) →
   ∃ r : Nat, Ev (fun k => if n < 1 then spec_l20Rd_pick.j0 k n true b ((p + 1 : Nat) : Int) else spec_l20Rd_pick.j0 k n ((b.length : Int) == 0) b ((p + 1 : Nat) : Int)) ((r : Int), ((p + 1 : Nat) : Int)) ∧ (1 ≤ n → (r : Int) < n) ∧ (n < 1 → r = 0) := fun x hx hE => by
  have hm := tmod_bd x n hx (by omega)
  refine ⟨(Int.tmod x n).toNat, ev_neg h ?_, fun _ => by omega, fun h' => absurd h' h⟩
  rw [eb, Int.toNat_of_nonneg hm.1]
  exact hE
 by_cases hlt : p < b.length
 ·have hr := hb.rd (p : Int)
  refine out (wrap64 (rd b (p : Int))) (by rw [w64 (by omega) (by omega)]; omega) ?_
  refine Ev.step (fun k => by rw [spec_l20Rd_pick.j0]) ?_
  rw [ep]
  refine ev_neg (by decide) ?_
  refine ev_pos (by omega) ?_
  refine ev_pos (by omega) ?_
  exact ev_neg (by omega) (ev_ret rfl)
 ·have q1 := tmod_bd (p : Int) (b.length : Int) (by omega) (by omega)
  have q2 := tdiv_bd (p : Int) (b.length : Int) (by omega) (by omega)
  have e7 : wrap64 (wrap64 ((p : Int) * 7) + 3) = (p : Int) * 7 + 3 := by rw [w64 (x := (p : Int) * 7) (by omega) (by omega), w64 (by omega) (by omega)]
  have q3 := tmod_bd ((p : Int) * 7 + 3) (b.length : Int) (by omega) (by omega)
  have hr1 := hb.rd (Int.tmod (p : Int) (b.length : Int))
  have hr2 := hb.rd (Int.tmod ((p : Int) * 7 + 3) (b.length : Int))
  obtain ⟨x, hx, hxb⟩ : ∃ x : Nat, wrap64 (wrap64 (wrap64 (wrap64 (wrap64 (rd b (Int.tmod (p : Int) (b.length : Int))) * 131) + wrap64 (wrap64 (rd b (Int.tmod ((p : Int) * 7 + 3) (b.length : Int))) * 1117)) + wrap64 ((p : Int) * 29)) + wrap64 (wrap64 (Int.tdiv (p : Int) (b.length : Int)) * 53)) = (x : Int) ∧ x < 2 ^ 60 := by
   generalize rd b (Int.tmod (p : Int) (b.length : Int)) = u at hr1 ⊢
   generalize rd b (Int.tmod ((p : Int) * 7 + 3) (b.length : Int)) = v at hr2 ⊢
   generalize Int.tdiv (p : Int) (b.length : Int) = t at q2 ⊢
   rw [w64 (x := u) (by omega) (by omega), w64 (x := v) (by omega) (by omega), w64 (x := t) (by omega) (by omega), w64 (x := u * 131) (by omega) (by omega), w64 (x := v * 1117) (by omega) (by omega), w64 (x := t * 53) (by omega) (by omega), w64 (x := (p : Int) * 29) (by omega) (by omega),
    w64 (x := u * 131 + v * 1117) (by omega) (by omega), w64 (x := u * 131 + v * 1117 + (p : Int) * 29) (by omega) (by omega), w64 (x := u * 131 + v * 1117 + (p : Int) * 29 + t * 53) (by omega) (by omega)]
   exact ⟨(u * 131 + v * 1117 + (p : Int) * 29 + t * 53).toNat, by omega, by omega⟩
  refine out (((x ^^^ (x / 64)) : Nat) : Int) (by omega) ?_
  refine Ev.step (fun k => by rw [spec_l20Rd_pick.j0]) ?_
  rw [ep, e7, hx, show Int.tdiv (x : Int) 64 = ((x / 64 : Nat) : Int) from rfl, w64 (x := ((x / 64 : Nat) : Int)) (by omega) (by omega), bits_xor_i64 _ _ (by omega) (by omega)]
  refine ev_neg (by decide) ?_
  refine ev_neg (by omega) ?_
  refine ev_neg (by omega) ?_
  refine ev_pos (by omega) ?_
  refine ev_pos (by omega) ?_
  refine ev_pos (by omega) ?_
  refine ev_pos (by omega) ?_
  exact ev_neg (by omega) (ev_ret rfl)
/-- A code, opened. -/
theorem openE (l : List Int) (hw : ∀ x ∈ l, (Lit.int .u8 x).wf = true) : ∃ b, spec_l20Open.f l = some (b, ((0 : Nat) : Int)) ∧ Bytes b := by
 have hx : ∀ x ∈ l, 0 ≤ x ∧ x ≤ 255 := fun x hx => by
  have := hw x hx
  simp [Lit.wf, IntKind.min, IntKind.max, IntKind.bits, IntKind.signed] at this
  omega
 unfold spec_l20Open.f
 by_cases h : (l.length : Int) > 2000
 ·rw [if_pos h, if_pos (by omega)]
  exact ⟨l.take 2000, rfl, by simp; omega, fun x hm => hx x (List.mem_of_mem_take hm)⟩
 ·rw [if_neg h]
  exact ⟨l, rfl, by omega, hx⟩
end Go.Proofs.Ytbhmippoeimliaa.M

/- The reference's TermOk tells whether a row is a term. -/
set_option linter.unusedVariables false
set_option linter.unusedSimpArgs false
namespace Go.Proofs.Ytbhmippoeimliaa.M
open Go Go.RowKit Go.Proofs.YtbhmippoeimliaaW.PrintWords Go.Proofs.Ytbhmippoeimliaa.P
theorem l1InT (a b c : Int) : spec_l1In.f a b c = some (decide (b ≤ a ∧ a ≤ c)) := by
 unfold spec_l1In.f
 by_cases h : a ≥ b
 ·rw [if_pos h]
  simp [h]
 ·rw [if_neg h]
  simp
  intro h'
  omega
/-- No mark is beyond the machine's whole numbers. -/
def M64 (s : List Mk) : Prop := ∀ i : Nat, (s.getD i zM).f1 ≤ 9223372036854775807
theorem spec_termOk_l (n : Int) (hb : n ≤ 9223372036854775807) (s : List Mk) (h64 : M64 s) (hs : s.length < 4611686018427387904) : ∀ d i p : Nat, i + d = s.length → p ≤ i →
  Tells (fun k => spec_TermOk.l0 k n s (p : Int) (i : Int)) (foldP n p (s.drop i) = some 1 ∧ (1 ≤ n ∧ n ≤ 4) ∧ s.length ≤ 15) := by
 intro d
 induction d with
 | zero =>
  intro i p hi hp
  refine Tells.step (fun k => by rw [spec_TermOk.l0]) ?_
  refine Tells.neg (by omega) ?_
  rw [List.drop_eq_nil_of_le (by omega)]
  refine Tells.bindc (l1InT n 1 4) ?_
  simp only [foldP, Option.some.injEq]
  refine Tells.ite (fun h => ?_) (fun h => Tells.no fun h' => h (decide_eq_true h'.2.1))
  have hn := of_decide_eq_true h
  refine Tells.ite (fun h1 => Tells.dec ?_) (fun h1 => Tells.no fun h' => h1 (by omega))
  exact ⟨fun h => ⟨by omega, hn, by omega⟩, fun h => by omega⟩
 | succ d ih =>
  intro i p hi hp
  refine Tells.step (fun k => by rw [spec_TermOk.l0]) ?_
  rw [foldP_drop n p s i (by omega), rdM]
  refine Tells.pos (by omega) ?_
  refine Tells.pos (by omega) ?_
  have hm64 := h64 i
  generalize hm : s.getD i zM = m at hm64
  have go : ∀ q, q ≤ i + 1 → stepP n p m = some q → Tells (fun k => spec_TermOk.l0 k n s (q : Int) ((i + 1 : Nat) : Int)) ((stepP n p m).bind (fun q => foldP n q (s.drop (i + 1))) = some 1 ∧ (1 ≤ n ∧ n ≤ 4) ∧ s.length ≤ 15) := fun q hq e => by
   rw [e]
   exact ih (i + 1) q (by omega) hq
  have no : stepP n p m = none → Tells (fun _ => some false) ((stepP n p m).bind (fun q => foldP n q (s.drop (i + 1))) = some 1 ∧ (1 ≤ n ∧ n ≤ 4) ∧ s.length ≤ 15) := fun e => by
   rw [e]
   exact Tells.no (by simp)
  have j3 : m.f0 ≠ 0 → m.f0 ≠ 1 → ¬ (m.f0 = 2 ∧ m.f1 = 0 ∧ 1 ≤ p) → Tells (fun k => spec_TermOk.j3 k n s (p : Int) (i : Int) false) ((stepP n p m).bind (fun q => foldP n q (s.drop (i + 1))) = some 1 ∧ (1 ≤ n ∧ n ≤ 4) ∧ s.length ≤ 15) := fun h0 h1 h2 => by
   refine Tells.step (fun k => by rw [spec_TermOk.j3]) ?_
   rw [rdM, hm, w64s (by omega)]
   refine Tells.neg (by decide) ?_
   refine Tells.pos (by omega) ?_
   refine Tells.pos (by omega) ?_
   refine Tells.bindc (l1InT m.f0 3 5) ?_
   have bad : ¬ (3 ≤ m.f0 ∧ m.f0 ≤ 5 ∧ m.f1 = 0 ∧ 2 ≤ p) → stepP n p m = none := fun hb => by
    unfold stepP
    rw [if_neg h0, if_neg h1]
    by_cases h2' : m.f0 = 2
    ·rw [if_pos h2', if_neg (fun h => h2 ⟨h2', h.1, h.2⟩)]
    ·rw [if_neg h2']
     by_cases h3 : 3 ≤ m.f0 ∧ m.f0 ≤ 5
     ·rw [if_pos h3, if_neg (fun h => hb ⟨h3.1, h3.2, h.1, h.2⟩)]
     ·rw [if_neg h3]
   refine Tells.ite (fun h3 => ?_) (fun h3 => no (bad fun h => h3 (decide_eq_true ⟨h.1, h.2.1⟩)))
   have h3 := of_decide_eq_true h3
   refine Tells.ite (fun h4 => ?_) (fun h4 => no (bad fun h => h4 h.2.2.1))
   refine Tells.ite (fun h5 => ?_) (fun h5 => no (bad fun h => h5 (by omega)))
   rw [w64 (x := (p : Int) - 1) (by omega) (by omega), show (p : Int) - 1 = ((p - 1 : Nat) : Int) by omega]
   exact go (p - 1) (by omega) (by unfold stepP; rw [if_neg h0, if_neg h1, if_neg (by omega), if_pos h3, if_pos ⟨h4, by omega⟩])
  have j2 : m.f0 ≠ 0 → ¬ (m.f0 = 1 ∧ 0 ≤ m.f1 ∧ m.f1 ≤ n + 1) → Tells (fun k => spec_TermOk.j2 k n s (p : Int) (i : Int) false) ((stepP n p m).bind (fun q => foldP n q (s.drop (i + 1))) = some 1 ∧ (1 ≤ n ∧ n ≤ 4) ∧ s.length ≤ 15) := fun h0 h1 => by
   refine Tells.step (fun k => by rw [spec_TermOk.j2]) ?_
   rw [rdM, hm]
   refine Tells.neg (by decide) ?_
   refine Tells.pos (by omega) ?_
   refine Tells.pos (by omega) ?_
   by_cases h11 : m.f0 = 1
   ·have e : stepP n p m = none := by
     unfold stepP
     rw [if_neg h0, if_pos h11, if_neg (fun h => h1 ⟨h11, h⟩)]
    refine Tells.neg (by simp [h11]) ?_
    refine Tells.step (fun k => by rw [spec_TermOk.j3]) ?_
    rw [rdM, hm]
    refine Tells.neg (by decide) ?_
    refine Tells.pos (by omega) ?_
    refine Tells.pos (by omega) ?_
    refine Tells.bindc (l1InT m.f0 3 5) ?_
    refine Tells.neg (fun h => by have := of_decide_eq_true h; omega) ?_
    exact no e
   refine Tells.ite (fun h2 => ?_) (fun h2 => j3 h0 h11 fun h => h2 (by simp [h.1, h.2.1]))
   have h2 : m.f0 = 2 ∧ m.f1 = 0 := by simpa using h2
   by_cases hp1 : (p : Int) ≥ 1
   ·rw [decide_eq_true hp1]
    refine Tells.step (fun k => by rw [spec_TermOk.j3]) ?_
    rw [w64s (by omega)]
    refine Tells.pos rfl ?_
    exact go p (by omega) (by unfold stepP; rw [if_neg h0, if_neg h11, if_pos h2.1, if_pos ⟨h2.2, by omega⟩])
   ·rw [decide_eq_false hp1]
    exact j3 h0 h11 fun h => hp1 (by omega)
  have j2t : m.f0 = 1 → 0 ≤ m.f1 → m.f1 ≤ n + 1 → Tells (fun k => spec_TermOk.j2 k n s (p : Int) (i : Int) true) ((stepP n p m).bind (fun q => foldP n q (s.drop (i + 1))) = some 1 ∧ (1 ≤ n ∧ n ≤ 4) ∧ s.length ≤ 15) := fun h0 h1 h2 => by
   refine Tells.step (fun k => by rw [spec_TermOk.j2]) ?_
   rw [w64s (by omega), w64s (by omega)]
   refine Tells.pos rfl ?_
   exact go (p + 1) (by omega) (by unfold stepP; rw [if_neg (by omega), if_pos h0, if_pos ⟨h1, h2⟩])
  have j1 : ¬ (m.f0 = 0 ∧ 0 ≤ m.f1 ∧ m.f1 < n) → Tells (fun k => spec_TermOk.j1 k n s (p : Int) (i : Int) false) ((stepP n p m).bind (fun q => foldP n q (s.drop (i + 1))) = some 1 ∧ (1 ≤ n ∧ n ≤ 4) ∧ s.length ≤ 15) := fun h0 => by
   refine Tells.step (fun k => by rw [spec_TermOk.j1]) ?_
   rw [rdM, hm]
   refine Tells.neg (by decide) ?_
   refine Tells.pos (by omega) ?_
   refine Tells.pos (by omega) ?_
   by_cases h00 : m.f0 = 0
   ·have e : stepP n p m = none := by
     unfold stepP
     rw [if_pos h00, if_neg (fun h => h0 ⟨h00, h⟩)]
    refine Tells.neg (by omega) ?_
    refine Tells.step (fun k => by rw [spec_TermOk.j2]) ?_
    rw [rdM, hm]
    refine Tells.neg (by decide) ?_
    refine Tells.pos (by omega) ?_
    refine Tells.pos (by omega) ?_
    refine Tells.neg (by simp [h00]) ?_
    refine Tells.step (fun k => by rw [spec_TermOk.j3]) ?_
    rw [rdM, hm]
    refine Tells.neg (by decide) ?_
    refine Tells.pos (by omega) ?_
    refine Tells.pos (by omega) ?_
    refine Tells.bindc (l1InT m.f0 3 5) ?_
    refine Tells.neg (fun h => by have := of_decide_eq_true h; omega) ?_
    exact no e
   refine Tells.ite (fun h1 => ?_) (fun h1 => j2 h00 fun h => h1 h.1)
   refine Tells.ite (fun h2 => ?_) (fun h2 => j2 h00 fun h => h2 h.2.1)
   refine Tells.ite (fun h3 => j2t h1 h2 (by omega)) (fun h3 => ?_)
   by_cases h4 : wrap64 (m.f1 - 1) = n
   ·rw [show (wrap64 (m.f1 - 1) == n) = true by simp [h4]]
    exact j2t h1 h2 (by rw [w64 (by omega) (by omega)] at h4; omega)
   ·rw [show (wrap64 (m.f1 - 1) == n) = false by simp [h4]]
    exact j2 h00 fun h => h4 (by rw [w64 (by omega) (by omega)]; omega)
  refine Tells.ite (fun h0 => ?_) (fun h0 => j1 fun h => h0 h.1)
  refine Tells.ite (fun h1 => ?_) (fun h1 => j1 fun h => h1 h.2.1)
  by_cases h2 : m.f1 < n
  ·rw [decide_eq_true h2]
   refine Tells.step (fun k => by rw [spec_TermOk.j1]) ?_
   rw [w64s (by omega), w64s (by omega)]
   refine Tells.pos rfl ?_
   exact go (p + 1) (by omega) (by unfold stepP; rw [if_pos h0, if_pos ⟨h1, h2⟩])
  ·rw [decide_eq_false h2]
   exact j1 fun h => h2 h.2.2
theorem spec_termOk (n : Int) (hb : n ≤ 9223372036854775807) (s : List Mk) (h64 : M64 s) (hs : s.length < 4611686018427387904) : Tells (fun k => spec_TermOk.f k n s) (TermP n s) := by
 unfold spec_TermOk.f
 refine (spec_termOk_l n hb s h64 hs s.length 0 0 (by omega) (by omega)).iff ?_
 rw [List.drop_zero]
 exact ⟨fun h => ⟨h.2.1, h.2.2, h.1⟩, fun h => ⟨h.2.2, h.1, h.2.1⟩⟩
end Go.Proofs.Ytbhmippoeimliaa.M

/- The reference's ClaimOk. -/
set_option linter.unusedVariables false
set_option linter.unusedSimpArgs false
namespace Go.Proofs.Ytbhmippoeimliaa.M
open Go Go.RowKit Go.Proofs.YtbhmippoeimliaaW.PrintWords Go.Proofs.Ytbhmippoeimliaa.P
theorem spec_claimOk (n : Int) (hn : n ≤ 9223372036854775807) (who : Int) (l : List Mk) (h64 : M64 l) (hl : l.length < 4611686018427387904) : Tells (fun k => spec_ClaimOk.f k n who l) (ClaimP n who l) := by
 unfold spec_ClaimOk.f
 refine Tells.ite (fun h0 => ?_) (fun h0 => Tells.no fun h' => h0 h'.1)
 refine Tells.ite (fun h1 => ?_) (fun h1 => Tells.no fun h' => h1 h'.2.1)
 obtain ⟨b, hb, hi⟩ := spec_termOk n hn l h64 hl
 refine Tells.bind hb ?_
 refine Tells.ite (fun h2 => Tells.dec ?_) (fun h2 => Tells.no fun h' => h2 (hi.2 h'.2.2.1))
 exact ⟨fun h => ⟨h0, h1, hi.1 h2, by omega⟩, fun h => by have := h.2.2.2; omega⟩
/-- Nothing in the story is beyond the machine's numbers. -/
def S64 (s : List Cl) : Prop := s.length < 4611686018427387904 ∧ ∀ i, M64 (s.getD i zC).f1 ∧ (s.getD i zC).f1.length < 4611686018427387904
end Go.Proofs.Ytbhmippoeimliaa.M

/- The reference's way, from the last mark, tells the tree's value. -/
set_option linter.unusedVariables false
set_option linter.unusedSimpArgs false
namespace Go.Proofs.Ytbhmippoeimliaa.M
open Go Go.RowKit Go.Proofs.YtbhmippoeimliaaW.PrintWords Go.Proofs.Ytbhmippoeimliaa.P
theorem spec_headsE (w : Nat) (hw : w < 16) : Ev (fun k => spec_l1Heads.f k (w : Int)) ((heads w : Nat) : Int) := by
 have h : ∀ w : Fin 16, spec_l1Heads.f 10 (w.val : Int) = some ((heads w.val : Nat) : Int) := by decide +kernel
 exact Ev.of (fun k => spec_l1Heads.mono (w : Int) k) (h ⟨w, hw⟩)
theorem starts_l (n : Int) (L : List Mk) (hL : L.length ≤ 1000) (r : Int) (t : Tm) : ∀ (pre post : List Mk) (d : Nat), t.Ok n → L = pre ++ t.enc ++ post → d ≤ 1000000 - t.enc.length →
  Ev (fun k => spec_l2Starts.l0 k L (d : Int) ((pre.length : Int) - 1)) r → Ev (fun k => spec_l2Starts.l0 k L ((d + 1 : Nat) : Int) (((pre.length + t.enc.length : Nat) : Int) - 1)) r := by
 induction t with
 | leaf m =>
  intro pre post d ht hl hd h
  refine Ev.step (fun k => by rw [spec_l2Starts.l0]) ?_
  have hlen : L.length = pre.length + 1 + post.length := by rw [hl]; simp [Tm.enc]; omega
  have hget : L.getD pre.length zM = m := by
   rw [hl]
   simp only [Tm.enc, List.append_assoc, List.singleton_append]
   exact getD_at zM pre m post
  have e : ((pre.length + (Tm.leaf m).enc.length : Nat) : Int) - 1 = (pre.length : Int) := by simp [Tm.enc]
  simp only [Tm.enc, List.length_singleton] at hd
  rw [e, rdM, hget, w64 (x := ((d + 1 : Nat) : Int) - 1) (by omega) (by omega), w64 (x := (pre.length : Int) - 1) (by omega) (by omega), show ((d + 1 : Nat) : Int) - 1 = (d : Int) by omega]
  refine ev_pos (by omega) ?_
  refine ev_pos (by omega) ?_
  refine ev_pos (by omega) ?_
  refine ev_pos (by rcases ht with h | h <;> omega) ?_
  exact h
 | neg t ih =>
  intro pre post d ht hl hd h
  refine Ev.step (fun k => by rw [spec_l2Starts.l0]) ?_
  have hlen : L.length = pre.length + t.enc.length + 1 + post.length := by rw [hl]; simp [Tm.enc]; omega
  have hget : L.getD (pre.length + t.enc.length) zM = ⟨2, 0⟩ := by
   rw [hl]
   simp only [Tm.enc, List.append_assoc, List.singleton_append]
   rw [← List.append_assoc]
   have := getD_at zM (pre ++ t.enc) ⟨2, 0⟩ post
   rwa [List.length_append] at this
  have e : ((pre.length + (Tm.neg t).enc.length : Nat) : Int) - 1 = ((pre.length + t.enc.length : Nat) : Int) := by simp [Tm.enc]; omega
  simp only [Tm.enc, List.length_append, List.length_singleton] at hd
  rw [e, rdM, hget, w64 (x := ((pre.length + t.enc.length : Nat) : Int) - 1) (by omega) (by omega)]
  refine ev_pos (by omega) ?_
  refine ev_pos (by omega) ?_
  refine ev_pos (by omega) ?_
  refine ev_neg (by decide) ?_
  refine ev_neg (by decide) ?_
  exact ih pre (⟨2, 0⟩ :: post) d ht (by rw [hl]; simp [Tm.enc]) (by omega) h
 | bin c a b iha ihb =>
  intro pre post d ht hl hd h
  obtain ⟨hc, ha, hb⟩ := ht
  refine Ev.step (fun k => by rw [spec_l2Starts.l0]) ?_
  have hlen : L.length = pre.length + a.enc.length + b.enc.length + 1 + post.length := by rw [hl]; simp [Tm.enc]; omega
  have hget : L.getD (pre.length + a.enc.length + b.enc.length) zM = ⟨c, 0⟩ := by
   rw [hl]
   simp only [Tm.enc, List.append_assoc, List.singleton_append]
   rw [← List.append_assoc, ← List.append_assoc]
   have := getD_at zM ((pre ++ a.enc) ++ b.enc) ⟨c, 0⟩ post
   rwa [List.length_append, List.length_append] at this
  have e : ((pre.length + (Tm.bin c a b).enc.length : Nat) : Int) - 1 = ((pre.length + a.enc.length + b.enc.length : Nat) : Int) := by simp [Tm.enc]; omega
  simp only [Tm.enc, List.length_append, List.length_singleton] at hd
  rw [e, rdM, hget, w64 (x := ((pre.length + a.enc.length + b.enc.length : Nat) : Int) - 1) (by omega) (by omega), w64s (by omega)]
  refine ev_pos (by omega) ?_
  refine ev_pos (by omega) ?_
  refine ev_pos (by omega) ?_
  refine ev_neg (by dsimp only; omega) ?_
  refine ev_pos (by dsimp only; omega) ?_
  have h2 := iha pre (b.enc ++ ⟨c, 0⟩ :: post) d ha (by rw [hl]; simp [Tm.enc]) (by omega) h
  rw [← List.length_append] at h2 ⊢
  exact ihb (pre ++ a.enc) (⟨c, 0⟩ :: post) (d + 1) hb (by rw [hl]; simp [Tm.enc]) (by omega) h2
theorem spec_holdsE (n : Int) (hn : n ≤ 4) (w : Nat) (hw : w < 16) (t : Tm) : t.Ok n → t.enc.length ≤ 1000 → Ev (fun k => spec_l3Holds.f k t.enc (w : Int)) (t.val w) := by
 induction t with
 | leaf m =>
  intro ht hl
  refine Ev.step (fun k => by rw [spec_l3Holds.f]) ?_
  have e : wrap64 (((Tm.leaf m).enc.length : Int) - 1) = ((0 : Nat) : Int) := by simp [Tm.enc, wrap64]
  have g : (Tm.leaf m).enc.getD 0 zM = m := rfl
  rw [e, rdM, g]
  have hlen : (Tm.leaf m).enc.length = 1 := rfl
  refine ev_pos (by omega) ?_
  refine ev_pos (by omega) ?_
  simp only [Tm.val]
  rcases ht with ⟨h0, h1, h2⟩ | ⟨h0, h1, h2⟩
  ·refine ev_pos h0 ?_
   refine ev_pos h1 (ev_ret ?_)
   rw [if_pos h0, show m.f1 = ((m.f1.toNat : Nat) : Int) by omega, shr_tmod2 w m.f1.toNat (by omega), beq_one, Int.toNat_natCast]
  ·refine ev_neg (by omega) ?_
   refine ev_pos h0 ?_
   refine ev_bind (spec_headsE w hw) (ev_ret ?_)
   rw [if_neg (by omega)]
 | neg t ih =>
  intro ht hl
  refine Ev.step (fun k => by rw [spec_l3Holds.f]) ?_
  have hlen : (Tm.neg t).enc.length = t.enc.length + 1 := by simp [Tm.enc]
  have g : (Tm.neg t).enc.getD t.enc.length zM = ⟨2, 0⟩ := getD_last zM t.enc ⟨2, 0⟩
  rw [hlen, w64 (x := ((t.enc.length + 1 : Nat) : Int) - 1) (by omega) (by omega), show ((t.enc.length + 1 : Nat) : Int) - 1 = (t.enc.length : Int) by omega, rdM, g, Int.toNat_natCast]
  have tk : (Tm.neg t).enc.take t.enc.length = t.enc := by simp [Tm.enc]
  rw [tk]
  refine ev_pos (by omega) ?_
  refine ev_pos (by omega) ?_
  refine ev_neg (by decide) ?_
  refine ev_neg (by decide) ?_
  refine ev_pos rfl ?_
  refine ev_pos (by omega) ?_
  exact ev_bind (ih ht (by omega)) (ev_ret rfl)
 | bin c a b iha ihb =>
  intro ht hl
  obtain ⟨hc, ha, hb⟩ := ht
  refine Ev.step (fun k => by rw [spec_l3Holds.f]) ?_
  have hbp := b.enc_pos
  have hlen : (Tm.bin c a b).enc.length = a.enc.length + b.enc.length + 1 := by simp [Tm.enc]; omega
  have g : (Tm.bin c a b).enc.getD (a.enc.length + b.enc.length) zM = ⟨c, 0⟩ := by
   have := getD_last zM (a.enc ++ b.enc) ⟨c, 0⟩
   rwa [List.length_append] at this
  rw [hlen, w64 (x := ((a.enc.length + b.enc.length + 1 : Nat) : Int) - 1) (by omega) (by omega), show ((a.enc.length + b.enc.length + 1 : Nat) : Int) - 1 = ((a.enc.length + b.enc.length : Nat) : Int) by omega, rdM, g,
   w64 (x := ((a.enc.length + b.enc.length : Nat) : Int) - 1) (by omega) (by omega), Int.toNat_natCast]
  have tk : (Tm.bin c a b).enc.take (a.enc.length + b.enc.length) = a.enc ++ b.enc := by
   rw [← List.length_append]
   exact List.take_left
  rw [tk]
  refine ev_pos (by omega) ?_
  refine ev_pos (by omega) ?_
  refine ev_neg (by dsimp only; omega) ?_
  refine ev_neg (by dsimp only; omega) ?_
  refine ev_neg (by dsimp only; omega) ?_
  have hst : Ev (fun k => spec_l2Starts.f k (Tm.bin c a b).enc (((a.enc.length + b.enc.length : Nat) : Int) - 1)) (a.enc.length : Int) := by
   unfold spec_l2Starts.f
   refine starts_l n (Tm.bin c a b).enc (by omega) (a.enc.length : Int) b a.enc [⟨c, 0⟩] 0 hb rfl (by omega) ?_
   refine Ev.step (fun k => by rw [spec_l2Starts.l0]) ?_
   refine ev_neg (by omega) (ev_ret ?_)
   rw [w64 (by omega) (by omega)]
   omega
  refine ev_bind hst ?_
  rw [Int.toNat_natCast]
  have tk2 : (Tm.bin c a b).enc.take a.enc.length = a.enc := by simp [Tm.enc]
  rw [tk2, List.drop_left]
  refine ev_pos (by omega) ?_
  refine ev_pos (by omega) ?_
  refine ev_bind (iha ha (by omega)) ?_
  refine ev_pos (by omega) ?_
  refine ev_pos (by omega) ?_
  refine ev_bind (ihb hb (by omega)) ?_
  simp only [Tm.val]
  rcases hc with rfl | rfl | rfl
  ·refine ev_pos rfl ?_
   by_cases hv : a.val w = true
   ·exact ev_pos hv (ev_ret (by simp [op2, hv]))
   ·exact ev_neg hv (ev_ret (by simp [op2, hv]))
  ·refine ev_neg (by decide) (ev_pos rfl ?_)
   by_cases hv : a.val w = true
   ·exact ev_pos hv (ev_ret (by simp [op2, hv]))
   ·exact ev_neg hv (ev_ret (by simp [op2, hv]))
  ·refine ev_neg (by decide) (ev_neg (by decide) (ev_ret (by simp [op2])))
end Go.Proofs.Ytbhmippoeimliaa.M

/- The reference's ClaimOk, StoryOk and l4May. -/
set_option linter.unusedVariables false
set_option linter.unusedSimpArgs false
namespace Go.Proofs.Ytbhmippoeimliaa.M
open Go Go.RowKit Go.Proofs.YtbhmippoeimliaaW.PrintWords Go.Proofs.Ytbhmippoeimliaa.P
theorem spec_holdsT {n : Int} {l : List Mk} (h : TermP n l) (w : Nat) (hw : w < 16) : Ev (fun k => spec_l3Holds.f k l (w : Int)) (holdB l w) := by
 obtain ⟨t, ht, rfl⟩ := h.tree
 rw [holdB_enc n w t ht]
 exact spec_holdsE n h.1.2 w hw t ht (by have := h.2.1; omega)
theorem spec_mayE {n : Int} {l : List Mk} (h : TermP n l) (who : Int) (h0 : 0 ≤ who) (h4 : who < 4) (w : Nat) (hw : w < 16) : Ev (fun k => spec_l4May.f k who l (w : Int)) (mayB who.toNat l w) := by
 unfold spec_l4May.f
 refine ev_pos h0 ?_
 refine ev_bind (spec_holdsT h w hw) (ev_ret ?_)
 rw [show who = ((who.toNat : Nat) : Int) by omega, shr_tmod2 w who.toNat (by omega), beq_one]
 unfold mayB
 rw [Int.toNat_natCast]

end Go.Proofs.Ytbhmippoeimliaa.M

/- Drawn terms: each draw ends; they are short. -/
set_option linter.unusedVariables false
set_option linter.unusedSimpArgs false
namespace Go.Proofs.Ytbhmippoeimliaa.M
open Go Go.RowKit Go.Proofs.YtbhmippoeimliaaW.PrintWords Go.Proofs.Ytbhmippoeimliaa.P
/-- Every mark's number is one of the machine's. -/
def SmallL (l : List Mk) : Prop := ∀ x ∈ l, x.f1 ≤ 9223372036854775807
theorem SmallL.M64 {l : List Mk} (h : SmallL l) : M64 l := fun i => by
 rcases Nat.lt_or_ge i l.length with hi | hi
 ·rw [List.getD_eq_getElem?_getD, List.getElem?_eq_getElem hi]
  exact h _ (List.getElem_mem hi)
 ·rw [List.getD_eq_getElem?_getD, List.getElem?_eq_none hi]
  show zM.f1 ≤ _
  decide
theorem SmallL.app {l m : List Mk} (h : SmallL l) (h' : SmallL m) : SmallL (l ++ m) := fun x hx => by
 rcases List.mem_append.1 hx with hx | hx
 ·exact h x hx
 ·exact h' x hx
theorem SmallL.one {x : Mk} (h : x.f1 ≤ 9223372036854775807) : SmallL [x] := fun y hy => by
 rw [List.mem_singleton.1 hy]
 exact h
theorem oddE (b : List Int) (hb : Bytes b) (p : Nat) (hp : p ≤ 100000) (n : Int) : ∃ o : Bool, ∃ q : Nat, Ev (fun k => spec_l20Rd_odd.f k b (p : Int) n) (o, (q : Int)) ∧ q ≤ p + 1 := by
 unfold spec_l20Rd_odd.f
 by_cases h : n > 0
 ·obtain ⟨r, e, _⟩ := pickE b hb p (by omega) n
  exact ⟨_, p + 1, ev_pos h (ev_bind e (ev_ret rfl)), Nat.le_refl _⟩
 ·exact ⟨false, p, ev_neg h (ev_ret rfl), by omega⟩
/-- Of a pick only that it is a number of the machine. -/
theorem pickB (b : List Int) (hb : Bytes b) (p : Nat) (hp : p ≤ 100000) (n : Int) (hn : n ≤ 9223372036854775807) : ∃ r : Nat, Ev (fun k => spec_l20Rd_pick.f k b (p : Int) n) ((r : Int), ((p + 1 : Nat) : Int)) ∧ (1 ≤ n → (r : Int) < n) ∧ (r : Int) ≤ 9223372036854775807 := by
 obtain ⟨r, e, h1, h2⟩ := pickE b hb p (by omega) n
 refine ⟨r, e, h1, ?_⟩
 by_cases h : 1 ≤ n
 ·have := h1 h
  omega
 ·have := h2 (by omega)
  omega
theorem term_j2 (b : List Int) (hb : Bytes b) (d : Int) (t : List Mk) (p : Nat) (hp : p ≤ 10000) (h1 : 1 ≤ t.length) (h2 : t.length ≤ 4096) (hs : SmallL t) :
  ∃ (s : List Mk) (q : Nat), Ev (fun k => spec_l20Term.j2 k d t b (p : Int)) (s, (q : Int)) ∧ s.length ≤ 4097 ∧ SmallL s ∧ q ≤ p + 3 := by
 obtain ⟨o, q, eo, hq⟩ := oddE b hb p (by omega) d
 cases o with
 | false =>
  refine ⟨t, q, Ev.step (fun k => by rw [spec_l20Term.j2]) ?_, by omega, hs, by omega⟩
  exact ev_bind eo (ev_neg (by simp) (ev_ret rfl))
 | true =>
  obtain ⟨r, e, _⟩ := pickE b hb q (by omega) 3
  by_cases h0 : r = 0
  ·refine ⟨[], q + 1, Ev.step (fun k => by rw [spec_l20Term.j2]) ?_, by simp, fun x hx => by simp at hx, by omega⟩
   exact ev_bind eo (ev_pos rfl (ev_bind e (ev_pos (by simp [h0]) (ev_ret rfl))))
  by_cases h1' : r = 1
  ·refine ⟨t ++ [⟨5, 0⟩], q + 1, Ev.step (fun k => by rw [spec_l20Term.j2]) ?_, by simp; omega, hs.app (SmallL.one (by decide)), by omega⟩
   exact ev_bind eo (ev_pos rfl (ev_bind e (ev_neg (by simp; omega) (ev_pos (by simp [h1']) (ev_pos (by omega) (ev_ret rfl))))))
  ·obtain ⟨r2, e2, _⟩ := pickE b hb (q + 1) (by omega) 2
   refine ⟨t.set 0 ⟨(r2 : Int), 6⟩, q + 2, Ev.step (fun k => by rw [spec_l20Term.j2]) ?_, by simp; omega, fun x hx => ?_, by omega⟩
   ·exact ev_bind eo (ev_pos rfl (ev_bind e (ev_neg (by simp; omega) (ev_neg (by simp; omega) (ev_bind e2 (ev_pos (by omega) (ev_ret rfl)))))))
   ·rcases List.mem_or_eq_of_mem_set hx with hx | rfl
    ·exact hs x hx
    ·show (6 : Int) ≤ _
     decide
/-- A row of parts: none empty, none long. -/
def PartsP (c : Nat) (xs : List (List Mk)) : Prop := ∀ r ∈ xs, 1 ≤ r.length ∧ r.length ≤ c ∧ SmallL r
theorem parts_at {c : Nat} {xs : List (List Mk)} (h : PartsP c xs) (i : Nat) (hi : i < xs.length) : 1 ≤ (rd_Lparts xs (i : Int)).length ∧ (rd_Lparts xs (i : Int)).length ≤ c ∧ SmallL (rd_Lparts xs (i : Int)) := by
 unfold rd_Lparts
 rw [Int.toNat_natCast, List.getD_eq_getElem?_getD, List.getElem?_eq_getElem hi]
 exact h _ (List.getElem_mem hi)
/-- Rows of at most c marks, m steps more: none gets long. -/
def Fits (c m : Nat) : Prop := (c + 1) * 2 ^ m ≤ 4096
theorem Fits.next {c m : Nat} (h : Fits c (m + 1)) : Fits (2 * c + 1) m := by
 unfold Fits at h ⊢
 rw [show 2 * c + 1 + 1 = (c + 1) * 2 by omega, Nat.mul_assoc, Nat.mul_comm 2, ← Nat.pow_succ]
 exact h
theorem Fits.le {c m : Nat} (h : Fits c m) : c + 1 ≤ 4096 := by
 unfold Fits at h
 have h2 : 1 ≤ 2 ^ m := Nat.one_le_two_pow
 have h3 : (c + 1) * 1 ≤ (c + 1) * 2 ^ m := Nat.mul_le_mul_left _ h2
 rw [Nat.mul_one] at h3
 exact Nat.le_trans h3 h
theorem Fits.start : Fits 1 7 := by
 unfold Fits
 decide
set_option maxHeartbeats 1600000 in
theorem term_l1 (b : List Int) (hb : Bytes b) (d : Int) : ∀ (m : Nat) (xs : List (List Mk)) (x9 p c : Nat), 1 ≤ xs.length → xs.length + x9 ≤ m → m ≤ 12 → Fits c m → PartsP c xs → p + 3 * m ≤ 5000 →
  ∃ (s : List Mk) (q : Nat), Ev (fun k => spec_l20Term.l1 k d xs (x9 : Int) b (p : Int)) (s, (q : Int)) ∧ s.length ≤ 4097 ∧ SmallL s ∧ q ≤ p + 3 * m + 4 := by
 intro m
 induction m with
 | zero => intro xs x9 p c h1 h2; omega
 | succ m ih =>
  intro xs x9 p c h1 h2 hm hc hP hp
  have hc2 := hc.next
  have hc4 := hc.le
  clear hc
  by_cases hl : xs.length = 1
  ·-- one part left: it is the term
   obtain ⟨a1, a2, a3⟩ : 1 ≤ (rd_Lparts xs 0).length ∧ (rd_Lparts xs 0).length ≤ c ∧ SmallL (rd_Lparts xs 0) := parts_at hP 0 (by omega)
   obtain ⟨r, e, _⟩ := pickE b hb p (by omega) 5
   by_cases h0 : r = 0
   ·obtain ⟨s, q, hE, hs1, hs2, hq⟩ := term_j2 b hb d (rd_Lparts xs 0 ++ [⟨2, 0⟩]) (p + 1) (by omega) (by simp) (by simp; omega) (a3.app (SmallL.one (by decide)))
    refine ⟨s, q, Ev.step (fun k => by rw [spec_l20Term.l1]) ?_, hs1, hs2, by omega⟩
    refine ev_neg (by omega) (ev_pos (by omega) ?_)
    simp only [Option.bind_some, List.nil_append]
    refine ev_pos (by simp only [List.length_nil]; omega) ?_
    exact ev_bind e (ev_pos (by simp [h0]) (ev_pos (by have : (rd_Lparts xs (0 : Int)).length ≤ c := a2; omega) hE))
   ·obtain ⟨s, q, hE, hs1, hs2, hq⟩ := term_j2 b hb d (rd_Lparts xs 0) (p + 1) (by omega) a1 (by omega) a3
    refine ⟨s, q, Ev.step (fun k => by rw [spec_l20Term.l1]) ?_, hs1, hs2, by omega⟩
    refine ev_neg (by omega) (ev_pos (by omega) ?_)
    simp only [Option.bind_some, List.nil_append]
    refine ev_pos (by simp only [List.length_nil]; omega) ?_
    exact ev_bind e (ev_neg (by simp; omega) hE)
  ·obtain ⟨r, e, hr, _⟩ := pickE b hb p (by omega) ((xs.length : Int) - 1)
   have hr := hr (by omega)
   obtain ⟨a1, a2, a3⟩ := parts_at hP r (by omega)
   obtain ⟨b1, b2, b3⟩ := parts_at hP (r + 1) (by omega)
   have w1 : wrap64 ((r : Int) + 1) = ((r + 1 : Nat) : Int) := w64s (by omega)
   have w2 : wrap64 ((r : Int) + 2) = ((r + 2 : Nat) : Int) := by rw [w64 (by omega) (by omega)]; omega
   have wl : wrap64 ((xs.length : Int) - 1) = (xs.length : Int) - 1 := w64 (by omega) (by omega)
   generalize hA : rd_Lparts xs (r : Int) = A at a1 a2 a3
   generalize hB : rd_Lparts xs ((r + 1 : Nat) : Int) = B at b1 b2 b3
   -- two parts made one
   have J : ∀ p1 : Nat, p ≤ p1 → p1 ≤ p + 2 → ∃ (r3 : Nat) (s : List Mk) (q : Nat), Ev (fun k => spec_l20Rd_pick.f k b (p1 : Int) 3) ((r3 : Int), ((p1 + 1 : Nat) : Int)) ∧
     Ev (fun k => spec_l20Term.l1 k d (xs.take r ++ [A ++ B ++ [⟨wrap64 (3 + (r3 : Int)), 0⟩]] ++ xs.drop (r + 2)) (x9 : Int) b ((p1 + 1 : Nat) : Int)) (s, (q : Int)) ∧ s.length ≤ 4097 ∧ SmallL s ∧ q ≤ p + 3 * (m + 1) + 4 := fun p1 hp1 hp2 => by
    obtain ⟨r3, e3, _⟩ := pickE b hb p1 (by omega) 3
    obtain ⟨s, q, hE, hs1, hs2, hq⟩ := ih (xs.take r ++ [A ++ B ++ [⟨wrap64 (3 + (r3 : Int)), 0⟩]] ++ xs.drop (r + 2)) x9 (p1 + 1) (2 * c + 1) (by simp; omega) (by simp; omega) (by omega) hc2 (fun z hz => by
     simp only [List.mem_append, List.mem_singleton] at hz
     rcases hz with (hz | rfl) | hz
     ·obtain ⟨y1, y2, y3⟩ := hP z (List.mem_of_mem_take hz); exact ⟨y1, by omega, y3⟩
     ·refine ⟨by simp; omega, by simp only [List.length_append, List.length_singleton]; omega, (a3.app b3).app (SmallL.one (show (0 : Int) ≤ 9223372036854775807 by decide))⟩
     ·obtain ⟨y1, y2, y3⟩ := hP z (List.mem_of_mem_drop hz); exact ⟨y1, by omega, y3⟩) (by omega)
    exact ⟨r3, s, q, e3, hE, hs1, hs2, by omega⟩
   have walkJ : ∀ (p1 r3 : Nat) (s : List Mk) (q : Nat), Ev (fun k => spec_l20Rd_pick.f k b (p1 : Int) 3) ((r3 : Int), ((p1 + 1 : Nat) : Int)) →
     Ev (fun k => spec_l20Term.l1 k d (xs.take r ++ [A ++ B ++ [⟨wrap64 (3 + (r3 : Int)), 0⟩]] ++ xs.drop (r + 2)) (x9 : Int) b ((p1 + 1 : Nat) : Int)) (s, (q : Int)) →
     Ev (fun k => if (0 : Int) ≤ (r : Int) then (if (r : Int) < (xs.length : Int) then (if 0 + (A).length < 8796093022208 then (if (0 : Int) ≤ ((r + 1 : Nat) : Int) then (if ((r + 1 : Nat) : Int) < (xs.length : Int) then (if (A).length + (B).length < 8796093022208 then ((spec_l20Rd_pick.f k b (p1 : Int) 3).bind fun bt => (if (A ++ B).length < 8796093022208 then (if (r : Int) ≤ (xs.length : Int) then (if 0 + (xs.take (r : Int).toNat).length < 5864062014805 then (if (xs.take (r : Int).toNat).length < 5864062014805 then (if (0 : Int) ≤ ((r + 2 : Nat) : Int) then (if ((r + 2 : Nat) : Int) ≤ (xs.length : Int) then (if (xs.take (r : Int).toNat ++ [A ++ B ++ [(⟨wrap64 (3 + bt.1), 0⟩ : Mk)]]).length + (xs.drop ((r + 2 : Nat) : Int).toNat).length < 5864062014805 then (spec_l20Term.l1 k d (xs.take (r : Int).toNat ++ [A ++ B ++ [(⟨wrap64 (3 + bt.1), 0⟩ : Mk)]] ++ xs.drop ((r + 2 : Nat) : Int).toNat) (x9 : Int) b bt.2) else none) else none) else none) else none) else none) else none) else none)) else none) else none) else none) else none) else none) else none) (s, (q : Int)) := fun p1 r3 s q e3 hE => by
    refine ev_pos (by omega) (ev_pos (by omega) (ev_pos (by omega) (ev_pos (by omega) (ev_pos (by omega) (ev_pos (by omega) (ev_bind e3 ?_))))))
    simp only [Int.toNat_natCast]
    refine ev_pos (by simp; omega) (ev_pos (by omega) (ev_pos (by simp; omega) (ev_pos (by simp; omega) (ev_pos (by omega) (ev_pos (by omega) (ev_pos (by simp; omega) hE))))))
   by_cases h9 : 0 < x9
   ·obtain ⟨r2, e2, _⟩ := pickE b hb (p + 1) (by omega) 4
    by_cases hz : r2 = 0
    ·-- one part turned
     obtain ⟨s, q, hE, hs1, hs2, hq⟩ := ih (xs.set r (A ++ [⟨2, 0⟩])) (x9 - 1) (p + 2) (2 * c + 1) (by simp; omega) (by simp; omega) (by omega) hc2 (fun z hz => by
      rcases List.mem_or_eq_of_mem_set hz with hz | rfl
      ·obtain ⟨y1, y2, y3⟩ := hP z hz; exact ⟨y1, by omega, y3⟩
      ·exact ⟨by simp, by simp; omega, a3.app (SmallL.one (by decide))⟩) (by omega)
     refine ⟨s, q, Ev.step (fun k => by rw [spec_l20Term.l1]) ?_, hs1, hs2, by omega⟩
     refine ev_pos (by omega) ?_
     rw [wl]
     refine ev_bind e ?_
     refine ev_pos (by omega) (ev_bind e2 (ev_pos (by simp [hz]) ?_))
     simp only [Option.bind_some, List.nil_append, List.length_nil, Int.toNat_natCast, hA]
     refine ev_pos (by omega) (ev_pos (by omega) (ev_pos (by omega) (ev_pos (by omega) ?_)))
     rw [w64 (x := (x9 : Int) - 1) (by omega) (by omega), show (x9 : Int) - 1 = ((x9 - 1 : Nat) : Int) by omega]
     exact hE
    ·obtain ⟨r3, s, q, e3, hE, hs1, hs2, hq⟩ := J (p + 2) (by omega) (by omega)
     refine ⟨s, q, Ev.step (fun k => by rw [spec_l20Term.l1]) ?_, hs1, hs2, hq⟩
     refine ev_pos (by omega) ?_
     rw [wl]
     refine ev_bind e ?_
     refine ev_pos (by omega) (ev_bind e2 (ev_neg (by simp; omega) ?_))
     simp only [Option.bind_some, List.nil_append, List.length_nil, w1, w2, hA, hB]
     exact walkJ _ _ _ _ e3 hE
   ·obtain ⟨r3, s, q, e3, hE, hs1, hs2, hq⟩ := J (p + 1) (by omega) (by omega)
    refine ⟨s, q, Ev.step (fun k => by rw [spec_l20Term.l1]) ?_, hs1, hs2, hq⟩
    refine ev_pos (by omega) ?_
    rw [wl]
    refine ev_bind e ?_
    refine ev_neg (by omega) ?_
    simp only [Option.bind_some, List.nil_append, List.length_nil, w1, w2, hA, hB]
    exact walkJ _ _ _ _ e3 hE
theorem term_l0 (b : List Int) (hb : Bytes b) (d x1 : Int) (h1 : 1 ≤ x1) (h4 : x1 ≤ 4) : ∀ (n : Nat) (xs : List (List Mk)) (p : Nat), xs.length + n ≤ 4 → 1 ≤ xs.length + n → PartsP 1 xs → p + 2 * n ≤ 4000 →
  ∃ (s : List Mk) (q : Nat), Ev (fun k => spec_l20Term.l0 k x1 d xs (n : Int) b (p : Int)) (s, (q : Int)) ∧ s.length ≤ 4097 ∧ SmallL s ∧ q ≤ p + 2 * n + 25 := by
 intro n
 induction n with
 | zero =>
  intro xs p hn hn1 hP hp
  obtain ⟨s, q, hE, hs1, hs2, hq⟩ := term_l1 b hb d 7 xs 3 p 1 (by omega) (by omega) (by omega) Fits.start hP (by omega)
  refine ⟨s, q, Ev.step (fun k => by rw [spec_l20Term.l0]) ?_, hs1, hs2, by omega⟩
  exact ev_neg (by decide) hE
 | succ n ih =>
  intro xs p hn hn1 hP hp
  obtain ⟨r, e, _⟩ := pickE b hb p (by omega) 4
  have hw : wrap64 (((n + 1 : Nat) : Int) - 1) = (n : Int) := by rw [w64 (by omega) (by omega)]; omega
  have one : ∀ z : Mk, z.f1 ≤ 9223372036854775807 → PartsP 1 (xs ++ [[z]]) := fun z hz y hy => by
   rcases List.mem_append.1 hy with hy | hy
   ·exact hP y hy
   ·rw [List.mem_singleton.1 hy]
    exact ⟨by simp, by simp, SmallL.one hz⟩
  by_cases h0 : r = 0
  ·obtain ⟨r2, e2, _, hr2⟩ := pickB b hb (p + 1) (by omega) (wrap64 (x1 + 2)) (by rw [w64 (by omega) (by omega)]; omega)
   obtain ⟨s, q, hE, hs1, hs2, hq⟩ := ih (xs ++ [[⟨1, (r2 : Int)⟩]]) (p + 2) (by simp; omega) (by simp; omega) (one _ hr2) (by omega)
   refine ⟨s, q, Ev.step (fun k => by rw [spec_l20Term.l0]) ?_, hs1, hs2, by omega⟩
   rw [hw]
   exact ev_pos (by omega) (ev_bind e (ev_pos (by simp [h0]) (ev_bind e2 (ev_pos (by omega) hE))))
  ·obtain ⟨r2, e2, _, hr2⟩ := pickB b hb (p + 1) (by omega) x1 (by omega)
   obtain ⟨s, q, hE, hs1, hs2, hq⟩ := ih (xs ++ [[⟨0, (r2 : Int)⟩]]) (p + 2) (by simp; omega) (by simp; omega) (one _ hr2) (by omega)
   refine ⟨s, q, Ev.step (fun k => by rw [spec_l20Term.l0]) ?_, hs1, hs2, by omega⟩
   rw [hw]
   exact ev_pos (by omega) (ev_bind e (ev_neg (by simp; omega) (ev_bind e2 (ev_pos (by omega) hE))))
/-- A drawn term: the draw ends, the term is no long one. -/
theorem l20TermE (b : List Int) (hb : Bytes b) (p : Nat) (hp : p ≤ 3900) (people d : Int) : ∃ (s : List Mk) (q : Nat), Ev (fun k => spec_l20Term.f k b (p : Int) people d) (s, (q : Int)) ∧ s.length ≤ 4097 ∧ SmallL s ∧ q ≤ p + 40 := by
 obtain ⟨r, e, hr, _⟩ := pickE b hb p (by omega) 4
 have hr := hr (by decide)
 obtain ⟨s, q, hE, hs1, hs2, hq⟩ := term_l0 b hb d (mn (mx people 1) 4) (by unfold mn mx; split <;> split <;> omega) (by unfold mn mx; split <;> split <;> omega) (r + 1) [] (p + 1) (by simp; omega) (by simp) (fun r hr => by simp at hr) (by omega)
 refine ⟨s, q, ?_, hs1, hs2, by omega⟩
 unfold spec_l20Term.f
 refine ev_bind e ?_
 dsimp only
 rw [w64 (x := 1 + (r : Int)) (by omega) (by omega), show 1 + (r : Int) = ((r + 1 : Nat) : Int) by omega]
 exact hE
end Go.Proofs.Ytbhmippoeimliaa.M

/- MadeStory of both: in a world each says a term, or denies it. -/
set_option linter.unusedVariables false
set_option linter.unusedSimpArgs false
namespace Go.Proofs.Ytbhmippoeimliaa.M
open Go Go.RowKit Go.Proofs.YtbhmippoeimliaaW.PrintWords Go.Proofs.Ytbhmippoeimliaa.P
theorem clone_is (l : List Mk) (h : l.length < 8796093022208) : impl_Mark.f l = some l := by
 unfold impl_Mark.f
 simp
 omega
theorem rdM2 (s : List (List Mk)) (i : Nat) : rd_L2 s (i : Int) = s.getD i [] := by simp [rd_L2]
def notM (l : List Mk) : List Mk := l ++ [⟨2, 0⟩]
/-- What one of them says. -/
def oneM (n who : Int) (wd : Nat) (l : List Mk) : Option Cl := if ClaimP n who l then (if mayB who.toNat l wd = true then some ⟨who, l⟩ else if ClaimP n who (notM l) then some ⟨who, notM l⟩ else none) else none
def madeL (n : Int) (wd : Nat) (ts : List (List Mk)) : Nat → Nat → List Cl → List Cl × Bool
 | 0, _, acc => (acc, true)
 | d + 1, i, acc => match oneM n (i : Int) wd (ts.getD i []) with
  | none => ([], false)
  | some c => madeL n wd ts d (i + 1) (acc ++ [c])
def worldP (n w : Int) : Prop := 1 ≤ n ∧ n ≤ 4 ∧ 0 ≤ w ∧ w < ((pw n.toNat : Nat) : Int)
instance (n w : Int) : Decidable (worldP n w) := by unfold worldP; infer_instance
theorem pw_i {n : Nat} (h : n ≤ 4) : pw n ≤ 16 := Nat.pow_le_pow_right (n := 2) (by decide) h
theorem impl_worldT (n w : Int) : impl_WorldOk.f n w = some (decide (worldP n w)) := by
 unfold impl_WorldOk.f
 rw [peopleOkT]
 simp only [Option.bind_some]
 by_cases h : 1 ≤ n ∧ n ≤ 4
 ·obtain ⟨m, rfl⟩ : ∃ m : Nat, n = (m : Int) := ⟨n.toNat, by omega⟩
  rw [if_pos (decide_eq_true h)]
  by_cases h0 : w ≥ 0
  ·rw [if_pos h0, if_pos (by omega), shl_nat m (by omega)]
   congr 1
   rw [Bool.eq_iff_iff, decide_eq_true_eq, decide_eq_true_eq]
   unfold worldP
   rw [Int.toNat_natCast]
   omega
  ·rw [if_neg h0]
   congr 1
   rw [eq_comm, decide_eq_false_iff_not]
   exact fun h' => h0 h'.2.2.1
 ·rw [if_neg (fun h' => h (of_decide_eq_true h'))]
  congr 1
  rw [eq_comm, decide_eq_false_iff_not]
  exact fun h' => h ⟨h'.1, h'.2.1⟩
theorem spec_worldT (n w : Int) : spec_WorldOk.f n w = some (decide (worldP n w)) := by
 unfold spec_WorldOk.f
 rw [l1InT]
 simp only [Option.bind_some]
 by_cases h : 1 ≤ n ∧ n ≤ 4
 ·obtain ⟨m, rfl⟩ : ∃ m : Nat, n = (m : Int) := ⟨n.toNat, by omega⟩
  have hp := pw_i (n := m) (by omega)
  have hp1 := pw_pos m
  rw [if_pos (decide_eq_true h), if_pos (by omega), shl_nat m (by omega), l1InT, w64 (by omega) (by omega)]
  simp only [Option.bind_some]
  congr 1
  rw [Bool.eq_iff_iff, decide_eq_true_eq, decide_eq_true_eq]
  unfold worldP
  rw [Int.toNat_natCast]
  omega
 ·rw [if_neg (fun h' => h (of_decide_eq_true h'))]
  congr 1
  rw [eq_comm, decide_eq_false_iff_not]
  exact fun h' => h ⟨h'.1, h'.2.1⟩
/-- MadeStory told. -/
def madeStF (n w : Int) (ts : List (List Mk)) : List Cl × Bool := if worldP n w ∧ (ts.length : Int) ≤ n then madeL n w.toNat ts ts.length 0 [] else ([], false)
theorem impl_claimByF (n who : Int) (l : List Mk) (hl : l.length < 8796093022208) : Ev (fun k => impl_claimBy.f k n who l) (if ClaimP n who l then (who, l, true) else (0, [], false)) := by
 unfold impl_claimBy.f
 refine ev_bindc (clone_is l hl) ?_
 obtain ⟨b, hb, hi⟩ := impl_claimOk n who l
 refine ev_bind hb ?_
 cases b with
 | true => rw [if_pos (hi.1 rfl)]; exact ev_pos rfl (ev_ret rfl)
 | false => rw [if_neg (fun h => Bool.noConfusion (hi.2 h))]; exact ev_neg (by decide) (ev_ret rfl)
theorem impl_denyF (n who : Int) (l : List Mk) (hl : l.length ≤ 1048576) (hc : ClaimP n who l) : Ev (fun k => impl_DenyClaim.f k n who l) (if ClaimP n who (notM l) then (who, notM l, true) else (0, [], false)) := by
 unfold impl_DenyClaim.f
 refine ev_bind ((impl_claimOk n who l).ev (b := true) ⟨fun _ => hc, fun _ => rfl⟩) ?_
 refine ev_pos rfl ?_
 refine ev_bindc (clone_is l (by omega)) ?_
 refine ev_bindc rfl ?_
 refine ev_pos (by simp; omega) ?_
 refine ev_bind (impl_claimByF n who (notM l) (by unfold notM; simp; omega)) (ev_ret ?_)
 by_cases h : ClaimP n who (notM l)
 ·rw [if_pos h]
 ·rw [if_neg h]
theorem spec_denyF (n who : Int) (hn : n ≤ 9223372036854775807) (l : List Mk) (hl : l.length ≤ 1048576) (h64 : M64 l) (hc : ClaimP n who l) : Ev (fun k => spec_DenyClaim.f k n who l) (if ClaimP n who (notM l) then (who, notM l, true) else (0, [], false)) := by
 have h64' : M64 (notM l) := fun i => by
  unfold notM
  by_cases hi : i < l.length
  ·have := h64 i
   rw [List.getD_eq_getElem?_getD, List.getElem?_append_left hi, ← List.getD_eq_getElem?_getD]
   exact this
  ·rw [List.getD_eq_getElem?_getD, List.getElem?_append_right (by omega)]
   by_cases h0 : i - l.length = 0
   ·rw [h0]; decide
   ·rw [List.getElem?_eq_none (by simp; omega)]; decide
 unfold spec_DenyClaim.f
 refine ev_bindc rfl ?_
 refine ev_pos (by simp; omega) ?_
 refine ev_bindc rfl ?_
 refine ev_bindc rfl ?_
 refine ev_pos (by simp; omega) ?_
 refine ev_bindc rfl ?_
 refine ev_bind ((spec_claimOk n hn who l h64 (by omega)).ev (b := true) ⟨fun _ => hc, fun _ => rfl⟩) ?_
 refine ev_pos rfl ?_
 rw [List.nil_append]
 show Ev (fun k => (spec_ClaimOk.f k n who (notM l)).bind _) _
 obtain ⟨b, hb, hi⟩ := spec_claimOk n hn who (notM l) h64' (by unfold notM; simp; omega)
 refine ev_bind hb ?_
 cases b with
 | true => rw [if_pos (hi.1 rfl)]; exact ev_pos rfl (ev_ret rfl)
 | false => rw [if_neg (fun h => Bool.noConfusion (hi.2 h))]; exact ev_neg (by decide) (ev_ret rfl)
theorem impl_made_l (n : Nat) (hn : n ≤ 4) (wd : Nat) (hwd : wd < 16) (ts : List (List Mk)) (hts : ts.length ≤ 4) (hl : ∀ j, (ts.getD j []).length ≤ 1048576) : ∀ d i (acc : List Cl), i + d = ts.length → acc.length ≤ i →
  Ev (fun k => impl_MadeStory.l0 k (n : Int) (wd : Int) acc ts (ts.length : Int) (i : Int)) (madeL (n : Int) wd ts d i acc) := by
 intro d
 induction d with
 | zero =>
  intro i acc hi ha
  refine Ev.step (fun k => by rw [impl_MadeStory.l0]) ?_
  exact ev_neg (by omega) (ev_ret rfl)
 | succ d ih =>
  intro i acc hi ha
  refine Ev.step (fun k => by rw [impl_MadeStory.l0]) ?_
  refine ev_pos (by omega) ?_
  refine ev_pos (by omega) ?_
  refine ev_pos (by omega) ?_
  rw [rdM2]
  have hlen := hl i
  refine ev_bind (impl_claimByF (n : Int) (i : Int) (ts.getD i []) (by omega)) ?_
  unfold madeL oneM
  by_cases hc : ClaimP (n : Int) (i : Int) (ts.getD i [])
  ·rw [if_pos hc, if_pos hc]
   dsimp only
   refine ev_pos rfl ?_
   refine ev_bind (impl_mayE hc.2.2.1 (i : Int) (by omega) (by omega) wd hwd) ?_
   rw [Int.toNat_natCast]
   refine Ev.step (fun k => by rw [impl_MadeStory.j2]) ?_
   cases hm : mayB i (ts.getD i []) wd with
   | true =>
    rw [if_pos rfl]
    refine ev_neg (by decide) (ev_pos rfl (ev_pos (by omega) ?_))
    rw [w64s (by omega)]
    exact ih (i + 1) _ (by omega) (by simp; omega)
   | false =>
    rw [if_neg (by decide)]
    refine ev_pos rfl ?_
    refine ev_bind (impl_denyF (n : Int) (i : Int) (ts.getD i []) hlen hc) ?_
    by_cases hd : ClaimP (n : Int) (i : Int) (notM (ts.getD i []))
    ·rw [if_pos hd, if_pos hd]
     dsimp only
     refine ev_pos rfl (ev_pos (by omega) ?_)
     rw [w64s (by omega)]
     exact ih (i + 1) _ (by omega) (by simp; omega)
    ·rw [if_neg hd, if_neg hd]
     exact ev_neg (by decide) (ev_ret rfl)
  ·rw [if_neg hc, if_neg hc]
   dsimp only
   refine ev_neg (by decide) ?_
   refine Ev.step (fun k => by rw [impl_MadeStory.j2]) ?_
   exact ev_neg (by decide) (ev_neg (by decide) (ev_ret rfl))
theorem impl_madeE (n w : Int) (ts : List (List Mk)) (hl : ∀ j, (ts.getD j []).length ≤ 1048576) : Ev (fun k => impl_MadeStory.f k n w ts) (madeStF n w ts) := by
 unfold impl_MadeStory.f madeStF
 refine ev_bindc (impl_worldT n w) ?_
 by_cases h : worldP n w
 ·refine ev_pos (decide_eq_true h) ?_
  refine Ev.step (fun k => by rw [impl_MadeStory.j0]) ?_
  by_cases h2 : (ts.length : Int) ≤ n
  ·rw [if_pos ⟨h, h2⟩]
   refine ev_neg (by simp; omega) ?_
   obtain ⟨a, b, c, d⟩ := h
   obtain ⟨m, rfl⟩ : ∃ m : Nat, n = (m : Int) := ⟨n.toNat, by omega⟩
   obtain ⟨v, rfl⟩ : ∃ v : Nat, w = (v : Int) := ⟨w.toNat, by omega⟩
   rw [Int.toNat_natCast] at *
   have := pw_i (n := m) (by omega)
   exact impl_made_l m (by omega) v (by omega) ts (by omega) hl ts.length 0 [] (by omega) (Nat.le_refl _)
  ·rw [if_neg (fun h' => h2 h'.2)]
   exact ev_pos (by simp; omega) (ev_ret rfl)
 ·rw [if_neg (fun h' => h h'.1)]
  refine ev_neg (fun h' => h (of_decide_eq_true h')) ?_
  refine Ev.step (fun k => by rw [impl_MadeStory.j0]) ?_
  exact ev_pos rfl (ev_ret rfl)
theorem spec_made_l (n : Nat) (hn : n ≤ 4) (wd : Nat) (hwd : wd < 16) (ts : List (List Mk)) (hts : ts.length ≤ 4) (hl : ∀ j, (ts.getD j []).length ≤ 1048576) (h64 : ∀ j, M64 (ts.getD j [])) : ∀ d i (acc : List Cl), i + d = ts.length → acc.length ≤ i →
  Ev (fun k => spec_MadeStory.l0 k (n : Int) (wd : Int) ts acc (i : Int)) (madeL (n : Int) wd ts d i acc) := by
 intro d
 induction d with
 | zero =>
  intro i acc hi ha
  refine Ev.step (fun k => by rw [spec_MadeStory.l0]) ?_
  exact ev_neg (by omega) (ev_ret rfl)
 | succ d ih =>
  intro i acc hi ha
  have hlen := hl i
  refine Ev.step (fun k => by rw [spec_MadeStory.l0]) ?_
  refine ev_pos (by omega) ?_
  refine ev_bindc rfl ?_
  rw [rdM2]
  refine ev_pos (by omega) ?_
  refine ev_pos (by simp only [List.length_nil]; omega) ?_
  refine ev_bindc rfl ?_
  rw [List.nil_append]
  obtain ⟨b, hb, hi2⟩ := spec_claimOk (n : Int) (by omega) (i : Int) (ts.getD i []) (h64 i) (by omega)
  refine ev_bind hb ?_
  unfold madeL oneM
  cases b with
  | true =>
   have hc := hi2.1 rfl
   rw [if_pos hc]
   refine ev_pos rfl ?_
   refine ev_bind (spec_mayE hc.2.2.1 (i : Int) (by omega) (by omega) wd hwd) ?_
   rw [Int.toNat_natCast]
   cases hm : mayB i (ts.getD i []) wd with
   | true =>
    rw [if_pos rfl]
    refine ev_pos rfl (ev_pos (by omega) ?_)
    rw [w64s (by omega)]
    exact ih (i + 1) _ (by omega) (by simp; omega)
   | false =>
    rw [if_neg (by decide)]
    refine ev_neg (by decide) ?_
    refine ev_bind (spec_denyF (n : Int) (i : Int) (by omega) (ts.getD i []) hlen (h64 i) hc) ?_
    by_cases hd : ClaimP (n : Int) (i : Int) (notM (ts.getD i []))
    ·rw [if_pos hd, if_pos hd]
     dsimp only
     refine ev_pos rfl (ev_pos (by omega) ?_)
     rw [w64s (by omega)]
     exact ih (i + 1) _ (by omega) (by simp; omega)
    ·rw [if_neg hd, if_neg hd]
     exact ev_neg (by decide) (ev_ret rfl)
  | false =>
   rw [if_neg (fun h => Bool.noConfusion (hi2.2 h))]
   exact ev_neg (by decide) (ev_ret rfl)
theorem spec_madeE (n w : Int) (ts : List (List Mk)) (hl : ∀ j, (ts.getD j []).length ≤ 1048576) (h64 : ∀ j, M64 (ts.getD j [])) : Ev (fun k => spec_MadeStory.f k n w ts) (madeStF n w ts) := by
 unfold spec_MadeStory.f madeStF
 refine ev_bindc rfl ?_
 refine ev_bindc (spec_worldT n w) ?_
 by_cases h : worldP n w
 ·refine ev_pos (decide_eq_true h) ?_
  refine Ev.step (fun k => by rw [spec_MadeStory.j0]) ?_
  by_cases h2 : (ts.length : Int) ≤ n
  ·rw [if_pos ⟨h, h2⟩]
   refine ev_neg (by simp; omega) ?_
   obtain ⟨a, b, c, d⟩ := h
   obtain ⟨m, rfl⟩ : ∃ m : Nat, n = (m : Int) := ⟨n.toNat, by omega⟩
   obtain ⟨v, rfl⟩ : ∃ v : Nat, w = (v : Int) := ⟨w.toNat, by omega⟩
   rw [Int.toNat_natCast] at *
   have := pw_i (n := m) (by omega)
   exact spec_made_l m (by omega) v (by omega) ts (by omega) hl h64 ts.length 0 [] (by omega) (Nat.le_refl _)
  ·rw [if_neg (fun h' => h2 h'.2)]
   exact ev_pos (by simp; omega) (ev_ret rfl)
 ·rw [if_neg (fun h' => h h'.1)]
  refine ev_neg (fun h' => h (of_decide_eq_true h')) ?_
  refine Ev.step (fun k => by rw [spec_MadeStory.j0]) ?_
  exact ev_pos rfl (ev_ret rfl)
/-- What is made is small. -/
theorem madeL_small (n : Int) (wd : Nat) (ts : List (List Mk)) : ∀ d i (acc : List Cl), (∀ c ∈ acc, c.f1.length ≤ 14) → (madeL n wd ts d i acc).1.length ≤ acc.length + d ∧ ∀ c ∈ (madeL n wd ts d i acc).1, c.f1.length ≤ 14 := by
 intro d
 induction d with
 | zero => exact fun i acc h => ⟨Nat.le_refl _, h⟩
 | succ d ih =>
  intro i acc h
  have hone : ∀ c, oneM n (i : Int) wd (ts.getD i []) = some c → c.f1.length ≤ 14 := fun c hc => by
   unfold oneM at hc
   by_cases h1 : ClaimP n (i : Int) (ts.getD i [])
   ·rw [if_pos h1] at hc
    by_cases h2 : mayB (i : Int).toNat (ts.getD i []) wd = true
    ·rw [if_pos h2] at hc
     cases hc
     have := h1.2.2.2
     show (ts.getD i []).length ≤ 14
     omega
    ·rw [if_neg h2] at hc
     by_cases h3 : ClaimP n (i : Int) (notM (ts.getD i []))
     ·rw [if_pos h3] at hc
      cases hc
      have := h3.2.2.2
      show (notM (ts.getD i [])).length ≤ 14
      omega
     ·rw [if_neg h3] at hc
      cases hc
   ·rw [if_neg h1] at hc
    cases hc
  unfold madeL
  cases ho : oneM n (i : Int) wd (ts.getD i []) with
  | none => exact ⟨Nat.zero_le _, fun c hc => by cases hc⟩
  | some c =>
   obtain ⟨a, b⟩ := ih (i + 1) (acc ++ [c]) fun x hx => by
    rcases List.mem_append.1 hx with hx | hx
    ·exact h x hx
    ·rw [List.mem_singleton.1 hx]; exact hone c ho
   refine ⟨?_, b⟩
   rw [List.length_append, List.length_singleton] at a
   show (madeL n wd ts d (i + 1) (acc ++ [c])).1.length ≤ _
   omega
theorem madeSt_small (n w : Int) (ts : List (List Mk)) : (madeStF n w ts).1.length ≤ 4 ∧ ∀ c ∈ (madeStF n w ts).1, c.f1.length ≤ 14 := by
 unfold madeStF
 by_cases h : worldP n w ∧ (ts.length : Int) ≤ n
 ·rw [if_pos h]
  obtain ⟨a, b⟩ := madeL_small n w.toNat ts ts.length 0 [] (fun c hc => by cases hc)
  have h1 := h.1.2.1
  have h2 := h.2
  simp only [List.length_nil] at a
  exact ⟨by omega, b⟩
 ·rw [if_neg h]
  exact ⟨Nat.zero_le _, fun c hc => by cases hc⟩
end Go.Proofs.Ytbhmippoeimliaa.M

/- What MadeStory makes: each says the term or denies it, as it may be in the world. -/
set_option linter.unusedVariables false
set_option linter.unusedSimpArgs false
namespace Go.Proofs.Ytbhmippoeimliaa.M
open Go Go.RowKit Go.Proofs.YtbhmippoeimliaaW.PrintWords Go.Proofs.Ytbhmippoeimliaa.P
theorem hold_not {n : Int} {l : List Mk} (h : TermP n l) (w : Nat) : holdB (notM l) w = !holdB l w := by
 obtain ⟨t, ht, rfl⟩ := h.tree
 have e : notM t.enc = (Tm.neg t).enc := rfl
 rw [e, holdB_enc n w (.neg t) ht, holdB_enc n w t ht]
 rfl
theorem may_not {n : Int} {l : List Mk} (h : TermP n l) (who w : Nat) (hm : ¬ mayB who l w = true) : mayB who (notM l) w = true := by
 unfold mayB at *
 rw [hold_not h]
 cases h1 : (bitN w who == 1) <;> cases h2 : holdB l w <;> simp_all
/-- Says the term or denies it, and may do so. -/
def saysP (n : Int) (wd : Nat) (ts : List (List Mk)) (i : Nat) (c : Cl) : Prop :=
 c.f0 = (i : Int) ∧ (c.f1 = ts.getD i [] ∨ c.f1 = notM (ts.getD i [])) ∧ ClaimP n c.f0 c.f1 ∧ mayB c.f0.toNat c.f1 wd = true
theorem oneM_some {n : Int} {wd i : Nat} {ts : List (List Mk)} {c : Cl} (h : oneM n (i : Int) wd (ts.getD i []) = some c) : saysP n wd ts i c := by
 unfold oneM at h
 by_cases h1 : ClaimP n (i : Int) (ts.getD i [])
 ·rw [if_pos h1] at h
  by_cases h2 : mayB (i : Int).toNat (ts.getD i []) wd = true
  ·rw [if_pos h2] at h
   cases h
   exact ⟨rfl, .inl rfl, h1, h2⟩
  ·rw [if_neg h2] at h
   by_cases h3 : ClaimP n (i : Int) (notM (ts.getD i []))
   ·rw [if_pos h3] at h
    cases h
    exact ⟨rfl, .inr rfl, h3, may_not h1.2.2.1 _ _ h2⟩
   ·rw [if_neg h3] at h
    cases h
 ·rw [if_neg h1] at h
  cases h
theorem madeL_all (n : Int) (wd : Nat) (ts : List (List Mk)) : ∀ d i (acc : List Cl), i + d = ts.length → acc.length = i → (∀ j, j < i → saysP n wd ts j (acc.getD j zC)) →
  ((madeL n wd ts d i acc).2 = true → (madeL n wd ts d i acc).1.length = ts.length ∧ ∀ j, j < ts.length → saysP n wd ts j ((madeL n wd ts d i acc).1.getD j zC)) ∧ ((madeL n wd ts d i acc).2 = false → (madeL n wd ts d i acc).1 = []) := by
 intro d
 induction d with
 | zero =>
  intro i acc hi ha h
  refine ⟨fun _ => ⟨?_, fun j hj => h j (by omega)⟩, fun h => (by cases h)⟩
  show acc.length = _
  omega
 | succ d ih =>
  intro i acc hi ha h
  unfold madeL
  cases ho : oneM n (i : Int) wd (ts.getD i []) with
  | none => exact ⟨fun h => (by cases h), fun _ => rfl⟩
  | some c =>
   refine ih (i + 1) (acc ++ [c]) (by omega) (by simp; omega) fun j hj => ?_
   by_cases hji : j < i
   ·rw [List.getD_eq_getElem?_getD, List.getElem?_append_left (by omega), ← List.getD_eq_getElem?_getD]
    exact h j hji
   ·obtain rfl : j = i := by omega
    rw [List.getD_eq_getElem?_getD, List.getElem?_append_right (by omega), ha, Nat.sub_self]
    exact oneM_some ho
theorem madeSt_all (n w : Int) (ts : List (List Mk)) :
  ((madeStF n w ts).2 = true → worldP n w ∧ (ts.length : Int) ≤ n ∧ (madeStF n w ts).1.length = ts.length ∧ ∀ j, j < ts.length → saysP n w.toNat ts j ((madeStF n w ts).1.getD j zC)) ∧ ((madeStF n w ts).2 = false → (madeStF n w ts).1 = []) := by
 unfold madeStF
 by_cases h : worldP n w ∧ (ts.length : Int) ≤ n
 ·rw [if_pos h]
  obtain ⟨a, b⟩ := madeL_all n w.toNat ts ts.length 0 [] (by omega) rfl fun j hj => absurd hj (Nat.not_lt_zero _)
  exact ⟨fun h2 => ⟨h.1, h.2, a h2⟩, b⟩
 ·rw [if_neg h]
  exact ⟨fun h => (by cases h), fun _ => rfl⟩
end Go.Proofs.Ytbhmippoeimliaa.M

/- The laws' helpers that compare marks and stories: what is compared with itself is the same. -/
set_option linter.unusedVariables false
set_option linter.unusedSimpArgs false
namespace Go.Proofs.Ytbhmippoeimliaa.M
open Go Go.RowKit Go.Proofs.YtbhmippoeimliaaW.PrintWords Go.Proofs.Ytbhmippoeimliaa.P
theorem same_marks_l (l : List Mk) (hn : l.length < 4611686018427387904) : ∀ d i, i + d = l.length → Ev (fun k => laws_sameMarks.l0 k l l (i : Int)) true := by
 intro d
 induction d with
 | zero =>
  intro i hi
  refine Ev.step (fun k => by rw [laws_sameMarks.l0]) ?_
  exact ev_neg (by omega) (ev_ret rfl)
 | succ d ih =>
  intro i hi
  refine Ev.step (fun k => by rw [laws_sameMarks.l0]) ?_
  rw [w64s (by omega)]
  refine ev_pos (by omega) ?_
  refine ev_pos (by omega) ?_
  refine ev_pos (by omega) ?_
  refine ev_neg (by simp) ?_
  exact ih (i + 1) (by omega)
theorem same_marks (l : List Mk) (hn : l.length < 4611686018427387904) : Ev (fun k => laws_sameMarks.f k l l) true := by
 unfold laws_sameMarks.f
 exact ev_pos rfl (same_marks_l l hn l.length 0 (by omega))
theorem same_story_l (l : List Cl) (hn : l.length < 4611686018427387904) (hm : ∀ j, (l.getD j zC).f1.length < 4611686018427387904) : ∀ d i, i + d = l.length → Ev (fun k => laws_sameStory.l0 k l l (i : Int)) true := by
 intro d
 induction d with
 | zero =>
  intro i hi
  refine Ev.step (fun k => by rw [laws_sameStory.l0]) ?_
  exact ev_neg (by omega) (ev_ret rfl)
 | succ d ih =>
  intro i hi
  refine Ev.step (fun k => by rw [laws_sameStory.l0]) ?_
  rw [w64s (by omega), rdC]
  refine ev_pos (by omega) ?_
  refine ev_pos (by omega) ?_
  refine ev_pos (by omega) ?_
  refine ev_bind (a := true) ?_ ?_
  ·unfold laws_sameClaim.f
   refine ev_pos rfl ?_
   exact ev_bind (same_marks _ (hm i)) (ev_ret rfl)
  ·exact ev_pos rfl (ih (i + 1) (by omega))
theorem same_story (l : List Cl) (hn : l.length < 4611686018427387904) (hm : ∀ j, (l.getD j zC).f1.length < 4611686018427387904) : Ev (fun k => laws_sameStory.f k l l) true := by
 unfold laws_sameStory.f
 exact ev_pos rfl (same_story_l l hn hm l.length 0 (by omega))
end Go.Proofs.Ytbhmippoeimliaa.M

/- What the proof of this law needs besides: texts of ours, one behind the other. -/
import Derived.Test.YtcaogllnbpmcgaaDoorPx15
import Derived.Laws.EntriesVeiled
import Derived.Test.YtcaogllnbpmcgaaDoorPx23
set_option linter.unusedVariables false
set_option linter.unusedSimpArgs false
namespace Go.Proofs.YtcaogllnbpmcgaaDoor.Q
open Go Go.Proofs.YtcaogllnbpmcgaaDoor.P
inductive Tr where
 | leaf (x : Int) : Tr
 | node (who : Nat) (a b : Tr) : Tr
def Tr.txt : Tr → List Int
 | .leaf x => if x = -1 then [42] else [48 + (-2 - x)]
 | .node who a b => (97 + (who : Int)) :: 40 :: (a.txt ++ 44 :: (b.txt ++ [41]))
def Tr.nodes : Tr → Nat
 | .leaf _ => 0
 | .node _ a b => a.nodes + b.nodes + 1
def Tr.lay : Tr → Nat → List Sp × Int
 | .leaf x, _ => ([], x)
 | .node who a b, L => (⟨(who : Int), (a.lay (L + 1)).2, (b.lay (L + 1 + a.nodes)).2⟩ :: ((a.lay (L + 1)).1 ++ (b.lay (L + 1 + a.nodes)).1), (L : Int))
def Tr.Ok (W D : Nat) : Tr → Prop
 | .leaf x => x = -1 ∨ ∃ j : Nat, j < D ∧ x = -2 - (j : Int)
 | .node who a b => who < W ∧ a.Ok W D ∧ b.Ok W D
theorem Tr.lay_len : ∀ (T : Tr) (L : Nat), (T.lay L).1.length = T.nodes
 | .leaf _, _ => rfl
 | .node _ a b, L => by
  simp only [Tr.lay, Tr.nodes, List.length_cons, List.length_append, Tr.lay_len a, Tr.lay_len b]
theorem Tr.txt_pos : ∀ T : Tr, 0 < T.txt.length
 | .leaf x => by unfold Tr.txt; split <;> simp
 | .node _ a b => by unfold Tr.txt; simp
theorem Tr.txt_len {W D : Nat} : ∀ T : Tr, T.Ok W D → T.txt.length = 5 * T.nodes + 1
 | .leaf x, h => by unfold Tr.txt Tr.nodes; split <;> rfl
 | .node _ a b, h => by
  have := Tr.txt_len a h.2.1
  have := Tr.txt_len b h.2.2
  simp only [Tr.txt, Tr.nodes, List.length_cons, List.length_append, List.length_nil]
  omega
def readG (W D M : Nat) : Nat → Nat → List Int → Option (List Sp × Int × List Int)
 | 0, _, _ => none
 | f + 1, L, [] => none
 | f + 1, L, c :: r =>
  if c = 42 then some ([], -1, r)
  else if 48 ≤ c ∧ c < 48 + (D : Int) then some ([], -2 - (c - 48), r)
  else if ¬ (97 ≤ c ∧ c < 97 + (W : Int)) ∨ M ≤ L then none
  else match r with
   | 40 :: r1 => match readG W D M f (L + 1) r1 with
    | some (a, no, 44 :: r2) => match readG W D M f (L + 1 + a.length) r2 with
     | some (b, yes, 41 :: r3) => some (⟨c - 97, no, yes⟩ :: (a ++ b), (L : Int), r3)
     | _ => none
    | _ => none
   | _ => none
theorem readG_sound {W D M : Nat} (hD : D ≤ 10) : ∀ (f L : Nat) (l r : List Int) (a : List Sp) (x : Int), readG W D M f L l = some (a, x, r) → ∃ T : Tr, T.Ok W D ∧ l = T.txt ++ r ∧ (a, x) = T.lay L ∧ (0 < T.nodes → L + T.nodes ≤ M) := by
 intro f
 induction f with
 | zero => intro L l r a x h; cases h
 | succ f ih =>
  intro L l r a x h
  cases l with
  | nil => cases h
  | cons c l =>
   unfold readG at h
   by_cases h1 : c = 42
   ·rw [if_pos h1] at h
    cases h
    exact ⟨.leaf (-1), .inl rfl, by rw [h1]; rfl, rfl, fun h => absurd h (Nat.lt_irrefl 0)⟩
   rw [if_neg h1] at h
   by_cases h2 : 48 ≤ c ∧ c < 48 + (D : Int)
   ·rw [if_pos h2] at h
    cases h
    refine ⟨.leaf (-2 - (c - 48)), .inr ⟨(c - 48).toNat, by omega, by omega⟩, ?_, rfl, fun h => absurd h (Nat.lt_irrefl 0)⟩
    unfold Tr.txt
    rw [if_neg (by omega), show 48 + (-2 - (-2 - (c - 48))) = c by omega]
    rfl
   rw [if_neg h2] at h
   by_cases h3 : ¬ (97 ≤ c ∧ c < 97 + (W : Int)) ∨ M ≤ L
   ·rw [if_pos h3] at h; cases h
   rw [if_neg h3] at h
   have h4 : (97 ≤ c ∧ c < 97 + (W : Int)) ∧ L < M := by
    refine ⟨Classical.byContradiction fun h => h3 (.inl h), Nat.lt_of_not_le fun h => h3 (.inr h)⟩
   split at h
   ·rename_i r1
    split at h
    ·rename_i a1 no r2 e1
     split at h
     ·rename_i b1 yes r3 e2
      cases h
      obtain ⟨A, oA, tA, lA, mA⟩ := ih _ _ _ _ _ e1
      have hla : a1.length = A.nodes := by
       have := congrArg (fun p => p.1.length) lA
       rw [Tr.lay_len] at this
       exact this
      rw [hla] at e2
      obtain ⟨B, oB, tB, lB, mB⟩ := ih _ _ _ _ _ e2
      refine ⟨.node (c - 97).toNat A B, ⟨by omega, oA, oB⟩, ?_, ?_, fun _ => ?_⟩
      ·have e : (97 : Int) + ((c - 97).toNat : Int) = c := by omega
       rw [tA, tB]
       simp only [Tr.txt, e, List.append_assoc, List.cons_append, List.nil_append]
      ·have e : (((c - 97).toNat : Nat) : Int) = c - 97 := by omega
       unfold Tr.lay
       rw [← lA, ← lB, e]
      ·show L + (A.nodes + B.nodes + 1) ≤ M
       by_cases hB : 0 < B.nodes
       ·have := mB hB; omega
       ·by_cases hA : 0 < A.nodes
        ·have := mA hA; omega
        ·omega
     ·cases h
    ·cases h
   ·cases h
theorem readG_complete {W D M : Nat} (hD : D ≤ 10) : ∀ (T : Tr) (f L : Nat) (r : List Int), T.Ok W D → T.nodes < f → L + T.nodes ≤ M → readG W D M f L (T.txt ++ r) = some ((T.lay L).1, (T.lay L).2, r) := by
 intro T
 induction T with
 | leaf x =>
  intro f L r h hf hM
  cases f with
  | zero => exact absurd hf (Nat.not_lt_zero _)
  | succ f =>
   rcases h with rfl | ⟨j, hj, rfl⟩
   ·rfl
   ·unfold Tr.txt
    rw [if_neg (by omega), show 48 + (-2 - (-2 - (j : Int))) = 48 + (j : Int) by omega]
    show readG W D M (f + 1) L ((48 + (j : Int)) :: r) = _
    unfold readG
    rw [if_neg (by omega), if_pos (by omega), show -2 - (48 + (j : Int) - 48) = -2 - (j : Int) by omega]
    rfl
 | node who a b iha ihb =>
  intro f L r h hf hM
  obtain ⟨hw, ha, hb⟩ := h
  simp only [Tr.nodes] at hf hM
  cases f with
  | zero => omega
  | succ f =>
   have e1 := iha f (L + 1) (44 :: (b.txt ++ 41 :: r)) ha (by omega) (by omega)
   have e2 := ihb f (L + 1 + a.nodes) (41 :: r) hb (by omega) (by omega)
   have e : (Tr.node who a b).txt ++ r = (97 + (who : Int)) :: 40 :: (a.txt ++ 44 :: (b.txt ++ 41 :: r)) := by simp [Tr.txt]
   rw [e]
   unfold readG
   rw [if_neg (by omega), if_neg (by omega), if_neg (by omega)]
   simp only [e1]
   rw [Tr.lay_len, e2]
   simp only [Tr.lay, show (97 : Int) + (who : Int) - 97 = (who : Int) by omega]
def readI : Nat → Nat → List Int → Option (List Sp × Int × List Int)
 | 0, _, _ => none
 | f + 1, L, [] => none
 | f + 1, L, c :: r =>
  if 15 < L then none
  else if c = 42 then some ([], -1, r)
  else if 48 ≤ c ∧ c ≤ 57 then some ([], -2 - (c - 48), r)
  else if ¬ (97 ≤ c ∧ c ≤ 122) then none
  else match r with
   | 40 :: r1 => match readI f (L + 1) r1 with
    | some (a, no, 44 :: r2) => match readI f (L + 1 + a.length) r2 with
     | some (b, yes, 41 :: r3) => some (⟨c - 97, no, yes⟩ :: (a ++ b), (L : Int), r3)
     | _ => none
    | _ => none
   | _ => none
theorem readI_some : ∀ (f L : Nat) (l : List Int) (q : List Sp × Int × List Int), readI f L l = some q → readG 26 10 16 f L l = some q := by
 intro f
 induction f with
 | zero => intro L l q h; cases h
 | succ f ih =>
  intro L l q h
  cases l with
  | nil => cases h
  | cons c l =>
   unfold readI at h
   by_cases h0 : 15 < L
   ·rw [if_pos h0] at h; cases h
   rw [if_neg h0] at h
   unfold readG
   by_cases h1 : c = 42
   ·rw [if_pos h1] at h ⊢; exact h
   rw [if_neg h1] at h ⊢
   by_cases h2 : 48 ≤ c ∧ c ≤ 57
   ·rw [if_pos h2] at h; rw [if_pos (by omega)]; exact h
   rw [if_neg h2] at h
   rw [if_neg (by omega)]
   by_cases h3 : ¬ (97 ≤ c ∧ c ≤ 122)
   ·rw [if_pos h3] at h; cases h
   rw [if_neg h3] at h
   rw [if_neg (by omega)]
   split at h
   ·rename_i r1
    split at h
    ·rename_i a1 no r2 e1
     split at h
     ·rename_i b1 yes r3 e2
      rw [ih _ _ _ e1]
      simp only
      rw [ih _ _ _ e2]
      exact h
     ·cases h
    ·cases h
   ·cases h
theorem readI_complete : ∀ (T : Tr) (f L : Nat) (r : List Int), T.Ok 26 10 → T.nodes < f → L + T.nodes ≤ 15 → readI f L (T.txt ++ r) = some ((T.lay L).1, (T.lay L).2, r) := by
 intro T
 induction T with
 | leaf x =>
  intro f L r h hf hM
  cases f with
  | zero => exact absurd hf (Nat.not_lt_zero _)
  | succ f =>
   simp only [Tr.nodes] at hM
   rcases h with rfl | ⟨j, hj, rfl⟩
   ·show readI (f + 1) L (42 :: r) = _
    unfold readI
    rw [if_neg (by omega), if_pos rfl]
    rfl
   ·unfold Tr.txt
    rw [if_neg (by omega), show 48 + (-2 - (-2 - (j : Int))) = 48 + (j : Int) by omega]
    show readI (f + 1) L ((48 + (j : Int)) :: r) = _
    unfold readI
    rw [if_neg (by omega), if_neg (by omega), if_pos (by omega), show -2 - (48 + (j : Int) - 48) = -2 - (j : Int) by omega]
    rfl
 | node who a b iha ihb =>
  intro f L r h hf hM
  obtain ⟨hw, ha, hb⟩ := h
  simp only [Tr.nodes] at hf hM
  cases f with
  | zero => omega
  | succ f =>
   have e1 := iha f (L + 1) (44 :: (b.txt ++ 41 :: r)) ha (by omega) (by omega)
   have e2 := ihb f (L + 1 + a.nodes) (41 :: r) hb (by omega) (by omega)
   have e : (Tr.node who a b).txt ++ r = (97 + (who : Int)) :: 40 :: (a.txt ++ 44 :: (b.txt ++ 41 :: r)) := by simp [Tr.txt]
   rw [e]
   unfold readI
   rw [if_neg (by omega), if_neg (by omega), if_neg (by omega), if_neg (by omega)]
   simp only [e1]
   rw [Tr.lay_len, e2]
   simp only [Tr.lay, show (97 : Int) + (who : Int) - 97 = (who : Int) by omega]
theorem lay_ok {S : List Sp} {n D : Nat} {cl : Nat → Nat → Int → Bool} (hcl : ∀ kn wd t, t < 0 → cl kn wd t = true → t = -1 ∨ ∃ j : Nat, j < D ∧ t = -2 - (j : Int)) {W' D' : Nat} : ∀ (T : Tr) (L f kn wd : Nat) (v : List Nat), T.Ok W' D' → visP S n cl f (T.lay L).2 kn wd = some v →
  (∀ j, j < (T.lay L).1.length → S.getD (L + j) zS = (T.lay L).1.getD j zS) → T.Ok n D := by
 intro T
 induction T with
 | leaf x =>
  intro L f kn wd v hT h hS
  have hx : x < 0 := by rcases hT with h | ⟨j, _, h⟩ <;> omega
  cases f with
  | zero => cases h
  | succ f =>
   have h : visP S n cl (f + 1) x kn wd = some v := h
   rw [vis_neg hx] at h
   split at h
   ·rename_i hc
    exact hcl kn wd x hx hc
   ·cases h
 | node who a b iha ihb =>
  intro L f kn wd v hT h hS
  have h : visP S n cl f (L : Int) kn wd = some v := h
  cases f with
  | zero => cases h
  | succ f =>
   have h0 := hS 0 (by simp [Tr.lay])
   rw [Nat.add_zero] at h0
   have h0 : S.getD L zS = ⟨(who : Int), (a.lay (L + 1)).2, (b.lay (L + 1 + a.nodes)).2⟩ := h0
   obtain ⟨hn, hs, l1, l2, e1, e2, _⟩ := vis_some (by omega) h
   unfold nodeP at hn
   rw [Int.toNat_natCast, h0] at hn e1 e2
   rw [Int.toNat_natCast] at e1 e2
   refine ⟨by have h2 : (who : Int) < (n : Int) := hn.2.1; omega, iha (L + 1) f _ _ l1 hT.2.1 e1 (fun j hj => ?_), ihb (L + 1 + a.nodes) f _ _ l2 hT.2.2 e2 (fun j hj => ?_)⟩
   ·have := hS (j + 1) (by simp only [Tr.lay, List.length_cons, List.length_append]; omega)
    rw [show L + (j + 1) = L + 1 + j by omega] at this
    rw [this]
    simp only [Tr.lay, List.getD_cons_succ]
    rw [List.getD_eq_getElem?_getD, List.getElem?_append_left hj, ← List.getD_eq_getElem?_getD]
   ·have hla := Tr.lay_len a (L + 1)
    have := hS (a.nodes + j + 1) (by simp only [Tr.lay, List.length_cons, List.length_append]; omega)
    rw [show L + (a.nodes + j + 1) = L + 1 + a.nodes + j by omega] at this
    rw [this]
    simp only [Tr.lay, List.getD_cons_succ]
    rw [List.getD_eq_getElem?_getD, List.getElem?_append_right (by omega), hla, show a.nodes + j - a.nodes = j by omega, ← List.getD_eq_getElem?_getD]
theorem readG_let {W D M f L : Nat} {c : Int} {r : List Int} (h42 : ¬ c = 42) (hd : ¬ (48 ≤ c ∧ c < 48 + (D : Int))) (hl : 97 ≤ c ∧ c < 97 + (W : Int)) (hM : ¬ M ≤ L) : readG W D M (f + 1) L (c :: r) = (match r with
  | 40 :: r1 => (match readG W D M f (L + 1) r1 with
   | some (a, no, 44 :: r2) => (match readG W D M f (L + 1 + a.length) r2 with
    | some (b, yes, 41 :: r3) => some (⟨c - 97, no, yes⟩ :: (a ++ b), (L : Int), r3)
    | _ => none)
   | _ => none)
  | _ => none) := by
 have h : readG W D M (f + 1) L (c :: r) = if c = 42 then some ([], -1, r) else if 48 ≤ c ∧ c < 48 + (D : Int) then some ([], -2 - (c - 48), r) else if ¬ (97 ≤ c ∧ c < 97 + (W : Int)) ∨ M ≤ L then none else (match r with
  | 40 :: r1 => (match readG W D M f (L + 1) r1 with
   | some (a, no, 44 :: r2) => (match readG W D M f (L + 1 + a.length) r2 with
    | some (b, yes, 41 :: r3) => some (⟨c - 97, no, yes⟩ :: (a ++ b), (L : Int), r3)
    | _ => none)
   | _ => none)
  | _ => none) := rfl
 rw [h, if_neg h42, if_neg hd, if_neg (fun h => h.elim (fun h => h hl) (fun h => hM h))]
section
variable {W D M f L : Nat} {c : Int} (h42 : ¬ c = 42) (hd : ¬ (48 ≤ c ∧ c < 48 + (D : Int))) (hl : 97 ≤ c ∧ c < 97 + (W : Int)) (hM : ¬ M ≤ L)
include h42 hd hl hM
theorem readG_n2 {r1 : List Int} (h : readG W D M f (L + 1) r1 = none) : readG W D M (f + 1) L (c :: 40 :: r1) = none := by
 rw [readG_let h42 hd hl hM]
 simp only [h]
theorem readG_n3 {r1 q : List Int} {a : List Sp} {no : Int} (h : readG W D M f (L + 1) r1 = some (a, no, q)) (hq : ∀ r2, q ≠ 44 :: r2) : readG W D M (f + 1) L (c :: 40 :: r1) = none := by
 rw [readG_let h42 hd hl hM]
 simp only [h]
 split
 ·rename_i e
  injection e with e
  injection e with _ e
  injection e with _ e
  exact absurd e (hq _)
 ·rfl
theorem readG_n4 {r1 r2 : List Int} {a : List Sp} {no : Int} (h : readG W D M f (L + 1) r1 = some (a, no, 44 :: r2)) (h2 : readG W D M f (L + 1 + a.length) r2 = none) : readG W D M (f + 1) L (c :: 40 :: r1) = none := by
 rw [readG_let h42 hd hl hM]
 simp only [h, h2]
theorem readG_n5 {r1 r2 q : List Int} {a b : List Sp} {no yes : Int} (h : readG W D M f (L + 1) r1 = some (a, no, 44 :: r2)) (h2 : readG W D M f (L + 1 + a.length) r2 = some (b, yes, q)) (hq : ∀ r3, q ≠ 41 :: r3) : readG W D M (f + 1) L (c :: 40 :: r1) = none := by
 rw [readG_let h42 hd hl hM]
 simp only [h, h2]
 split
 ·rename_i e
  injection e with e
  injection e with _ e
  injection e with _ e
  exact absurd e (hq _)
 ·rfl
theorem readG_y {r1 r2 r3 : List Int} {a b : List Sp} {no yes : Int} (h : readG W D M f (L + 1) r1 = some (a, no, 44 :: r2)) (h2 : readG W D M f (L + 1 + a.length) r2 = some (b, yes, 41 :: r3)) : readG W D M (f + 1) L (c :: 40 :: r1) = some (⟨c - 97, no, yes⟩ :: (a ++ b), (L : Int), r3) := by
 rw [readG_let h42 hd hl hM]
 simp only [h, h2]
end
theorem readI_len {f L : Nat} {l r : List Int} {a : List Sp} {x : Int} (h : readI f L l = some (a, x, r)) : r.length ≤ l.length := by
 obtain ⟨T, _, rfl, _⟩ := readG_sound (by decide) _ _ _ _ _ _ (readI_some _ _ _ _ h)
 rw [List.length_append]
 omega
section
variable {f L : Nat} {c : Int} (hL : ¬ 15 < L) (hc : 97 ≤ c ∧ c ≤ 122)
include hL hc
theorem readI_let {r : List Int} : readI (f + 1) L (c :: r) = (match r with
  | 40 :: r1 => (match readI f (L + 1) r1 with
   | some (a, no, 44 :: r2) => (match readI f (L + 1 + a.length) r2 with
    | some (b, yes, 41 :: r3) => some (⟨c - 97, no, yes⟩ :: (a ++ b), (L : Int), r3)
    | _ => none)
   | _ => none)
  | _ => none) := by
 have h : readI (f + 1) L (c :: r) = if 15 < L then none else if c = 42 then some ([], -1, r) else if 48 ≤ c ∧ c ≤ 57 then some ([], -2 - (c - 48), r) else if ¬ (97 ≤ c ∧ c ≤ 122) then none else (match r with
  | 40 :: r1 => (match readI f (L + 1) r1 with
   | some (a, no, 44 :: r2) => (match readI f (L + 1 + a.length) r2 with
    | some (b, yes, 41 :: r3) => some (⟨c - 97, no, yes⟩ :: (a ++ b), (L : Int), r3)
    | _ => none)
   | _ => none)
  | _ => none) := rfl
 rw [h, if_neg hL, if_neg (by omega), if_neg (by omega), if_neg (by omega)]
theorem readI_n1 {r : List Int} (h : ∀ r1, r ≠ 40 :: r1) : readI (f + 1) L (c :: r) = none := by
 rw [readI_let hL hc]
 split
 ·exact absurd rfl (h _)
 ·rfl
theorem readI_n2 {r1 : List Int} (h : readI f (L + 1) r1 = none) : readI (f + 1) L (c :: 40 :: r1) = none := by
 rw [readI_let hL hc]
 simp only [h]
theorem readI_n3 {r1 q : List Int} {a : List Sp} {no : Int} (h : readI f (L + 1) r1 = some (a, no, q)) (hq : ∀ r2, q ≠ 44 :: r2) : readI (f + 1) L (c :: 40 :: r1) = none := by
 rw [readI_let hL hc]
 simp only [h]
 split
 ·rename_i e
  injection e with e
  injection e with _ e
  injection e with _ e
  exact absurd e (hq _)
 ·rfl
theorem readI_n4 {r1 r2 : List Int} {a : List Sp} {no : Int} (h : readI f (L + 1) r1 = some (a, no, 44 :: r2)) (h2 : readI f (L + 1 + a.length) r2 = none) : readI (f + 1) L (c :: 40 :: r1) = none := by
 rw [readI_let hL hc]
 simp only [h, h2]
theorem readI_n5 {r1 r2 q : List Int} {a b : List Sp} {no yes : Int} (h : readI f (L + 1) r1 = some (a, no, 44 :: r2)) (h2 : readI f (L + 1 + a.length) r2 = some (b, yes, q)) (hq : ∀ r3, q ≠ 41 :: r3) : readI (f + 1) L (c :: 40 :: r1) = none := by
 rw [readI_let hL hc]
 simp only [h, h2]
 split
 ·rename_i e
  injection e with e
  injection e with _ e
  injection e with _ e
  exact absurd e (hq _)
 ·rfl
theorem readI_y {r1 r2 r3 : List Int} {a b : List Sp} {no yes : Int} (h : readI f (L + 1) r1 = some (a, no, 44 :: r2)) (h2 : readI f (L + 1 + a.length) r2 = some (b, yes, 41 :: r3)) : readI (f + 1) L (c :: 40 :: r1) = some (⟨c - 97, no, yes⟩ :: (a ++ b), (L : Int), r3) := by
 rw [readI_let hL hc]
 simp only [h, h2]
end
end Go.Proofs.YtcaogllnbpmcgaaDoor.Q
namespace Go.Proofs.YtcaogllnbpmcgaaDoor.M
open Go Go.RowKit Go.Proofs.YtcaogllnbpmcgaaDoorW.PrintWords Go.Proofs.YtcaogllnbpmcgaaDoor.P
def bl (s : ByteArray) : List Int := s.data.toList.map fun b => (b.toNat : Int)
theorem bl_len (s : ByteArray) : (bl s).length = s.size := by unfold bl; rw [List.length_map]; rfl
theorem bl_get (s : ByteArray) (i : Nat) (h : i < s.size) : (bl s)[i]'(by rw [bl_len]; exact h) = bt s (i : Int) := by
 unfold bl bt
 rw [dif_pos (by rw [Int.toNat_natCast]; exact h)]
 simp only [List.getElem_map, Int.toNat_natCast]
 rfl
theorem bl_drop (s : ByteArray) (i : Nat) (h : i < s.size) : (bl s).drop i = bt s (i : Int) :: (bl s).drop (i + 1) := by
 rw [List.drop_eq_getElem_cons (by rw [bl_len]; exact h), bl_get s i h]
theorem bl_end (s : ByteArray) (i : Nat) (h : s.size ≤ i) : (bl s).drop i = [] := List.drop_eq_nil_of_le (by rw [bl_len]; exact h)
theorem bl_inj {s t : ByteArray} (h : bl s = bl t) : s = t := by
 unfold bl at h
 have : s.data.toList = t.data.toList := by
  refine List.map_inj_right (f := fun b : UInt8 => (b.toNat : Int)) (fun a b hab => ?_) |>.1 h
  have hab : (a.toNat : Int) = (b.toNat : Int) := hab
  exact UInt8.toNat_inj.1 (by omega)
 cases s
 cases t
 congr 1
 exact Array.toList_inj.1 this
end Go.Proofs.YtcaogllnbpmcgaaDoor.M
namespace Go.Proofs.YtcaogllnbpmcgaaDoor.M
open Go Go.RowKit Go.Proofs.YtcaogllnbpmcgaaDoorW.PrintWords Go.Proofs.YtcaogllnbpmcgaaDoorW.PrintLast Go.Proofs.YtcaogllnbpmcgaaDoorW.PrintMore Go.Proofs.YtcaogllnbpmcgaaDoor.P
theorem skipR_ {P : Program} {ops : Array Oper} {Q : Exit → Act → World → Prop} {oi : Oper} {N : Option Tmp} {a : Act} {w w1 : World} {K : Act → World → Prop} (hw : Region.wanted oi (yielded ops a.tmps) = true) (hN : oi.dst = N) (hrun : (execOp a.eval oi).run P w = .ok .skip w1)
  (h : K (a.put N undef) w1) : if Region.wanted oi (yielded ops a.tmps) = true then Oper.wp P oi a w K Q else K (a.put N undef) w := by
 rw [if_pos hw]
 subst hN
 unfold Oper.wp
 rw [hrun]
 exact h
abbrev spKdR := k68
structure RE (b : Nat) (w0 W : World) (v : Value) (sp : List Q.Sp) : Prop where
 hq : W.heap[b]? = some (.cells #[.int .i64 0, v] 27 (0, 0))
 hr : Kd.R spKdR 68 W w0.heap.size (fun _ => True) v sp
 hb : Below w0.heap.size w0 W
 hqB : w0.heap.size ≤ b
section
variable {b : Nat} {w0 W W' : World} {v : Value} {sp : List Q.Sp}
theorem RE.below (h : RE b w0 W v sp) (hb : Below W.heap.size W W') : RE b w0 W' v sp := ⟨blk_below h.hq hb, Kd.R_below h.hr hb, below_step h.hb hb, h.hqB⟩
theorem RE.step {sp' : List Q.Sp} (h : RE b w0 W v sp) (hg : W.grownBy W' v.ownBlock) (hR : Kd.R spKdR 68 W' w0.heap.size (fun _ => True) v sp') (hb : Below w0.heap.size w0 W') : RE b w0 W' v sp' :=
 ⟨blk_grown h.hq hg (Kd.R_ne h.hr h.hq (by decide)), hR, hb, h.hqB⟩
theorem RE.append {v' : Value} {sp' : List Q.Sp} (h : RE b w0 W v sp) (hg : W.grownBy W' v.ownBlock) (hR : Kd.R spKdR 68 W' w0.heap.size (fun _ => True) v' sp') (hb : Below w0.heap.size w0 W') : RE b w0 (W'.setCell ⟨b, 1, none⟩ v') v' sp' := by
 have hq := blk_grown h.hq hg (Kd.R_ne h.hr h.hq (by decide))
 refine ⟨blk_put hq 1 _ rfl, ?_, below_set hb h.hqB, h.hqB⟩
 exact Kd.R_mono (Kd.R_far (p := ⟨b, 1, none⟩) (Kd.R_types hR hq (by decide)) (fun _ hk => hk.2) v') (fun _ h => h.1)
theorem RE.no (h : RE b w0 W v sp) (i : Nat) (hi : i < sp.length) (f0 f1 f2 : Int) (he : sp.getD i Q.zS = ⟨f0, f1, f2⟩) (u : Int) :
  ∃ g c, v = .slice (some ⟨g, 0, none⟩) sp.length c ∧ (∃ y, W.cell? ⟨g, i * 3 + 1, none⟩ = some y) ∧ W.frozen? ⟨g, i * 3 + 1, none⟩ = false ∧ g ≠ b ∧ RE b w0 (W.setCell ⟨g, i * 3 + 1, none⟩ (.int .i64 u)) v (sp.set i ⟨f0, u, f2⟩) := by
 obtain ⟨g, c, hv, hg1, hg2, cells, hg⟩ := Kd.R_form h.hr (by omega)
 subst hv
 have e : sp.getD (Int.toNat (i : Int)) z68 = ⟨f0, f1, f2⟩ := by rw [Int.toNat_natCast]; exact he
 obtain ⟨ce, hcl, hM, hcc, hfr⟩ := Kd.R_elem h.hr z68 (i : Int) (by omega) (by omega)
 rw [e] at hM
 obtain rfl := k68_openM hM
 have hP := Kd.R_seg h.hr (i : Int) (by omega) (by omega) (seg := [.int .i64 u]) (j := 1) hcl hcc (show 2 ≤ 3 by decide) (x' := (⟨f0, u, f2⟩ : S68)) (k68_mkM _ _ _ (⟨f0, u, f2⟩ : S68)) (fun _ hk => hk)
 rw [Int.toNat_natCast] at hP
 have hne : g ≠ b := blk_ne_ hg h.hq (by decide)
 refine ⟨g, c, rfl, ⟨_, hcc 1 _ rfl⟩, hfr 1, hne, h.step hP.2 hP.1 (below_set h.hb hg1)⟩
theorem RE.yes (h : RE b w0 W v sp) (i : Nat) (hi : i < sp.length) (f0 f1 f2 : Int) (he : sp.getD i Q.zS = ⟨f0, f1, f2⟩) (u : Int) :
  ∃ g c, v = .slice (some ⟨g, 0, none⟩) sp.length c ∧ (∃ y, W.cell? ⟨g, i * 3 + 2, none⟩ = some y) ∧ W.frozen? ⟨g, i * 3 + 2, none⟩ = false ∧ g ≠ b ∧ RE b w0 (W.setCell ⟨g, i * 3 + 2, none⟩ (.int .i64 u)) v (sp.set i ⟨f0, f1, u⟩) := by
 obtain ⟨g, c, hv, hg1, hg2, cells, hg⟩ := Kd.R_form h.hr (by omega)
 subst hv
 have e : sp.getD (Int.toNat (i : Int)) z68 = ⟨f0, f1, f2⟩ := by rw [Int.toNat_natCast]; exact he
 obtain ⟨ce, hcl, hM, hcc, hfr⟩ := Kd.R_elem h.hr z68 (i : Int) (by omega) (by omega)
 rw [e] at hM
 obtain rfl := k68_openM hM
 have hP := Kd.R_seg h.hr (i : Int) (by omega) (by omega) (seg := [.int .i64 u]) (j := 2) hcl hcc (show 3 ≤ 3 by decide) (x' := (⟨f0, f1, u⟩ : S68)) (k68_mkM _ _ _ (⟨f0, f1, u⟩ : S68)) (fun _ hk => hk)
 rw [Int.toNat_natCast] at hP
 have hne : g ≠ b := blk_ne_ hg h.hq (by decide)
 refine ⟨g, c, rfl, ⟨_, hcc 2 _ rfl⟩, hfr 2, hne, h.step hP.2 hP.1 (below_set h.hb hg1)⟩
def ReadIn (b : Nat) (w0 : World) (o : Option (List Q.Sp × Int × List Int)) (sp : List Q.Sp) (e : Ending) (W' : World) : Prop :=
 ∃ (at_ : Int) (rest : ByteArray) (ok : Bool) (v' : Value) (sp' : List Q.Sp), e = .returned (.tuple #[.int .i64 at_, .string rest, .bool ok]) ∧ RE b w0 W' v' sp' ∧ sp.length ≤ sp'.length ∧ sp'.length ≤ 16 ∧ rest.size ≤ 1000 ∧
  (match o with | some (a, x, r) => ok = true ∧ at_ = x ∧ bl rest = r ∧ sp' = sp ++ a | none => ok = false)
theorem bl_nil {s : ByteArray} (h : s.size = 0) : bl s = [] := by
 have := bl_len s
 exact List.eq_nil_of_length_eq_zero (by omega)
theorem bl_cons (s : ByteArray) (h : 0 < s.size) : bl s = bt s 0 :: bl (s.extract 1 s.size) := by
 have h1 := bl_drop s 0 h
 rw [List.drop_zero] at h1
 rw [h1]
 congr 1
 unfold bl
 rw [← List.map_drop]
 congr 1
 rw [ByteArray.data_extract, Array.toList_extract]
 show List.drop 1 _ = List.take (s.size - 1) (List.drop 1 _)
 rw [List.take_of_length_le]
 rw [List.length_drop]
 exact Nat.le_of_eq rfl
theorem extract_size (s : ByteArray) (h : 0 < s.size) : (s.extract 1 s.size).size = s.size - 1 := by
 rw [ByteArray.size_extract]
 omega
theorem cut_sign (s : ByteArray) (hs : s.size ≤ 1000) (c : UInt8) : strings_CutPrefix.f s ⟨#[c]⟩ = some (if 0 < s.size ∧ bt s 0 = (c.toNat : Int) then (s.extract 1 s.size, true) else (s, false)) := by
 have hz : (⟨#[c]⟩ : ByteArray).size = 1 := rfl
 unfold strings_CutPrefix.f stringslite_CutPrefix.f stringslite_HasPrefix.f
 rw [hz]
 by_cases h0 : 0 < s.size
 ·have hp : ((s.extract 0 (((1 : Nat) : Int)).toNat).toList == (⟨#[c]⟩ : ByteArray).toList) = decide (bt s 0 = (c.toNat : Int)) := by
   have e1 : (s.extract 0 (((1 : Nat) : Int)).toNat).toList = [s[0]'h0] := by
    rw [show (((1 : Nat) : Int)).toNat = 1 from rfl, Go.ByteArray.toList_eq, ByteArray.data_extract, Array.toList_extract]
    have hd : s.data.toList = s[0]'h0 :: s.data.toList.drop 1 := by
     have := List.drop_eq_getElem_cons (l := s.data.toList) (i := 0) (by simpa using h0)
     rw [List.drop_zero] at this
     exact this
    rw [hd]
    rfl
   have e2 : (⟨#[c]⟩ : ByteArray).toList = [c] := by rw [Go.ByteArray.toList_eq]
   rw [e1, e2]
   have hb : bt s 0 = ((s[0]'h0).toNat : Int) := by unfold bt; rw [dif_pos (by exact h0)]; rfl
   rw [hb, Bool.eq_iff_iff, beq_iff_eq, decide_eq_true_eq]
   constructor
   ·intro h; rw [(List.cons.inj h).1]
   ·intro h
    have hc : s[0]'h0 = c := UInt8.toNat_inj.1 (by omega)
    rw [hc]
  rw [if_pos (by omega), if_pos (by omega), if_pos (by omega)]
  simp only [Option.bind_some]
  rw [hp]
  by_cases hc : bt s 0 = (c.toNat : Int)
  ·rw [if_pos (decide_eq_true hc), if_pos (by omega), if_pos (by omega), if_pos ⟨h0, hc⟩]
   rfl
  ·rw [if_neg (by rw [decide_eq_true_eq]; exact hc), if_neg (fun h => hc h.2)]
   rfl
 ·rw [if_neg (by omega)]
  simp only [Option.bind_some]
  rw [if_neg (by decide), if_neg (fun h => h0 h.1)]
  rfl
theorem cut_any (s : ByteArray) (hs : s.size ≤ 1000) (c : UInt8) (cc : Int) (hcc : (c.toNat : Int) = cc) : ∃ r o, strings_CutPrefix.f s ⟨#[c]⟩ = some (r, o) ∧ r.size ≤ 1000 ∧ r.size ≤ s.size ∧ (o = true → bl s = cc :: bl r ∧ r.size < s.size) ∧ (o = false → ∀ q, bl s ≠ cc :: q) := by
 rw [cut_sign s hs c, hcc]
 by_cases h : 0 < s.size ∧ bt s 0 = cc
 ·rw [if_pos h]
  have e := extract_size s h.1
  refine ⟨_, _, rfl, by omega, by omega, fun _ => ⟨?_, by omega⟩, fun h => (by cases h)⟩
  rw [bl_cons s h.1, h.2]
 ·rw [if_neg h]
  refine ⟨_, _, rfl, hs, Nat.le_refl _, fun h => (by cases h), fun _ q hq => h ?_⟩
  by_cases h0 : 0 < s.size
  ·rw [bl_cons s h0] at hq
   exact ⟨h0, (List.cons.inj hq).1⟩
  ·rw [bl_nil (by omega)] at hq
   cases hq
theorem drawn_below {w w' : World} (h : Drawn0 w w') : Below w.heap.size w w' := by
 obtain ⟨nd, rfl⟩ := h
 exact pw_below_drewN (Below.refl _ _) _
theorem read_shape (sp a b : List Q.Sp) (y f0 f1 f2 at1 at2 : Int) (sp1 sp5 sp6 : List Q.Sp) (h1 : sp ++ [(⟨y, 0, 0⟩ : Q.Sp)] = sp1) (h5 : sp5 = sp1 ++ a) (h6 : sp6 = sp5 ++ b) (he : sp6.getD sp.length Q.zS = ⟨f0, f1, f2⟩) :
  (sp6.set sp.length ⟨f0, at1, f2⟩).set sp.length ⟨f0, at1, at2⟩ = sp ++ (⟨y, at1, at2⟩ :: (a ++ b)) := by
 subst h1
 subst h5
 subst h6
 have e : ((sp ++ [(⟨y, 0, 0⟩ : Q.Sp)]) ++ a) ++ b = sp ++ ((⟨y, 0, 0⟩ : Q.Sp) :: (a ++ b)) := by simp
 rw [e] at he ⊢
 rw [List.getD_eq_getElem?_getD, List.getElem?_append_right (Nat.le_refl _), Nat.sub_self] at he
 have h0 : (⟨y, 0, 0⟩ : Q.Sp) = ⟨f0, f1, f2⟩ := he
 injection h0 with h0 _ _
 subst h0
 rw [List.set_set, List.set_append_right _ _ (Nat.le_refl _), Nat.sub_self]
 rfl
set_option maxHeartbeats 16000000 in
set_option maxRecDepth 100000 in
theorem read_node (E : RE b w0 W v sp) (f : Nat) (s : ByteArray) (hf : s.size < f + 1) (hs : s.size ≤ 1000) (hsp : sp.length ≤ 16)
  (I : ∀ (s' : ByteArray) (v' : Value) (sp' : List Q.Sp) (W' : World), s'.size < f → s'.size ≤ 1000 → sp'.length ≤ 16 → RE b w0 W' v' sp' → Calls Tryd.prog 40 #[ptr b, .string s'] W' (ReadIn b w0 (Q.readI f sp'.length (bl s')) sp')) :
  Calls Tryd.prog 40 #[ptr b, .string s] W (ReadIn b w0 (Q.readI (f + 1) sp.length (bl s)) sp) := by
 obtain ⟨G, hG⟩ : ∃ G, Q.readI (f + 1) sp.length (bl s) = G := ⟨_, rfl⟩
 rw [hG]
 obtain ⟨Ao, co, eo⟩ := Kd.R_slice E.hr
 subst eo
 have y3 : W.cell? ⟨b, 1, none⟩ = some (.slice Ao sp.length co) := (blk_cell E.hq 1).trans rfl
 have HE := Lib.hid E
 have HI := Lib.hid I
 clear E I
 have hnil : (s.toList == (⟨#[]⟩ : ByteArray).toList) = decide (s.size = 0) := by
  rw [Go.ByteArray.toList_eq, Go.ByteArray.toList_eq, Bool.eq_iff_iff, beq_iff_eq, decide_eq_true_iff]
  constructor
  ·intro h
   have := congrArg List.length h
   exact this
  ·intro h
   exact List.eq_nil_of_length_eq_zero h
 have hnil2 : s.toList.isEmpty = decide (s.size = 0) := by
  rw [Go.ByteArray.toList_eq, Bool.eq_iff_iff, List.isEmpty_iff, decide_eq_true_iff]
  constructor
  ·intro h
   have := congrArg List.length h
   exact this
  ·intro h
   exact List.eq_nil_of_length_eq_zero h
 by_cases hz : s.size = 0
 case pos =>
  have HR := Lib.hid (show G = none by rw [← hG, bl_nil hz]; rfl)
  rw [decide_eq_true hz] at hnil hnil2
  clear hG hf hz
  go_enter Tryd.func40, Tryd.ntmps40
  go_wp2
  go_ret3
  rw [HR.out]
  exact ⟨0, s, false, _, sp, rfl, HE.out, Nat.le_refl _, hsp, hs, rfl⟩
 rw [decide_eq_false hz] at hnil hnil2
 have h0 : 0 < s.size := by omega
 obtain ⟨c, hc⟩ : ∃ c : Int, bt s 0 = c := ⟨_, rfl⟩
 have hbl : bl s = c :: bl (s.extract 1 s.size) := by rw [bl_cons s h0, hc]
 rw [hbl] at hG
 by_cases h15 : 15 < sp.length
 case pos =>
  have HR := Lib.hid (show G = none by rw [← hG]; unfold Q.readI; rw [if_pos h15])
  have d15 : decide (15 < (sp.length : Int)) = true := decide_eq_true (by omega)
  clear hG hf hz hbl h15 hc
  go_enter Tryd.func40, Tryd.ntmps40
  go_wp2
  go_ret3
  rw [HR.out]
  exact ⟨0, s, false, _, sp, rfl, HE.out, Nat.le_refl _, hsp, hs, rfl⟩
 have d15 : decide (15 < (sp.length : Int)) = false := decide_eq_false (by omega)
 have hx0 : ∀ h : (0 : Int).toNat < s.size, ((s[(0 : Int).toNat]'h).toNat : Int) = c := fun h => (bt_at s 0 h).trans hc
 have hx1 : ∀ h : 0 < s.size, ((s[0]'h).toNat : Int) = c := hx0
 have hcb : 0 ≤ c ∧ c ≤ 255 := by rw [← hx1 h0]; have := (s[0]'h0).toNat_lt; omega
 have d1 : decide (1 ≤ (s.size : Int)) = true := decide_eq_true (by omega)
 have p1 : (1 ≤ (s.size : Int)) = True := eq_true (by omega)
 have p0 : (0 < (s.size : Int)) = True := eq_true (by omega)
 have q0 : (0 < s.size) = True := eq_true h0
 have hrs := extract_size s h0
 obtain ⟨t, ht⟩ : ∃ t, s.extract 1 s.size = t := ⟨_, rfl⟩
 rw [ht] at hG hrs
 have HG := Lib.hid hG
 clear hG hbl hc
 go_enter Tryd.func40, Tryd.ntmps40
 go_upto_region 3 with (fail)
 refine start_ (n := 6) (S := fun _ => True) (ds := []) #[false, false, false, false, false, false] (by kernel_rfl) rfl rfl trivial (fun hHeld => ?_)
 refine pur_ 0 (some 26) #[true, false, false, false, false, false] (by kernel_rfl) ?_
 refine pur_ 1 (some 27) #[true, true, false, false, false, false] (by kernel_rfl) ?_
 refine pur_ 2 (some 28) #[true, true, true, false, false, false] (by kernel_rfl) ?_
 refine pur_ 3 (some 29) #[true, true, true, true, false, false] (by kernel_rfl) ?_
 refine pur_ 4 (some 7) #[true, true, true, true, true, false] (by kernel_rfl) ?_
 refine pur_ 5 (some 8) #[true, true, true, true, true, true] (by kernel_rfl) ?_
 refine done_ (by kernel_rfl) ?_
 have E3 := Lib.hid (HE.out.below (below_drew1 (Below.refl _ _)))
 clear y3 HE hx0 hx1 ht d1 p1 p0 q0 hnil hnil2 d15
 generalize W.drew = W4 at E3 ⊢
 have y3 : W4.cell? ⟨b, 1, none⟩ = some (.slice Ao sp.length co) := (blk_cell E3.out.hq 1).trans rfl
 by_cases h42 : c = 42
 case pos =>
  have c1 : (c == 42) = true := beq_iff_eq.mpr h42
  have HR := Lib.hid (show G = some ([], -1, bl t) by rw [← HG.out]; unfold Q.readI; rw [if_neg h15, if_pos h42])
  clear HG
  go_wp2
  go_ret3
  rw [HR.out]
  exact ⟨-1, t, true, _, sp, rfl, E3.out, Nat.le_refl _, hsp, by omega, rfl, rfl, rfl, (List.append_nil _).symm⟩
 have c1 : (c == 42) = false := beq_eq_false_iff_ne.mpr h42
 by_cases hd : 48 ≤ c ∧ c ≤ 57
 case pos =>
  have c2 : decide (48 ≤ c) = true := decide_eq_true hd.1
  have c3 : decide (c ≤ 57) = true := decide_eq_true hd.2
  have HR := Lib.hid (show G = some ([], -2 - (c - 48), bl t) by rw [← HG.out]; unfold Q.readI; rw [if_neg h15, if_neg h42, if_pos hd])
  have hm : (c - 48) % 256 = c - 48 := by omega
  have hw : wrap64 (-2 - (c - 48)) = -2 - (c - 48) := Go.Proofs.YtcaogllnbpmcgaaDoor.M.w64 (by omega) (by omega)
  clear HG
  go_wp2
  go_ret3
  rw [HR.out]
  exact ⟨_, t, true, _, sp, rfl, E3.out, Nat.le_refl _, hsp, by omega, rfl, by first | rfl | (rw [hm]; done) | (rw [hm, hw]; done) | (simp only [hm]; done) | omega, rfl, (List.append_nil _).symm⟩
 by_cases hlet : 97 ≤ c ∧ c ≤ 122
 case neg =>
  have HR := Lib.hid (show G = none by rw [← HG.out]; unfold Q.readI; rw [if_neg h15, if_neg h42, if_neg hd, if_pos hlet])
  clear HG
  rcases (by omega : c < 48 ∨ (57 < c ∧ c < 97) ∨ 122 < c) with h | h | h
  ·have c2 : decide (48 ≤ c) = false := decide_eq_false (by omega)
   have c4 : decide (c < 97) = true := decide_eq_true (by omega)
   go_wp2
   go_ret3
   rw [HR.out]
   exact ⟨0, s, false, _, sp, rfl, E3.out, Nat.le_refl _, hsp, hs, rfl⟩
  ·have c2 : decide (48 ≤ c) = true := decide_eq_true (by omega)
   have c3 : decide (c ≤ 57) = false := decide_eq_false (by omega)
   have c4 : decide (c < 97) = true := decide_eq_true (by omega)
   go_wp2
   go_ret3
   rw [HR.out]
   exact ⟨0, s, false, _, sp, rfl, E3.out, Nat.le_refl _, hsp, hs, rfl⟩
  ·have c2 : decide (48 ≤ c) = true := decide_eq_true (by omega)
   have c3 : decide (c ≤ 57) = false := decide_eq_false (by omega)
   have c4 : decide (c < 97) = false := decide_eq_false (by omega)
   have c5 : decide (122 < c) = true := decide_eq_true (by omega)
   go_wp2
   go_ret3
   rw [HR.out]
   exact ⟨0, s, false, _, sp, rfl, E3.out, Nat.le_refl _, hsp, hs, rfl⟩
 have c2 : decide (48 ≤ c) = true := decide_eq_true (by omega)
 have c3 : decide (c ≤ 57) = false := decide_eq_false (by omega)
 have c4 : decide (c < 97) = false := decide_eq_false (by omega)
 have c5 : decide (122 < c) = false := decide_eq_false (by omega)
 have infoS : (Tryd.prog.info? 68).map (fun i => (i.zero, i.size, i.bytes)) = some (some (.agg #[(.int .i64 0), (.int .i64 0), (.int .i64 0)]), 3, 24) := by kernel_rfl
 have hy : (c - 97) % 256 = c - 97 := by omega
 obtain ⟨sp1, hs1⟩ : ∃ l : List Q.Sp, sp ++ [(⟨c - 97, 0, 0⟩ : S68)] = l := ⟨_, rfl⟩
 have hl1 : sp1.length = sp.length + 1 := by rw [← hs1, List.length_append]; rfl
 have HL1 := Lib.hid hl1
 clear hl1
 have HS1 := Lib.hid hs1
 have hlen15 : sp.length ≤ 15 := by omega
 go_upto_region 12 with ((with_reducible refine gate_builtin (b := .append) (xs := #[.tmp 63, .tmp 68]) rfl ?_); at_builtin; refine Kd.R_append k68 (w0 := w0) w0.heap.size rfl (.tmp 63) (.tmp 68) 25 68 (.agg #[(.int .i64 0), (.int .i64 0), (.int .i64 0)]) 24 rfl Tryd.underlying25 infoS rfl (by decide) (by omega) (.slice Ao sp.length co) sp (⟨c - 97, 0, 0⟩ : S68) [.int .i64 (c - 97), .int .i64 0, .int .i64 0] (fun _ => True) (fun _ => False) rfl (by first | (go_simp; done) | (go_simp; rfl)) ?aP (fun _ hk => hk.elim) ?aF ?aO ?aB ?aS ?aL ?_; (case aP => exact k68_mkM _ _ _ (⟨c - 97, 0, 0⟩ : S68)); (case aF => exact fun _ _ => trivial); (case aO => exact E3.out.hr); (case aB => exact E3.out.hb); (case aS => exact E3.out.hb.size); (case aL => omega); intro v1 w2 hR2 hb2 hg2 _; rw [hs1] at hR2; obtain ⟨Av, cv, ev⟩ := Kd.R_slice hR2; subst ev; have hq2 := blk_grown E3.out.hq hg2 (Kd.R_ne E3.out.hr E3.out.hq (by decide)); have q2 : w2.cell? ⟨b, 1, none⟩ = some (.slice Ao sp.length co) := (blk_cell hq2 1).trans rfl; have fq2 := blk_frozen hq2 1; have E2 := Lib.hid (E3.out.append hg2 hR2 hb2); clear hq2 hg2 hb2 hR2)
 obtain ⟨W3, hW3⟩ : ∃ W3, w2.setCell ⟨b, 1, none⟩ (.slice Av sp1.length cv) = W3 := ⟨_, rfl⟩
 rw [hW3] at E2 ⊢
 clear hW3 q2 fq2 y3 infoS hs1 E3 hy
 have hts : t.size < f + 1 := by omega
 obtain ⟨t1, o1, hC1, hz1, hz1', hy1, hn1⟩ := cut_any t (by omega) 40 40 rfl
 have HC1 := Lib.hid hC1
 have HZ1 := Lib.hid hz1
 clear hC1
 cases o1 with
 | false =>
  have HR := Lib.hid (show G = none by rw [← HG.out]; exact Q.readI_n1 h15 hlet (hn1 rfl))
  clear HG hn1 hy1 hz1 hz1' HZ1
  go_wp2_with (go_at_call 70; (refine (strings_CutPrefix.calls t ⟨#[40]⟩ t1 false _ HC1.out).mono ?_); rintro e w' ⟨rfl, hD⟩; have E4 := Lib.hid (E2.out.below (drawn_below hD)); clear hD E2)
  go_ret3
  rw [HR.out]
  exact ⟨0, s, false, _, _, rfl, E4.out, by have := HL1.out; omega, by have := HL1.out; omega, hs, rfl⟩
 | true =>
 obtain ⟨hb1, hlt1⟩ := hy1 rfl
 have HF1 := Lib.hid (show t1.size < f by omega)
 have hG := HG.out
 rw [hb1] at hG
 have HG := Lib.hid hG
 have HS16 := Lib.hid (show sp1.length ≤ 16 by have := HL1.out; omega)
 clear hG hn1 hy1 hb1 hlt1 hz1 hz1' hts
 go_upto_region 15 with (go_at_call 70; (refine (strings_CutPrefix.calls t ⟨#[40]⟩ t1 true _ HC1.out).mono ?_); rintro e w' ⟨rfl, hD⟩; have E4 := Lib.hid (E2.out.below (drawn_below hD)); clear hD E2)
 go_upto_region 16 with (go_at_call 40; (refine (HI.out t1 _ sp1 _ HF1.out HZ1.out HS16.out E4.out).mono ?_); rintro e W5 ⟨at5, rest5, ok5, v5, sp5, rfl, E5_, hl5_, hm5_, hz5_, hG5_⟩; have E5 := Lib.hid E5_; have hl5 := Lib.hid hl5_; have hm5 := Lib.hid hm5_; have hz5 := Lib.hid hz5_; have hG5 := Lib.hid hG5_; clear E5_ hl5_ hm5_ hz5_ hG5_ E4)
 obtain ⟨t2, o2, hC2, hz2, hz2', hy2, hn2⟩ := cut_any rest5 hz5.out 44 44 rfl
 have HC2 := Lib.hid hC2
 have HZ2 := Lib.hid hz2
 clear hC2
 cases ok5 with
 | false =>
  have HR := Lib.hid (show G = none by
   rw [← HG.out]
   refine Q.readI_n2 h15 hlet ?_
   have h := hG5.out
   rw [HL1.out] at h
   cases hq : Q.readI f (sp.length + 1) (bl t1) with
   | none => rfl
   | some q => rw [hq] at h; exact absurd h.1 Bool.false_ne_true)
  clear HG hG5 hn2 hy2 hz2 hz2' HZ2
  go_wp2_with (go_at_call 70; (refine (strings_CutPrefix.calls rest5 ⟨#[44]⟩ t2 o2 _ HC2.out).mono ?_); rintro e w' ⟨rfl, hD⟩; have E6 := Lib.hid (E5.out.below (drawn_below hD)); clear hD E5)
  go_ret3
  rw [HR.out]
  exact ⟨0, s, false, _, _, rfl, E6.out, by have := HL1.out; have := hl5.out; omega, hm5.out, hs, rfl⟩
 | true =>
 obtain ⟨a, x1, hq1⟩ : ∃ a x1, Q.readI f (sp.length + 1) (bl t1) = some (a, x1, bl rest5) ∧ at5 = x1 ∧ sp5 = sp1 ++ a := by
  have h := hG5.out
  rw [HL1.out] at h
  cases hq : Q.readI f (sp.length + 1) (bl t1) with
  | none => rw [hq] at h; exact Bool.noConfusion h
  | some q =>
   obtain ⟨a, x, r⟩ := q
   rw [hq] at h
   obtain ⟨_, h1, h2, h3⟩ := h
   exact ⟨a, x, by rw [h2], h1, h3⟩
 obtain ⟨hq1, hax, hs5⟩ := hq1
 subst hax
 cases o2 with
 | false =>
  have HR := Lib.hid (show G = none by rw [← HG.out]; exact Q.readI_n3 h15 hlet hq1 (hn2 rfl))
  clear HG hG5 hn2 hy2 hz2 hz2' HZ2 hq1 hs5
  go_wp2_with (go_at_call 70; (refine (strings_CutPrefix.calls rest5 ⟨#[44]⟩ t2 false _ HC2.out).mono ?_); rintro e w' ⟨rfl, hD⟩; have E6 := Lib.hid (E5.out.below (drawn_below hD)); clear hD E5)
  go_ret3
  rw [HR.out]
  exact ⟨0, s, false, _, _, rfl, E6.out, by have := HL1.out; have := hl5.out; omega, hm5.out, hs, rfl⟩
 | true =>
 obtain ⟨hb2, hlt2⟩ := hy2 rfl
 have hr1 := Q.readI_len hq1
 rw [hb2] at hq1
 have hr1 : rest5.size ≤ t1.size := by
  rw [bl_len, bl_len] at hr1
  exact hr1
 have HF2 := Lib.hid (show t2.size < f by have := HF1.out; omega)
 have HQ1 := Lib.hid hq1
 have HS5 := Lib.hid hs5
 have hl5a : sp5.length = sp.length + 1 + a.length := by rw [hs5, List.length_append, HL1.out]
 have HL5 := Lib.hid hl5a
 clear hG5 hn2 hy2 hz2 hz2' hq1 hs5 hb2 hlt2 hr1 hl5a
 go_upto_region 19 with (go_at_call 70; (refine (strings_CutPrefix.calls rest5 ⟨#[44]⟩ t2 true _ HC2.out).mono ?_); rintro e w' ⟨rfl, hD⟩; have E6 := Lib.hid (E5.out.below (drawn_below hD)); clear hD E5)
 go_upto_region 20 with (go_at_call 40; (refine (HI.out t2 _ sp5 _ HF2.out HZ2.out hm5.out E6.out).mono ?_); rintro e W7 ⟨at7, rest7, ok7, v7, sp7, rfl, E7_, hl7_, hm7_, hz7_, hG7_⟩; have E7 := Lib.hid E7_; have hl7 := Lib.hid hl7_; have hm7 := Lib.hid hm7_; have hz7 := Lib.hid hz7_; have hG7 := Lib.hid hG7_; clear E7_ hl7_ hm7_ hz7_ hG7_ E6)
 obtain ⟨t3, o3, hC3, hz3, hz3', hy3, hn3⟩ := cut_any rest7 hz7.out 41 41 rfl
 have HC3 := Lib.hid hC3
 have HZ3 := Lib.hid hz3
 have HY3 := Lib.hid hy3
 have HN3 := Lib.hid hn3
 clear hC3 hz3 hz3' hy3 hn3
 go_upto_region 21 with (go_at_call 70; (refine (strings_CutPrefix.calls rest7 ⟨#[41]⟩ t3 o3 _ HC3.out).mono ?_); rintro e WA ⟨rfl, hD⟩; have EA := Lib.hid (E7.out.below (drawn_below hD)); clear hD E7)
 have hi7 : sp.length < sp7.length := by have := HL1.out; have := hl5.out; have := hl7.out; omega
 have E7 := Lib.hid (EA.out.below (below_drew1 (Below.refl _ _)))
 obtain ⟨⟨f0, f1, f2⟩, hee_⟩ : ∃ q, sp7.getD sp.length Q.zS = q := ⟨_, rfl⟩
 have hee := Lib.hid hee_
 obtain ⟨g, cA, hv, ⟨yy, hyy⟩, hfz, hgne, E8⟩ := E7.out.no sp.length hi7 f0 f1 f2 hee_ at5
 subst hv
 have he8 : (sp7.set sp.length ⟨f0, at5, f2⟩).getD sp.length Q.zS = ⟨f0, at5, f2⟩ := by rw [List.getD_eq_getElem?_getD, List.getElem?_set_self hi7]; rfl
 obtain ⟨g', c', hv', ⟨y9, hy9⟩, hf9, _, E9⟩ := E8.yes sp.length (by rw [List.length_set]; exact hi7) f0 at5 f2 he8 at7
 rw [List.length_set] at hv'
 injection hv' with ha_ _ _
 injection ha_ with ha_
 injection ha_ with ha_
 subst ha_
 obtain ⟨g9, c9_, hv9, ⟨y8, hy8⟩, hf8, _, _⟩ := EA.out.yes sp.length hi7 f0 f1 f2 hee_ at5
 injection hv9 with hb_ _ _
 injection hb_ with hb_
 injection hb_ with hb_
 subst hb_
 have HE8 := Lib.hid E8
 have HE9 := Lib.hid E9
 clear E8 E9 hee_ he8
 have hq7 : WA.drew.cell? ⟨b, 1, none⟩ = some (.slice (some ⟨g, 0, none⟩) sp7.length cA) := (blk_cell E7.out.hq 1).trans rfl
 have hia : decide (sp.length < sp7.length) = true := decide_eq_true hi7
 refine start_ (n := 18) (S := fun w' => w'.cell? ⟨b, 1, none⟩ = some (.slice (some ⟨g, 0, none⟩) sp7.length cA)) (ds := []) #[false, false, false, false, false, false, false, false, false, false, false, false, false, false, false, false, false, false] (by kernel_rfl) rfl rfl hq7 (fun hHeld => ?_)
 refine pur_ 0 (some 111) #[true, false, false, false, false, false, false, false, false, false, false, false, false, false, false, false, false, false] (by kernel_rfl) ?_
 refine pur_ 1 (some 112) #[true, true, false, false, false, false, false, false, false, false, false, false, false, false, false, false, false, false] (by kernel_rfl) ?_
 refine pur_ 2 (some 113) #[true, true, true, false, false, false, false, false, false, false, false, false, false, false, false, false, false, false] (by kernel_rfl) ?_
 refine pur_ 4 (some 115) #[true, true, true, false, true, false, false, false, false, false, false, false, false, false, false, false, false, false] (by kernel_rfl) ?_
 refine pur_ 5 (some 116) #[true, true, true, false, true, true, false, false, false, false, false, false, false, false, false, false, false, false] (by kernel_rfl) ?_
 refine pur_ 6 (some 117) #[true, true, true, false, true, true, true, false, false, false, false, false, false, false, false, false, false, false] (by kernel_rfl) ?_
 refine pur_ 7 (some 118) #[true, true, true, false, true, true, true, true, false, false, false, false, false, false, false, false, false, false] (by kernel_rfl) ?_
 refine pur_ 9 (some 120) #[true, true, true, false, true, true, true, true, false, true, false, false, false, false, false, false, false, false] (by kernel_rfl) ?_
 refine pur_ 10 (some 121) #[true, true, true, false, true, true, true, true, false, true, true, false, false, false, false, false, false, false] (by kernel_rfl) ?_
 refine pur_ 11 (some 122) #[true, true, true, false, true, true, true, true, false, true, true, true, false, false, false, false, false, false] (by kernel_rfl) ?_
 refine tak_ 3 (some 114) #[true, true, true, true, true, true, true, true, false, true, true, true, false, false, false, false, false, false] (by kernel_rfl) hHeld ?_
 refine tak_ 8 (some 119) #[true, true, true, true, true, true, true, true, true, true, true, true, false, false, false, false, false, false] (by kernel_rfl) hHeld ?_
 refine pur_ 12 (some 123) #[true, true, true, true, true, true, true, true, true, true, true, true, true, false, false, false, false, false] (by kernel_rfl) ?_
 refine pur_ 13 (some 124) #[true, true, true, true, true, true, true, true, true, true, true, true, true, true, false, false, false, false] (by kernel_rfl) ?_
 refine one_ (i := 14) (N := none) #[true, true, true, true, true, true, true, true, true, true, true, true, true, true, true, false, false, false] rfl rfl (by kernel_rfl) (by decide) (fun K hK => ?_)
 refine skipR_ (by rfl) rfl (w1 := WA.drew.setCell ⟨g, sp.length * 3 + 1, none⟩ (.int .i64 at5)) (by first | (go_simp; done) | (go_simp; rfl)) ?_
 have hq8 : (WA.drew.setCell ⟨g, sp.length * 3 + 1, none⟩ (.int .i64 at5)).cell? ⟨b, 1, none⟩ = some (.slice (some ⟨g, 0, none⟩) sp7.length cA) := (blk_cell HE8.out.hq 1).trans rfl
 refine hK.out _ _ hq8 (fun hHeld => ?_)
 clear hK K
 refine norm_ (a' := ?_) ?_ ?_
 rotate_left
 ·show Act.put _ none _ = _
  simp only [Act.put]
  rfl
 refine pur_ 15 (some 125) #[true, true, true, true, true, true, true, true, true, true, true, true, true, true, true, true, false, false] (by kernel_rfl) ?_
 refine pur_ 16 (some 126) #[true, true, true, true, true, true, true, true, true, true, true, true, true, true, true, true, true, false] (by kernel_rfl) ?_
 refine one_ (i := 17) (N := none) #[true, true, true, true, true, true, true, true, true, true, true, true, true, true, true, true, true, true] rfl rfl (by kernel_rfl) (by decide) (fun K hK => ?_)
 refine skipR_ (by rfl) rfl (w1 := (WA.drew.setCell ⟨g, sp.length * 3 + 1, none⟩ (.int .i64 at5)).setCell ⟨g, sp.length * 3 + 2, none⟩ (.int .i64 at7)) (by first | (go_simp; done) | (go_simp; rfl)) ?_
 have E9 := HE9.out
 refine hK.out _ _ ((blk_cell E9.hq 1).trans rfl) (fun hHeld => ?_)
 clear hK K
 refine norm_ (a' := ?_) ?_ ?_
 rotate_left
 ·show Act.put _ none _ = _
  simp only [Act.put]
  rfl
 refine done_ (by kernel_rfl) ?_
 have hlen9 : ((sp7.set sp.length ⟨f0, at5, f2⟩).set sp.length ⟨f0, at5, at7⟩).length = sp7.length := by rw [List.length_set, List.length_set]
 have HLE := Lib.hid (show sp.length ≤ ((sp7.set sp.length ⟨f0, at5, f2⟩).set sp.length ⟨f0, at5, at7⟩).length ∧ ((sp7.set sp.length ⟨f0, at5, f2⟩).set sp.length ⟨f0, at5, at7⟩).length ≤ 16 by have := hm7.out; omega)
 have HE9 := Lib.hid E9
 clear E9 hlen9
 cases ok7 with
 | false =>
  have HR := Lib.hid (show G = none by
   rw [← HG.out]
   refine Q.readI_n4 h15 hlet HQ1.out ?_
   have h := hG7.out
   rw [HL5.out] at h
   cases hq : Q.readI f (sp.length + 1 + a.length) (bl t2) with
   | none => rfl
   | some q => rw [hq] at h; exact absurd h.1 Bool.false_ne_true)
  go_wp2
  go_ret3
  rw [HR.out]
  exact ⟨_, t3, false, _, _, rfl, HE9.out, HLE.out.1, HLE.out.2, HZ3.out, rfl⟩
 | true =>
 obtain ⟨b', x2, hq2⟩ : ∃ b' x2, Q.readI f (sp.length + 1 + a.length) (bl t2) = some (b', x2, bl rest7) ∧ at7 = x2 ∧ sp7 = sp5 ++ b' := by
  have h := hG7.out
  rw [HL5.out] at h
  cases hq : Q.readI f (sp.length + 1 + a.length) (bl t2) with
  | none => rw [hq] at h; exact Bool.noConfusion h
  | some q =>
   obtain ⟨b', x, r⟩ := q
   rw [hq] at h
   obtain ⟨_, h1, h2, h3⟩ := h
   exact ⟨b', x, by rw [h2], h1, h3⟩
 obtain ⟨hq2, hbx, hs7⟩ := hq2
 have HBX := Lib.hid hbx
 have HS7 := Lib.hid hs7
 have HQ2 := Lib.hid hq2
 clear hq2 hbx hs7
 cases o3 with
 | false =>
  have HR := Lib.hid (show G = none by rw [← HG.out]; exact Q.readI_n5 h15 hlet HQ1.out HQ2.out (HN3.out rfl))
  go_wp2
  go_ret3
  rw [HR.out]
  exact ⟨_, t3, false, _, _, rfl, HE9.out, HLE.out.1, HLE.out.2, HZ3.out, rfl⟩
 | true =>
  have HR := Lib.hid (show G = some (⟨c - 97, at5, at7⟩ :: (a ++ b'), (sp.length : Int), bl t3) by
   rw [← HG.out, HBX.out]
   have h := HQ2.out
   rw [(HY3.out rfl).1] at h
   exact Q.readI_y h15 hlet HQ1.out h)
  have HSH := Lib.hid (read_shape sp a b' (c - 97) f0 f1 f2 at5 at7 sp1 sp5 sp7 HS1.out HS5.out HS7.out hee.out)
  go_wp2
  go_ret3
  rw [HR.out]
  exact ⟨_, t3, true, _, _, rfl, HE9.out, HLE.out.1, HLE.out.2, HZ3.out, rfl, rfl, rfl, HSH.out⟩
theorem read_calls : ∀ (f : Nat) (s : ByteArray) (v : Value) (sp : List Q.Sp) (W : World), s.size < f → s.size ≤ 1000 → sp.length ≤ 16 → RE b w0 W v sp → Calls Tryd.prog 40 #[ptr b, .string s] W (ReadIn b w0 (Q.readI f sp.length (bl s)) sp) := by
 intro f
 induction f with
 | zero => intro s v sp W h; exact absurd h (Nat.not_lt_zero _)
 | succ f ih => exact fun s v sp W hf hs hsp E => read_node E f s hf hs hsp (fun s' v' sp' W' => ih s' v' sp' W')
end
end Go.Proofs.YtcaogllnbpmcgaaDoor.M
namespace Go.Proofs.YtcaogllnbpmcgaaDoor.M
open Go Go.RowKit Go.Proofs.YtcaogllnbpmcgaaDoorW.PrintWords Go.Proofs.YtcaogllnbpmcgaaDoor.P
theorem tabS' (p : Nat → Bool) (j : Nat) (hj : j ≤ 16) (h : p j = true) : Go.bits .or .i64 (tabN p j : Int) (pw j : Int) = ((tabN p (j + 1) : Nat) : Int) := by
 rw [or_pw p j hj]
 simp [tabN, h]
theorem tabZ' (p : Nat → Bool) (j : Nat) (h : p j = false) : tabN p j = tabN p (j + 1) := by simp [tabN, h]
theorem shl_u64' (n : Nat) (hn : n ≤ 4) : shl .u64 1 (n : Int) = (pw n : Int) := by
 rcases (by omega : n = 0 ∨ n = 1 ∨ n = 2 ∨ n = 3 ∨ n = 4) with rfl | rfl | rfl | rfl | rfl <;> decide
theorem shl2' (n : Nat) (hn : n ≤ 4) : shl .i64 1 (shl .u64 1 (n : Int)) = (pw (pw n) : Int) := by
 have := pwm4 hn
 rw [shl_u64' n hn, shl_nat _ (by omega)]
theorem ppw' {n : Nat} (h : n ≤ 4) : pw (pw n) ≤ 65536 := pw16 (pwm4 h)
def tabC (n : Nat) (c : Cl) : Nat := tabN (mayB c.f0.toNat c.f1) (pw n)
def tabS (n : Nat) (s : List Cl) : Nat := s.foldl (fun t c => t &&& tabC n c) (pw (pw n) - 1)
theorem tabC_lt (n : Nat) (hn : n ≤ 4) (c : Cl) : tabC n c < 65536 := Nat.lt_of_lt_of_le (tabN_lt _ _) (ppw' hn)
theorem drop_C (s : List Cl) (i : Nat) (h : i < s.length) : s.drop i = s.getD i zC :: s.drop (i + 1) := by
 rw [List.drop_eq_getElem_cons h, getD_lt s zC i h]
theorem l1InT (a b c : Int) : spec_l1In.f a b c = some (decide (b ≤ a ∧ a ≤ c)) := by
 unfold spec_l1In.f
 by_cases h : a ≥ b
 ·rw [if_pos h]
  simp [h]
 ·rw [if_neg h]
  simp
  intro h'
  omega
def M64 (s : List Mk) : Prop := ∀ i : Nat, (s.getD i zM).f1 ≤ 9223372036854775807
theorem spec_termOk_l (n : Int) (hb : n ≤ 9223372036854775807) (s : List Mk) (h64 : M64 s) (hs : s.length < 4611686018427387904) : ∀ d i p : Nat, i + d = s.length → p ≤ i →
  Tells (fun k => spec_TermOk.l0 k n s (p : Int) (i : Int)) (foldP n p (s.drop i) = some 1 ∧ (1 ≤ n ∧ n ≤ 4) ∧ s.length ≤ 15) := by
 intro d
 induction d with
 | zero =>
  intro i p hi hp
  refine Tells.step (fun k => by rw [spec_TermOk.l0]) ?_
  refine Tells.neg (by omega) ?_
  rw [List.drop_eq_nil_of_le (by omega)]
  refine Tells.bindc (l1InT n 1 4) ?_
  simp only [foldP, Option.some.injEq]
  refine Tells.ite (fun h => ?_) (fun h => Tells.no fun h' => h (decide_eq_true h'.2.1))
  have hn := of_decide_eq_true h
  refine Tells.ite (fun h1 => Tells.dec ?_) (fun h1 => Tells.no fun h' => h1 (by omega))
  exact ⟨fun h => ⟨by omega, hn, by omega⟩, fun h => by omega⟩
 | succ d ih =>
  intro i p hi hp
  refine Tells.step (fun k => by rw [spec_TermOk.l0]) ?_
  rw [foldP_drop n p s i (by omega), rdM]
  refine Tells.pos (by omega) ?_
  refine Tells.pos (by omega) ?_
  have hm64 := h64 i
  generalize hm : s.getD i zM = m at hm64
  have go : ∀ q, q ≤ i + 1 → stepP n p m = some q → Tells (fun k => spec_TermOk.l0 k n s (q : Int) ((i + 1 : Nat) : Int)) ((stepP n p m).bind (fun q => foldP n q (s.drop (i + 1))) = some 1 ∧ (1 ≤ n ∧ n ≤ 4) ∧ s.length ≤ 15) := fun q hq e => by
   rw [e]
   exact ih (i + 1) q (by omega) hq
  have no : stepP n p m = none → Tells (fun _ => some false) ((stepP n p m).bind (fun q => foldP n q (s.drop (i + 1))) = some 1 ∧ (1 ≤ n ∧ n ≤ 4) ∧ s.length ≤ 15) := fun e => by
   rw [e]
   exact Tells.no (by simp)
  have j3 : m.f0 ≠ 0 → m.f0 ≠ 1 → ¬ (m.f0 = 2 ∧ m.f1 = 0 ∧ 1 ≤ p) → Tells (fun k => spec_TermOk.j3 k n s (p : Int) (i : Int) false) ((stepP n p m).bind (fun q => foldP n q (s.drop (i + 1))) = some 1 ∧ (1 ≤ n ∧ n ≤ 4) ∧ s.length ≤ 15) := fun h0 h1 h2 => by
   refine Tells.step (fun k => by rw [spec_TermOk.j3]) ?_
   rw [rdM, hm, w64s (by omega)]
   refine Tells.neg (by decide) ?_
   refine Tells.pos (by omega) ?_
   refine Tells.pos (by omega) ?_
   refine Tells.bindc (l1InT m.f0 3 5) ?_
   have bad : ¬ (3 ≤ m.f0 ∧ m.f0 ≤ 5 ∧ m.f1 = 0 ∧ 2 ≤ p) → stepP n p m = none := fun hb => by
    unfold stepP
    rw [if_neg h0, if_neg h1]
    by_cases h2' : m.f0 = 2
    ·rw [if_pos h2', if_neg (fun h => h2 ⟨h2', h.1, h.2⟩)]
    ·rw [if_neg h2']
     by_cases h3 : 3 ≤ m.f0 ∧ m.f0 ≤ 5
     ·rw [if_pos h3, if_neg (fun h => hb ⟨h3.1, h3.2, h.1, h.2⟩)]
     ·rw [if_neg h3]
   refine Tells.ite (fun h3 => ?_) (fun h3 => no (bad fun h => h3 (decide_eq_true ⟨h.1, h.2.1⟩)))
   have h3 := of_decide_eq_true h3
   refine Tells.ite (fun h4 => ?_) (fun h4 => no (bad fun h => h4 h.2.2.1))
   refine Tells.ite (fun h5 => ?_) (fun h5 => no (bad fun h => h5 (by omega)))
   rw [w64 (x := (p : Int) - 1) (by omega) (by omega), show (p : Int) - 1 = ((p - 1 : Nat) : Int) by omega]
   exact go (p - 1) (by omega) (by unfold stepP; rw [if_neg h0, if_neg h1, if_neg (by omega), if_pos h3, if_pos ⟨h4, by omega⟩])
  have j2 : m.f0 ≠ 0 → ¬ (m.f0 = 1 ∧ 0 ≤ m.f1 ∧ m.f1 ≤ n + 1) → Tells (fun k => spec_TermOk.j2 k n s (p : Int) (i : Int) false) ((stepP n p m).bind (fun q => foldP n q (s.drop (i + 1))) = some 1 ∧ (1 ≤ n ∧ n ≤ 4) ∧ s.length ≤ 15) := fun h0 h1 => by
   refine Tells.step (fun k => by rw [spec_TermOk.j2]) ?_
   rw [rdM, hm]
   refine Tells.neg (by decide) ?_
   refine Tells.pos (by omega) ?_
   refine Tells.pos (by omega) ?_
   by_cases h11 : m.f0 = 1
   ·have e : stepP n p m = none := by
     unfold stepP
     rw [if_neg h0, if_pos h11, if_neg (fun h => h1 ⟨h11, h⟩)]
    refine Tells.neg (by simp [h11]) ?_
    refine Tells.step (fun k => by rw [spec_TermOk.j3]) ?_
    rw [rdM, hm]
    refine Tells.neg (by decide) ?_
    refine Tells.pos (by omega) ?_
    refine Tells.pos (by omega) ?_
    refine Tells.bindc (l1InT m.f0 3 5) ?_
    refine Tells.neg (fun h => by have := of_decide_eq_true h; omega) ?_
    exact no e
   refine Tells.ite (fun h2 => ?_) (fun h2 => j3 h0 h11 fun h => h2 (by simp [h.1, h.2.1]))
   have h2 : m.f0 = 2 ∧ m.f1 = 0 := by simpa using h2
   by_cases hp1 : (p : Int) ≥ 1
   ·rw [decide_eq_true hp1]
    refine Tells.step (fun k => by rw [spec_TermOk.j3]) ?_
    rw [w64s (by omega)]
    refine Tells.pos rfl ?_
    exact go p (by omega) (by unfold stepP; rw [if_neg h0, if_neg h11, if_pos h2.1, if_pos ⟨h2.2, by omega⟩])
   ·rw [decide_eq_false hp1]
    exact j3 h0 h11 fun h => hp1 (by omega)
  have j2t : m.f0 = 1 → 0 ≤ m.f1 → m.f1 ≤ n + 1 → Tells (fun k => spec_TermOk.j2 k n s (p : Int) (i : Int) true) ((stepP n p m).bind (fun q => foldP n q (s.drop (i + 1))) = some 1 ∧ (1 ≤ n ∧ n ≤ 4) ∧ s.length ≤ 15) := fun h0 h1 h2 => by
   refine Tells.step (fun k => by rw [spec_TermOk.j2]) ?_
   rw [w64s (by omega), w64s (by omega)]
   refine Tells.pos rfl ?_
   exact go (p + 1) (by omega) (by unfold stepP; rw [if_neg (by omega), if_pos h0, if_pos ⟨h1, h2⟩])
  have j1 : ¬ (m.f0 = 0 ∧ 0 ≤ m.f1 ∧ m.f1 < n) → Tells (fun k => spec_TermOk.j1 k n s (p : Int) (i : Int) false) ((stepP n p m).bind (fun q => foldP n q (s.drop (i + 1))) = some 1 ∧ (1 ≤ n ∧ n ≤ 4) ∧ s.length ≤ 15) := fun h0 => by
   refine Tells.step (fun k => by rw [spec_TermOk.j1]) ?_
   rw [rdM, hm]
   refine Tells.neg (by decide) ?_
   refine Tells.pos (by omega) ?_
   refine Tells.pos (by omega) ?_
   by_cases h00 : m.f0 = 0
   ·have e : stepP n p m = none := by
     unfold stepP
     rw [if_pos h00, if_neg (fun h => h0 ⟨h00, h⟩)]
    refine Tells.neg (by omega) ?_
    refine Tells.step (fun k => by rw [spec_TermOk.j2]) ?_
    rw [rdM, hm]
    refine Tells.neg (by decide) ?_
    refine Tells.pos (by omega) ?_
    refine Tells.pos (by omega) ?_
    refine Tells.neg (by simp [h00]) ?_
    refine Tells.step (fun k => by rw [spec_TermOk.j3]) ?_
    rw [rdM, hm]
    refine Tells.neg (by decide) ?_
    refine Tells.pos (by omega) ?_
    refine Tells.pos (by omega) ?_
    refine Tells.bindc (l1InT m.f0 3 5) ?_
    refine Tells.neg (fun h => by have := of_decide_eq_true h; omega) ?_
    exact no e
   refine Tells.ite (fun h1 => ?_) (fun h1 => j2 h00 fun h => h1 h.1)
   refine Tells.ite (fun h2 => ?_) (fun h2 => j2 h00 fun h => h2 h.2.1)
   refine Tells.ite (fun h3 => j2t h1 h2 (by omega)) (fun h3 => ?_)
   by_cases h4 : wrap64 (m.f1 - 1) = n
   ·rw [show (wrap64 (m.f1 - 1) == n) = true by simp [h4]]
    exact j2t h1 h2 (by rw [w64 (by omega) (by omega)] at h4; omega)
   ·rw [show (wrap64 (m.f1 - 1) == n) = false by simp [h4]]
    exact j2 h00 fun h => h4 (by rw [w64 (by omega) (by omega)]; omega)
  refine Tells.ite (fun h0 => ?_) (fun h0 => j1 fun h => h0 h.1)
  refine Tells.ite (fun h1 => ?_) (fun h1 => j1 fun h => h1 h.2.1)
  by_cases h2 : m.f1 < n
  ·rw [decide_eq_true h2]
   refine Tells.step (fun k => by rw [spec_TermOk.j1]) ?_
   rw [w64s (by omega), w64s (by omega)]
   refine Tells.pos rfl ?_
   exact go (p + 1) (by omega) (by unfold stepP; rw [if_pos h0, if_pos ⟨h1, h2⟩])
  ·rw [decide_eq_false h2]
   exact j1 fun h => h2 h.2.2
theorem spec_termOk (n : Int) (hb : n ≤ 9223372036854775807) (s : List Mk) (h64 : M64 s) (hs : s.length < 4611686018427387904) : Tells (fun k => spec_TermOk.f k n s) (TermP n s) := by
 unfold spec_TermOk.f
 refine (spec_termOk_l n hb s h64 hs s.length 0 0 (by omega) (by omega)).iff ?_
 rw [List.drop_zero]
 exact ⟨fun h => ⟨h.2.1, h.2.2, h.1⟩, fun h => ⟨h.2.2, h.1, h.2.1⟩⟩
theorem spec_claimOk (n : Int) (hn : n ≤ 9223372036854775807) (who : Int) (l : List Mk) (h64 : M64 l) (hl : l.length < 4611686018427387904) : Tells (fun k => spec_ClaimOk.f k n who l) (ClaimP n who l) := by
 unfold spec_ClaimOk.f
 refine Tells.ite (fun h0 => ?_) (fun h0 => Tells.no fun h' => h0 h'.1)
 refine Tells.ite (fun h1 => ?_) (fun h1 => Tells.no fun h' => h1 h'.2.1)
 obtain ⟨b, hb, hi⟩ := spec_termOk n hn l h64 hl
 refine Tells.bind hb ?_
 refine Tells.ite (fun h2 => Tells.dec ?_) (fun h2 => Tells.no fun h' => h2 (hi.2 h'.2.2.1))
 exact ⟨fun h => ⟨h0, h1, hi.1 h2, by omega⟩, fun h => by have := h.2.2.2; omega⟩
def S64 (s : List Cl) : Prop := s.length < 4611686018427387904 ∧ ∀ i, M64 (s.getD i zC).f1 ∧ (s.getD i zC).f1.length < 4611686018427387904
theorem spec_headsE (w : Nat) (hw : w < 16) : Ev (fun k => spec_l1Heads.f k (w : Int)) ((heads w : Nat) : Int) := by
 have h : ∀ w : Fin 16, spec_l1Heads.f 10 (w.val : Int) = some ((heads w.val : Nat) : Int) := by decide +kernel
 exact Ev.of (fun k => spec_l1Heads.mono (w : Int) k) (h ⟨w, hw⟩)
theorem starts_l (n : Int) (L : List Mk) (hL : L.length ≤ 1000) (r : Int) (t : Tm) : ∀ (pre post : List Mk) (d : Nat), t.Ok n → L = pre ++ t.enc ++ post → d ≤ 1000000 - t.enc.length →
  Ev (fun k => spec_l2Starts.l0 k L (d : Int) ((pre.length : Int) - 1)) r → Ev (fun k => spec_l2Starts.l0 k L ((d + 1 : Nat) : Int) (((pre.length + t.enc.length : Nat) : Int) - 1)) r := by
 induction t with
 | leaf m =>
  intro pre post d ht hl hd h
  refine Ev.step (fun k => by rw [spec_l2Starts.l0]) ?_
  have hlen : L.length = pre.length + 1 + post.length := by rw [hl]; simp [Tm.enc]; omega
  have hget : L.getD pre.length zM = m := by
   rw [hl]
   simp only [Tm.enc, List.append_assoc, List.singleton_append]
   exact getD_at zM pre m post
  have e : ((pre.length + (Tm.leaf m).enc.length : Nat) : Int) - 1 = (pre.length : Int) := by simp [Tm.enc]
  simp only [Tm.enc, List.length_singleton] at hd
  rw [e, rdM, hget, w64 (x := ((d + 1 : Nat) : Int) - 1) (by omega) (by omega), w64 (x := (pre.length : Int) - 1) (by omega) (by omega), show ((d + 1 : Nat) : Int) - 1 = (d : Int) by omega]
  refine ev_pos (by omega) ?_
  refine ev_pos (by omega) ?_
  refine ev_pos (by omega) ?_
  refine ev_pos (by rcases ht with h | h <;> omega) ?_
  exact h
 | neg t ih =>
  intro pre post d ht hl hd h
  refine Ev.step (fun k => by rw [spec_l2Starts.l0]) ?_
  have hlen : L.length = pre.length + t.enc.length + 1 + post.length := by rw [hl]; simp [Tm.enc]; omega
  have hget : L.getD (pre.length + t.enc.length) zM = ⟨2, 0⟩ := by
   rw [hl]
   simp only [Tm.enc, List.append_assoc, List.singleton_append]
   rw [← List.append_assoc]
   have := getD_at zM (pre ++ t.enc) ⟨2, 0⟩ post
   rwa [List.length_append] at this
  have e : ((pre.length + (Tm.neg t).enc.length : Nat) : Int) - 1 = ((pre.length + t.enc.length : Nat) : Int) := by simp [Tm.enc]; omega
  simp only [Tm.enc, List.length_append, List.length_singleton] at hd
  rw [e, rdM, hget, w64 (x := ((pre.length + t.enc.length : Nat) : Int) - 1) (by omega) (by omega)]
  refine ev_pos (by omega) ?_
  refine ev_pos (by omega) ?_
  refine ev_pos (by omega) ?_
  refine ev_neg (by decide) ?_
  refine ev_neg (by decide) ?_
  exact ih pre (⟨2, 0⟩ :: post) d ht (by rw [hl]; simp [Tm.enc]) (by omega) h
 | bin c a b iha ihb =>
  intro pre post d ht hl hd h
  obtain ⟨hc, ha, hb⟩ := ht
  refine Ev.step (fun k => by rw [spec_l2Starts.l0]) ?_
  have hlen : L.length = pre.length + a.enc.length + b.enc.length + 1 + post.length := by rw [hl]; simp [Tm.enc]; omega
  have hget : L.getD (pre.length + a.enc.length + b.enc.length) zM = ⟨c, 0⟩ := by
   rw [hl]
   simp only [Tm.enc, List.append_assoc, List.singleton_append]
   rw [← List.append_assoc, ← List.append_assoc]
   have := getD_at zM ((pre ++ a.enc) ++ b.enc) ⟨c, 0⟩ post
   rwa [List.length_append, List.length_append] at this
  have e : ((pre.length + (Tm.bin c a b).enc.length : Nat) : Int) - 1 = ((pre.length + a.enc.length + b.enc.length : Nat) : Int) := by simp [Tm.enc]; omega
  simp only [Tm.enc, List.length_append, List.length_singleton] at hd
  rw [e, rdM, hget, w64 (x := ((pre.length + a.enc.length + b.enc.length : Nat) : Int) - 1) (by omega) (by omega), w64s (by omega)]
  refine ev_pos (by omega) ?_
  refine ev_pos (by omega) ?_
  refine ev_pos (by omega) ?_
  refine ev_neg (by dsimp only; omega) ?_
  refine ev_pos (by dsimp only; omega) ?_
  have h2 := iha pre (b.enc ++ ⟨c, 0⟩ :: post) d ha (by rw [hl]; simp [Tm.enc]) (by omega) h
  rw [← List.length_append] at h2 ⊢
  exact ihb (pre ++ a.enc) (⟨c, 0⟩ :: post) (d + 1) hb (by rw [hl]; simp [Tm.enc]) (by omega) h2
theorem spec_holdsE (n : Int) (hn : n ≤ 4) (w : Nat) (hw : w < 16) (t : Tm) : t.Ok n → t.enc.length ≤ 1000 → Ev (fun k => spec_l3Holds.f k t.enc (w : Int)) (t.val w) := by
 induction t with
 | leaf m =>
  intro ht hl
  refine Ev.step (fun k => by rw [spec_l3Holds.f]) ?_
  have e : wrap64 (((Tm.leaf m).enc.length : Int) - 1) = ((0 : Nat) : Int) := by simp [Tm.enc, wrap64]
  have g : (Tm.leaf m).enc.getD 0 zM = m := rfl
  rw [e, rdM, g]
  have hlen : (Tm.leaf m).enc.length = 1 := rfl
  refine ev_pos (by omega) ?_
  refine ev_pos (by omega) ?_
  simp only [Tm.val]
  rcases ht with ⟨h0, h1, h2⟩ | ⟨h0, h1, h2⟩
  ·refine ev_pos h0 ?_
   refine ev_pos h1 (ev_ret ?_)
   rw [if_pos h0, show m.f1 = ((m.f1.toNat : Nat) : Int) by omega, shr_tmod2 w m.f1.toNat (by omega), beq_one, Int.toNat_natCast]
  ·refine ev_neg (by omega) ?_
   refine ev_pos h0 ?_
   refine ev_bind (spec_headsE w hw) (ev_ret ?_)
   rw [if_neg (by omega)]
 | neg t ih =>
  intro ht hl
  refine Ev.step (fun k => by rw [spec_l3Holds.f]) ?_
  have hlen : (Tm.neg t).enc.length = t.enc.length + 1 := by simp [Tm.enc]
  have g : (Tm.neg t).enc.getD t.enc.length zM = ⟨2, 0⟩ := getD_last zM t.enc ⟨2, 0⟩
  rw [hlen, w64 (x := ((t.enc.length + 1 : Nat) : Int) - 1) (by omega) (by omega), show ((t.enc.length + 1 : Nat) : Int) - 1 = (t.enc.length : Int) by omega, rdM, g, Int.toNat_natCast]
  have tk : (Tm.neg t).enc.take t.enc.length = t.enc := by simp [Tm.enc]
  rw [tk]
  refine ev_pos (by omega) ?_
  refine ev_pos (by omega) ?_
  refine ev_neg (by decide) ?_
  refine ev_neg (by decide) ?_
  refine ev_pos rfl ?_
  refine ev_pos (by omega) ?_
  exact ev_bind (ih ht (by omega)) (ev_ret rfl)
 | bin c a b iha ihb =>
  intro ht hl
  obtain ⟨hc, ha, hb⟩ := ht
  refine Ev.step (fun k => by rw [spec_l3Holds.f]) ?_
  have hbp := b.enc_pos
  have hlen : (Tm.bin c a b).enc.length = a.enc.length + b.enc.length + 1 := by simp [Tm.enc]; omega
  have g : (Tm.bin c a b).enc.getD (a.enc.length + b.enc.length) zM = ⟨c, 0⟩ := by
   have := getD_last zM (a.enc ++ b.enc) ⟨c, 0⟩
   rwa [List.length_append] at this
  rw [hlen, w64 (x := ((a.enc.length + b.enc.length + 1 : Nat) : Int) - 1) (by omega) (by omega), show ((a.enc.length + b.enc.length + 1 : Nat) : Int) - 1 = ((a.enc.length + b.enc.length : Nat) : Int) by omega, rdM, g,
   w64 (x := ((a.enc.length + b.enc.length : Nat) : Int) - 1) (by omega) (by omega), Int.toNat_natCast]
  have tk : (Tm.bin c a b).enc.take (a.enc.length + b.enc.length) = a.enc ++ b.enc := by
   rw [← List.length_append]
   exact List.take_left
  rw [tk]
  refine ev_pos (by omega) ?_
  refine ev_pos (by omega) ?_
  refine ev_neg (by dsimp only; omega) ?_
  refine ev_neg (by dsimp only; omega) ?_
  refine ev_neg (by dsimp only; omega) ?_
  have hst : Ev (fun k => spec_l2Starts.f k (Tm.bin c a b).enc (((a.enc.length + b.enc.length : Nat) : Int) - 1)) (a.enc.length : Int) := by
   unfold spec_l2Starts.f
   refine starts_l n (Tm.bin c a b).enc (by omega) (a.enc.length : Int) b a.enc [⟨c, 0⟩] 0 hb rfl (by omega) ?_
   refine Ev.step (fun k => by rw [spec_l2Starts.l0]) ?_
   refine ev_neg (by omega) (ev_ret ?_)
   rw [w64 (by omega) (by omega)]
   omega
  refine ev_bind hst ?_
  rw [Int.toNat_natCast]
  have tk2 : (Tm.bin c a b).enc.take a.enc.length = a.enc := by simp [Tm.enc]
  rw [tk2, List.drop_left]
  refine ev_pos (by omega) ?_
  refine ev_pos (by omega) ?_
  refine ev_bind (iha ha (by omega)) ?_
  refine ev_pos (by omega) ?_
  refine ev_pos (by omega) ?_
  refine ev_bind (ihb hb (by omega)) ?_
  simp only [Tm.val]
  rcases hc with rfl | rfl | rfl
  ·refine ev_pos rfl ?_
   by_cases hv : a.val w = true
   ·exact ev_pos hv (ev_ret (by simp [op2, hv]))
   ·exact ev_neg hv (ev_ret (by simp [op2, hv]))
  ·refine ev_neg (by decide) (ev_pos rfl ?_)
   by_cases hv : a.val w = true
   ·exact ev_pos hv (ev_ret (by simp [op2, hv]))
   ·exact ev_neg hv (ev_ret (by simp [op2, hv]))
  ·refine ev_neg (by decide) (ev_neg (by decide) (ev_ret (by simp [op2])))
theorem spec_holdsT {n : Int} {l : List Mk} (h : TermP n l) (w : Nat) (hw : w < 16) : Ev (fun k => spec_l3Holds.f k l (w : Int)) (holdB l w) := by
 obtain ⟨t, ht, rfl⟩ := h.tree
 rw [holdB_enc n w t ht]
 exact spec_holdsE n h.1.2 w hw t ht (by have := h.2.1; omega)
theorem spec_mayE {n : Int} {l : List Mk} (h : TermP n l) (who : Int) (h0 : 0 ≤ who) (h4 : who < 4) (w : Nat) (hw : w < 16) : Ev (fun k => spec_l4May.f k who l (w : Int)) (mayB who.toNat l w) := by
 unfold spec_l4May.f
 refine ev_pos h0 ?_
 refine ev_bind (spec_holdsT h w hw) (ev_ret ?_)
 rw [show who = ((who.toNat : Nat) : Int) by omega, shr_tmod2 w who.toNat (by omega), beq_one]
 unfold mayB
 rw [Int.toNat_natCast]
theorem spec_l3Table_l (n : Nat) (hn : n ≤ 4) (l : List Mk) (h : TermP n l) : ∀ d j, j + d = pw n →
  Ev (fun k => spec_l3Table.l0 k (n : Int) l ((tabN (holdB l) j : Nat) : Int) (j : Int)) ((tabN (holdB l) (pw n) : Nat) : Int) := by
 have hp := pwm4 hn
 intro d
 induction d with
 | zero =>
  intro j hj
  refine Ev.step (fun k => by rw [spec_l3Table.l0]) ?_
  rw [shl_nat n (by omega)]
  refine ev_pos (by omega) ?_
  refine ev_neg (by omega) (ev_ret ?_)
  rw [show j = pw n by omega]
 | succ d ih =>
  intro j hj
  refine Ev.step (fun k => by rw [spec_l3Table.l0]) ?_
  rw [shl_nat n (by omega), shl_nat j (by omega), w64s (by omega)]
  refine ev_pos (by omega) ?_
  refine ev_pos (by omega) ?_
  refine ev_bind (spec_holdsT h j (by omega)) ?_
  by_cases hb : holdB l j = true
  ·refine ev_pos hb ?_
   refine ev_pos (by omega) ?_
   rw [tabS' _ j (by omega) hb]
   exact ih (j + 1) (by omega)
  ·refine ev_neg hb ?_
   rw [tabZ' _ j (Bool.eq_false_iff.2 hb)]
   exact ih (j + 1) (by omega)
theorem spec_l3TableE (n : Nat) (l : List Mk) (h : TermP n l) : Ev (fun k => spec_l3Table.f k (n : Int) l) ((tabN (holdB l) (pw n) : Nat) : Int) :=
 spec_l3Table_l n (by have := h.1.2; omega) l h (pw n) 0 (by omega)
theorem spec_l4Table_l (n : Nat) (hn : n ≤ 4) (who : Int) (l : List Mk) (h : ClaimP n who l) : ∀ d j, j + d = pw n →
  Ev (fun k => spec_l4Table.l0 k (n : Int) ((tabN (mayB who.toNat l) j : Nat) : Int) (j : Int) who l) ((tabN (mayB who.toNat l) (pw n) : Nat) : Int) := by
 have hp := pwm4 hn
 intro d
 induction d with
 | zero =>
  intro j hj
  refine Ev.step (fun k => by rw [spec_l4Table.l0]) ?_
  rw [shl_nat n (by omega)]
  refine ev_pos (by omega) ?_
  refine ev_neg (by omega) (ev_ret ?_)
  rw [show j = pw n by omega]
 | succ d ih =>
  intro j hj
  refine Ev.step (fun k => by rw [spec_l4Table.l0]) ?_
  rw [shl_nat n (by omega), shl_nat j (by omega), w64s (by omega)]
  refine ev_pos (by omega) ?_
  refine ev_pos (by omega) ?_
  refine ev_bind (spec_mayE h.2.2.1 who h.1 (by have := h.2.1; omega) j (by omega)) ?_
  by_cases hb : mayB who.toNat l j = true
  ·refine ev_pos hb ?_
   refine ev_pos (by omega) ?_
   rw [tabS' _ j (by omega) hb]
   exact ih (j + 1) (by omega)
  ·refine ev_neg hb ?_
   rw [tabZ' _ j (Bool.eq_false_iff.2 hb)]
   exact ih (j + 1) (by omega)
theorem spec_l4TableE (n : Nat) (c : Cl) (h : ClaimP n c.f0 c.f1) : Ev (fun k => spec_l4Table.f k (n : Int) c.f0 c.f1) ((tabC n c : Nat) : Int) :=
 spec_l4Table_l n (by have := h.2.2.1.1.2; omega) c.f0 c.f1 h (pw n) 0 (by omega)
def knOf : List Int → Nat
 | [] => 0
 | x :: l => (if x < 0 then 0 else 1) + 2 * knOf l
def wdOf : List Int → Nat
 | [] => 0
 | x :: l => (if x = 1 then 1 else 0) + 2 * wdOf l
def allK : Nat → List (List Int)
 | 0 => [[]]
 | n + 1 => (allK n).flatMap fun l => [(-1) :: l, 0 :: l, 1 :: l]
def KnowP (n : Nat) (ks : List Int) : Prop := ks ∈ allK n
theorem knowP_iff (n : Nat) (ks : List Int) : KnowP n ks ↔ ks.length = n ∧ ∀ x ∈ ks, x = -1 ∨ x = 0 ∨ x = 1 := by
 unfold KnowP
 induction n generalizing ks with
 | zero =>
  simp only [allK, List.mem_singleton]
  constructor
  ·rintro rfl; simp
  ·exact fun h => List.eq_nil_of_length_eq_zero h.1
 | succ n ih =>
  simp only [allK, List.mem_flatMap]
  constructor
  ·rintro ⟨l, hl, h⟩
   have hl' := (ih l).1 hl
   simp only [List.mem_cons, List.not_mem_nil, or_false] at h
   rcases h with rfl | rfl | rfl <;> exact ⟨by simp [hl'.1], fun x hx => by
    rcases List.mem_cons.1 hx with rfl | hx
    ·simp
    ·exact hl'.2 x hx⟩
  ·rintro ⟨hlen, hall⟩
   cases ks with
   | nil => simp at hlen
   | cons x l =>
    refine ⟨l, (ih l).2 ⟨by simpa using hlen, fun y hy => hall y (List.mem_cons_of_mem _ hy)⟩, ?_⟩
    rcases hall x List.mem_cons_self with rfl | rfl | rfl <;> simp
theorem know_len {n : Nat} {ks : List Int} (h : KnowP n ks) : ks.length = n := ((knowP_iff n ks).1 h).1
theorem know_nothing (n : Nat) : KnowP n (List.replicate n (-1)) := (knowP_iff n _).2 ⟨by simp, fun x hx => .inl (List.eq_of_mem_replicate hx)⟩
theorem know_set {n : Nat} {ks : List Int} (h : KnowP n ks) (i : Nat) (x : Int) (hx : x = 0 ∨ x = 1) : KnowP n (ks.set i x) := by
 rw [knowP_iff] at h ⊢
 refine ⟨by rw [List.length_set]; exact h.1, fun y hy => ?_⟩
 rcases List.mem_or_eq_of_mem_set hy with hy | rfl
 ·exact h.2 y hy
 ·exact .inr hx
theorem nothing_of (n : Nat) (hn : n ≤ 4) : knOf (List.replicate n (-1)) = 0 ∧ wdOf (List.replicate n (-1)) = 0 := by
 rcases (by omega : n = 0 ∨ n = 1 ∨ n = 2 ∨ n = 3 ∨ n = 4) with rfl | rfl | rfl | rfl | rfl <;> decide
theorem know_facts (n : Nat) (hn : n ≤ 4) (ks : List Int) (h : KnowP n ks) : knOf ks < 16 ∧ wdOf ks < 16 ∧ ∀ i, i < n → ((knOf ks).testBit i = decide (0 ≤ ks.getD i 0)) ∧ (ks.getD i 0 < 0 → knOf (ks.set i 0) = knOf ks ||| 2 ^ i ∧ wdOf (ks.set i 0) = wdOf ks ∧ knOf (ks.set i 1) = knOf ks ||| 2 ^ i ∧ wdOf (ks.set i 1) = wdOf ks ||| 2 ^ i) := by
 have F : ∀ n : Fin 5, ∀ ks ∈ allK n.val, knOf ks < 16 ∧ wdOf ks < 16 ∧ ∀ i : Fin n.val, ((knOf ks).testBit i.val = decide (0 ≤ ks.getD i.val 0)) ∧ (ks.getD i.val 0 < 0 → knOf (ks.set i.val 0) = knOf ks ||| 2 ^ i.val ∧ wdOf (ks.set i.val 0) = wdOf ks ∧ knOf (ks.set i.val 1) = knOf ks ||| 2 ^ i.val ∧ wdOf (ks.set i.val 1) = wdOf ks ||| 2 ^ i.val) := by decide +kernel
 obtain ⟨h1, h2, h3⟩ := F ⟨n, by omega⟩ ks h
 exact ⟨h1, h2, fun i hi => h3 ⟨i, hi⟩⟩
theorem spec_nothingE (n : Nat) (hn : n ≤ 4) : Ev (fun k => spec_l11Nothing.f k (n : Int)) (List.replicate n (-1)) := by
 have F : ∀ n : Fin 5, spec_l11Nothing.f 20 (n.val : Int) = some (List.replicate n.val (-1)) := by decide +kernel
 exact Ev.of (fun k => spec_l11Nothing.mono (n : Int) k) (F ⟨n, by omega⟩)
theorem spec_agreeE (n : Nat) (h1 : 1 ≤ n) (hn : n ≤ 4) (ks : List Int) (h : KnowP n ks) : Ev (fun k => spec_l11Agree.f k (n : Int) ks) ((agreeN n (knOf ks) (wdOf ks) : Nat) : Int) := by
 have F : ∀ n : Fin 5, ∀ ks ∈ allK n.val, spec_l11Agree.f 120 (n.val : Int) ks = some ((agreeN n.val (knOf ks) (wdOf ks) : Nat) : Int) := by decide +kernel
 exact Ev.of (fun k => spec_l11Agree.mono (n : Int) ks k) (F ⟨n, by omega⟩ ks h)
def clQ_ (n : Nat) (s : List Cl) (t : List Mk) : Nat → Nat → Int → Bool := Q.clM n s.length (holdT t) (mayT s)
theorem spec_closesE (n : Nat) (s : List Cl) (t : List Mk) (hS : StoryP (n : Int) s) (hT : TermP (n : Int) t) (ks : List Int) (h : KnowP n ks) (tgt : Int) (h0 : tgt < 0) (hlo : -2 - (s.length : Int) ≤ tgt) :
  Ev (fun k => spec_l11Closes.f k (n : Int) s t tgt ks) (clQ_ n s t (knOf ks) (wdOf ks) tgt) := by
 have hn := hS.2.1
 have h6 := hS.2.2
 have hn4 : n ≤ 4 := by omega
 unfold spec_l11Closes.f
 refine ev_bind (spec_agreeE n (by omega) hn4 ks h) ?_
 by_cases hg : tgt = -1
 ·refine ev_pos hg (ev_bind (spec_l3TableE n t hT) (ev_ret ?_))
  rw [close_goal n _ _ hn4 (holdB t)]
  unfold clQ_ Q.clM
  rw [if_pos hg]
  rfl
 ·refine ev_neg hg ?_
  obtain ⟨i, hi⟩ : ∃ i : Nat, -2 - tgt = (i : Int) := ⟨(-2 - tgt).toNat, by omega⟩
  have e1 : wrap64 (-2 - tgt) = (i : Int) := by
   have := Go.Proofs.YtcaogllnbpmcgaaDoor.M.w64 (x := -2 - tgt) (by omega) (by omega)
   rw [this, hi]
  have e2 : wrap64 ((s.length : Int) - 1) = (s.length : Int) - 1 := Go.Proofs.YtcaogllnbpmcgaaDoor.M.w64 (by omega) (by omega)
  refine ev_bindc (l1InT _ _ _) ?_
  rw [e1, e2]
  by_cases hlt : i < s.length
  ·refine ev_pos (decide_eq_true (by omega)) (ev_pos (by omega) (ev_pos (by omega) ?_))
   rw [rdC]
   refine ev_bind (spec_l4TableE n _ (hS.1 i hlt)) (ev_ret ?_)
   have := close_claim n (knOf ks) (wdOf ks) hn4 (mayT s i)
   unfold clQ_ Q.clM
   rw [if_neg hg, if_pos (by omega), hi, Int.toNat_natCast]
   exact this
  ·refine ev_neg (by rw [decide_eq_true_iff]; omega) (ev_ret ?_)
   unfold clQ_ Q.clM
   rw [if_neg hg, if_neg (by omega)]
theorem spec_storyOk_l (n : Int) (hn : n ≤ 9223372036854775807) (s : List Cl) (hs : S64 s) : ∀ d i : Nat, i + d = s.length →
  Tells (fun k => spec_StoryOk.l0 k n s (i : Int)) ((∀ j, i ≤ j → j < s.length → ClaimP n (s.getD j zC).f0 (s.getD j zC).f1) ∧ (1 ≤ n ∧ n ≤ 4) ∧ s.length ≤ 6) := by
 intro d
 have hsl := hs.1
 induction d with
 | zero =>
  intro i hi
  refine Tells.step (fun k => by rw [spec_StoryOk.l0]) ?_
  refine Tells.neg (by omega) ?_
  refine Tells.bindc (l1InT n 1 4) ?_
  refine Tells.ite (fun h => Tells.dec ?_) (fun h => Tells.no fun h' => h (decide_eq_true h'.2.1))
  have h := of_decide_eq_true h
  exact ⟨fun h' => ⟨fun j h1 h2 => by omega, h, by omega⟩, fun h' => by omega⟩
 | succ d ih =>
  intro i hi
  refine Tells.step (fun k => by rw [spec_StoryOk.l0]) ?_
  rw [rdC, w64s (i := i) (by omega)]
  refine Tells.pos (by omega) ?_
  refine Tells.pos (by omega) ?_
  obtain ⟨b, hb, hi'⟩ := spec_claimOk n hn (s.getD i zC).f0 (s.getD i zC).f1 (hs.2 i).1 (hs.2 i).2
  refine Tells.bind hb ?_
  refine Tells.ite (fun h => ?_) (fun h => Tells.no fun h' => h (hi'.2 (h'.1 i (Nat.le_refl _) (by omega))))
  refine (ih (i + 1) (by omega)).iff ?_
  constructor
  ·intro h'
   refine ⟨fun j h1 h2 => ?_, h'.2⟩
   rcases Nat.eq_or_lt_of_le h1 with e | e
   ·exact e ▸ hi'.1 h
   ·exact h'.1 j e h2
  ·exact fun h' => ⟨fun j h1 h2 => h'.1 j (by omega) h2, h'.2⟩
theorem spec_storyOk (n : Int) (hn : n ≤ 9223372036854775807) (s : List Cl) (hs : S64 s) : Tells (fun k => spec_StoryOk.f k n s) (StoryP n s) := by
 unfold spec_StoryOk.f
 refine (spec_storyOk_l n hn s hs s.length 0 (by omega)).iff ?_
 exact ⟨fun h => ⟨fun j hj => h.1 j (by omega) hj, h.2⟩, fun h => ⟨fun j _ hj => h.1 j hj, h.2⟩⟩
end Go.Proofs.YtcaogllnbpmcgaaDoor.M
namespace Go.Proofs.YtcaogllnbpmcgaaDoor.Q
theorem vis_len (S : List Sp) (n : Nat) (cl : Nat → Nat → Int → Bool) : ∀ (f : Nat) (tgt : Int) (kn wd : Nat) (l : List Nat), visP S n cl f tgt kn wd = some l → (tgt < 0 → l = []) ∧ (0 ≤ tgt → tgt < S.length → l.length + 1 ≤ 2 ^ (S.length - tgt.toNat)) := by
 intro f
 induction f with
 | zero => intro tgt kn wd l h; simp [visP] at h
 | succ f ih =>
  intro tgt kn wd l h
  by_cases h0 : tgt < 0
  ·rw [vis_neg h0] at h
   refine ⟨fun _ => ?_, fun h1 => by omega⟩
   split at h
   ·exact (Option.some.inj h).symm
   ·cases h
  ·refine ⟨fun h1 => absurd h1 h0, fun _ hlt => ?_⟩
   obtain ⟨hn, hs, a, b, ha, hb, rfl⟩ := vis_some h0 h
   have hpos : ∀ m : Nat, 1 ≤ 2 ^ m := fun m => Nat.two_pow_pos m
   have e : S.length - tgt.toNat = (S.length - tgt.toNat - 1) + 1 := by omega
   have half : ∀ (x : Int) (c : List Nat) (kn wd : Nat), okN S x tgt → visP S n cl f x kn wd = some c → c.length + 1 ≤ 2 ^ (S.length - tgt.toNat - 1) := by
    intro x c kn wd hx hc
    rcases hx with hx | ⟨h1, h2⟩
    ·rw [(ih x kn wd c hc).1 hx]
     exact hpos _
    ·refine Nat.le_trans ((ih x kn wd c hc).2 (by omega) h2) (Nat.pow_le_pow_right (by decide) (by omega))
   have h1 := half _ a _ _ hs.1 ha
   have h2 := half _ b _ _ hs.2 hb
   rw [e, Nat.pow_succ, List.length_cons, List.length_append]
   omega
end Go.Proofs.YtcaogllnbpmcgaaDoor.Q
namespace Go.Proofs.YtcaogllnbpmcgaaDoor.M
open Go Go.RowKit Go.Proofs.YtcaogllnbpmcgaaDoorW.PrintWords Go.Proofs.YtcaogllnbpmcgaaDoor.P
section
variable (n : Nat) (s : List Cl) (t : List Mk) (fi : Int) (S : List Q.Sp)
def ChkR (o : Option (List Nat)) (r : Int × Bool) : Prop := match o with
 | some l => r = ((l.length : Int), true)
 | none => r.2 = false
theorem p15 (m : Nat) (h : m ≤ 15) : 2 ^ m ≤ 32768 := Nat.le_trans (Nat.pow_le_pow_right (by decide) h) (by decide)
theorem w_a (a : Nat) (ha : a + 1 ≤ 32768) : wrap64 (1 + (a : Int)) = 1 + (a : Int) := Go.Proofs.YtcaogllnbpmcgaaDoor.M.w64 (by omega) (by omega)
theorem w_ab (a b : Nat) (ha : a + 1 ≤ 32768) (hb : b + 1 ≤ 32768) : wrap64 (1 + (a : Int) + (b : Int)) = 1 + (a : Int) + (b : Int) := Go.Proofs.YtcaogllnbpmcgaaDoor.M.w64 (by omega) (by omega)
theorem side_bad (x4 x15 x16 x17 f0 f1 f2 : Int) (ks : List Int) (h : ¬ Q.okN S x17 x4) :
  Ev (fun k => spec_l11Checks.j2 k (n : Int) s t x4 ks x15 x16 x17 fi S f0 f1 f2) (0, false) := by
 unfold Q.okN at h
 refine Ev.step (fun k => by rw [spec_l11Checks.j2]) (ev_pos (by omega) ?_)
 by_cases h1 : x17 ≤ x4
 ·refine ev_pos h1 (Ev.step (fun k => by rw [spec_l11Checks.j3]) (ev_pos rfl (ev_ret rfl)))
 ·exact ev_neg h1 (Ev.step (fun k => by rw [spec_l11Checks.j3]) (ev_pos (decide_eq_true (by omega)) (ev_ret rfl)))
theorem side_ok (x4 x15 x16 x17 f1 f2 : Int) (f0 : Nat) (ks : List Int) (h : Q.okN S x17 x4) (h4 : 0 ≤ x4) (hf : f0 < ks.length) (hl : ks.length ≤ 4) (r R : Int × Bool) (hr : Ev (fun k => spec_l11Checks.f k (n : Int) s t fi S x17 (ks.set f0 x16)) r)
  (h1 : r.2 = true → Ev (fun k => spec_l11Checks.l0 k (n : Int) s t x4 ks (wrap64 (x15 + r.1)) (wrap64 (x16 + 1)) fi S (f0 : Int) f1 f2) R) (h2 : r.2 = false → R = (0, false)) :
  Ev (fun k => spec_l11Checks.j2 k (n : Int) s t x4 ks x15 x16 x17 fi S (f0 : Int) f1 f2) R := by
 unfold Q.okN at h
 have go : Ev (fun k => spec_l11Checks.j3 k (n : Int) s t x4 ks x15 x16 x17 false fi S (f0 : Int) f1 f2) R := by
  refine Ev.step (fun k => by rw [spec_l11Checks.j3]) (ev_neg (by decide) ?_)
  simp only [Option.bind_some, List.nil_append, Int.toNat_natCast]
  refine ev_pos (by simp; omega) (ev_pos (by omega) (ev_pos (by omega) ?_))
  refine ev_bind hr ?_
  cases hb : r.2 with
  | true => exact ev_pos rfl (h1 hb)
  | false => exact ev_neg (by decide) (ev_ret (h2 hb).symm)
 refine Ev.step (fun k => by rw [spec_l11Checks.j2]) ?_
 by_cases h3 : x17 ≥ 0
 ·refine ev_pos h3 (ev_neg (by omega) ?_)
  rw [show decide (x17 ≥ (S.length : Int)) = false from decide_eq_false (by omega)]
  exact go
 ·exact ev_neg h3 go
variable {n s t fi S}
set_option maxHeartbeats 1000000 in
theorem spec_checks (hS : StoryP (n : Int) s) (hT : TermP (n : Int) t) (h15 : S.length ≤ 15) : ∀ (f : Nat) (tgt : Int) (ks : List Int), 1 ≤ f → KnowP n ks → -9223372036854775808 ≤ tgt → (∀ i, i < S.length → -9223372036854775808 ≤ (S.getD i Q.zS).f1 ∧ -9223372036854775808 ≤ (S.getD i Q.zS).f2) →
  (tgt < 0 ∨ tgt < S.length ∧ (S.length : Int) < f + tgt) → ∃ r : Int × Bool, Ev (fun k => spec_l11Checks.f k (n : Int) s t fi S tgt ks) r ∧ ChkR (Q.visP S n (clQ n s t) f tgt (knOf ks) (wdOf ks)) r := by
 have hn := hS.2.1
 have h6 := hS.2.2
 have hn4 : n ≤ 4 := by omega
 intro f
 induction f with
 | zero => intro _ _ h; omega
 | succ f ih =>
  intro tgt ks _ hk hlo hR hf
  have hlen := know_len hk
  by_cases h0 : tgt < 0
  ·rw [Q.vis_neg h0]
   have e1 : wrap64 (-2 - (s.length : Int)) = -2 - (s.length : Int) := Go.Proofs.YtcaogllnbpmcgaaDoor.M.w64 (by omega) (by omega)
   by_cases h1 : tgt ≥ -2 - (s.length : Int)
   ·refine ⟨(0, clQ n s t (knOf ks) (wdOf ks) tgt), Ev.step (fun k => by rw [spec_l11Checks.f]) (ev_pos h0 (ev_pos (by rw [e1]; exact h1) (ev_bind (spec_closesE n s t hS hT ks hk tgt h0 h1) (ev_ret rfl)))), ?_⟩
    cases hc : clQ n s t (knOf ks) (wdOf ks) tgt with
    | true => rfl
    | false => rfl
   ·refine ⟨(0, false), Ev.step (fun k => by rw [spec_l11Checks.f]) (ev_pos h0 (ev_neg (by rw [e1]; exact h1) (ev_ret rfl))), ?_⟩
    have hc : clQ n s t (knOf ks) (wdOf ks) tgt = false := by
     unfold clQ Q.clM
     rw [if_neg (by omega), if_neg (by omega)]
    rw [hc]
    rfl
  ·obtain ⟨j, rfl⟩ : ∃ j : Nat, tgt = (j : Int) := ⟨tgt.toNat, by omega⟩
   have hj : j < S.length := by omega
   have hRj := hR j hj
   have e2 : wrap64 ((n : Int) - 1) = (n : Int) - 1 := Go.Proofs.YtcaogllnbpmcgaaDoor.M.w64 (by omega) (by omega)
   have hrd : rd_T68 S (j : Int) = S.getD j Q.zS := rdS S j
   obtain ⟨sp, hsp⟩ : ∃ x, S.getD j Q.zS = x := ⟨_, rfl⟩
   have bad : ¬ Q.nodeP S n (j : Int) (knOf ks) → ∃ r : Int × Bool, Ev (fun k => spec_l11Checks.f k (n : Int) s t fi S (j : Int) ks) r ∧ ChkR (Q.visP S n (clQ n s t) (f + 1) (j : Int) (knOf ks) (wdOf ks)) r := by
    intro hnode
    refine ⟨(0, false), Ev.step (fun k => by rw [spec_l11Checks.f]) (ev_neg h0 (ev_pos (by omega) (ev_pos (by omega) (ev_bindc (l1InT _ _ _) ?_)))), ?_⟩
    ·rw [e2, hrd]
     have stop : ∀ (x f0 f1 f2 : Int), Ev (fun k => spec_l11Checks.j0 k (n : Int) s t x ks true fi S f0 f1 f2) (0, false) := fun x f0 f1 f2 => Ev.step (fun k => by rw [spec_l11Checks.j0]) (ev_pos rfl (ev_ret rfl))
     by_cases hin : 0 ≤ (S.getD j Q.zS).f0 ∧ (S.getD j Q.zS).f0 ≤ (n : Int) - 1
     ·obtain ⟨i, hi⟩ : ∃ i : Nat, (S.getD j Q.zS).f0 = (i : Int) := ⟨(S.getD j Q.zS).f0.toNat, by omega⟩
      refine ev_pos (decide_eq_true hin) (ev_pos hin.1 (ev_pos (by omega) ?_))
      have hb := ((know_facts n hn4 ks hk).2.2 i (by omega)).1
      have : rd ks (S.getD j Q.zS).f0 ≥ 0 := by
       rw [hi, rdN]
       refine Classical.byContradiction fun h => hnode ?_
       unfold Q.nodeP
       rw [Int.toNat_natCast, hi, Int.toNat_natCast, hb]
       exact ⟨by omega, by omega, decide_eq_false (by omega)⟩
      rw [decide_eq_true this]
      exact stop _ _ _ _
     ·exact ev_neg (by rw [decide_eq_true_iff]; exact hin) (stop _ _ _ _)
    ·rw [Q.visP, if_neg h0, if_neg (fun h => hnode h.1)]
     rfl
   by_cases hnode : Q.nodeP S n (j : Int) (knOf ks)
   case neg => exact bad hnode
   have hnode' := hnode
   unfold Q.nodeP at hnode'
   rw [Int.toNat_natCast] at hnode'
   obtain ⟨i, hi⟩ : ∃ i : Nat, (S.getD j Q.zS).f0 = (i : Int) := ⟨(S.getD j Q.zS).f0.toNat, by omega⟩
   rw [hi, Int.toNat_natCast] at hnode'
   obtain ⟨hb, hset⟩ := (know_facts n hn4 ks hk).2.2 i (by omega)
   have hneg : ks.getD i 0 < 0 := by
    rw [hb, decide_eq_false_iff_not] at hnode'
    omega
   obtain ⟨k0, w0, k1, w1⟩ := hset hneg
   have hj0 : (0 : Int) ≤ (j : Int) := Int.natCast_nonneg j
   have hin : (i : Int) < (n : Int) := hnode'.2.1
   have hik : i < ks.length := by rw [hlen]; exact Int.ofNat_lt.1 hin
   have hk4 : ks.length ≤ 4 := by rw [hlen]; exact hn4
   have start : ∀ R, Ev (fun k => spec_l11Checks.l0 k (n : Int) s t (j : Int) ks 1 0 fi S (i : Int) (S.getD j Q.zS).f1 (S.getD j Q.zS).f2) R → Ev (fun k => spec_l11Checks.f k (n : Int) s t fi S (j : Int) ks) R := by
    intro R h
    refine Ev.step (fun k => by rw [spec_l11Checks.f]) (ev_neg h0 (ev_pos (by omega) (ev_pos (by omega) (ev_bindc (l1InT _ _ _) ?_))))
    rw [e2, hrd, hi]
    refine ev_pos (decide_eq_true (by omega)) (ev_pos (by omega) (ev_pos (by omega) ?_))
    rw [rdN, show decide (ks.getD i 0 ≥ 0) = false from decide_eq_false (by omega)]
    exact Ev.step (fun k => by rw [spec_l11Checks.j0]) (ev_neg (by decide) h)
   have first : ∀ R, Ev (fun k => spec_l11Checks.j2 k (n : Int) s t (j : Int) ks 1 0 (S.getD j Q.zS).f1 fi S (i : Int) (S.getD j Q.zS).f1 (S.getD j Q.zS).f2) R → Ev (fun k => spec_l11Checks.f k (n : Int) s t fi S (j : Int) ks) R := fun R h =>
    start R (Ev.step (fun k => by rw [spec_l11Checks.l0]) (ev_pos (by decide) (ev_neg (by decide) h)))
   have second : ∀ (m : Int) R, Ev (fun k => spec_l11Checks.j2 k (n : Int) s t (j : Int) ks m 1 (S.getD j Q.zS).f2 fi S (i : Int) (S.getD j Q.zS).f1 (S.getD j Q.zS).f2) R → Ev (fun k => spec_l11Checks.l0 k (n : Int) s t (j : Int) ks m 1 fi S (i : Int) (S.getD j Q.zS).f1 (S.getD j Q.zS).f2) R := fun m R h =>
    Ev.step (fun k => by rw [spec_l11Checks.l0]) (ev_pos (by decide) (ev_pos rfl h))
   have hoff : ∀ x, Q.okN S x (j : Int) → (x < 0 ∨ x < S.length ∧ (S.length : Int) < f + x) := by
    intro x hx
    rcases hx with hx | hx
    ·exact .inl hx
    ·exact .inr (by omega)
   have hvis : Q.visP S n (clQ n s t) (f + 1) (j : Int) (knOf ks) (wdOf ks) = if Q.sons S (j : Int) then
     (match Q.visP S n (clQ n s t) f (S.getD j Q.zS).f1 (knOf ks ||| 2 ^ i) (wdOf ks) with
     | none => none
     | some a => match Q.visP S n (clQ n s t) f (S.getD j Q.zS).f2 (knOf ks ||| 2 ^ i) (wdOf ks ||| 2 ^ i) with
      | none => none
      | some b => some (j :: (a ++ b))) else none := by
    rw [Q.visP, if_neg h0]
    by_cases hs : Q.sons S (j : Int)
    ·rw [if_pos ⟨hnode, hs⟩, if_pos hs]
     simp only [Int.toNat_natCast, hi]
     first | done | rfl
    ·rw [if_neg (fun h => hs h.2), if_neg hs]
   rw [hvis]
   have hsons : Q.sons S (j : Int) ↔ Q.okN S (S.getD j Q.zS).f1 (j : Int) ∧ Q.okN S (S.getD j Q.zS).f2 (j : Int) := by
    unfold Q.sons
    rw [Int.toNat_natCast]
   by_cases ho1 : Q.okN S (S.getD j Q.zS).f1 (j : Int)
   case neg =>
    rw [if_neg (fun h => ho1 (hsons.1 h).1)]
    exact ⟨(0, false), first _ (side_bad n s t fi S _ _ _ _ _ _ _ ks ho1), rfl⟩
   obtain ⟨r1, hr1, hc1⟩ := ih (S.getD j Q.zS).f1 (ks.set i 0) (by omega) (know_set hk i 0 (.inl rfl)) hRj.1 hR (hoff _ ho1)
   rw [k0, w0] at hc1
   cases hv1 : Q.visP S n (clQ n s t) f (S.getD j Q.zS).f1 (knOf ks ||| 2 ^ i) (wdOf ks) with
   | none =>
    rw [hv1] at hc1
    refine ⟨(0, false), first _ (side_ok n s t fi S _ _ _ _ _ _ _ ks ho1 hj0 hik hk4 r1 _ hr1 (fun h => by rw [show r1.2 = false from hc1] at h; cases h) (fun _ => rfl)), ?_⟩
    split <;> rfl
   | some a =>
    rw [hv1] at hc1
    obtain rfl : r1 = ((a.length : Int), true) := hc1
    have la : a.length + 1 ≤ 32768 := by
     rcases ho1 with h | h
     ·rw [(Q.vis_len S n _ f _ _ _ a hv1).1 h]; decide
     ·exact Nat.le_trans ((Q.vis_len S n _ f _ _ _ a hv1).2 (by omega) h.2) (p15 _ (by omega))
    have ea : wrap64 (1 + (a.length : Int)) = 1 + (a.length : Int) := w_a _ la
    have e01 : wrap64 ((0 : Int) + 1) = 1 := by decide +kernel
    by_cases ho2 : Q.okN S (S.getD j Q.zS).f2 (j : Int)
    case neg =>
     rw [if_neg (fun h => ho2 (hsons.1 h).2)]
     refine ⟨(0, false), first _ (side_ok n s t fi S _ _ _ _ _ _ _ ks ho1 hj0 hik hk4 _ _ hr1 (fun _ => ?_) (fun h => by cases h)), rfl⟩
     rw [e01]
     exact second _ _ (side_bad n s t fi S _ _ _ _ _ _ _ ks ho2)
    rw [if_pos (hsons.2 ⟨ho1, ho2⟩)]
    obtain ⟨r2, hr2, hc2⟩ := ih (S.getD j Q.zS).f2 (ks.set i 1) (by omega) (know_set hk i 1 (.inr rfl)) hRj.2 hR (hoff _ ho2)
    rw [k1, w1] at hc2
    cases hv2 : Q.visP S n (clQ n s t) f (S.getD j Q.zS).f2 (knOf ks ||| 2 ^ i) (wdOf ks ||| 2 ^ i) with
    | none =>
     rw [hv2] at hc2
     refine ⟨(0, false), first _ (side_ok n s t fi S _ _ _ _ _ _ _ ks ho1 hj0 hik hk4 _ _ hr1 (fun _ => ?_) (fun h => by cases h)), rfl⟩
     rw [e01]
     exact second _ _ (side_ok n s t fi S _ _ _ _ _ _ _ ks ho2 hj0 hik hk4 r2 _ hr2 (fun h => by rw [show r2.2 = false from hc2] at h; cases h) (fun _ => rfl))
    | some b =>
     rw [hv2] at hc2
     obtain rfl : r2 = ((b.length : Int), true) := hc2
     have lb : b.length + 1 ≤ 32768 := by
      rcases ho2 with h | h
      ·rw [(Q.vis_len S n _ f _ _ _ b hv2).1 h]; decide
      ·exact Nat.le_trans ((Q.vis_len S n _ f _ _ _ b hv2).2 (by omega) h.2) (p15 _ (by omega))
     refine ⟨((((j :: (a ++ b)).length : Nat) : Int), true), first _ (side_ok n s t fi S _ _ _ _ _ _ _ ks ho1 hj0 hik hk4 _ _ hr1 (fun _ => ?_) (fun h => by cases h)), rfl⟩
     rw [e01]
     refine second _ _ (side_ok n s t fi S _ _ _ _ _ _ _ ks ho2 hj0 hik hk4 _ _ hr2 (fun _ => ?_) (fun h => by cases h))
     have e12 : wrap64 ((1 : Int) + 1) = 2 := by decide +kernel
     rw [e12]
     refine Ev.step (fun k => by rw [spec_l11Checks.l0]) (ev_neg (by decide) (ev_ret ?_))
     have eab := w_ab a.length b.length la lb
     have elen : (((j :: (a ++ b)).length : Nat) : Int) = 1 + (a.length : Int) + (b.length : Int) := by
      rw [List.length_cons, List.length_append, Int.natCast_add, Int.natCast_add, Int.add_comm, Int.add_assoc]
      rfl
     rw [elen]
     show (wrap64 (wrap64 (1 + (a.length : Int)) + (b.length : Int)), true) = _
     rw [ea, eab]
end
def onceG (N : Nat) : List Bool → List Int → Bool
 | _, [] => true
 | seen, x :: xs => if x < 0 then onceG N seen xs else if (N : Int) ≤ x then false else if seen.getD x.toNat false = true then false else onceG N (seen.set x.toNat true) xs
def natL (xs : List Int) : List Nat := xs.flatMap fun x => if x < 0 then [] else [x.toNat]
theorem onceG_iff (N : Nat) : ∀ (xs : List Int) (seen : List Bool), seen.length = N → (onceG N seen xs = true ↔ (natL xs).Nodup ∧ ∀ x ∈ natL xs, x < N ∧ seen.getD x false = false) := by
 intro xs
 induction xs with
 | nil => intro seen _; simp [onceG, natL]
 | cons y ys ih =>
  intro seen hl
  unfold onceG
  by_cases h0 : y < 0
  ·have e : natL (y :: ys) = natL ys := by simp [natL, h0]
   rw [if_pos h0, e]
   exact ih seen hl
  ·have e : natL (y :: ys) = y.toNat :: natL ys := by simp [natL, h0]
   rw [if_neg h0, e]
   by_cases h1 : (N : Int) ≤ y
   ·rw [if_pos h1]
    constructor
    ·intro h; cases h
    ·intro h
     have := (h.2 y.toNat List.mem_cons_self).1
     omega
   ·rw [if_neg h1]
    by_cases h2 : seen.getD y.toNat false = true
    ·rw [if_pos h2]
     constructor
     ·intro h; cases h
     ·intro h
      have := (h.2 y.toNat List.mem_cons_self).2
      rw [h2] at this
      cases this
    ·rw [if_neg h2, ih _ (by rw [List.length_set]; exact hl), List.nodup_cons]
     have hy : seen.getD y.toNat false = false := by
      cases h : seen.getD y.toNat false with
      | false => rfl
      | true => exact absurd h h2
     constructor
     ·rintro ⟨hn, ha⟩
      have hnot : y.toNat ∉ natL ys := fun hm => by
       have := (ha _ hm).2
       rw [Q.set_get, if_pos ⟨rfl, by omega⟩] at this
       cases this
      refine ⟨⟨hnot, hn⟩, fun x hx => ?_⟩
      rcases List.mem_cons.1 hx with rfl | hx
      ·exact ⟨by omega, hy⟩
      ·have h3 := ha x hx
       rw [Q.set_get, if_neg (fun (h : x = y.toNat ∧ x < seen.length) => hnot (h.1 ▸ hx))] at h3
       exact h3
     ·rintro ⟨⟨hnot, hn⟩, ha⟩
      refine ⟨hn, fun x hx => ?_⟩
      have h3 := ha x (List.mem_cons_of_mem _ hx)
      rw [Q.set_get, if_neg (fun (h : x = y.toNat ∧ x < seen.length) => hnot (h.1 ▸ hx))]
      exact h3
def nextL (S : List Q.Sp) (i : Nat) : List Int := [(S.getD i Q.zS).f1, (S.getD i Q.zS).f2]
theorem natL_app (a b : List Int) : natL (a ++ b) = natL a ++ natL b := by simp [natL]
theorem natL_next (S : List Q.Sp) (l : List Nat) : natL (l.flatMap (nextL S)) = l.flatMap (Q.chil S) := by
 induction l with
 | nil => rfl
 | cons i l ih =>
  rw [List.flatMap_cons, List.flatMap_cons, natL_app, ih]
  congr 1
  simp [nextL, natL, Q.chil]
section
variable (fi : Int) (S : List Q.Sp)
theorem once_j (seen : List Bool) (hl : seen.length = S.length) (x4 x5 x6 : Int) (rest : List Int) (h : ∀ seen', seen'.length = S.length → Ev (fun k => spec_l11Once.l1 k seen' x4 (wrap64 (x5 + 1)) fi S) (onceG S.length seen' rest)) :
  Ev (fun k => spec_l11Once.j2 k seen x4 x5 x6 fi S) (onceG S.length seen (x6 :: rest)) := by
 refine Ev.step (fun k => by rw [spec_l11Once.j2]) ?_
 unfold onceG
 by_cases h0 : x6 < 0
 ·rw [if_pos h0]
  exact ev_pos h0 (h seen hl)
 ·rw [if_neg h0]
  refine ev_neg h0 ?_
  by_cases h1 : (S.length : Int) ≤ x6
  ·rw [if_pos h1]
   exact ev_pos h1 (ev_ret rfl)
  ·rw [if_neg h1]
   refine ev_neg h1 (ev_pos (by omega) (ev_pos (by omega) ?_))
   have e : rdOf false seen x6 = seen.getD x6.toNat false := rfl
   by_cases h2 : seen.getD x6.toNat false = true
   ·rw [if_pos h2]
    exact ev_pos (by rw [e]; exact h2) (ev_ret rfl)
   ·rw [if_neg h2]
    exact ev_neg (by rw [e]; exact h2) (h _ (by rw [List.length_set]; exact hl))
theorem once_l (hS : S.length ≤ 1000) : ∀ d i : Nat, i + d = S.length → ∀ seen, seen.length = S.length → Ev (fun k => spec_l11Once.l0 k seen (i : Int) fi S) (onceG S.length seen ((List.range' i d).flatMap (nextL S))) := by
 intro d
 induction d with
 | zero =>
  intro i hi seen hl
  refine Ev.step (fun k => by rw [spec_l11Once.l0]) (ev_neg (by omega) (ev_ret ?_))
  simp [onceG]
 | succ d ih =>
  intro i hi seen hl
  have hrd : rd_T68 S (i : Int) = S.getD i Q.zS := rdS S i
  have e01 : wrap64 ((0 : Int) + 1) = 1 := by decide +kernel
  have e12 : wrap64 ((1 : Int) + 1) = 2 := by decide +kernel
  refine Ev.step (fun k => by rw [spec_l11Once.l0]) (ev_pos (by omega) ?_)
  refine Ev.step (fun k => by rw [spec_l11Once.l1]) (ev_pos (by decide) (ev_pos (by omega) (ev_pos (by omega) (ev_neg (by decide) ?_))))
  rw [hrd]
  have e : (List.range' i (d + 1)).flatMap (nextL S) = (S.getD i Q.zS).f1 :: (S.getD i Q.zS).f2 :: (List.range' (i + 1) d).flatMap (nextL S) := by
   rw [List.range'_succ, List.flatMap_cons]
   rfl
  rw [e]
  refine once_j fi S seen hl _ _ _ _ fun seen1 hl1 => ?_
  rw [e01]
  refine Ev.step (fun k => by rw [spec_l11Once.l1]) (ev_pos (by decide) (ev_pos (by omega) (ev_pos (by omega) (ev_pos rfl ?_))))
  rw [hrd]
  refine once_j fi S seen1 hl1 _ _ _ _ fun seen2 hl2 => ?_
  rw [e12]
  refine Ev.step (fun k => by rw [spec_l11Once.l1]) (ev_neg (by decide) ?_)
  rw [w64s (by omega)]
  exact ih (i + 1) (by omega) seen2 hl2
theorem spec_once (hS : S.length ≤ 1000) : ∃ b : Bool, Ev (fun k => spec_l11Once.f k fi S) b ∧ (b = true ↔ Q.onceP S) := by
 refine ⟨onceG S.length (List.replicate ((S.length : Int)).toNat false) ((List.range' 0 S.length).flatMap (nextL S)), ?_, ?_⟩
 ·unfold spec_l11Once.f
  refine ev_pos (by omega) (ev_pos (by omega) ?_)
  exact once_l fi S hS S.length 0 (by omega) (List.replicate ((S.length : Int)).toNat false) (by rw [List.length_replicate, Int.toNat_natCast])
 ·rw [onceG_iff _ _ _ (by rw [List.length_replicate, Int.toNat_natCast]), natL_next, ← List.range_eq_range']
  unfold Q.onceP
  refine and_congr Iff.rfl ?_
  constructor
  ·intro h i hi x hx
   exact (h x (List.mem_flatMap.2 ⟨i, List.mem_range.2 hi, hx⟩)).1
  ·intro h x hx
   obtain ⟨i, hi, hx⟩ := List.mem_flatMap.1 hx
   exact ⟨h i (List.mem_range.1 hi) x hx, Q.rep_get _ _⟩
end
theorem spec_proofE (n : Int) (hnb : n ≤ 9223372036854775807) (s : List Cl) (h64 : S64 s) (t : List Mk) (ht : M64 t) (htl : t.length < 4611686018427387904) (fi : Int) (S : List Q.Sp) (hP : Prf64 s fi S) :
  ∃ b : Bool, Ev (fun k => spec_ProofOk.f k n s t fi S) b ∧ (b = true ↔ PrfOk n s t fi S) := by
 unfold spec_ProofOk.f
 have stop : Ev (fun k => spec_ProofOk.j0 k n s t true fi S) false := Ev.step (fun k => by rw [spec_ProofOk.j0]) (ev_pos rfl (ev_ret rfl))
 by_cases hS : StoryP n s
 case neg =>
  refine ⟨false, ev_bind ((spec_storyOk n hnb s h64).ev (b := false) ⟨fun h => (by cases h), fun h => absurd h hS⟩) (ev_neg (by decide) stop), ⟨fun h => (by cases h), fun h => absurd h.1 hS⟩⟩
 have h1 := (spec_storyOk n hnb s h64).ev (b := true) ⟨fun _ => hS, fun _ => rfl⟩
 by_cases hT : TermP n t
 case neg =>
  refine ⟨false, ev_bind h1 (ev_pos rfl (ev_bind ((spec_termOk n hnb t ht htl).ev (b := false) ⟨fun h => (by cases h), fun h => absurd h hT⟩) (ev_neg (by decide) stop))), ⟨fun h => (by cases h), fun h => absurd h.2.1 hT⟩⟩
 have h2 := (spec_termOk n hnb t ht htl).ev (b := true) ⟨fun _ => hT, fun _ => rfl⟩
 have go : ∀ {b : Bool}, Ev (fun k => if (S.length : Int) > 15 then (spec_ProofOk.j0 k n s t true fi S) else (if fi > 0 then (spec_ProofOk.j0 k n s t true fi S) else (if fi = 0 then (spec_ProofOk.j0 k n s t ((S.length : Int) == 0) fi S) else (spec_ProofOk.j0 k n s t false fi S)))) b →
   Ev (fun k => (spec_StoryOk.f k n s).bind fun t355 => (if t355 = true then ((spec_TermOk.f k n t).bind fun t356 => (if t356 = true then (if (S.length : Int) > 15 then (spec_ProofOk.j0 k n s t true fi S) else (if fi > 0 then (spec_ProofOk.j0 k n s t true fi S) else (if fi = 0 then (spec_ProofOk.j0 k n s t ((S.length : Int) == 0) fi S) else (spec_ProofOk.j0 k n s t false fi S)))) else (spec_ProofOk.j0 k n s t true fi S))) else (spec_ProofOk.j0 k n s t true fi S))) b :=
  fun h => ev_bind h1 (ev_pos rfl (ev_bind h2 (ev_pos rfl h)))
 by_cases hl : S.length ≤ 15
 case neg => exact ⟨false, go (ev_pos (by omega) stop), ⟨fun h => (by cases h), fun h => absurd h.2.2.1 hl⟩⟩
 have hn := hS.2.1
 obtain ⟨m, rfl⟩ : ∃ m : Nat, n = (m : Int) := ⟨n.toNat, by omega⟩
 -- First is no target: neither
 have none0 : ∀ {fi : Int}, ¬ Q.okN S fi (-1) → ¬ PrfOk (m : Int) s t fi S := by
  intro fi h hp
  have := hp.2.2.2.2.1
  rw [Int.toNat_natCast, Q.chkI] at this
  unfold Q.okN at h
  rw [if_neg (by omega), if_pos (by omega)] at this
  cases this
 by_cases hf1 : fi > 0
 ·refine ⟨false, go (ev_neg (by omega) (ev_pos hf1 stop)), ⟨fun h => (by cases h), fun h => ?_⟩⟩
  by_cases h0 : 0 < S.length
  ·have := h.2.2.2.1 h0; omega
  ·exact absurd h (none0 (by unfold Q.okN; omega))
 by_cases hf2 : fi = 0 ∧ S.length = 0
 ·refine ⟨false, go (ev_neg (by omega) (ev_neg hf1 (ev_pos hf2.1 ?_))), ⟨fun h => (by cases h), fun h => ?_⟩⟩
  ·rw [show ((S.length : Int) == 0) = true by rw [hf2.2]; rfl]
   exact stop
  ·exact absurd h (none0 (by unfold Q.okN; omega))
 have hok : Q.okN S fi (-1) := by unfold Q.okN; omega
 have hoff : fi < 0 ∨ fi < S.length ∧ (S.length : Int) < ((S.length + 2 : Nat) : Int) + fi := by omega
 obtain ⟨r, hr, hc⟩ := spec_checks (s := s) (t := t) (fi := fi) (S := S) hS hT hl (S.length + 2) fi (List.replicate m (-1)) (by omega) (know_nothing m) hP.2.1 hP.2.2 hoff
 obtain ⟨k0, w0⟩ := nothing_of m (by omega)
 rw [k0, w0] at hc
 obtain ⟨bo, hbo, hob⟩ := spec_once fi S (by omega)
 have fin : ∀ b : Bool, Ev (fun k => spec_ProofOk.j1 k b) b := fun b => Ev.step (fun k => by rw [spec_ProofOk.j1]) (ev_ret rfl)
 have main : ∃ b : Bool, Ev (fun k => spec_ProofOk.j0 k (m : Int) s t false fi S) b ∧ (b = true ↔ PrfOk (m : Int) s t fi S) := by
  have hpp : PrfOk (m : Int) s t fi S ↔ (0 < S.length → fi = 0) ∧ ∃ l, Q.visP S m (clQ m s t) (S.length + 2) fi 0 0 = some l ∧ l.Nodup ∧ ∀ i, i < S.length → i ∈ l := by
   unfold PrfOk
   rw [Int.toNat_natCast, Q.okI_iff fi hok]
   exact ⟨fun h => ⟨h.2.2.2.1, h.2.2.2.2⟩, fun h => ⟨hS, hT, hl, h.1, h.2⟩⟩
  rw [hpp]
  cases hv : Q.visP S m (clQ m s t) (S.length + 2) fi 0 0 with
  | none =>
   rw [hv] at hc
   have hneg : ¬ r.2 = true := by rw [show r.2 = false from hc]; decide
   refine ⟨false, Ev.step (fun k => by rw [spec_ProofOk.j0]) (ev_neg (by decide) (ev_bind (spec_nothingE m (by omega)) (ev_bind hr (ev_neg hneg (fin false))))), ⟨fun h => (by cases h), fun h => ?_⟩⟩
   obtain ⟨_, l, h, _⟩ := h
   cases h
  | some l =>
   rw [hv] at hc
   obtain rfl : r = ((l.length : Int), true) := hc
   have step : ∀ {b : Bool}, Ev (fun k => if ((l.length : Int)) = (S.length : Int) then ((spec_l11Once.f k fi S).bind fun t362 => (spec_ProofOk.j1 k t362)) else (spec_ProofOk.j1 k false)) b → Ev (fun k => spec_ProofOk.j0 k (m : Int) s t false fi S) b := fun h =>
    Ev.step (fun k => by rw [spec_ProofOk.j0]) (ev_neg (by decide) (ev_bind (spec_nothingE m (by omega)) (ev_bind hr (ev_pos rfl h))))
   have he : (∃ l', some l = some l' ∧ l'.Nodup ∧ ∀ i, i < S.length → i ∈ l') ↔ l.Nodup ∧ ∀ i, i < S.length → i ∈ l :=
    ⟨fun ⟨l', e, h⟩ => by cases e; exact h, fun h => ⟨l, rfl, h⟩⟩
   rw [he]
   by_cases hlen : (l.length : Int) = (S.length : Int)
   ·refine ⟨bo, step (ev_pos hlen (ev_bind hbo (fin bo))), ?_⟩
    by_cases hz : fi < 0
    ·have l0 := (Q.vis_len S m _ _ fi 0 0 l hv).1 hz
     subst l0
     have hS0 : S.length = 0 := by simp at hlen; omega
     have hSn : S = [] := List.eq_nil_of_length_eq_zero hS0
     rw [hob]
     subst hSn
     simp [Q.onceP]
    ·rw [hob, Q.all_once (S.length + 2) fi l (.inr (by omega)) (by omega) hv]
     refine ⟨fun h => ⟨fun _ => by omega, by omega, h⟩, fun h => h.2.2⟩
   ·refine ⟨false, step (ev_neg hlen (fin false)), ⟨fun h => (by cases h), fun h => ?_⟩⟩
    by_cases hz : fi < 0
    ·have := (Q.vis_len S m _ _ fi 0 0 l hv).1 hz
     subst this
     have h0 : 0 < S.length := by simp at hlen; omega
     have := h.1 h0
     omega
    ·have := ((Q.all_once (S.length + 2) fi l (.inr (by omega)) (by omega) hv).1 h.2).1
     omega
 obtain ⟨b, hb, hib⟩ := main
 refine ⟨b, go (ev_neg (by omega) (ev_neg hf1 ?_)), hib⟩
 by_cases h0 : fi = 0
 ·refine ev_pos h0 ?_
  rw [show ((S.length : Int) == 0) = false from beq_eq_false_iff_ne.2 (by omega)]
  exact hb
 ·exact ev_neg h0 hb
theorem impl_proofE (n : Int) (s : List Cl) (t : List Mk) (fi : Int) (S : List Q.Sp) (h : Prf64 s fi S) (b : Bool) (hb : b = true ↔ PrfOk n s t fi S) : impl_ProofOk.f n s t fi S = some b := by
 unfold impl_ProofOk.f
 rw [if_pos h]
 congr 1
 rw [Bool.eq_iff_iff, hb]
 exact @decide_eq_true_iff _ (Classical.propDecidable _)
def digS (j : Nat) : ByteArray := ⟨#[UInt8.ofNat (48 + j)]⟩
def letS (i : Nat) : ByteArray := ⟨#[UInt8.ofNat (97 + i)]⟩
def txtB (S : List Q.Sp) : Nat → Int → ByteArray
 | 0, _ => ⟨#[]⟩
 | f + 1, tgt => if tgt = -1 then ⟨#[42]⟩ else if tgt < 0 then digS (-2 - tgt).toNat
  else letS (S.getD tgt.toNat Q.zS).f0.toNat ++ ⟨#[40]⟩ ++ txtB S f (S.getD tgt.toNat Q.zS).f1 ++ ⟨#[44]⟩ ++ txtB S f (S.getD tgt.toNat Q.zS).f2 ++ ⟨#[41]⟩
theorem let_facts (i : Nat) (h : i < 4) : strOfNums [(wrap64 (97 + (i : Int))) % 256] = letS i ∧ (⟨#[97, 98, 99, 100]⟩ : ByteArray).extract i (i + 1) = letS i := by
 have F : ∀ i : Fin 4, strOfNums [(wrap64 (97 + (i.val : Int))) % 256] = letS i.val ∧ (⟨#[97, 98, 99, 100]⟩ : ByteArray).extract i.val (i.val + 1) = letS i.val := by decide +kernel
 exact F ⟨i, h⟩
theorem dig_facts (j : Nat) (h : j < 6) : strOfNums [(wrap64 (48 + (mx (j : Int) 0))) % 256] = digS j := by
 have F : ∀ j : Fin 6, strOfNums [(wrap64 (48 + (mx (j.val : Int) 0))) % 256] = digS j.val := by decide +kernel
 exact F ⟨j, h⟩
theorem letS_size (i : Nat) : (letS i).size = 1 := rfl
section
variable {n : Nat} {s : List Cl} {t : List Mk} {S : List Q.Sp} {fi : Int}
theorem cl_leaf {kn wd : Nat} {tgt : Int} (h0 : tgt < 0) (h : clQ n s t kn wd tgt = true) : tgt = -1 ∨ ∃ j : Nat, j < s.length ∧ tgt = -2 - (j : Int) := by
 unfold clQ Q.clM at h
 by_cases h1 : tgt = -1
 ·exact .inl h1
 ·rw [if_neg h1] at h
  by_cases h2 : 0 ≤ -2 - tgt ∧ -2 - tgt < (s.length : Int)
  ·exact .inr ⟨(-2 - tgt).toNat, by omega, by omega⟩
  ·rw [if_neg h2] at h; cases h
theorem txt_size : ∀ (f : Nat) (tgt : Int) (kn wd : Nat) (l : List Nat), Q.visP S n (clQ n s t) f tgt kn wd = some l → (txtB S f tgt).size = 5 * l.length + 1 := by
 intro f
 induction f with
 | zero => intro tgt kn wd l h; cases h
 | succ f ih =>
  intro tgt kn wd l h
  unfold txtB
  by_cases h0 : tgt < 0
  ·rw [Q.vis_neg h0] at h
   split at h
   ·cases h
    by_cases h1 : tgt = -1
    ·rw [if_pos h1]; rfl
    ·rw [if_neg h1, if_pos h0]; rfl
   ·cases h
  ·obtain ⟨hn, hs, a, b, ha, hb, rfl⟩ := Q.vis_some h0 h
   rw [if_neg (by omega), if_neg h0]
   simp only [ByteArray.size_append, letS_size, ih _ _ _ _ ha, ih _ _ _ _ hb, List.length_cons, List.length_append]
   show 1 + 1 + (5 * a.length + 1) + 1 + (5 * b.length + 1) + 1 = _
   omega
theorem txt_E (hn4 : n ≤ 4) (h6 : s.length ≤ 6) (h15 : S.length ≤ 15) : ∀ (f : Nat) (tgt : Int) (kn wd : Nat) (l : List Nat), (tgt < 0 ∨ tgt < S.length) → Q.visP S n (clQ n s t) f tgt kn wd = some l →
  Ev (fun k => impl_caseText.f k fi S tgt) (txtB S f tgt) ∧ Ev (fun k => spec_l11Text.f k fi S tgt) (txtB S f tgt) := by
 intro f
 induction f with
 | zero => intro tgt kn wd l _ h; cases h
 | succ f ih =>
  intro tgt kn wd l hto h
  unfold txtB
  by_cases h0 : tgt < 0
  ·rw [Q.vis_neg h0] at h
   split at h
   ·rename_i hc
    rcases cl_leaf h0 hc with rfl | ⟨j, hj, rfl⟩
    ·rw [if_pos rfl]
     exact ⟨Ev.step (fun k => by rw [impl_caseText.f]) (ev_pos rfl (ev_ret rfl)), Ev.step (fun k => by rw [spec_l11Text.f]) (ev_pos rfl (ev_ret rfl))⟩
    ·rw [if_neg (by omega), if_pos h0, show (-2 - (-2 - (j : Int))).toNat = j by omega]
     have e1 : wrap64 (-2 - (-2 - (j : Int))) = (j : Int) := by rw [Go.Proofs.YtcaogllnbpmcgaaDoor.M.w64 (by omega) (by omega)]; omega
     have eI : strconv_Itoa_56.f (j : Int) = some (digS j) := by
      unfold strconv_Itoa_56.f digS
      rw [if_pos (by omega), Int.toNat_natCast]
     refine ⟨Ev.step (fun k => by rw [impl_caseText.f]) (ev_neg (by omega) (ev_pos h0 ?_)), Ev.step (fun k => by rw [spec_l11Text.f]) (ev_neg (by omega) (ev_pos h0 ?_))⟩
     ·rw [e1]
      exact ev_bindc eI (ev_ret rfl)
     ·rw [e1]
      refine ev_bind (a := digS j) (Ev.step (fun k => by rw [spec_l1Number.f]) (ev_pos (by omega) (ev_ret ?_))) (ev_ret rfl)
      exact dig_facts j (by omega)
   ·cases h
  ·obtain ⟨i, rfl⟩ : ∃ i : Nat, tgt = (i : Int) := ⟨tgt.toNat, by omega⟩
   have hi : i < S.length := by omega
   obtain ⟨hnode, hs, a, b, ha, hb, rfl⟩ := Q.vis_some h0 h
   have e1 := hs.1
   have e2 := hs.2
   unfold Q.okN at e1 e2
   have la := (Q.vis_len S n _ f _ _ _ a ha)
   have lb := (Q.vis_len S n _ f _ _ _ b hb)
   have bound : ∀ {c : List Nat} {x : Int}, (x < 0 ∨ ((i : Int) < x ∧ x < S.length)) → ((x < 0 → c = []) ∧ (0 ≤ x → x < S.length → c.length + 1 ≤ 2 ^ (S.length - x.toNat))) → c.length ≤ 32768 := fun {c x} hx hc => by
    rcases hx with hx | hx
    ·rw [hc.1 hx]; exact Nat.zero_le _
    ·have := Nat.le_trans (hc.2 (by omega) hx.2) (p15 (S.length - x.toNat) (by omega))
     omega
   have ba := bound e1 la
   have bb := bound e2 lb
   obtain ⟨ia, sa⟩ := ih _ _ _ a (by omega) ha
   obtain ⟨ib, sb⟩ := ih _ _ _ b (by omega) hb
   have za := txt_size _ _ _ _ _ ha
   have zb := txt_size _ _ _ _ _ hb
   unfold Q.nodeP at hnode
   rw [Int.toNat_natCast] at hnode ia sa ib sb za zb ⊢
   obtain ⟨who, hw⟩ : ∃ who : Nat, (S.getD i Q.zS).f0 = (who : Int) := ⟨(S.getD i Q.zS).f0.toNat, by omega⟩
   have hw4 : who < 4 := by omega
   obtain ⟨f1, f2⟩ := let_facts who hw4
   have hrd : rd_T68 S (i : Int) = S.getD i Q.zS := rdS S i
   have ew : wrap64 ((who : Int) + 1) = ((who + 1 : Nat) : Int) := w64s (by omega)
   obtain ⟨A, hA⟩ : ∃ A, txtB S f (S.getD i Q.zS).f1 = A := ⟨_, rfl⟩
   obtain ⟨B, hB⟩ : ∃ B, txtB S f (S.getD i Q.zS).f2 = B := ⟨_, rfl⟩
   rw [hA] at ia sa za ⊢
   rw [hB] at ib sb zb ⊢
   rw [if_neg (by omega), if_neg h0, hw, Int.toNat_natCast]
   have sz : ∀ (x y : ByteArray), (x ++ y).size = x.size + y.size := fun x y => ByteArray.size_append
   have z40 : (⟨#[40]⟩ : ByteArray).size = 1 := rfl
   have z44 : (⟨#[44]⟩ : ByteArray).size = 1 := rfl
   refine ⟨Ev.step (fun k => by rw [impl_caseText.f]) (ev_neg (by omega) (ev_neg h0 (ev_pos (by omega) (ev_pos (by omega) (ev_bindc rfl ?_))))), Ev.step (fun k => by rw [spec_l11Text.f]) (ev_neg (by omega) (ev_neg h0 (ev_pos (by omega) (ev_pos (by omega) ?_))))⟩
   ·rw [hrd, hw, f1]
    refine ev_pos (by rw [letS_size]; decide) (ev_bind ia (ev_pos (by rw [sz, letS_size, z40, za]; omega) (ev_pos (by rw [sz, sz, letS_size, z40, za]; omega) (ev_bind ib (ev_pos (by rw [sz, sz, sz, letS_size, z40, z44, za, zb]; omega) (ev_pos (by rw [sz, sz, sz, sz, letS_size, z40, z44, za, zb]; omega) (ev_ret rfl)))))))
   ·rw [hrd, hw, ew, Int.toNat_natCast, Int.toNat_natCast, f2]
    refine ev_pos (by omega) (ev_pos (by omega) (ev_pos (by omega) (ev_pos (by rw [letS_size]; decide) (ev_bind sa (ev_pos (by rw [sz, letS_size, z40, za]; omega) (ev_pos (by rw [sz, sz, letS_size, z40, za]; omega) (ev_bind sb (ev_pos (by rw [sz, sz, sz, letS_size, z40, z44, za, zb]; omega) (ev_pos (by rw [sz, sz, sz, sz, letS_size, z40, z44, za, zb]; omega) (ev_ret rfl))))))))))
end
noncomputable def textF (n : Int) (s : List Cl) (t : List Mk) (fi : Int) (S : List Q.Sp) : ByteArray := @ite _ (PrfOk n s t fi S) (Classical.propDecidable _) (txtB S (S.length + 2) fi) ⟨#[]⟩
theorem prf_vis {n : Nat} {s : List Cl} {t : List Mk} {fi : Int} {S : List Q.Sp} (h : PrfOk (n : Int) s t fi S) : ∃ l, Q.visP S n (clQ n s t) (S.length + 2) fi 0 0 = some l ∧ l.Nodup ∧ ∀ i, i < S.length → i ∈ l := by
 have h5 := h.2.2.2.2
 rw [Int.toNat_natCast] at h5
 have hok : Q.okN S fi (-1) := by
  obtain ⟨c1, _⟩ := Q.chk_iff (S := S) (n := n) (cl := clQ n s t) (S.length + 2) fi (-1) 0 0 (List.replicate S.length false) (by simp) (by omega)
  exact (c1.1 h5.1).1
 exact (Q.okI_iff fi hok).1 h5
theorem prf_okN {n : Nat} {s : List Cl} {t : List Mk} {fi : Int} {S : List Q.Sp} (h : PrfOk (n : Int) s t fi S) : Q.okN S fi (-1) := by
 have h5 := h.2.2.2.2
 rw [Int.toNat_natCast] at h5
 obtain ⟨c1, _⟩ := Q.chk_iff (S := S) (n := n) (cl := clQ n s t) (S.length + 2) fi (-1) 0 0 (List.replicate S.length false) (by simp) (by omega)
 exact (c1.1 h5.1).1
theorem text_yes {n : Int} {s : List Cl} {t : List Mk} {fi : Int} {S : List Q.Sp} (h : PrfOk n s t fi S) : textF n s t fi S = txtB S (S.length + 2) fi := by
 unfold textF
 rw [if_pos h]
theorem text_no {n : Int} {s : List Cl} {t : List Mk} {fi : Int} {S : List Q.Sp} (h : ¬ PrfOk n s t fi S) : textF n s t fi S = ⟨#[]⟩ := by
 unfold textF
 rw [if_neg h]
theorem case_both {n : Int} {s : List Cl} {t : List Mk} {fi : Int} {S : List Q.Sp} (h : PrfOk n s t fi S) :
  Ev (fun k => impl_caseText.f k fi S fi) (textF n s t fi S) ∧ Ev (fun k => spec_l11Text.f k fi S fi) (textF n s t fi S) := by
 have hS := h.1
 have hn := hS.2.1
 obtain ⟨m, rfl⟩ : ∃ m : Nat, n = (m : Int) := ⟨n.toNat, by omega⟩
 rw [text_yes h]
 obtain ⟨l, hv, _⟩ := prf_vis h
 have hok := prf_okN h
 unfold Q.okN at hok
 exact txt_E (by omega) hS.2.2 h.2.2.1 _ _ _ _ l (by omega) hv
theorem impl_textE (n : Int) (s : List Cl) (t : List Mk) (fi : Int) (S : List Q.Sp) (h64 : Prf64 s fi S) (b : Bool) (hb : b = true ↔ PrfOk n s t fi S) : Ev (fun k => impl_ProofText.f k n s t fi S) (textF n s t fi S) := by
 unfold impl_ProofText.f
 refine ev_bindc (impl_proofE n s t fi S h64 b hb) ?_
 cases b with
 | true => exact ev_pos rfl (ev_bind (case_both (hb.1 rfl)).1 (ev_ret rfl))
 | false =>
  rw [text_no fun h => Bool.noConfusion (hb.2 h)]
  exact ev_neg (by decide) (ev_ret rfl)
theorem spec_textE (n : Int) (hnb : n ≤ 9223372036854775807) (s : List Cl) (h64 : S64 s) (t : List Mk) (ht : M64 t) (htl : t.length < 4611686018427387904) (fi : Int) (S : List Q.Sp) (hP : Prf64 s fi S) : Ev (fun k => spec_ProofText.f k n s t fi S) (textF n s t fi S) := by
 obtain ⟨b, hb, hi⟩ := spec_proofE n hnb s h64 t ht htl fi S hP
 unfold spec_ProofText.f
 refine ev_bind hb ?_
 cases b with
 | true => exact ev_pos rfl (ev_bind (case_both (hi.1 rfl)).2 (ev_ret rfl))
 | false =>
  rw [text_no fun h => Bool.noConfusion (hi.2 h)]
  exact ev_neg (by decide) (ev_ret rfl)
end Go.Proofs.YtcaogllnbpmcgaaDoor.M
namespace Go.Proofs.YtcaogllnbpmcgaaDoor.Q
open Go Go.Proofs.YtcaogllnbpmcgaaDoor.P
inductive Is (S : List Sp) : Int → Tr → Prop where
 | leaf (x : Int) (h : x < 0) : Is S x (.leaf x)
 | node (tgt : Int) (who : Nat) (x y : Int) (a b : Tr) (h : 0 ≤ tgt) (e : S.getD tgt.toNat zS = ⟨(who : Int), x, y⟩) (ha : Is S x a) (hb : Is S y b) : Is S tgt (.node who a b)
def Placed (S : List Sp) (L : Nat) (T : Tr) : Prop := ∀ j, j < T.nodes → S.getD (L + j) zS = (T.lay L).1.getD j zS
theorem app_at (a b : List Sp) (j : Nat) : (a ++ b).getD j zS = if j < a.length then a.getD j zS else b.getD (j - a.length) zS := by
 by_cases h : j < a.length
 ·rw [if_pos h, List.getD_eq_getElem?_getD, List.getElem?_append_left h, ← List.getD_eq_getElem?_getD]
 ·rw [if_neg h, List.getD_eq_getElem?_getD, List.getElem?_append_right (by omega), ← List.getD_eq_getElem?_getD]
theorem placed_node {S : List Sp} {L who : Nat} {a b : Tr} (h : Placed S L (.node who a b)) : S.getD L zS = ⟨(who : Int), (a.lay (L + 1)).2, (b.lay (L + 1 + a.nodes)).2⟩ ∧ Placed S (L + 1) a ∧ Placed S (L + 1 + a.nodes) b := by
 have hla := Tr.lay_len a (L + 1)
 have hlb := Tr.lay_len b (L + 1 + a.nodes)
 refine ⟨h 0 (by simp [Tr.nodes]), fun j hj => ?_, fun j hj => ?_⟩
 ·have := h (j + 1) (by simp only [Tr.nodes]; omega)
  rw [show L + (j + 1) = L + 1 + j by omega] at this
  rw [this]
  simp only [Tr.lay, List.getD_cons_succ]
  rw [app_at, if_pos (by omega)]
 ·have := h (a.nodes + j + 1) (by simp only [Tr.nodes]; omega)
  rw [show L + (a.nodes + j + 1) = L + 1 + a.nodes + j by omega] at this
  rw [this]
  simp only [Tr.lay, List.getD_cons_succ]
  rw [app_at, if_neg (by omega), hla, show a.nodes + j - a.nodes = j by omega]
theorem placed_lay (T : Tr) : Placed (T.lay 0).1 0 T := fun j _ => by rw [Nat.zero_add]
theorem lay_neg {W D : Nat} : ∀ (T : Tr) (L : Nat), T.Ok W D → (T.lay L).2 < 0 ∧ T.nodes = 0 ∨ (T.lay L).2 = (L : Int) ∧ 0 < T.nodes
 | .leaf x, L, h => .inl ⟨by rcases h with rfl | ⟨j, _, rfl⟩ <;> (show _ < _) <;> simp only [Tr.lay] <;> omega, rfl⟩
 | .node who a b, L, h => .inr ⟨rfl, Nat.succ_pos _⟩
theorem lay_is {S : List Sp} {W D : Nat} : ∀ (T : Tr) (L : Nat), T.Ok W D → Placed S L T → Is S (T.lay L).2 T
 | .leaf x, L, h, _ => .leaf x (by rcases h with rfl | ⟨j, _, rfl⟩ <;> omega)
 | .node who a b, L, h, hp => by
  obtain ⟨h0, pa, pb⟩ := placed_node hp
  exact .node _ who _ _ a b (by simp only [Tr.lay]; omega) (by simp only [Tr.lay, Int.toNat_natCast]; exact h0) (lay_is a (L + 1) h.2.1 pa) (lay_is b (L + 1 + a.nodes) h.2.2 pb)
theorem vis_tree {S : List Sp} {n D : Nat} {cl : Nat → Nat → Int → Bool} (hcl : ∀ kn wd t, t < 0 → cl kn wd t = true → t = -1 ∨ ∃ j : Nat, j < D ∧ t = -2 - (j : Int)) : ∀ (f : Nat) (tgt : Int) (kn wd : Nat) (l : List Nat), visP S n cl f tgt kn wd = some l →
  ∃ T : Tr, Is S tgt T ∧ T.nodes = l.length ∧ T.Ok n D := by
 intro f
 induction f with
 | zero => intro tgt kn wd l h; cases h
 | succ f ih =>
  intro tgt kn wd l h
  by_cases h0 : tgt < 0
  ·rw [vis_neg h0] at h
   split at h
   ·rename_i hc
    cases h
    exact ⟨.leaf tgt, .leaf tgt h0, rfl, hcl kn wd tgt h0 hc⟩
   ·cases h
  ·obtain ⟨hn, hs, l1, l2, e1, e2, rfl⟩ := vis_some h0 h
   obtain ⟨A, iA, nA, oA⟩ := ih _ _ _ _ e1
   obtain ⟨B, iB, nB, oB⟩ := ih _ _ _ _ e2
   obtain ⟨n1, n2, _⟩ := hn
   refine ⟨.node (S.getD tgt.toNat zS).f0.toNat A B, .node tgt _ _ _ A B (by omega) ?_ iA iB, ?_, by omega, oA, oB⟩
   ·rw [Int.toNat_of_nonneg n1]
   ·simp only [Tr.nodes, List.length_cons, List.length_append, nA, nB]
theorem vis_lay {S S' : List Sp} {n W D : Nat} {cl : Nat → Nat → Int → Bool} : ∀ (T : Tr) (f : Nat) (tgt : Int) (kn wd L : Nat) (l : List Nat), T.Ok W D → Is S tgt T → visP S n cl f tgt kn wd = some l → Placed S' L T → L + T.nodes ≤ S'.length →
  visP S' n cl f (T.lay L).2 kn wd = some (List.range' L T.nodes) := by
 intro T
 induction T with
 | leaf x =>
  intro f tgt kn wd L l ho hi h hp hL
  cases hi with
  | leaf _ hx =>
   cases f with
   | zero => cases h
   | succ f =>
    show visP S' n cl (f + 1) x kn wd = some []
    rw [vis_neg hx] at h ⊢
    split at h
    ·rename_i hc
     rw [if_pos hc]
    ·cases h
 | node who a b iha ihb =>
  intro f tgt kn wd L l ho hi h hp hL
  cases hi with
  | node _ _ x y _ _ h0 e ia ib =>
   cases f with
   | zero => cases h
   | succ f =>
    obtain ⟨hn, hs, l1, l2, e1, e2, rfl⟩ := vis_some (by omega) h
    obtain ⟨n1, n2, n3⟩ := hn
    rw [e] at n1 n2 n3 e1 e2
    simp only [Int.toNat_natCast] at n1 n2 n3 e1 e2
    obtain ⟨p0, pa, pb⟩ := placed_node hp
    simp only [Tr.nodes] at hL
    have ja := iha f x _ _ (L + 1) l1 ho.2.1 ia e1 pa (by omega)
    have jb := ihb f y _ _ (L + 1 + a.nodes) l2 ho.2.2 ib e2 pb (by omega)
    have p0' : S'.getD ((L : Int)).toNat zS = ⟨(who : Int), (a.lay (L + 1)).2, (b.lay (L + 1 + a.nodes)).2⟩ := by rw [Int.toNat_natCast]; exact p0
    have sA : okN S' (a.lay (L + 1)).2 (L : Int) := by
     rcases lay_neg a (L + 1) ho.2.1 with ⟨q, _⟩ | ⟨q, q2⟩
     ·exact .inl q
     ·exact .inr ⟨by rw [q]; omega, by rw [q]; omega⟩
    have sB : okN S' (b.lay (L + 1 + a.nodes)).2 (L : Int) := by
     rcases lay_neg b (L + 1 + a.nodes) ho.2.2 with ⟨q, _⟩ | ⟨q, q2⟩
     ·exact .inl q
     ·exact .inr ⟨by rw [q]; omega, by rw [q]; omega⟩
    have := vis_node (S := S') (n := n) (cl := cl) (f := f) (tgt := (L : Int)) (kn := kn) (wd := wd) (a := List.range' (L + 1) a.nodes) (b := List.range' (L + 1 + a.nodes) b.nodes) (by omega)
     ⟨by rw [p0']; exact n1, by rw [p0']; exact n2, by rw [p0']; simp only [Int.toNat_natCast]; exact n3⟩
     ⟨by rw [p0']; exact sA, by rw [p0']; exact sB⟩
     (by rw [p0']; simp only [Int.toNat_natCast]; exact ja) (by rw [p0']; simp only [Int.toNat_natCast]; exact jb)
    refine this.trans ?_
    simp only [Tr.nodes, Int.toNat_natCast]
    rw [List.range'_succ, List.range'_append_1]
end Go.Proofs.YtcaogllnbpmcgaaDoor.Q
namespace Go.Proofs.YtcaogllnbpmcgaaDoor.M
open Go Go.RowKit Go.Proofs.YtcaogllnbpmcgaaDoorW.PrintWords Go.Proofs.YtcaogllnbpmcgaaDoor.P
theorem bl_app (a b : ByteArray) : bl (a ++ b) = bl a ++ bl b := by
 unfold bl
 rw [ByteArray.data_append, Array.toList_append, List.map_append]
theorem bl_let (i : Nat) (h : i < 4) : bl (letS i) = [97 + (i : Int)] := by
 have F : ∀ i : Fin 4, bl (letS i.val) = [97 + (i.val : Int)] := by decide +kernel
 exact F ⟨i, h⟩
theorem bl_dig (j : Nat) (h : j < 6) : bl (digS j) = [48 + (j : Int)] := by
 have F : ∀ i : Fin 6, bl (digS i.val) = [48 + (i.val : Int)] := by decide +kernel
 exact F ⟨j, h⟩
theorem txt_is {S : List Q.Sp} : ∀ (T : Q.Tr) (f : Nat) (tgt : Int), Q.Is S tgt T → T.Ok 4 6 → T.nodes < f → bl (txtB S f tgt) = T.txt := by
 intro T
 induction T with
 | leaf x =>
  intro f tgt hi ho hf
  cases hi with
  | leaf _ hx =>
   cases f with
   | zero => exact absurd hf (Nat.not_lt_zero _)
   | succ f =>
    unfold txtB Q.Tr.txt
    rcases ho with rfl | ⟨j, hj, rfl⟩
    ·rfl
    ·rw [if_neg (by omega), if_pos hx, if_neg (by omega), show (-2 - (-2 - (j : Int))).toNat = j by omega, bl_dig j hj, show -2 - (-2 - (j : Int)) = (j : Int) by omega]
 | node who a b iha ihb =>
  intro f tgt hi ho hf
  cases hi with
  | node _ _ x y _ _ h0 e ia ib =>
   cases f with
   | zero => exact absurd hf (Nat.not_lt_zero _)
   | succ f =>
    simp only [Q.Tr.nodes] at hf
    unfold txtB Q.Tr.txt
    rw [if_neg (by omega), if_neg (by omega), e]
    simp only [Int.toNat_natCast, bl_app]
    rw [iha f x ia ho.2.1 (by omega), ihb f y ib ho.2.2 (by omega), bl_let who ho.1, show bl (⟨#[40]⟩ : ByteArray) = [40] from rfl, show bl (⟨#[44]⟩ : ByteArray) = [44] from rfl, show bl (⟨#[41]⟩ : ByteArray) = [41] from rfl]
    simp
section
variable {n : Int} {s : List Cl} {t : List Mk}
theorem ok_mono {W D W' D' : Nat} (hW : W ≤ W') (hD : D ≤ D') : ∀ T : Q.Tr, T.Ok W D → T.Ok W' D'
 | .leaf x, h => by
  rcases h with h | ⟨j, hj, h⟩
  ·exact .inl h
  ·exact .inr ⟨j, by omega, h⟩
 | .node _ a b, h => ⟨Nat.lt_of_lt_of_le h.1 hW, ok_mono hW hD a h.2.1, ok_mono hW hD b h.2.2⟩
theorem prf_nat {fi : Int} {S : List Q.Sp} (h : PrfOk n s t fi S) : ∃ m : Nat, n = (m : Int) ∧ m ≤ 4 ∧ s.length ≤ 6 := by
 have hn := h.1.2.1
 exact ⟨n.toNat, by omega, by omega, h.1.2.2⟩
theorem lay_text {W D : Nat} {T : Q.Tr} (hT : T.Ok W D) (h : PrfOk n s t (T.lay 0).2 (T.lay 0).1) : T.Ok 4 6 ∧ T.nodes ≤ 15 ∧ bl (textF n s t (T.lay 0).2 (T.lay 0).1) = T.txt := by
 obtain ⟨m, rfl, hm, h6⟩ := prf_nat h
 obtain ⟨l, hv, _⟩ := prf_vis h
 have hl := Q.Tr.lay_len T 0
 have h15 := h.2.2.1
 have o4 : T.Ok 4 6 := ok_mono hm h6 T (Q.lay_ok (D := s.length) (fun kn wd t h0 hc => cl_leaf h0 hc) T 0 _ 0 0 l hT hv fun j _ => by rw [Nat.zero_add])
 refine ⟨o4, by omega, ?_⟩
 rw [text_yes h]
 exact txt_is T _ _ (Q.lay_is T 0 o4 (Q.placed_lay T)) o4 (by omega)
theorem prf_lay {fi : Int} {S : List Q.Sp} (h : PrfOk n s t fi S) : ∃ T : Q.Tr, T.Ok 4 6 ∧ T.nodes = S.length ∧ bl (textF n s t fi S) = T.txt ∧ PrfOk n s t (T.lay 0).2 (T.lay 0).1 := by
 obtain ⟨m, rfl, hm, h6⟩ := prf_nat h
 obtain ⟨l, hv, hnd, hall⟩ := prf_vis h
 have hok := prf_okN h
 unfold Q.okN at hok
 obtain ⟨T, hi, hnl, ho⟩ := Q.vis_tree (D := s.length) (fun kn wd t h0 hc => cl_leaf h0 hc) _ _ _ _ _ hv
 have o4 : T.Ok 4 6 := ok_mono hm h6 T ho
 have hlen : l.length = S.length := by
  have hp : l.Perm (List.range S.length) := by
   refine (List.perm_ext_iff_of_nodup hnd List.nodup_range).2 fun x => ?_
   rw [List.mem_range]
   exact ⟨fun hx => (Q.vis_lt _ _ _ _ _ (by omega) hv x hx).1, hall x⟩
  rw [hp.length_eq, List.length_range]
 have hnS : T.nodes = S.length := by omega
 have hll := Q.Tr.lay_len T 0
 have hv' := Q.vis_lay (S' := (T.lay 0).1) T _ _ _ _ 0 l o4 hi hv (Q.placed_lay T) (by omega)
 have hln := Q.lay_neg T 0 o4
 refine ⟨T, o4, hnS, ?_, h.1, h.2.1, by rw [hll, hnS]; exact h.2.2.1, fun h0 => by omega, ?_⟩
 ·rw [text_yes h]
  exact txt_is T _ _ hi o4 (by omega)
 ·rw [Int.toNat_natCast, Q.okI_iff _ (by unfold Q.okN; omega)]
  refine ⟨_, by rw [hll, hnS]; exact hv', List.nodup_range', fun i hi => List.mem_range'_1.2 (by omega)⟩
noncomputable def readF (n : Int) (s : List Cl) (t : List Mk) (x : ByteArray) : Int × List Q.Sp × Bool :=
 if 200 < x.size then (0, [], false) else
 match Q.readG 4 6 15 (x.size + 1) 0 (bl x) with
 | some (a, y, []) => @ite _ (PrfOk n s t y a) (Classical.propDecidable _) (y, a, true) (0, [], false)
 | _ => (0, [], false)
theorem text_iff {W D M f : Nat} (hD : D ≤ 10) {x : ByteArray} {a : List Q.Sp} {y : Int} (hx : Q.readG W D M f 0 (bl x) = some (a, y, [])) : textF n s t y a = x ↔ PrfOk n s t y a := by
 obtain ⟨T, hT, ht, hl, _⟩ := Q.readG_sound hD _ _ _ _ _ _ hx
 rw [List.append_nil] at ht
 obtain rfl : a = (T.lay 0).1 := congrArg Prod.fst hl
 obtain rfl : y = (T.lay 0).2 := congrArg Prod.snd hl
 constructor
 ·intro h
  refine Classical.byContradiction fun hn => ?_
  rw [text_no hn] at h
  have := T.txt_pos
  rw [← ht, ← h] at this
  exact absurd this (by decide)
 ·intro h
  exact bl_inj ((lay_text hT h).2.2.trans ht.symm)
theorem readF_G (x : ByteArray) (h : x.size ≤ 200) : readF n s t x = match Q.readG 4 6 15 (x.size + 1) 0 (bl x) with
 | some (a, y, []) => @ite _ (PrfOk n s t y a) (Classical.propDecidable _) (y, a, true) (0, [], false)
 | _ => (0, [], false) := by
 unfold readF
 rw [if_neg (by omega)]
theorem readF_yes (x : ByteArray) (h : x.size ≤ 200) {a : List Q.Sp} {y : Int} (hr : Q.readG 4 6 15 (x.size + 1) 0 (bl x) = some (a, y, [])) (hp : PrfOk n s t y a) : readF n s t x = (y, a, true) := by
 rw [readF_G x h, hr]
 exact if_pos hp
theorem readF_no (x : ByteArray) (h : ∀ a y, x.size ≤ 200 → Q.readG 4 6 15 (x.size + 1) 0 (bl x) = some (a, y, []) → ¬ PrfOk n s t y a) : readF n s t x = (0, [], false) := by
 unfold readF
 split
 ·rfl
 ·split
  ·rename_i a y e
   exact if_neg (h a y (by omega) e)
  ·rfl
theorem readF_true {x : ByteArray} (h : (readF n s t x).2.2 = true) : x.size ≤ 200 ∧ ∃ T : Q.Tr, T.Ok 4 6 ∧ T.nodes ≤ 15 ∧ bl x = T.txt ∧ PrfOk n s t (T.lay 0).2 (T.lay 0).1 ∧ readF n s t x = ((T.lay 0).2, (T.lay 0).1, true) := by
 by_cases h2 : x.size ≤ 200
 case neg => unfold readF at h; rw [if_pos (by omega)] at h; cases h
 refine ⟨h2, ?_⟩
 have e := readF_G (n := n) (s := s) (t := t) x h2
 rw [e] at h ⊢
 split at h
 ·rename_i a y hr
  by_cases hp : PrfOk n s t y a
  ·obtain ⟨T, hT, ht, hl, hM⟩ := Q.readG_sound (by decide) _ _ _ _ _ _ hr
   rw [List.append_nil] at ht
   obtain rfl : a = (T.lay 0).1 := congrArg Prod.fst hl
   obtain rfl : y = (T.lay 0).2 := congrArg Prod.snd hl
   refine ⟨T, hT, (lay_text hT hp).2.1, ht, hp, ?_⟩
   exact if_pos hp
  ·rw [if_neg hp] at h; cases h
 ·cases h
theorem readF_false {x : ByteArray} (h : (readF n s t x).2.2 = false) : readF n s t x = (0, [], false) := readF_no x fun a y h2 hr hp => by
 rw [readF_yes x h2 hr hp] at h
 cases h
theorem readF_tree {T : Q.Tr} (hT : T.Ok 4 6) (hn : T.nodes ≤ 15) {x : ByteArray} (hx : bl x = T.txt) (hp : PrfOk n s t (T.lay 0).2 (T.lay 0).1) : readF n s t x = ((T.lay 0).2, (T.lay 0).1, true) := by
 have hl := Q.Tr.txt_len T hT
 have hb := bl_len x
 rw [hx] at hb
 have := Q.readG_complete (W := 4) (D := 6) (M := 15) (by decide) T (x.size + 1) 0 [] hT (by omega) (by omega)
 rw [List.append_nil, ← hx] at this
 exact readF_yes x (by omega) this hp
theorem readI_F {x : ByteArray} (h2 : x.size ≤ 200) : readF n s t x = match Q.readI (x.size + 1) 0 (bl x) with
 | some (a, y, []) => @ite _ (PrfOk n s t y a) (Classical.propDecidable _) (y, a, true) (0, [], false)
 | _ => (0, [], false) := by
 split
 ·rename_i a y hr
  by_cases hp : PrfOk n s t y a
  ·rw [if_pos hp]
   obtain ⟨T, hT, ht, hl, _⟩ := Q.readG_sound (by decide) _ _ _ _ _ _ (Q.readI_some _ _ _ _ hr)
   rw [List.append_nil] at ht
   obtain rfl : a = (T.lay 0).1 := congrArg Prod.fst hl
   obtain rfl : y = (T.lay 0).2 := congrArg Prod.snd hl
   have := lay_text hT hp
   exact readF_tree this.1 this.2.1 ht hp
  ·rw [if_neg hp]
   refine readF_no x fun a' y' _ hr' hp' => hp ?_
   obtain ⟨T, hT, ht, hl, _⟩ := Q.readG_sound (by decide) _ _ _ _ _ _ hr'
   rw [List.append_nil] at ht
   obtain rfl : a' = (T.lay 0).1 := congrArg Prod.fst hl
   obtain rfl : y' = (T.lay 0).2 := congrArg Prod.snd hl
   have hlt := lay_text hT hp'
   have hl := Q.Tr.txt_len T hT
   have hb := bl_len x
   rw [ht] at hb
   have := Q.readI_complete T (x.size + 1) 0 [] (ok_mono (by decide) (by decide) T hT) (by omega) (by omega)
   rw [List.append_nil, ← ht, hr] at this
   injection this with this
   injection this with e1 e2
   injection e2 with e2 _
   rw [e1, e2]
   exact hp'
 ·rename_i hno
  refine readF_no x fun a' y' _ hr' hp' => ?_
  obtain ⟨T, hT, ht, hl, _⟩ := Q.readG_sound (by decide) _ _ _ _ _ _ hr'
  rw [List.append_nil] at ht
  obtain rfl : a' = (T.lay 0).1 := congrArg Prod.fst hl
  obtain rfl : y' = (T.lay 0).2 := congrArg Prod.snd hl
  have hlt := lay_text hT hp'
  have hl := Q.Tr.txt_len T hT
  have hb := bl_len x
  rw [ht] at hb
  have := Q.readI_complete T (x.size + 1) 0 [] (ok_mono (by decide) (by decide) T hT) (by omega) (by omega)
  rw [List.append_nil, ← ht] at this
  exact hno _ _ this
theorem readF_star {x : ByteArray} (h : (readF n s t x).2.2 = true) : (readF n s t (x ++ ⟨#[42]⟩)).2.2 = false := by
 obtain ⟨_, T, hT, hn, ht, _⟩ := readF_true h
 cases hc : (readF n s t (x ++ ⟨#[42]⟩)).2.2 with
 | false => rfl
 | true =>
  exfalso
  obtain ⟨_, T', hT', hn', ht', _⟩ := readF_true hc
  rw [bl_app, ht, show bl (⟨#[42]⟩ : ByteArray) = [42] from rfl] at ht'
  have e1 := Q.readG_complete (W := 4) (D := 6) (M := 15) (by decide) T 100 0 [42] hT (by omega) (by omega)
  have e2 := Q.readG_complete (W := 4) (D := 6) (M := 15) (by decide) T' 100 0 [] hT' (by omega) (by omega)
  rw [List.append_nil, ← ht', e1] at e2
  injection e2 with e2
  injection e2 with _ e2
  injection e2 with _ e2
  cases e2
theorem readF_text {fi : Int} {S : List Q.Sp} (h : PrfOk n s t fi S) : ∃ y a, readF n s t (textF n s t fi S) = (y, a, true) ∧ textF n s t y a = textF n s t fi S ∧ a.length = S.length := by
 obtain ⟨T, hT, hn, ht, hp⟩ := prf_lay h
 have h15 := h.2.2.1
 refine ⟨_, _, readF_tree hT (by omega) ht hp, bl_inj ((lay_text hT hp).2.2.trans ht.symm), ?_⟩
 rw [Q.Tr.lay_len]
 exact hn
end
end Go.Proofs.YtcaogllnbpmcgaaDoor.M
namespace Go.Proofs.YtcaogllnbpmcgaaDoor.Q
theorem lay_64 {W D : Nat} (hD : D ≤ 10) : ∀ (T : Tr) (L : Nat), T.Ok W D → -16 ≤ (T.lay L).2 ∧ ∀ y ∈ (T.lay L).1, -16 ≤ y.f1 ∧ -16 ≤ y.f2
 | .leaf x, L, h => by
  refine ⟨?_, fun y hy => by cases hy⟩
  show -16 ≤ x
  rcases h with rfl | ⟨j, hj, rfl⟩ <;> omega
 | .node who a b, L, h => by
  obtain ⟨a1, a2⟩ := lay_64 hD a (L + 1) h.2.1
  obtain ⟨b1, b2⟩ := lay_64 hD b (L + 1 + a.nodes) h.2.2
  refine ⟨by show -16 ≤ (L : Int); omega, fun y hy => ?_⟩
  rcases List.mem_cons.1 hy with rfl | hy
  ·exact ⟨a1, b1⟩
  ·rcases List.mem_append.1 hy with hy | hy
   ·exact a2 y hy
   ·exact b2 y hy
end Go.Proofs.YtcaogllnbpmcgaaDoor.Q
namespace Go.Proofs.YtcaogllnbpmcgaaDoor.M
open Go Go.RowKit Go.Proofs.YtcaogllnbpmcgaaDoorW.PrintWords Go.Proofs.YtcaogllnbpmcgaaDoorW.PrintLast Go.Proofs.YtcaogllnbpmcgaaDoorW.PrintMore Go.Proofs.YtcaogllnbpmcgaaDoor.P
theorem read_prf64 {s : List Cl} (hs : s.length < 4611686018427387904) {f L : Nat} {l r : List Int} {a : List Q.Sp} {x : Int} (h : Q.readI f L l = some (a, x, r)) : Prf64 s x a := by
 obtain ⟨T, hT, _, hl, _⟩ := Q.readG_sound (by decide) _ _ _ _ _ _ (Q.readI_some _ _ _ _ h)
 obtain ⟨h1, h2⟩ := Q.lay_64 (by decide) T L hT
 rw [← hl] at h1 h2
 dsimp only at h1 h2
 refine ⟨hs, by omega, fun i hi => ?_⟩
 have := h2 _ (getD_mem a Q.zS i hi)
 omega
noncomputable def readO (n : Int) (s : List Cl) (t : List Mk) (o : Option (List Q.Sp × Int × List Int)) : Int × List Q.Sp × Bool := match o with
 | some (a, y, []) => @ite _ (PrfOk n s t y a) (Classical.propDecidable _) (y, a, true) (0, [], false)
 | _ => (0, [], false)
theorem readI_O {n : Int} {s : List Cl} {t : List Mk} {x : ByteArray} (h2 : x.size ≤ 200) : readF n s t x = readO n s t (Q.readI (x.size + 1) 0 (bl x)) := readI_F h2
theorem readO_rest {n : Int} {s : List Cl} {t : List Mk} {a : List Q.Sp} {y : Int} {r : List Int} (h : r ≠ []) : readO n s t (some (a, y, r)) = (0, [], false) := by
 cases r with
 | nil => exact absurd rfl h
 | cons c r => rfl
theorem readO_no {n : Int} {s : List Cl} {t : List Mk} {a : List Q.Sp} {y : Int} (h : ¬ PrfOk n s t y a) : readO n s t (some (a, y, [])) = (0, [], false) := if_neg h
theorem readO_yes {n : Int} {s : List Cl} {t : List Mk} {a : List Q.Sp} {y : Int} (h : PrfOk n s t y a) : readO n s t (some (a, y, [])) = (y, a, true) := if_pos h
theorem bl_ne {s : ByteArray} : (s.toList == (⟨#[]⟩ : ByteArray).toList) = decide (bl s = []) := by
 rw [Go.ByteArray.toList_eq, Go.ByteArray.toList_eq, Bool.eq_iff_iff, beq_iff_eq, decide_eq_true_iff]
 unfold bl
 rw [List.map_eq_nil_iff]
theorem empty_is {s : ByteArray} : s.toList.isEmpty = decide (bl s = []) := by
 rw [Go.ByteArray.toList_eq, Bool.eq_iff_iff, List.isEmpty_iff, decide_eq_true_iff]
 unfold bl
 rw [List.map_eq_nil_iff]
theorem list_eq {s t : ByteArray} : (s.toList == t.toList) = decide (bl s = bl t) := by
 rw [Go.ByteArray.toList_eq, Go.ByteArray.toList_eq, Bool.eq_iff_iff, beq_iff_eq, decide_eq_true_iff]
 constructor
 ·intro h
  unfold bl
  rw [h]
 ·intro h
  rw [bl_inj h]
section
variable {b bx : Nat} {w w0 W : World} {v : Value} {sp : List Q.Sp}
theorem RE.start (w0 : World) : RE w0.heap.size w0 (w0.alloc (.cells #[.int .i64 0, .slice none 0 0] 27)) (.slice none 0 0) [] :=
 ⟨new_at_ _ _ _ rfl, Kd.R_nil _ _ _ _ _, below_alloc (Below.refl _ _) _, Nat.le_refl _⟩
theorem RE.zero (E : RE b w0 W (.slice none 0 0) []) : RE b w0 ((W.setCell ⟨b, 0, none⟩ (.int .i64 0)).setCell ⟨b, 1, none⟩ (.slice none 0 0)) (.slice none 0 0) [] :=
 ⟨blk_put (cs := #[.int .i64 0, .slice none 0 0]) (blk_put (cs := #[.int .i64 0, .slice none 0 0]) E.hq 0 _ rfl) 1 _ rfl, Kd.R_nil _ _ _ _ _, below_set (below_set E.hb E.hqB) E.hqB, E.hqB⟩
theorem RE.first (E : RE b w0 W v sp) (y : Int) : (W.setCell ⟨b, 0, none⟩ (.int .i64 y)).heap[b]? = some (.cells #[.int .i64 y, v] 27 (0, 0)) ∧
  Kd.R spKdR 68 (W.setCell ⟨b, 0, none⟩ (.int .i64 y)) w0.heap.size (fun _ => True) v sp ∧ Below w0.heap.size w0 (W.setCell ⟨b, 0, none⟩ (.int .i64 y)) := by
 refine ⟨blk_put (cs := #[.int .i64 0, v]) E.hq 0 _ rfl, ?_, below_set E.hb E.hqB⟩
 exact Kd.R_mono (Kd.R_far (p := ⟨b, 0, none⟩) (Kd.R_types E.hr E.hq (by decide)) (fun _ hk => hk.2) _) (fun _ _ => trivial)
theorem read_fin {y0 y1 : Value} {x y : Value} (hb : Below w0.heap.size w0 W) (hR : Kd.R spKdR 68 W w0.heap.size (fun _ => True) v sp) (hx : W.heap[bx]? = some (.cells #[y0, y1] 27 (0, 0))) (hB : w0.heap.size ≤ bx + 1) (hw : w.heap.size ≤ bx) (hw0 : Below w.heap.size w w0) :
  ((W.setCell ⟨bx, 0, none⟩ x).setCell ⟨bx, 1, none⟩ y).heap[bx]? = some (.cells #[x, y] 27 (0, 0)) ∧
  Kd.R spKdR 68 ((W.setCell ⟨bx, 0, none⟩ x).setCell ⟨bx, 1, none⟩ y) w.heap.size (fun _ => True) v sp ∧
  Below w.heap.size w ((W.setCell ⟨bx, 0, none⟩ x).setCell ⟨bx, 1, none⟩ y) := by
 have hb2 : Below w.heap.size w W := below_step hw0 hb
 refine ⟨blk_put (cs := #[x, y1]) (blk_put (cs := #[y0, y1]) hx 0 _ rfl) 1 _ rfl, ?_, below_set (below_set hb2 hw) hw⟩
 have h := Kd.R_types hR hx (by decide)
 exact Kd.R_lower (Kd.R_mono (Kd.R_far (p := ⟨bx, 1, none⟩) (Kd.R_far (p := ⟨bx, 0, none⟩) h (fun _ hk => hk.2) x) (fun _ hk => hk.2) y) (fun _ _ => trivial)) hw0.size
end
end Go.Proofs.YtcaogllnbpmcgaaDoor.M

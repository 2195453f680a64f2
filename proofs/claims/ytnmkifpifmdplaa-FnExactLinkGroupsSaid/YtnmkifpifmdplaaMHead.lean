/- A translation's head, whose fourth word is 'cut': how the form's closed facts that read it are told without the kernel's reading all of its signs. -/
import Derived.ProofKit
import Derived.SizedLaws
set_option linter.unusedVariables false
set_option linter.unusedSimpArgs false
namespace Go.Proofs.Ytnmkifpifmdplaa.Head
theorem words_skip (r : List Char) : ∀ w : List Char, (w.all fun c => !(c == Char.ofNat 32)) = true → wordsSigns (w ++ Char.ofNat 32 :: r) = w :: wordsSigns r := by
  intro w
  induction w with
  | nil =>
    intro _
    simp [wordsSigns]
  | cons c w ih =>
    intro h
    simp only [List.all_cons, Bool.and_eq_true] at h
    have hc : c ≠ Char.ofNat 32 := by
      have := h.1
      simpa using this
    rw [List.cons_append, wordsSigns, ih h.2]
    exact hc
theorem head_of (P : Program) (h0 h1 h2 h3 : List Char) (io : P.initOrder = String.ofList (h0 ++ Char.ofNat 32 :: (h1 ++ Char.ofNat 32 :: (h2 ++ Char.ofNat 32 :: h3))))
    (a0 : (h0.all fun c => !(c == Char.ofNat 32)) = true) (a1 : (h1.all fun c => !(c == Char.ofNat 32)) = true) (a2 : (h2.all fun c => !(c == Char.ofNat 32)) = true)
    (e0 : (h0 == "harness".toList) = true) (e1 : isSumSigns h1 = true) : behindMainWord (wordsSigns P.initOrder.toList) = h2 :: wordsSigns h3 := by
  rw [io, String.toList_ofList, words_skip _ h0 a0, words_skip _ h1 a1, words_skip _ h2 a2]
  exact @if_pos _ _ (show ((h0 == "harness".toList || h0 == "ownmain".toList) && isSumSigns h1) = true by rw [e0, e1]; rfl) _ (h2 :: wordsSigns h3) (h0 :: h1 :: h2 :: wordsSigns h3)
theorem make_of (P : Program) (h2 : List Char) (ws : List (List Char)) (h : behindMainWord (wordsSigns P.initOrder.toList) = h2 :: ws) (g1 : (h2 == "gc".toList) = false) (g2 : (h2 == "spec".toList) = false) (g3 : (h2 == "cut".toList) = true) : P.make = some .cut := by
  unfold Program.make
  rw [h]
  simp only [g1, g2, g3, Bool.or_false, Bool.true_or, if_true, Bool.false_eq_true, if_false]
theorem mayEnter_of (P : Program) (h2 : List Char) (ws : List (List Char)) (h : behindMainWord (wordsSigns P.initOrder.toList) = h2 :: ws) (g3 : (h2 == "cut".toList) = true) (sl : ∀ ws, stripLifts liftWords (h2 :: ws) = ([], h2 :: ws)) (hl : P.laysLater = false) (hb : P.bearsReflect = false) (hd : P.doorFits [] = true) : P.mayEnter = true := by
  have e : h2 = "cut".toList := by simpa using g3
  unfold Program.mayEnter
  rw [h]
  simp only [sl, hl, hb, hd]
  simp [e]
theorem liftsFinal_of (P : Program) (h2 : List Char) (ws : List (List Char)) (h : behindMainWord (wordsSigns P.initOrder.toList) = h2 :: ws) (g4 : (h2 == "carried".toList) = false) (sl : ∀ ws, stripLifts liftWords (h2 :: ws) = ([], h2 :: ws)) : P.liftsFinal = false := by
  have e : (some h2 == some "carried".toList) = false := g4
  unfold Program.liftsFinal Program.headLifts
  rw [h]
  simp only [sl, List.head?_cons, e, Bool.false_and, Bool.false_or]
  split <;> rfl
end Go.Proofs.Ytnmkifpifmdplaa.Head

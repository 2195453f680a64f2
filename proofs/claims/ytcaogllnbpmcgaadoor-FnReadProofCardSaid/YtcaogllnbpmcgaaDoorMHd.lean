/- The head of this seat's translation: it is a cut, told word by word, so that the form's closed facts that read it are told without the kernel's reading all of its signs. -/
import Derived.Test.YtcaogllnbpmcgaaDoorRows
import Derived.ProofKit
import Derived.SizedLaws
set_option linter.unusedVariables false
set_option linter.unusedSimpArgs false
namespace Go.Proofs.YtcaogllnbpmcgaaDoor.Head
theorem words_skip (r : List Char) : ∀ w : List Char, (w.all fun c => !(c == Char.ofNat 32)) = true → wordsSigns (w ++ Char.ofNat 32 :: r) = w :: wordsSigns r := by
  intro w
  induction w with
  | nil =>
    intro _
    simp [wordsSigns]
  | cons c w ih =>
    intro h
    simp only [List.all_cons, Bool.and_eq_true] at h
    have hc : c ≠ Char.ofNat 32 := by
      have := h.1
      simpa using this
    rw [List.cons_append, wordsSigns, ih h.2]
    exact hc
theorem head_of (P : Program) (h0 h1 h2 h3 : List Char) (io : P.initOrder = String.ofList (h0 ++ Char.ofNat 32 :: (h1 ++ Char.ofNat 32 :: (h2 ++ Char.ofNat 32 :: h3))))
    (a0 : (h0.all fun c => !(c == Char.ofNat 32)) = true) (a1 : (h1.all fun c => !(c == Char.ofNat 32)) = true) (a2 : (h2.all fun c => !(c == Char.ofNat 32)) = true)
    (e0 : (h0 == "harness".toList) = true) (e1 : isSumSigns h1 = true) : behindMainWord (wordsSigns P.initOrder.toList) = h2 :: wordsSigns h3 := by
  rw [io, String.toList_ofList, words_skip _ h0 a0, words_skip _ h1 a1, words_skip _ h2 a2]
  exact @if_pos _ _ (show ((h0 == "harness".toList || h0 == "ownmain".toList) && isSumSigns h1) = true by rw [e0, e1]; rfl) _ (h2 :: wordsSigns h3) (h0 :: h1 :: h2 :: wordsSigns h3)
theorem make_of (P : Program) (h2 : List Char) (ws : List (List Char)) (h : behindMainWord (wordsSigns P.initOrder.toList) = h2 :: ws) (g1 : (h2 == "gc".toList) = false) (g2 : (h2 == "spec".toList) = false) (g3 : (h2 == "cut".toList) = true) : P.make = some .cut := by
  unfold Program.make
  rw [h]
  simp only [g1, g2, g3, Bool.or_false, Bool.true_or, if_true, Bool.false_eq_true, if_false]
theorem mayEnter_of (P : Program) (h2 : List Char) (ws : List (List Char)) (h : behindMainWord (wordsSigns P.initOrder.toList) = h2 :: ws) (g3 : (h2 == "cut".toList) = true) (sl : ∀ ws, stripLifts liftWords (h2 :: ws) = ([], h2 :: ws)) (hl : P.laysLater = false) (hb : P.bearsReflect = false) (hd : P.doorFits [] = true) : P.mayEnter = true := by
  have e : h2 = "cut".toList := by simpa using g3
  unfold Program.mayEnter
  rw [h]
  simp only [sl, hl, hb, hd]
  simp [e]
theorem liftsFinal_of (P : Program) (h2 : List Char) (ws : List (List Char)) (h : behindMainWord (wordsSigns P.initOrder.toList) = h2 :: ws) (g4 : (h2 == "carried".toList) = false) (sl : ∀ ws, stripLifts liftWords (h2 :: ws) = ([], h2 :: ws)) : P.liftsFinal = false := by
  have e : (some h2 == some "carried".toList) = false := g4
  unfold Program.liftsFinal Program.headLifts
  rw [h]
  simp only [sl, List.head?_cons, e, Bool.false_and, Bool.false_or]
  split <;> rfl
def h0 : List Char := ([104, 97, 114, 110, 101, 115, 115] : List Nat).map Char.ofNat
def h1 : List Char := ([101, 48, 99, 98, 101, 49, 56, 57, 97, 52, 53, 98, 54, 57, 50, 99, 97, 99, 50, 97, 57, 50, 99, 52, 98, 102, 97, 54, 49, 55, 49, 57, 48, 57, 52, 97, 101, 50, 99, 101, 52, 101, 101, 51, 101, 100, 52, 57, 102, 102, 97, 101, 53, 56, 54, 55, 53, 53, 51, 50, 57, 49, 99, 100] : List Nat).map Char.ofNat
def h2 : List Char := ([99, 117, 116] : List Nat).map Char.ofNat
def h3 : List Char := ([97, 116, 32, 108, 111, 111, 112, 46, 101, 120, 97, 109, 112, 108, 101, 47, 116, 101, 108, 108, 101, 114, 115, 97, 110, 100, 108, 105, 97, 114, 115, 47, 108, 97, 119, 115, 46, 70, 110, 80, 114, 111, 111, 102, 84, 101, 120, 116, 32, 108, 111, 111, 112, 46, 101, 120, 97, 109, 112, 108, 101, 47, 116, 101, 108, 108, 101, 114, 115, 97, 110, 100, 108, 105, 97, 114, 115, 47, 108, 97, 119, 115, 46, 70, 110, 69, 120, 97, 99, 116, 80, 114, 111, 111, 102, 84, 101, 120, 116, 32, 108, 111, 111, 112, 46, 101, 120, 97, 109, 112, 108, 101, 47, 116, 101, 108, 108, 101, 114, 115, 97, 110, 100, 108, 105, 97, 114, 115, 47, 108, 97, 119, 115, 46, 70, 110, 69, 120, 97, 99, 116, 82, 101, 97, 100, 80, 114, 111, 111, 102, 32, 108, 111, 111, 112, 46, 101, 120, 97, 109, 112, 108, 101, 47, 116, 101, 108, 108, 101, 114, 115, 97, 110, 100, 108, 105, 97, 114, 115, 47, 108, 97, 119, 115, 46, 70, 110, 82, 101, 97, 100, 80, 114, 111, 111, 102] : List Nat).map Char.ofNat
set_option maxRecDepth 100000 in
theorem io : Tryd.prog.initOrder = String.ofList (h0 ++ Char.ofNat 32 :: (h1 ++ Char.ofNat 32 :: (h2 ++ Char.ofNat 32 :: h3))) := by kernel_rfl
theorem head : behindMainWord (wordsSigns Tryd.prog.initOrder.toList) = h2 :: wordsSigns h3 :=
  head_of Tryd.prog h0 h1 h2 h3 io (by kernel_rfl) (by kernel_rfl) (by kernel_rfl) (by kernel_rfl) (by kernel_rfl)
theorem sl (ws : List (List Char)) : stripLifts liftWords (h2 :: ws) = ([], h2 :: ws) := by kernel_rfl
theorem mk : Tryd.prog.make = some .cut := make_of Tryd.prog h2 (wordsSigns h3) head (by kernel_rfl) (by kernel_rfl) (by kernel_rfl)
theorem me : Tryd.prog.mayEnter = true := mayEnter_of Tryd.prog h2 (wordsSigns h3) head (by kernel_rfl) sl (by kernel_rfl) (by kernel_rfl) (by kernel_rfl)
theorem lf : Tryd.prog.liftsFinal = false := liftsFinal_of Tryd.prog h2 (wordsSigns h3) head (by kernel_rfl) sl
end Go.Proofs.YtcaogllnbpmcgaaDoor.Head

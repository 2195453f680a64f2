/- What holds at a world holds at a later one of the same stop: short words for the walks. -/
import Derived.Test.YtbhmippoeimliaaWWords
import Derived.Test.YtbhmippoeimliaaWShare
import Derived.Test.YtbhmippoeimliaaWMore
import Derived.Test.YtbhmippoeimliaaWKept
set_option linter.unusedVariables false
set_option linter.unusedSimpArgs false
namespace Go.Proofs.Ytbhmippoeimliaa.P
open Go Go.RowKit Go.Proofs.YtbhmippoeimliaaW.PrintWords Go.Proofs.YtbhmippoeimliaaW.PrintLast Go.Proofs.YtbhmippoeimliaaW.PrintMore
/-! At a later world of the same stop. -/
structure Later (W W1 : World) : Prop where
  lt : Below W.heap.size W W1
attribute [class] Later
instance (W : World) : Later W W := ⟨Below.refl _ _⟩
instance {W W1 : World} [h : Later W W1] (o : Obj) : Later W (W1.alloc o) := ⟨below_alloc h.lt o⟩
instance {W W1 : World} [h : Later W W1] : Later W W1.drew := ⟨below_drew h.lt⟩
instance {W W1 : World} [h : Later W W1] (m : Nat) : Later W (W1.drewN m) := ⟨pw_below_drewN h.lt m⟩
theorem lt_ {W W1 : World} [h : Later W W1] : Below W.heap.size W W1 := h.lt
theorem keep_at {w W W1 : World} {g : Nat} [Later W W1] (h : KeepBut w W g none) : KeepBut w W1 g none := KeepBut.trans h (KeepBut.of_below lt_ g none) (.inl rfl)
theorem below_at {w W W1 : World} [Later W W1] (h : Below w.heap.size w W) : Below w.heap.size w W1 := below_step h lt_
theorem Kd.V_belowL {α : Type} {d : Kd α} {e base : Nat} {ok : Nat → Prop} {w w1 : World} {v : Value} {xs : List α} (h : Kd.V d e w base ok v xs) (hb : Below w.heap.size w w1) : Kd.V d e w1 base ok v xs := by
  obtain ⟨A, c, e_, hl, hF⟩ := h
  exact ⟨A, c, e_, hl, Kd.F_below hF hb⟩
/-- A step's whole: what stood behind a binder, unfolded. -/
theorem later_of {W W1 : World} (h : Below W.heap.size W W1) : Later W W1 := ⟨h⟩
end Go.Proofs.Ytbhmippoeimliaa.P

/- What holds at a world holds at a later one of the same stop: short words for the walks. -/
import Derived.Test.YtcaogllnbpmcgaaWMore
set_option linter.unusedVariables false
set_option linter.unusedSimpArgs false
namespace Go.Proofs.Ytcaogllnbpmcgaa.P
open Go Go.RowKit Go.Proofs.YtcaogllnbpmcgaaW.PrintWords Go.Proofs.YtcaogllnbpmcgaaW.PrintLast Go.Proofs.YtcaogllnbpmcgaaW.PrintMore
/-! At a later world of the same stop. -/
structure Later (W W1 : World) : Prop where
  lt : Below W.heap.size W W1
attribute [class] Later
instance (W : World) : Later W W := ⟨Below.refl _ _⟩
instance {W W1 : World} [h : Later W W1] (o : Obj) : Later W (W1.alloc o) := ⟨below_alloc h.lt o⟩
instance {W W1 : World} [h : Later W W1] : Later W W1.drew := ⟨below_drew h.lt⟩
instance {W W1 : World} [h : Later W W1] (m : Nat) : Later W (W1.drewN m) := ⟨pw_below_drewN h.lt m⟩
theorem lt_ {W W1 : World} [h : Later W W1] : Below W.heap.size W W1 := h.lt
theorem keep_at {w W W1 : World} {g : Nat} [Later W W1] (h : KeepBut w W g none) : KeepBut w W1 g none := KeepBut.trans h (KeepBut.of_below lt_ g none) (.inl rfl)
theorem below_at {w W W1 : World} [Later W W1] (h : Below w.heap.size w W) : Below w.heap.size w W1 := below_step h lt_
theorem Kd.V_belowL {α : Type} {d : Kd α} {e base : Nat} {ok : Nat → Prop} {w w1 : World} {v : Value} {xs : List α} (h : Kd.V d e w base ok v xs) (hb : Below w.heap.size w w1) : Kd.V d e w1 base ok v xs := by
  obtain ⟨A, c, e_, hl, hF⟩ := h
  exact ⟨A, c, e_, hl, Kd.F_below hF hb⟩
/-- A step's whole: what stood behind a binder, unfolded. -/
theorem later_of {W W1 : World} (h : Below W.heap.size W W1) : Later W W1 := ⟨h⟩
/-! The same where own boxes are written between (press2). -/
attribute [class] Aside0
structure Since (w W W1 : World) : Prop where
  go : Below w.heap.size w W → Below w.heap.size w W1
attribute [class] Since
instance (w W : World) : Since w W W := ⟨fun h => h⟩
instance {w W W1 : World} [h : Since w W W1] (o : Obj) : Since w W (W1.alloc o) := ⟨fun k => below_alloc (h.go k) o⟩
instance {w W W1 : World} [h : Since w W W1] : Since w W W1.drew := ⟨fun k => below_drew (h.go k)⟩
instance {w W W1 : World} [h : Since w W W1] (m : Nat) : Since w W (W1.drewN m) := ⟨fun k => pw_below_drewN (h.go k) m⟩
instance {w W W1 : World} [h : Since w W W1] {g : Nat} [hg : Aside0 (w.heap.size ≤ g)] (j : Nat) (u : Value) : Since w W (W1.setCell ⟨g, j, none⟩ u) := ⟨fun k => below_set (h.go k) hg.out⟩
theorem at_ {w W W1 : World} [h : Since w W W1] (k : Below w.heap.size w W) : Below w.heap.size w W1 := h.go k
theorem blk_at {W W1 W2 : World} {g : Nat} {o : Obj} [Later W W1] (h : W.heap[g]? = some o) (hb : Below W1.heap.size W1 W2) : W2.heap[g]? = some o := blk_below (blk_below h lt_) hb
theorem cel {w W : World} {a : Addr} {v : Value} (h : Below w.heap.size w W) (hx : w.cell? a = some v) : W.cell? a = some v := (h.cell (World.block_lt_of_cell? w _ hx)).trans hx
theorem z0_ {α : Type} (l : List α) (i : Nat) (a : α) : l.toArray.setIfInBounds i a = (l.set i a).toArray := List.setIfInBounds_toArray l i a
theorem z1_ {α : Type} {x : α} {l : List α} {a : α} : (x :: l).set 0 a = a :: l := List.set_cons_zero
theorem z2_ {α : Type} {x : α} {l : List α} {n : Nat} {a : α} : (x :: l).set (n + 1) a = x :: l.set n a := List.set_cons_succ
/-! Short words (press4). -/
theorem mk_ {p : Prop} (h : p) : Aside0 p := ⟨h⟩
theorem gl_ {p : Prop} (h : p := by (try simp only [List.map_toArray, List.map_cons, List.map_nil]); first | done | rfl | (simp only [List.length_drop, List.length_take]; rfl)) : p := h
theorem er_ {p : Prop} (h : p := by first | rfl | (simp [errW_none, errW_some] <;> rfl) | (simp [*, errW_none, errW_some] <;> rfl)) : p := h
theorem oa_ {p : Prop} [Decidable p] (h : decide p = true := by assumption) : p := of_decide_eq_true h
theorem dr_ {p : Prop} (h : p := by first | exact ⟨rfl, _, World.drewN_drewN _ _ _⟩ | exact ⟨rfl, _, Eq.trans (World.drewN_drewN _ _ _) (congrArg (World.drewN _) (Nat.add_assoc _ _ _))⟩) : p := h
theorem gb_ {w W W1 : World} {g : Nat} [Later W W1] (hg : g = W1.heap.size) (h : Below w.heap.size w W) : w.heap.size ≤ g := hg ▸ below_size (below_at h)
theorem bk_ {W W1 : World} {g : Nat} {o : Obj} [Later W W1] (h : W.heap[g]? = some o) : W1.heap[g]? = some o := blk_below h lt_
end Go.Proofs.Ytcaogllnbpmcgaa.P

/- What holds at a world holds at a later one of the same stop: short words for the walks. -/
import Derived.Test.YtcaogllnbpmcgaaDoorWAll
set_option linter.unusedVariables false
set_option linter.unusedSimpArgs false
namespace Go.Proofs.YtcaogllnbpmcgaaDoor.P
open Go Go.RowKit Go.Proofs.YtcaogllnbpmcgaaDoorW.PrintWords Go.Proofs.YtcaogllnbpmcgaaDoorW.PrintLast Go.Proofs.YtcaogllnbpmcgaaDoorW.PrintMore
/-! At a later world of the same stop. -/
structure Later (W W1 : World) : Prop where
  lt : Below W.heap.size W W1
attribute [class] Later
instance (W : World) : Later W W := ⟨Below.refl _ _⟩
instance {W W1 : World} [h : Later W W1] (o : Obj) : Later W (W1.alloc o) := ⟨below_alloc h.lt o⟩
instance {W W1 : World} [h : Later W W1] : Later W W1.drew := ⟨below_drew h.lt⟩
instance {W W1 : World} [h : Later W W1] (m : Nat) : Later W (W1.drewN m) := ⟨pw_below_drewN h.lt m⟩
theorem lt_ {W W1 : World} [h : Later W W1] : Below W.heap.size W W1 := h.lt
theorem keep_at {w W W1 : World} {g : Nat} [Later W W1] (h : KeepBut w W g none) : KeepBut w W1 g none := KeepBut.trans h (KeepBut.of_below lt_ g none) (.inl rfl)
theorem below_at {w W W1 : World} [Later W W1] (h : Below w.heap.size w W) : Below w.heap.size w W1 := below_step h lt_
theorem Kd.V_belowL {α : Type} {d : Kd α} {e base : Nat} {ok : Nat → Prop} {w w1 : World} {v : Value} {xs : List α} (h : Kd.V d e w base ok v xs) (hb : Below w.heap.size w w1) : Kd.V d e w1 base ok v xs := by
  obtain ⟨A, c, e_, hl, hF⟩ := h
  exact ⟨A, c, e_, hl, Kd.F_below hF hb⟩
/-- A step's whole: what stood behind a binder, unfolded. -/
theorem later_of {W W1 : World} (h : Below W.heap.size W W1) : Later W W1 := ⟨h⟩
/-! The same where own boxes are written between (press2). -/
attribute [class] Aside0
structure Since (w W W1 : World) : Prop where
  go : Below w.heap.size w W → Below w.heap.size w W1
attribute [class] Since
instance (w W : World) : Since w W W := ⟨fun h => h⟩
instance {w W W1 : World} [h : Since w W W1] (o : Obj) : Since w W (W1.alloc o) := ⟨fun k => below_alloc (h.go k) o⟩
instance {w W W1 : World} [h : Since w W W1] : Since w W W1.drew := ⟨fun k => below_drew (h.go k)⟩
instance {w W W1 : World} [h : Since w W W1] (m : Nat) : Since w W (W1.drewN m) := ⟨fun k => pw_below_drewN (h.go k) m⟩
instance {w W W1 : World} [h : Since w W W1] {g : Nat} [hg : Aside0 (w.heap.size ≤ g)] (j : Nat) (u : Value) : Since w W (W1.setCell ⟨g, j, none⟩ u) := ⟨fun k => below_set (h.go k) hg.out⟩
theorem at_ {w W W1 : World} [h : Since w W W1] (k : Below w.heap.size w W) : Below w.heap.size w W1 := h.go k
theorem blk_at {W W1 W2 : World} {g : Nat} {o : Obj} [Later W W1] (h : W.heap[g]? = some o) (hb : Below W1.heap.size W1 W2) : W2.heap[g]? = some o := blk_below (blk_below h lt_) hb
theorem cel {w W : World} {a : Addr} {v : Value} (h : Below w.heap.size w W) (hx : w.cell? a = some v) : W.cell? a = some v := (h.cell (World.block_lt_of_cell? w _ hx)).trans hx
theorem z0_ {α : Type} (l : List α) (i : Nat) (a : α) : l.toArray.setIfInBounds i a = (l.set i a).toArray := List.setIfInBounds_toArray l i a
theorem z1_ {α : Type} {x : α} {l : List α} {a : α} : (x :: l).set 0 a = a :: l := List.set_cons_zero
theorem z2_ {α : Type} {x : α} {l : List α} {n : Nat} {a : α} : (x :: l).set (n + 1) a = x :: l.set n a := List.set_cons_succ
/-! Short words (press4). -/
theorem mk_ {p : Prop} (h : p) : Aside0 p := ⟨h⟩
theorem gl_ {p : Prop} (h : p := by (try simp only [List.map_toArray, List.map_cons, List.map_nil]); first | done | rfl | (simp only [List.length_drop, List.length_take]; rfl)) : p := h
theorem er_ {p : Prop} (h : p := by first | rfl | (simp [errW_none, errW_some] <;> rfl) | (simp [*, errW_none, errW_some] <;> rfl)) : p := h
theorem oa_ {p : Prop} [Decidable p] (h : decide p = true := by assumption) : p := of_decide_eq_true h
theorem dr_ {p : Prop} (h : p := by first | exact ⟨rfl, _, World.drewN_drewN _ _ _⟩ | exact ⟨rfl, _, Eq.trans (World.drewN_drewN _ _ _) (congrArg (World.drewN _) (Nat.add_assoc _ _ _))⟩) : p := h
theorem gb_ {w W W1 : World} {g : Nat} [Later W W1] (hg : g = W1.heap.size) (h : Below w.heap.size w W) : w.heap.size ≤ g := hg ▸ below_size (below_at h)
theorem bk_ {W W1 : World} {g : Nat} {o : Obj} [Later W W1] (h : W.heap[g]? = some o) : W1.heap[g]? = some o := blk_below h lt_
/-! Whole steps of a region that is walked in a drawn order (press5). -/
section
variable {P : Program} {md : Region.Mode} {ops : Array Oper} {Q : Exit → Act → World → Prop} {S : World → Prop} {ds : List Nat} {oi : Oper} {v : Value} {fuel : Nat} {l : Array Bool} {a a' : Act} {w : World}
theorem pur_ (i : Nat) (N : Option Tmp) (l' : Array Bool) (hc : anyB md ops l l' i = true) (h : wpAnyLast P md ops Q S ds fuel l' a' w) (hi : ops[i]? = some oi := by rfl) (hQ : ∀ c a w, Q (.panic c) (a.put oi.dst v) w → Q (.panic c) a w := by exact fun _ _ _ h => h)
    (hw : Region.wanted oi (yielded ops a.tmps) = true := by rfl) (hr : ∀ w', (execOp a.eval oi).run P w' = .ok (.value v) w' := by intro w'; go_simp; with_reducible rfl)
    (hN : oi.dst = N := by rfl) (ha : a.put N v = a' := by simp only [Act.put, z0_, z1_, z2_, i64_w, i32_w]; rfl) : wpAnyLast P md ops Q S ds (fuel + 1) l a w :=
  pure_ l' hi hN hc hQ (Or.inl ⟨hw, hr⟩) ha h
theorem tak_ (i : Nat) (N : Option Tmp) (l' : Array Bool) (hc : takeB md ops ds l l' i = true) (hS : S w) (h : wpAnyLast P md ops Q S ds fuel l' a' w) (hi : ops[i]? = some oi := by rfl) (hQ : ∀ c a w, Q (.panic c) (a.put oi.dst v) w → Q (.panic c) a w := by exact fun _ _ _ h => h)
    (hw : Region.wanted oi (yielded ops a.tmps) = true := by rfl) (hr : ∀ w', S w' → (execOp a.eval oi).run P w' = .ok (.value v) w' := by intro w' s_; (repeat (obtain ⟨_, s_⟩ := s_)); go_simp; with_reducible rfl)
    (hN : oi.dst = N := by rfl) (ha : a.put N v = a' := by simp only [Act.put, z0_, z1_, z2_, i64_w, i32_w]; rfl) : wpAnyLast P md ops Q S ds (fuel + 1) l a w :=
  take_ l' hi hN hc hQ (Or.inl ⟨hw, hr⟩) hS ha h
theorem pus_ (i : Nat) (N : Option Tmp) (hc : anyB md ops l (l.setIfInBounds i true) i = true) (h : wpAnyLast P md ops Q S ds fuel (l.setIfInBounds i true) a' w) (hi : ops[i]? = some oi := by rfl) (hQ : ∀ c a w, Q (.panic c) (a.put oi.dst v) w → Q (.panic c) a w := by exact fun _ _ _ h => h)
    (hw : Region.wanted oi (yielded ops a.tmps) = true := by rfl) (hr : ∀ w', (execOp a.eval oi).run P w' = .ok (.value v) w' := by intro w'; go_simp; with_reducible rfl)
    (hN : oi.dst = N := by rfl) (ha : a.put N v = a' := by simp only [Act.put, z0_, z1_, z2_, i64_w, i32_w]; rfl) : wpAnyLast P md ops Q S ds (fuel + 1) l a w :=
  pure_ _ hi hN hc hQ (Or.inl ⟨hw, hr⟩) ha h
theorem tas_ (i : Nat) (N : Option Tmp) (hc : takeB md ops ds l (l.setIfInBounds i true) i = true) (hS : S w) (h : wpAnyLast P md ops Q S ds fuel (l.setIfInBounds i true) a' w) (hi : ops[i]? = some oi := by rfl) (hQ : ∀ c a w, Q (.panic c) (a.put oi.dst v) w → Q (.panic c) a w := by exact fun _ _ _ h => h)
    (hw : Region.wanted oi (yielded ops a.tmps) = true := by rfl) (hr : ∀ w', S w' → (execOp a.eval oi).run P w' = .ok (.value v) w' := by intro w' s_; (repeat (obtain ⟨_, s_⟩ := s_)); go_simp; with_reducible rfl)
    (hN : oi.dst = N := by rfl) (ha : a.put N v = a' := by simp only [Act.put, z0_, z1_, z2_, i64_w, i32_w]; rfl) : wpAnyLast P md ops Q S ds (fuel + 1) l a w :=
  take_ _ hi hN hc hQ (Or.inl ⟨hw, hr⟩) hS ha h
theorem ons_ (i : Nat) (N : Option Tmp) (hc : readyB md ops l (l.setIfInBounds i true) i = true)
    (h : ∀ K : Act → World → Prop, Shut (∀ a' w', S w' → (S w' → wpAnyLast P md ops Q S ds fuel (l.setIfInBounds i true) a' w') → K a' w') → if Region.wanted oi (yielded ops a.tmps) = true then Oper.wp P oi a w K Q else K (a.put N undef) w)
    (hi : ops[i]? = some oi := by rfl) (hN : oi.dst = N := by rfl) (hd : i ∉ ds := by decide) : wpAnyLast P md ops Q S ds (fuel + 1) l a w := one_ _ hi hN hc hd h
theorem nor_ (N : Option Tmp) (h : wpAnyLast P md ops Q S ds fuel l a' w) (ha : Act.put a N v = a' := by simp only [Act.put, z0_, z1_, z2_, i64_w, i32_w]; rfl) : wpAnyLast P md ops Q S ds fuel l (Act.put a N v) w := norm_ ha h
theorem bx_ {rest : List Oper} {o : Oper} {W : World} (N : Tmp) (cs : Array Value) (t : TypeId) (h : ∀ g, g = W.heap.size → ∀ w1, w1.heap[g]? = some (.cells cs t (0, 0)) → Below W.heap.size W w1 → wpList P ops Q rest (a.put o.dst (.pointer (some ⟨g, 0, none⟩))) w1) (hg : o.guard = none := by rfl) (hd : o.dst = some N := by rfl)
    (hr : (execOp a.eval o).run P W = .ok (.value (.pointer (some ⟨W.heap.size, 0, none⟩))) (W.alloc (.cells cs t (0, 0))) := by first | (go_simp; done) | (go_simp; rfl)) : wpList P ops Q (o :: rest) a W := box_event hg hd hr h
end
section
variable {md : Region.Mode} {ops : Array Oper} {ds : List Nat} {l l' : Array Bool} {i : Nat}
theorem ao_ {T} (hT : Aside0 (rtab md ops = T)) (h : anyT T l.toList l'.toList i = true := by kernel_rfl) : anyB md ops l l' i = true := any_of hT.out h
theorem oo_ {T} (hT : Aside0 (rtab md ops = T)) (h : (readyT T.2 l.toList == [i] && l.toList.set i true == l'.toList) = true := by kernel_rfl) : readyB md ops l l' i = true := one_of hT.out h
theorem to_ {T} {B : List Nat} (hT : Aside0 (rtab md ops = T)) (hB : Aside0 (waitsOk T.2 B = true)) (h : takeW T B ds l.toList l'.toList i = true := by kernel_rfl) : takeB md ops ds l l' i = true := take_ofW hT.out hB.out h
end
theorem bn_ {α β : Type} {e y : α} {f : α → Option β} {r : Option β} (hy : y = e) (H : (some e).bind f = r) : f y = r := by
  subst hy
  exact H
theorem sm_ {p : Prop} (h : p := by first | rfl | (simp; done) | (simp [*]; done)) : p := h
theorem kp_ {w W W1 : World} {S : Nat → Prop} [Later W W1] (h : Kept w W S) : Kept w W1 S :=
  ⟨Nat.le_trans h.1 (lt_ (W := W)).size, fun i hi hn => by
    have hi' : i < W.heap.size := Nat.lt_of_lt_of_le hi h.1
    rw [← h.2 i hi hn, Array.getElem?_eq_getElem hi']
    exact blk_below (Array.getElem?_eq_getElem hi') lt_⟩
theorem rl_ {α : Type} {d : Kd α} {e base : Nat} {ok : Nat → Prop} {W W1 : World} {v : Value} {xs : List α} [Later W W1] (h : d.R e W base ok v xs) : d.R e W1 base ok v xs := Kd.R_below h lt_
/-! What a world was before things were made in it. -/
structure Base (W1 : World) (W : outParam World) : Prop where
  lt : Below W.heap.size W W1
attribute [class] Base
instance (priority := low) (W : World) : Base W W := ⟨Below.refl _ _⟩
instance {W W1 : World} [h : Base W1 W] (o : Obj) : Base (W1.alloc o) W := ⟨below_alloc h.lt o⟩
instance {W W1 : World} [h : Base W1 W] : Base W1.drew W := ⟨below_drew h.lt⟩
instance {W W1 : World} [h : Base W1 W] (m : Nat) : Base (W1.drewN m) W := ⟨pw_below_drewN h.lt m⟩
theorem bs_ {W W1 : World} [h : Base W1 W] {g : Nat} {o : Obj} (k : W.heap[g]? = some o) : W1.heap[g]? = some o := blk_below k h.lt
theorem mt_ {c K : Prop} (h : Aside0 c → K) : c → K := fun k => h ⟨k⟩
/-! A test's two ways, parted with the facts in the form that the walk wants (press9). -/
section
variable {α β : Type} {c K G : Prop} [Decidable c] {x y r : α}
theorem g_ {x : Option α} (h : c → x = some r → G) : (if c then x else none) = some r → G := fun H => by
  by_cases k : c
  · exact h k (by rwa [if_pos k] at H)
  · rw [if_neg k] at H
    cases H
theorem gn_ {x : Option α} (h : ¬ c → x = some r → G) : (if c then none else x) = some r → G := fun H => by
  by_cases k : c
  · rw [if_pos k] at H
    cases H
  · exact h k (by rwa [if_neg k] at H)
theorem it_ (h1 : c → x = r → G) (h2 : ¬ c → y = r → G) : (if c then x else y) = r → G := fun H => by
  by_cases k : c
  · exact h1 k (by rwa [if_pos k] at H)
  · exact h2 k (by rwa [if_neg k] at H)
theorem ti_ (h2 : ¬ c → y = r → G) (h1 : c → x = r → G) : (if c then x else y) = r → G := it_ h1 h2
theorem ib_ {b : Bool} (h1 : b = true → x = r → G) (h2 : b = false → y = r → G) : (if b = true then x else y) = r → G := it_ h1 fun k => h2 (Bool.eq_false_iff.mpr k)
theorem bi_ {b : Bool} (h2 : b = false → y = r → G) (h1 : b = true → x = r → G) : (if b = true then x else y) = r → G := ib_ h1 h2
theorem dt_ (h : decide c = true → K) : c → K := fun k => h (decide_eq_true k)
theorem df_ (h : decide c = false → K) : ¬ c → K := fun k => h (decide_eq_false k)
theorem et_ (h : c = True → decide c = true → K) : c → K := fun k => h (eq_true k) (decide_eq_true k)
theorem bd_ {o : Option α} {f : α → Option β} {r : β} (h : ∀ a, Aside0 (o = some a) → f a = some r → G) : o.bind f = some r → G := fun H => by
  obtain ⟨a, e, H⟩ := Option.bind_eq_some_iff.mp H
  exact h a ⟨e⟩ H
theorem bm_ {o : Option α} {f : α → Option β} {r : β} (H : o.bind f = some r) : ∃ a, Aside0 (o = some a) ∧ f a = some r := by
  obtain ⟨a, e, H⟩ := Option.bind_eq_some_iff.mp H
  exact ⟨a, ⟨e⟩, H⟩
end
section
variable {α : Type} {K : Prop} {a b : α}
theorem dt_g [LT α] [Decidable (b < a)] (h : decide (b < a) = true → K) : a > b → K := dt_ h
theorem df_g [LT α] [Decidable (b < a)] (h : decide (b < a) = false → K) : ¬ a > b → K := df_ h
theorem dt_e [LE α] [Decidable (b ≤ a)] (h : decide (b ≤ a) = true → K) : a ≥ b → K := dt_ h
theorem df_e [LE α] [Decidable (b ≤ a)] (h : decide (b ≤ a) = false → K) : ¬ a ≥ b → K := df_ h
variable [BEq α] [LawfulBEq α]
theorem qtk_ (h : a = b → (a == b) = true → (a != b) = false → K) : a = b → K := fun k => h k (beq_iff_eq.mpr k) (bne_eq_false_iff_eq.mpr k)
theorem qt_ (h : (a == b) = true → (a != b) = false → K) : a = b → K := qtk_ fun _ => h
theorem qfk_ (h : ¬ a = b → (a == b) = false → (a != b) = true → K) : ¬ a = b → K := fun k => h k (beq_eq_false_iff_ne.mpr k) (bne_iff_ne.mpr k)
theorem qf_ (h : (a == b) = false → (a != b) = true → K) : ¬ a = b → K := qfk_ fun _ => h
end
section
variable {w W W1 : World} {g g' : Nat} {o : Obj}
theorem nl_ [Later W W1] (hg : g' = W1.heap.size) (h : W.heap[g]? = some o) : Aside0 (g ≠ g') := ⟨hg ▸ Nat.ne_of_lt (blk_lt (bk_ h))⟩
theorem ng_ [Later W W1] (hg : g' = W1.heap.size) (h : W.heap[g]? = some o) : Aside0 (g' ≠ g) := ⟨hg ▸ Nat.ne_of_gt (blk_lt (bk_ h))⟩
theorem gm_ [Later W W1] (hg : g = W1.heap.size) (h : Below w.heap.size w W) : Aside0 (w.heap.size ≤ g) := ⟨gb_ hg h⟩
theorem gw_ [Since w W W1] (hg : g = W1.heap.size) (h : Below w.heap.size w W) : Aside0 (w.heap.size ≤ g) := ⟨hg ▸ below_size (at_ h)⟩
end
section
variable {P : Program} {ops : Array Oper} {Q : Exit → Act → World → Prop} {rest : List Oper} {o : Oper} {a : Act} {W : World}
theorem gx_ (N : Tmp) (cs : Array Value) (t : TypeId) (h : ∀ g, g = W.heap.size → ∀ w1, w1.heap[g]? = some (.cells cs t (0, 0)) → Below W.heap.size W w1 → wpList P ops Q rest (a.put o.dst (.pointer (some ⟨g, 0, none⟩))) w1) (hd : o.dst = some N := by with_reducible rfl) (hg : o.guard = none := by rfl)
    (hr : (execOp a.eval o).run P W = .ok (.value (.pointer (some ⟨W.heap.size, 0, none⟩))) (W.alloc (.cells cs t (0, 0))) := by first | (go_simp; done) | (go_simp; rfl)) : wpList P ops Q (o :: rest) a W := box_event hg hd hr h
theorem gc_ (f : FuncId) (N : Option Tmp) {fn : Func} (hf : P.funcs[f]? = some fn) (args : Array Value) {as : Array Operand} {ts : Array TypeId} (h : Calls P f args W fun e w' => ∃ v, e = .returned v ∧ wpList P ops Q rest (a.put N v) w') (hop : o.op = .call { callee := .value (.func f), args := as, argTypes := ts } := by with_reducible rfl)
    (hd : o.dst = N := by rfl) (hg : o.guard = none := by rfl) (hname : (fn.name == "runtime.NumGoroutine") = false := by kernel_rfl) (hb : fn.body.isSome = true := by rfl) (hargs : as.map a.eval = args := by (try simp only [List.map_toArray, List.map_cons, List.map_nil]); first | done | rfl | (simp only [List.length_drop, List.length_take]; rfl)) : wpList P ops Q (o :: rest) a W := goesL_ N hd hg hf hname hb args hop hargs h
end
/-! Short words (press10). -/
theorem pq_ (i n : Int) (h : decide (0 ≤ i) = true := by assumption) (k : decide (i < n) = true := by assumption) : (0 ≤ i) = True ∧ (i < n) = True := ⟨eq_true (of_decide_eq_true h), eq_true (of_decide_eq_true k)⟩
section
variable {w : World} {g : Nat} {cs : Array Value} {t : TypeId}
theorem b1_ (h : Aside0 (w.heap[g]? = some (.cells cs t (0, 0)))) (i : Nat) : w.cell? ⟨g, i, none⟩ = cs[i]? ∧ w.frozen? ⟨g, i, none⟩ = false := ⟨blk_cell h.out i, blk_frozen h.out i⟩
theorem b2_ (h : Aside0 (w.heap[g]? = some (.cells cs t (0, 0)))) : w.cell? ⟨g, 0, none⟩ = cs[0]? ∧ w.cell? ⟨g, 1, none⟩ = cs[1]? ∧ w.frozen? ⟨g, 0, none⟩ = false ∧ w.frozen? ⟨g, 1, none⟩ = false := ⟨blk_cell h.out 0, blk_cell h.out 1, blk_frozen h.out 0, blk_frozen h.out 1⟩
theorem b3_ (h : Aside0 (w.heap[g]? = some (.cells cs t (0, 0)))) : w.cell? ⟨g, 0, none⟩ = cs[0]? ∧ w.cell? ⟨g, 1, none⟩ = cs[1]? ∧ w.cell? ⟨g, 2, none⟩ = cs[2]? ∧ w.frozen? ⟨g, 0, none⟩ = false ∧ w.frozen? ⟨g, 1, none⟩ = false ∧ w.frozen? ⟨g, 2, none⟩ = false := ⟨blk_cell h.out 0, blk_cell h.out 1, blk_cell h.out 2, blk_frozen h.out 0, blk_frozen h.out 1, blk_frozen h.out 2⟩
end
section
variable {w W W1 w2 : World} {g g' : Nat} {o : Obj}
theorem hs_ [Later W W1] (h : Aside0 (Below w.heap.size w W)) (k : Below W1.heap.size W1 w2) : Aside0 (Below w.heap.size w w2) := ⟨below_step (below_at h.out) k⟩
theorem ht_ [Since w W W1] (h : Aside0 (Below w.heap.size w W)) (k : Below W1.heap.size W1 w2) : Aside0 (Below w.heap.size w w2) := ⟨below_step (at_ h.out) k⟩
theorem kb_ [Later W W1] (h : Aside0 (KeepBut w W g none)) (hb : Below W1.heap.size W1 w2) : Aside0 (KeepBut w w2 g none) := ⟨KeepBut.trans (keep_at h.out) (KeepBut.of_below hb g none) (.inl rfl)⟩
theorem kc_ [Later W W1] (h : Aside0 (KeepBut w W g none)) (hk : KeepBut W1 w2 g none) : Aside0 (KeepBut w w2 g none) := ⟨KeepBut.trans (keep_at h.out) hk (.inl rfl)⟩
theorem kl_ [Later W W1] (hk : KeepBut W1 w2 g none) (h : Aside0 (W.heap[g']? = some o)) (hn : Aside0 (g' ≠ g)) : Aside0 (w2.heap[g']? = some o) := ⟨KeepBut.blk hk (bk_ h.out) hn.out (by simp)⟩
theorem ku_ (h : KeepBut w W g none := by repeat (first | (with_reducible first | (apply Aside0.out; assumption) | apply KeepBut.set_ | apply keep_drewN | apply keep_drew | apply keep_alloc | refine keep_far ?_ (by apply Aside0.out; assumption) _) | (apply Aside0.out; assumption))) : KeepBut w W g none := h
theorem kd_ {W0 : World} (_hK : Aside0 (KeepBut w W0 g none)) (hk : KeepBut W w2 g none) (h : KeepBut w W g none := by repeat (first | (with_reducible first | (apply Aside0.out; assumption) | apply KeepBut.set_ | apply keep_drewN | apply keep_drew | apply keep_alloc | refine keep_far ?_ (by apply Aside0.out; assumption) _) | (apply Aside0.out; assumption))) : Aside0 (KeepBut w w2 g none) := ⟨KeepBut.trans h hk (.inl rfl)⟩
theorem hu_ (h : Below w.heap.size w W := by repeat (first | (with_reducible first | (apply Aside0.out; assumption) | apply below_alloc | apply pw_below_drewN | apply below_drew1 | refine below_set ?_ (by apply Aside0.out; assumption)) | (apply Aside0.out; assumption))) : Below w.heap.size w W := h
theorem mo_ {P : Program} {f : FuncId} {as : Array Value} {v : Value} {B : World → Prop} {K : Value → World → Prop} (h : Calls P f as W fun e w' => e = .returned v ∧ B w') (k : ∀ w', B w' → K v w') : Calls P f as W fun e w' => ∃ u, e = .returned u ∧ K u w' := h.mono fun _ w' q => ⟨v, q.1, k w' q.2⟩
end
end Go.Proofs.YtcaogllnbpmcgaaDoor.P

/- Go's functions come to just the answers of the Lean functions told here. -/
import Derived.Test.YtcaogllnbpmcgaaDoorPx0
set_option maxHeartbeats 8000000
set_option maxRecDepth 100000
namespace Go.Proofs.YtcaogllnbpmcgaaDoor.P
open Go.RowKit Go.Proofs.YtcaogllnbpmcgaaDoorW.PrintWords Go.Proofs.YtcaogllnbpmcgaaDoorW.PrintLast Go.Proofs.YtcaogllnbpmcgaaDoorW.PrintMore
attribute [local go_sem] max2_int min2_int max_two min_two max_three min_three max_four min_four
set_option linter.unusedVariables false
set_option linter.unusedSimpArgs false
/-- A state of type 99 at block g of W; what its slices lead to came in by w0. -/
def IsS99 (w0 W : World) (g : Nat) (f0 : List Int) (f1 : Int) : Prop := ∃ A0 c0, W.heap[g]? = some (.cells #[.slice A0 f0.length c0, .int .i64 f1] 99 (0, 0)) ∧ w0.heap.size ≤ g ∧ Kd.C (Kd.int .u8) w0 A0 f0.length f0
theorem IsS99.grown {w0 W : World} {g : Nat} {f0 : List Int} {f1 : Int} {W1 : World} {row : Option Nat} (h : IsS99 w0 W g f0 f1) (hw : W.grownBy W1 row) (hne : some g ≠ row) : IsS99 w0 W1 g f0 f1 := by
 obtain ⟨A0, c0, hb, hg, hr0⟩ := h
 exact ⟨A0, c0, blk_grown hb hw hne, hg, hr0⟩
theorem IsS99.own_neN {w0 W : World} {g : Nat} {f0 : List Int} {f1 : Int} {α : Type} {d : Kd α} {e : Nat} {base : Nat} {ok : Nat → Prop} {v : Value} {xs : List α} (h : IsS99 w0 W g f0 f1) (ho : Kd.N d e W base ok v xs) (ht : e ≠ 99) : some g ≠ v.ownBlock := by
 obtain ⟨A0, c0, hb, hg, hr0⟩ := h
 exact Kd.N_ne ho hb ht
theorem IsS99.fresh {w0 W : World} {g : Nat} {f0 : List Int} {f1 : Int} (h : IsS99 w0 W g f0 f1) : ∀ k, W.heap.size ≤ k → k ≠ g := by
 obtain ⟨A0, c0, hb, hg, hr0⟩ := h
 exact Kd.freshB hb
theorem IsS99.kept {w0 W : World} {g : Nat} {f0 : List Int} {f1 : Int} {W1 : World} {S : Nat → Prop} (h : IsS99 w0 W g f0 f1) (hk : Kept W W1 S) (hne : ¬ S g) : IsS99 w0 W1 g f0 f1 := by
 obtain ⟨A0, c0, hb, hg, hr0⟩ := h
 exact ⟨A0, c0, blk_kept hb hk hne, hg, hr0⟩
theorem IsS99.below {w0 W : World} {g : Nat} {f0 : List Int} {f1 : Int} {W1 : World} (h : IsS99 w0 W g f0 f1) (hw : Below W.heap.size W W1) : IsS99 w0 W1 g f0 f1 := h.grown (grown_of_below hw none) (by simp)
theorem IsS99.alloc {w0 W : World} {g : Nat} {f0 : List Int} {f1 : Int} (h : IsS99 w0 W g f0 f1) (o : Obj) : IsS99 w0 (W.alloc o) g f0 f1 := h.below (below_alloc (Below.refl _ _) o)
theorem IsS99.drewN {w0 W : World} {g : Nat} {f0 : List Int} {f1 : Int} (h : IsS99 w0 W g f0 f1) (m : Nat) : IsS99 w0 (W.drewN m) g f0 f1 := h
theorem IsS99.drew {w0 W : World} {g : Nat} {f0 : List Int} {f1 : Int} (h : IsS99 w0 W g f0 f1) : IsS99 w0 W.drew g f0 f1 := h
theorem IsS99.at_ {w0 W : World} {g : Nat} {f0 : List Int} {f1 : Int} {w' : World} {m : Nat} (hq : W.drewN m = w') (h : IsS99 w0 W g f0 f1) : IsS99 w0 w' g f0 f1 := by subst hq; exact IsS99.drewN h m
theorem IsS99.apart {w0 W : World} {g : Nat} {f0 : List Int} {f1 : Int} {α : Type} {d : Kd α} {e : Nat} {base : Nat} {ok : Nat → Prop} {v : Value} {xs : List α} (h : IsS99 w0 W g f0 f1) (ho : d.R e W base ok v xs) (ht : ∀ q, q ∈ e :: d.E → q ≠ 99) : d.R e W base (fun k => ok k ∧ k ≠ g) v xs := by
 obtain ⟨A0, c0, hb, hg, hr0⟩ := h
 exact Kd.R_types ho hb ht
theorem IsS99.own_ne {w0 W : World} {g : Nat} {f0 : List Int} {f1 : Int} {α : Type} {d : Kd α} {e : Nat} {base : Nat} {ok : Nat → Prop} {v : Value} {xs : List α} (h : IsS99 w0 W g f0 f1) (ho : d.R e W base ok v xs) (ht : e ≠ 99) : some g ≠ v.ownBlock := by
 obtain ⟨A0, c0, hb, hg, hr0⟩ := h
 exact Kd.R_ne ho hb ht
theorem IsS99.apartQ {w0 W : World} {g : Nat} {f0 : List Int} {f1 : Int} {α : Type} {d : Kd α} {e : Nat} {base : Nat} {ok : Nat → Prop} {v : Value} {xs : List α} (h : IsS99 w0 W g f0 f1) (ho : d.Q e W base ok v xs) (ht : ∀ q, q ∈ e :: d.E → q ≠ 99) : d.Q e W base (fun k => ok k ∧ k ≠ g) v xs := by
 obtain ⟨A0, c0, hb, hg, hr0⟩ := h
 exact Kd.Q_types ho hb ht
theorem IsS99.own_neQ {w0 W : World} {g : Nat} {f0 : List Int} {f1 : Int} {α : Type} {d : Kd α} {e : Nat} {base : Nat} {ok : Nat → Prop} {v : Value} {xs : List α} (h : IsS99 w0 W g f0 f1) (ho : d.Q e W base ok v xs) (ht : e ≠ 99) : some g ≠ v.ownBlock := by
 obtain ⟨A0, c0, hb, hg, hr0⟩ := h
 exact Kd.Q_ne ho hb ht
theorem IsS99.apartS {w0 W : World} {g : Nat} {f0 : List Int} {f1 : Int} {α : Type} {d : Kd α} {e : Nat} {base : Nat} {ok : Nat → Prop} {v : Value} {xs : List α} (h : IsS99 w0 W g f0 f1) (ho : d.S e W base ok v xs) (ht : ∀ q, q ∈ e :: d.E → q ≠ 99) : d.S e W base (fun k => ok k ∧ k ≠ g) v xs := by
 obtain ⟨A0, c0, hb, hg, hr0⟩ := h
 exact Kd.S_types ho hb ht
theorem IsS99.own_neS {w0 W : World} {g : Nat} {f0 : List Int} {f1 : Int} {α : Type} {d : Kd α} {e : Nat} {base : Nat} {ok : Nat → Prop} {v : Value} {xs : List α} (h : IsS99 w0 W g f0 f1) (ho : d.S e W base ok v xs) (ht : e ≠ 99) : some g ≠ v.ownBlock := by
 obtain ⟨A0, c0, hb, hg, hr0⟩ := h
 exact Kd.S_ne ho hb ht
theorem IsS99.lt {w0 W : World} {g : Nat} {f0 : List Int} {f1 : Int} (h : IsS99 w0 W g f0 f1) : g < W.heap.size := by
 obtain ⟨A0, c0, hb, hg, hr0⟩ := h
 exact blk_lt hb
theorem IsS99.ge {w0 W : World} {g : Nat} {f0 : List Int} {f1 : Int} (h : IsS99 w0 W g f0 f1) : w0.heap.size ≤ g := by
 obtain ⟨A0, c0, hb, hg, hr0⟩ := h
 exact hg
theorem IsS99.ne_blk {w0 W : World} {g : Nat} {f0 : List Int} {f1 : Int} {a : Nat} {cs : Array Value} {t : TypeId} {fr : Nat × Nat} (h : IsS99 w0 W g f0 f1) (hb2 : W.heap[a]? = some (.cells cs t fr)) (ht : t ≠ 99) : g ≠ a := by
 obtain ⟨A0, c0, hb, hg, hr0⟩ := h
 rintro rfl
 rw [hb] at hb2
 injection hb2 with hb2
 injection hb2 with _ ht2
 exact ht ht2.symm
theorem IsS99.far {w0 W : World} {g : Nat} {f0 : List Int} {f1 : Int} {p : Addr} (h : IsS99 w0 W g f0 f1) (hne : g ≠ p.block) (u : Value) : IsS99 w0 (W.setCell p u) g f0 f1 := by
 obtain ⟨A0, c0, hb, hg, hr0⟩ := h
 exact ⟨A0, c0, blk_far hb hne u, hg, hr0⟩
theorem cellS99_0 {W : World} {g : Nat} {A0 : Option Addr} {c0 : Nat} {f0 : List Int} {f1 : Int} (h : W.heap[g]? = some (.cells #[.slice A0 f0.length c0, .int .i64 f1] 99 (0, 0))) : W.cell? ⟨g, 0, none⟩ = some (.slice A0 f0.length c0) := (blk_cell h 0).trans rfl
theorem cellS99_1 {W : World} {g : Nat} {A0 : Option Addr} {c0 : Nat} {f0 : List Int} {f1 : Int} (h : W.heap[g]? = some (.cells #[.slice A0 f0.length c0, .int .i64 f1] 99 (0, 0))) : W.cell? ⟨g, 1, none⟩ = some (.int .i64 f1) := (blk_cell h 1).trans rfl
theorem IsS99.set_1 {w0 W : World} {g : Nat} {f0 : List Int} {f1 : Int} (h : IsS99 w0 W g f0 f1) (x : Int) : IsS99 w0 (W.setCell ⟨g, 1, none⟩ (.int .i64 x)) g f0 x := by
 obtain ⟨A0, c0, hb, hg, hr0⟩ := h
 exact ⟨A0, c0, by simpa using blk_set hb 1 (.int .i64 x), hg, hr0⟩
theorem IsS99.new (w0 W : World) (A0 : Option Addr) (c0 : Nat) (f0 : List Int) (f1 : Int) (hB : Below w0.heap.size w0 W) (hr0 : Kd.C (Kd.int .u8) w0 A0 f0.length f0) : IsS99 w0 (W.alloc (.cells #[.slice A0 f0.length c0, .int .i64 f1] 99)) W.heap.size f0 f1 := ⟨A0, c0, by simpa using heap_alloc_new W _, hB.size, hr0⟩
theorem is_ {w0 W : World} {g : Nat} {f0 : List Int} {f1 : Int} (h : IsS99 w0 W g f0 f1 := by repeat (first | (with_reducible first | (apply Aside0.out; assumption) | apply IsS99.alloc | apply IsS99.drewN | apply IsS99.drew | apply IsS99.set_1 | refine IsS99.far ?_ (by apply Aside0.out; assumption) _) | (apply Aside0.out; assumption))) : IsS99 w0 W g f0 f1 := h
theorem hv_ {w W : World} (h : Below w.heap.size w W := by repeat (first | (with_reducible first | (apply Aside0.out; assumption) | apply below_alloc | apply pw_below_drewN | apply below_drew1 | refine below_set ?_ (by apply Aside0.out; assumption) | refine below_set ?_ (IsS99.ge (by apply Aside0.out; assumption))) | (apply Aside0.out; assumption))) : Below w.heap.size w W := h
def spec_l20Rd_pick.j0 : Nat → Int → Bool → List Int → Int → Option (Int × Int)
 | 0, _, _, _, _ => none
 | k + 1, x1, x24, x1000, x1001 => if x24 = true then (some (0, x1001)) else (if (wrap64 (x1001 - 1)) < (x1000.length : Int) then (if 0 ≤ (wrap64 (x1001 - 1)) then (if x1 = 0 then (none) else (some (Int.tmod (wrap64 (rd x1000 (wrap64 (x1001 - 1)))) x1, x1001))) else (none)) else (if (x1000.length : Int) = 0 then (none) else (if 0 ≤ (Int.tmod (wrap64 (x1001 - 1)) (x1000.length : Int)) then (if (Int.tmod (wrap64 (x1001 - 1)) (x1000.length : Int)) < (x1000.length : Int) then (if 0 ≤ (Int.tmod (wrap64 ((wrap64 ((wrap64 (x1001 - 1)) * 7)) + 3)) (x1000.length : Int)) then (if (Int.tmod (wrap64 ((wrap64 ((wrap64 (x1001 - 1)) * 7)) + 3)) (x1000.length : Int)) < (x1000.length : Int) then (if x1 = 0 then (none) else (some (Int.tmod (Go.bits .xor .i64 (wrap64 ((wrap64 ((wrap64 ((wrap64 ((wrap64 (rd x1000 (Int.tmod (wrap64 (x1001 - 1)) (x1000.length : Int)))) * 131)) + (wrap64 ((wrap64 (rd x1000 (Int.tmod (wrap64 ((wrap64 ((wrap64 (x1001 - 1)) * 7)) + 3)) (x1000.length : Int)))) * 1117)))) + (wrap64 ((wrap64 (x1001 - 1)) * 29)))) + (wrap64 ((wrap64 (Int.tdiv (wrap64 (x1001 - 1)) (x1000.length : Int))) * 53)))) (wrap64 (Int.tdiv (wrap64 ((wrap64 ((wrap64 ((wrap64 ((wrap64 (rd x1000 (Int.tmod (wrap64 (x1001 - 1)) (x1000.length : Int)))) * 131)) + (wrap64 ((wrap64 (rd x1000 (Int.tmod (wrap64 ((wrap64 ((wrap64 (x1001 - 1)) * 7)) + 3)) (x1000.length : Int)))) * 1117)))) + (wrap64 ((wrap64 (x1001 - 1)) * 29)))) + (wrap64 ((wrap64 (Int.tdiv (wrap64 (x1001 - 1)) (x1000.length : Int))) * 53)))) 64))) x1, x1001))) else (none)) else (none)) else (none)) else (none))))
def spec_l20Rd_pick.f (k : Nat) (s0_0 : List Int) (s0_1 : Int) (a1 : Int) : Option (Int × Int) := if a1 < 1 then (spec_l20Rd_pick.j0 k a1 true s0_0 (wrap64 (s0_1 + 1))) else (spec_l20Rd_pick.j0 k a1 ((s0_0.length : Int) == 0) s0_0 (wrap64 (s0_1 + 1)))
theorem spec_l20Rd_pick.calls (k : Nat) (g : Nat) (a : List Int) (b : Int) (x : Int) (z : Int) (A : Int) (q w : World) (hI : IsS99 q w g a b) (hB : Below q.heap.size q w) (h : spec_l20Rd_pick.f k a b x = some (z, A)) :
  Calls Tryd.prog 52 #[.pointer (some ⟨g, 0, none⟩), .int .i64 x] w fun e w' => e = .returned (.int .i64 z) ∧ IsS99 q w' g a A ∧ Below q.heap.size q w' ∧ KeepBut w w' g none := by
 have v := mk_ hI
 have HK := mk_ (KeepBut.refl w g none)
 have HL := mk_ hB.size
 clear hI
 have aS := mk_ hB.size
 have HB := mk_ hB
 clear hB
 unfold spec_l20Rd_pick.f at h
 have H := h
 clear h
 have B := mk_ H
 clear H
 obtain ⟨ao, ap, r, Z, aq⟩ := v.out
 have D := cellS99_0 r
 have E := cellS99_1 r
 have G := blk_frozen r 1
 clear r Z
 go_enter Tryd.func52, Tryd.ntmps52
 go_upto_region 2 with (fail)
 repeat (go_quiet (fail); go_upto_region 2 with (fail))
 go_cut [24] (fun ar wc => ∃ (kq : Nat) (d : Bool), ar = .bool d ∧ Aside0 (spec_l20Rd_pick.j0 kq x d a (wrap64 (b + 1)) = some (z, A)) ∧ Aside0 (kq ≤ k) ∧ Aside0 (IsS99 q wc g a (wrap64 (b + 1))) ∧ Aside0 (KeepBut w wc g none) ∧ Aside0 (Below q.heap.size q wc))
 case first =>
  have H := B.out
  clear B
  revert H; refine it_ (dt_ fun c H => ?_) (df_ fun c H => ?_)
  ·(first | rw [c] | (simp only [i64_w, i32_w]; rw [c]) | skip)
   have H' := mk_ H
   clear H
   go_wp2
   repeat (go_quiet (fail); try go_wp2)
   go_meet
   case rel => exact ⟨_, (true), sm_, H', ⟨by first | omega | exact Nat.le_refl _⟩, ⟨is_⟩, ⟨ku_⟩, ⟨hv_⟩⟩
  (first | rw [c] | (simp only [i64_w, i32_w]; rw [c]) | skip)
  have H' := mk_ H
  clear H
  obtain ⟨au, av, s, aa, aw⟩ := v.out
  have I := cellS99_0 s
  have J := cellS99_1 s
  have K := blk_frozen s 1
  clear s aa
  go_wp2
  repeat (go_quiet (fail); try go_wp2)
  go_meet
  case rel => exact ⟨_, (((a.length : Int) == 0)), sm_, H', ⟨by first | omega | exact Nat.le_refl _⟩, ⟨is_⟩, ⟨ku_⟩, ⟨hv_⟩⟩
 clear B
 try clear c
 try clear D
 try clear E
 try clear I
 try clear J
 try clear G
 try clear K
 obtain ⟨kq, d, rfl, HA, aT, v, HK, HB⟩ := hcut
 cases kq with
 | zero => exact absurd HA.out (by simp [spec_l20Rd_pick.j0])
 | succ aU =>
  have H := HA.out
  clear HA
  simp only [spec_l20Rd_pick.j0] at H
  by_cases c7 : d = true
  ·subst c7
   have L : (some (0, (wrap64 (b + 1)))) = some (z, A) := by rw [if_pos rfl] at H; exact H
   clear H
   have H := L
   clear L
   simp only [Option.some.injEq, Prod.mk.injEq] at H
   obtain ⟨rfl, rfl⟩ := H
   go_wp2
   repeat (go_quiet (fail); try go_wp2)
   go_ret
   exact ⟨er_, is_, hv_, ku_⟩
  replace c7 := Bool.eq_false_iff.mpr c7
  subst c7
  have L : (if (wrap64 ((wrap64 (b + 1)) - 1)) < (a.length : Int) then (if 0 ≤ (wrap64 ((wrap64 (b + 1)) - 1)) then (if x = 0 then (none) else (some (Int.tmod (wrap64 (rd a (wrap64 ((wrap64 (b + 1)) - 1)))) x, (wrap64 (b + 1))))) else (none)) else (if (a.length : Int) = 0 then (none) else (if 0 ≤ (Int.tmod (wrap64 ((wrap64 (b + 1)) - 1)) (a.length : Int)) then (if (Int.tmod (wrap64 ((wrap64 (b + 1)) - 1)) (a.length : Int)) < (a.length : Int) then (if 0 ≤ (Int.tmod (wrap64 ((wrap64 ((wrap64 ((wrap64 (b + 1)) - 1)) * 7)) + 3)) (a.length : Int)) then (if (Int.tmod (wrap64 ((wrap64 ((wrap64 ((wrap64 (b + 1)) - 1)) * 7)) + 3)) (a.length : Int)) < (a.length : Int) then (if x = 0 then (none) else (some (Int.tmod (Go.bits .xor .i64 (wrap64 ((wrap64 ((wrap64 ((wrap64 ((wrap64 (rd a (Int.tmod (wrap64 ((wrap64 (b + 1)) - 1)) (a.length : Int)))) * 131)) + (wrap64 ((wrap64 (rd a (Int.tmod (wrap64 ((wrap64 ((wrap64 ((wrap64 (b + 1)) - 1)) * 7)) + 3)) (a.length : Int)))) * 1117)))) + (wrap64 ((wrap64 ((wrap64 (b + 1)) - 1)) * 29)))) + (wrap64 ((wrap64 (Int.tdiv (wrap64 ((wrap64 (b + 1)) - 1)) (a.length : Int))) * 53)))) (wrap64 (Int.tdiv (wrap64 ((wrap64 ((wrap64 ((wrap64 ((wrap64 (rd a (Int.tmod (wrap64 ((wrap64 (b + 1)) - 1)) (a.length : Int)))) * 131)) + (wrap64 ((wrap64 (rd a (Int.tmod (wrap64 ((wrap64 ((wrap64 ((wrap64 (b + 1)) - 1)) * 7)) + 3)) (a.length : Int)))) * 1117)))) + (wrap64 ((wrap64 ((wrap64 (b + 1)) - 1)) * 29)))) + (wrap64 ((wrap64 (Int.tdiv (wrap64 ((wrap64 (b + 1)) - 1)) (a.length : Int))) * 53)))) 64))) x, (wrap64 (b + 1))))) else (none)) else (none)) else (none)) else (none)))) = some (z, A) := by rw [if_neg Bool.false_ne_true] at H; exact H
  clear H
  have H := L
  clear L
  revert H; refine it_ (dt_ fun M H => ?_) (df_ fun M H => ?_)
  ·obtain ⟨O, l⟩ : ∃ j_ : Int, (wrap64 ((wrap64 (b + 1)) - 1)) = j_ := ⟨_, rfl⟩
   first | rw [l] at H | simp only [l] at H
   (try rw [l] at M)
   have ay : (IntKind.i64.wrap ((wrap64 (b + 1)) - 1)) = O := (i64_w _).trans l
   revert H; refine g_ (dt_ fun az => gn_ (qfk_ fun aV aA aB H => ?_))
   simp only [Option.some.injEq, Prod.mk.injEq] at H
   obtain ⟨rfl, rfl⟩ := H
   obtain ⟨ae, af, i, U, y⟩ := v.out
   have ag := cellS99_0 i
   have ah := cellS99_1 i
   have ai := blk_frozen i 1
   clear i U
   obtain ⟨aC, ab, m⟩ := Kd.at_int y (O) oa_ oa_
   cases ab
   replace m := pw_cell_below HB.out m
   obtain ⟨aM, aN⟩ := pq_ ((O) : Int) (a.length : Int)
   go_wp2
   repeat (go_quiet (fail); try go_wp2)
   go_ret
   exact ⟨by first | rfl | (simp [errW_none, errW_some] <;> rfl) | (simp only [← l]; first | rfl | (simp [errW_none, errW_some] <;> rfl)) | (simp [*, errW_none, errW_some] <;> rfl), is_, hv_, ku_⟩
  revert H; refine gn_ (qfk_ fun ax aD aE H => ?_)
  have aF : ¬ (a = []) := fun h_ => ax (by rw [h_]; rfl)
  obtain ⟨P, t⟩ : ∃ j_ : Int, (Int.tmod (wrap64 ((wrap64 (b + 1)) - 1)) (a.length : Int)) = j_ := ⟨_, rfl⟩
  first | rw [t] at H | simp only [t] at H
  revert H; refine g_ (dt_ fun aG => g_ (dt_ fun aH H => ?_))
  obtain ⟨T, u⟩ : ∃ j_ : Int, (Int.tmod (wrap64 ((wrap64 ((wrap64 ((wrap64 (b + 1)) - 1)) * 7)) + 3)) (a.length : Int)) = j_ := ⟨_, rfl⟩
  first | rw [u] at H | simp only [u] at H
  revert H; refine g_ (dt_ fun aI => g_ (dt_ fun aJ => gn_ (qfk_ fun aW aK aL H => ?_)))
  simp only [Option.some.injEq, Prod.mk.injEq] at H
  obtain ⟨rfl, rfl⟩ := H
  obtain ⟨aj, ak, j, W, n⟩ := v.out
  have al := cellS99_0 j
  have am := cellS99_1 j
  have an := blk_frozen j 1
  clear j W
  obtain ⟨X, ac, o⟩ := Kd.at_int n (P) oa_ oa_
  cases ac
  replace o := pw_cell_below HB.out o
  obtain ⟨aO, aP⟩ := pq_ ((P) : Int) (a.length : Int)
  obtain ⟨Y, ad, p⟩ := Kd.at_int n (T) oa_ oa_
  obtain rfl : X = Y := (by injection ad)
  replace p := pw_cell_below HB.out p
  obtain ⟨aQ, aR⟩ := pq_ ((T) : Int) (a.length : Int)
  go_wp2
  repeat (go_quiet (fail); try go_wp2)
  go_ret
  exact ⟨by first | rfl | (simp [errW_none, errW_some] <;> rfl) | (simp only [← t, ← u]; first | rfl | (simp [errW_none, errW_some] <;> rfl)) | (simp [*, errW_none, errW_some] <;> rfl), is_, hv_, ku_⟩
def spec_l20Rd_odd.f (k : Nat) (s0_0 : List Int) (s0_1 : Int) (a1 : Int) : Option (Bool × Int) := if a1 > 0 then ((spec_l20Rd_pick.f k s0_0 s0_1 a1).bind fun bt318 => (some ((bt318.1 == (wrap64 (a1 - 1))), bt318.2))) else (some (false, s0_1))
theorem spec_l20Rd_odd.calls (k : Nat) (g : Nat) (a : List Int) (b : Int) (j : Int) (m : Bool) (n : Int) (c w : World) (hI : IsS99 c w g a b) (hB : Below c.heap.size c w) (h : spec_l20Rd_odd.f k a b j = some (m, n)) :
  Calls Tryd.prog 55 #[.pointer (some ⟨g, 0, none⟩), .int .i64 j] w fun e w' => e = .returned (.bool m) ∧ IsS99 c w' g a n ∧ Below c.heap.size c w' ∧ KeepBut w w' g none := by
 have p := mk_ hI
 have HK := mk_ (KeepBut.refl w g none)
 have HL := mk_ hB.size
 clear hI
 have r := mk_ hB.size
 have HB := mk_ hB
 clear hB
 unfold spec_l20Rd_odd.f at h
 have H := h
 clear h
 revert H; refine ti_ (df_g fun o H => ?_) (dt_g fun o H => ?_)
 ·simp only [Option.some.injEq, Prod.mk.injEq] at H
  obtain ⟨rfl, rfl⟩ := H
  go_enter Tryd.func55, Tryd.ntmps55
  go_wp2
  go_ret
  exact ⟨er_, is_, hv_, ku_⟩
 replace H := Option.bind_eq_some_iff.mp H
 obtain ⟨⟨d, i⟩, l, H⟩ := H
 replace H : (some ((d == (wrap64 (j - 1))), i)) = some (m, n) := H
 have q := mk_ l
 clear l
 simp only [Option.some.injEq, Prod.mk.injEq] at H
 obtain ⟨rfl, rfl⟩ := H
 go_enter Tryd.func55, Tryd.ntmps55
 go_wp2_with (first | (go_at_call 52; (with_reducible refine (spec_l20Rd_pick.calls k g a b j d i c _ ?side1 ?side2 q.out).mono ?_); (case side1 => exact is_); (case side2 => exact hv_); rintro e s ⟨rfl, hi, hb, hk⟩; replace HK := kd_ HK hk; replace HB := mk_ (hb); replace p := mk_ (hi); (try clear hb)))
 go_ret
 exact ⟨er_, is_, hv_, ku_⟩
end Go.Proofs.YtcaogllnbpmcgaaDoor.P

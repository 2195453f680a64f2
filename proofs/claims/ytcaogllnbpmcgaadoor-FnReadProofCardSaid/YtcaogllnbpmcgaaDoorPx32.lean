/- Go's functions come to just the answers of the Lean functions told here. -/
import Derived.Test.YtcaogllnbpmcgaaDoorPx16
import Derived.Test.YtcaogllnbpmcgaaDoorPx24
import Derived.Test.YtcaogllnbpmcgaaDoorPx30
import Derived.Test.YtcaogllnbpmcgaaDoorPx31
set_option maxHeartbeats 8000000
set_option maxRecDepth 100000
namespace Go.Proofs.YtcaogllnbpmcgaaDoor.P
open Go.RowKit Go.Proofs.YtcaogllnbpmcgaaDoorW.PrintWords Go.Proofs.YtcaogllnbpmcgaaDoorW.PrintLast Go.Proofs.YtcaogllnbpmcgaaDoorW.PrintMore
attribute [local go_sem] max2_int min2_int max_two min_two max_three min_three max_four min_four
set_option linter.unusedVariables false
set_option linter.unusedSimpArgs false
noncomputable def laws_FnReadProof.j0 : Nat → Int → List (S79) → List (S82) → ByteArray → Bool → Bool → Int → List (S68) → Option (Bool)
 | 0, _, _, _, _, _, _, _, _ => none
 | k + 1, x3, x4, x5, x6, x8, x47, x539000, x539001 => if x47 = true then (some false) else (if x8 = true then (if x6.size + 1 ≤ 9223372036854775807 then ((impl_ReadProof.f x3 x4 x5 (x6 ++ (⟨#[42]⟩ : ByteArray))).bind fun bt546 => ((impl_ProofText.f k x3 x4 x5 x539000 x539001).bind fun t552 => (if t552.toList = x6.toList then ((impl_ProofOk.f x3 x4 x5 x539000 x539001).bind fun t553 => (if t553 = true then (some (!bt546.2.2)) else (some false))) else (some false)))) else (none)) else (if x539000 = 0 then (if (x539001.length : Int) = 0 then ((laws_alive.f).bind fun t554 => (some t554)) else (some false)) else (some false)))
noncomputable def laws_FnReadProof.f (k : Nat) (l0 : List Int) : Option (Bool) := if (l0.length : Int) > 1048576 then (some true) else ((spec_DrawReadProof.f k l0).bind fun bt525 => ((impl_ReadProof.f bt525.1 bt525.2.1 bt525.2.2.1 bt525.2.2.2).bind fun bt533 => ((spec_ReadProof.f k bt525.1 bt525.2.1 bt525.2.2.1 bt525.2.2.2).bind fun bt539 => ((laws_sameProof.f k bt533.1 bt533.2.1 bt539.1 bt539.2.1).bind fun t545 => (if t545 = true then (laws_FnReadProof.j0 k bt525.1 bt525.2.1 bt525.2.2.1 bt525.2.2.2 bt533.2.2 (bt533.2.2 != bt539.2.2) bt533.1 bt533.2.1) else (laws_FnReadProof.j0 k bt525.1 bt525.2.1 bt525.2.2.1 bt525.2.2.2 bt533.2.2 true bt533.1 bt533.2.1))))))
theorem laws_FnReadProof.calls (k : Nat) (A0 : Option Addr) (c0 : Nat) (l0 : List Int) (r : Bool) (w : World) (aW : Kd.C (Kd.int .u8) w A0 l0.length l0) (aX : l0.length ≤ c0) (h : laws_FnReadProof.f k l0 = some r) (hrt_ : r = true) :
  Calls Tryd.prog 6 #[.slice A0 l0.length c0] w fun e w' => e = .returned (.bool r) ∧ Below w.heap.size w w' := by
 subst hrt_
 have b4 := Tryd.underlying27
 have bw := mk_ aW
 have bx := mk_ aX
 clear aW aX
 have HB := mk_ (Below.refl w.heap.size w)
 unfold laws_FnReadProof.f at h
 have H := h
 clear h
 revert H; refine it_ (fun c2 H => ?_) fun c2 H => ?_
 ·have aG : decide (1048576 < (l0.length : Int)) = true := decide_eq_true c2
  have aH : decide (1048576 < l0.length) = true := decide_eq_true (by omega)
  clear c2
  first | (obtain rfl := Option.some.inj H) | clear H
  go_enter Tryd.func6, Tryd.ntmps6
  go_wp2
  go_ret
  exact ⟨er_, below_at HB.out⟩
 have aG : decide (1048576 < (l0.length : Int)) = false := decide_eq_false c2
 have aH : decide (1048576 < l0.length) = false := decide_eq_false (by omega)
 clear c2
 replace H := bm_ H; obtain ⟨⟨I, x, q, J⟩, A3, H⟩ := H
 try dsimp only at H
 replace H := bm_ H; obtain ⟨⟨t, i, af⟩, A4, H⟩ := H
 try dsimp only at H
 replace H := bm_ H; obtain ⟨⟨K, u, aI⟩, A5, H⟩ := H
 try dsimp only at H
 have aJ := mk_ H
 clear H
 go_enter Tryd.func6, Tryd.ntmps6
 go_upto_region 6 with (first | ((with_reducible refine gate_callee (f := 27) rfl ?_); refine gc_ 27 (some 18) Tryd.func27 #[.slice A0 l0.length c0] ?_; (with_reducible refine (spec_DrawReadProof.calls k _ _ l0 I x q J _ ?side1 ?side2 A3.out).mono ?_); (case side1 => exact Kd.C_below bw.out lt_); (case side2 => exact bx.out); rintro e w7 ⟨b8, b9, rfl, M, aY, hb⟩; refine ⟨_, rfl, ?_⟩; have j := mk_ (Kd.S_lower M (below_size (below_at HB.out))); have l := mk_ (Kd.R_lower aY (below_size (below_at HB.out))); replace HB := hs_ HB hb; (try clear hb); (try clear M); (try clear aY); obtain ⟨ab, Y, bz⟩ := Kd.S_slice j.out; subst bz; obtain ⟨X, U, bA⟩ := Kd.R_slice l.out; subst bA) | ((with_reducible refine gate_callee (f := 12) rfl ?_); refine gc_ 12 (some 28) Tryd.func12 #[.int .i64 I, .slice ab x.length Y, .slice X q.length U, .string J] ?_; (with_reducible refine (impl_ReadProof.calls I _ _ x _ _ q J t i af _ ?side1 ?side2 ?side3 ?side4 A4.out).mono ?_); (case side1 => exact Kd.C_below (Kd.S_reads' j.out).2.2 lt_); (case side2 => exact (Kd.S_reads' j.out).2.1); (case side3 => exact Kd.C_below (Kd.R_reads' l.out).2.2 lt_); (case side4 => exact (Kd.R_reads' l.out).2.1); rintro e cf ⟨ca, rfl, M, hb⟩; refine ⟨_, rfl, ?_⟩; replace j := mk_ (Kd.S_below (Kd.S_below j.out lt_) hb); replace l := mk_ (Kd.R_below (Kd.R_below l.out lt_) hb); have m := mk_ (Kd.R_lower M (below_size (below_at HB.out))); replace HB := hs_ HB hb; (try clear hb); (try clear M)) | ((with_reducible refine gate_dst (N := 7) rfl ?_); (try (refine gate_guard (by rfl) ?_; dsimp only)); refine bx_ 7 #[.int .i64 0, .slice none 0 0] 27 ?_; intro O hg cg P hb; replace j := mk_ (Kd.S_below (Kd.S_below j.out lt_) hb); replace l := mk_ (Kd.R_below (Kd.R_below l.out lt_) hb); replace m := mk_ (Kd.R_below (Kd.R_below m.out lt_) hb); have a := mk_ (P); have aN := gm_ hg HB.out; have bI := aN; replace HB := hs_ HB hb; clear hb P hg; obtain ⟨ag, ah, ai, aj⟩ := b2_ a; obtain ⟨y, v, a2⟩ := Kd.R_slice m.out; subst a2) | ((with_reducible refine gate_callee (f := 22) rfl ?_); refine gc_ 22 (some 36) Tryd.func22 #[.int .i64 I, .slice ab x.length Y, .slice X q.length U, .string J] ?_; (with_reducible refine (spec_ReadProof.calls k I _ _ x _ _ q J K u aI _ ?side1 ?side2 ?side3 ?side4 A5.out).mono ?_); (case side1 => refine (Kd.S_reads' (e := 79) (base := w.heap.size) (ok := fun k_ => some k_ ≠ (.slice X q.length U : Value).ownBlock) (n := x.length) (c := Y) ?_).2.2; exact (by (with_reducible repeat (first | apply Kd.S_alloc | apply Kd.S_drewN | apply Kd.S_drew)); exact (Kd.S_mono (Kd.S_far (Kd.S_far (Kd.S_types j.out a.out (by decide)) (fun _ hk => hk.2) _) (fun _ hk => hk.2) _) (fun _ h_ => h_.1)))); (case side2 => exact (Kd.S_reads' j.out).2.1); (case side3 => refine (Kd.R_reads' (e := 82) (base := w.heap.size) (ok := fun k_ => True) (n := q.length) (c := U) ?_).2.2; exact (by (with_reducible repeat (first | apply Kd.R_alloc | apply Kd.R_drewN | apply Kd.R_drew)); exact (Kd.R_mono (Kd.R_far (Kd.R_far (Kd.R_types l.out a.out (by decide)) (fun _ hk => hk.2) _) (fun _ hk => hk.2) _) (fun _ h_ => h_.1)))); (case side4 => exact (Kd.R_reads' l.out).2.1); rintro e ch ⟨cb, rfl, M, hb⟩; refine ⟨_, rfl, ?_⟩; replace j := mk_ (Kd.S_below (by (with_reducible repeat (first | apply Kd.S_alloc | apply Kd.S_drewN | apply Kd.S_drew)); exact (Kd.S_mono (Kd.S_far (Kd.S_far (Kd.S_types j.out a.out (by decide)) (fun _ hk => hk.2) _) (fun _ hk => hk.2) _) (fun _ h_ => h_.1))) hb); replace l := mk_ (Kd.R_below (by (with_reducible repeat (first | apply Kd.R_alloc | apply Kd.R_drewN | apply Kd.R_drew)); exact (Kd.R_mono (Kd.R_far (Kd.R_far (Kd.R_types l.out a.out (by decide)) (fun _ hk => hk.2) _) (fun _ hk => hk.2) _) (fun _ h_ => h_.1))) hb); have s := mk_ (Kd.R_lower (Kd.R_new' M (Kd.R_lt (by (with_reducible repeat (first | apply Kd.R_alloc | apply Kd.R_drewN | apply Kd.R_drew)); exact (Kd.R_mono (Kd.R_far (Kd.R_far (Kd.R_types m.out a.out (by decide)) (fun _ hk => hk.2) _) (fun _ hk => hk.2) _) (fun _ h_ => h_.1))))) (below_size (at_ HB.out))); replace m := mk_ (Kd.R_elder' (by (with_reducible repeat (first | apply Kd.R_alloc | apply Kd.R_drewN | apply Kd.R_drew)); exact (Kd.R_mono (Kd.R_far (Kd.R_far (Kd.R_types m.out a.out (by decide)) (fun _ hk => hk.2) _) (fun _ hk => hk.2) _) (fun _ h_ => h_.1))) (Kd.R_base M) hb); replace a := mk_ (blk_below (g := O) (o := .cells #[.int .i64 t, .slice y i.length v] 27 (0, 0)) (by refine bs_ ?_; refine blk_put (cs := #[.int .i64 t, .slice none 0 0]) ?_ 1 _ rfl; refine bs_ ?_; refine blk_put (cs := #[.int .i64 0, .slice none 0 0]) ?_ 0 _ rfl; refine bs_ ?_; exact a.out) hb); replace HB := ht_ HB hb; (try clear hb); (try clear M)) | ((with_reducible refine gate_dst (N := 9) rfl ?_); (try (refine gate_guard (by rfl) ?_; dsimp only)); refine bx_ 9 #[.int .i64 0, .slice none 0 0] 27 ?_; intro Z hg ci P hb; replace j := mk_ (Kd.S_below (Kd.S_below j.out lt_) hb); replace l := mk_ (Kd.R_below (Kd.R_below l.out lt_) hb); replace m := mk_ (Kd.R_below (Kd.R_below m.out lt_) hb); replace s := mk_ (Kd.R_below (Kd.R_below s.out lt_) hb); have b := mk_ (P); have aO := gw_ hg HB.out; have bJ := aO; replace HB := ht_ HB hb; have p := nl_ hg a.out; have B := ng_ hg a.out; replace a := mk_ (blk_at a.out hb); clear hb P hg; have bK := B.out; have bL := p.out; obtain ⟨ak, al, am, an⟩ := b2_ b; obtain ⟨L, E, a3⟩ := Kd.R_slice s.out; subst a3))
 (try simp only [Act.put, z0_, z1_, z2_])
 go_cut [47] (fun bB wc => ∃ (kq : Nat) (aa : Bool), bB = .bool aa ∧ Aside0 (laws_FnReadProof.j0 kq I x q J af aa t i = some true) ∧ Aside0 (kq ≤ k) ∧ Aside0 (Kd.S k79 79 wc w.heap.size (fun k_ => some k_ ≠ ((.slice X q.length U) : Value).ownBlock) (.slice ab x.length Y) x) ∧ Aside0 (Kd.R k82 82 wc w.heap.size (fun _ => True) (.slice X q.length U) q) ∧ Aside0 (Kd.R k68 68 wc w.heap.size (fun k_ => some k_ ≠ ((.slice L u.length E) : Value).ownBlock) (.slice y i.length v) i) ∧ Aside0 (Kd.R k68 68 wc w.heap.size (fun k_ => some k_ ≠ ((.slice y i.length v) : Value).ownBlock) (.slice L u.length E) u) ∧ Aside0 (wc.heap[O]? = some (.cells #[.int .i64 t, (.slice y i.length v)] 27 (0, 0))) ∧ Aside0 (wc.heap[Z]? = some (.cells #[.int .i64 K, (.slice L u.length E)] 27 (0, 0))) ∧ Aside0 (Below w.heap.size w wc))
 case first =>
  have H := aJ.out
  clear aJ
  revert H; refine bd_ fun cc aZ H => ?_
  try dsimp only at H
  revert H; refine ib_ ?_ ?_ <;> rintro rfl H
  ·have H' := mk_ H
   clear H
   have bM := p.out
   have bN := B.out
   obtain ⟨ao, ap, aq, ar⟩ := b2_ a
   obtain ⟨au, av, aw, ax⟩ := b2_ b
   go_wp2_with (first | ((with_reducible refine gate_callee (f := 28) rfl ?_); refine gc_ 28 (some 41) Tryd.func28 #[.agg #[.int .i64 t, .slice y i.length v], .agg #[.int .i64 K, .slice L u.length E]] ?_; (with_reducible refine mo_ (laws_sameProof.calls k t _ _ i K _ _ u true _ ?side1 ?side2 ?side3 ?side4 aZ.out) ?_); (case side1 => refine (Kd.R_reads' (e := 68) (base := w.heap.size) (ok := fun k_ => (True ∧ some k_ ≠ (.slice L u.length E : Value).ownBlock)) (n := i.length) (c := v) ?_).2.2; exact (by (with_reducible repeat (first | apply Kd.R_alloc | apply Kd.R_drewN | apply Kd.R_drew)); exact (Kd.R_mono (Kd.R_far (Kd.R_far (Kd.R_types m.out b.out (by decide)) (fun _ hk => hk.2) _) (fun _ hk => hk.2) _) (fun _ h_ => h_.1)))); (case side2 => exact (Kd.R_reads' m.out).2.1); (case side3 => refine (Kd.R_reads' (e := 68) (base := w.heap.size) (ok := fun k_ => (True ∧ some k_ ≠ (.slice y i.length v : Value).ownBlock)) (n := u.length) (c := E) ?_).2.2; exact (by (with_reducible repeat (first | apply Kd.R_alloc | apply Kd.R_drewN | apply Kd.R_drew)); exact (Kd.R_mono (Kd.R_far (Kd.R_far (Kd.R_types s.out b.out (by decide)) (fun _ hk => hk.2) _) (fun _ hk => hk.2) _) (fun _ h_ => h_.1)))); (case side4 => exact (Kd.R_reads' s.out).2.1); intro cj hb; replace j := mk_ (Kd.S_below (by (with_reducible repeat (first | apply Kd.S_alloc | apply Kd.S_drewN | apply Kd.S_drew)); exact (Kd.S_mono (Kd.S_far (Kd.S_far (Kd.S_types j.out b.out (by decide)) (fun _ hk => hk.2) _) (fun _ hk => hk.2) _) (fun _ h_ => h_.1))) hb); replace l := mk_ (Kd.R_below (by (with_reducible repeat (first | apply Kd.R_alloc | apply Kd.R_drewN | apply Kd.R_drew)); exact (Kd.R_mono (Kd.R_far (Kd.R_far (Kd.R_types l.out b.out (by decide)) (fun _ hk => hk.2) _) (fun _ hk => hk.2) _) (fun _ h_ => h_.1))) hb); replace m := mk_ (Kd.R_below (by (with_reducible repeat (first | apply Kd.R_alloc | apply Kd.R_drewN | apply Kd.R_drew)); exact (Kd.R_mono (Kd.R_far (Kd.R_far (Kd.R_types m.out b.out (by decide)) (fun _ hk => hk.2) _) (fun _ hk => hk.2) _) (fun _ h_ => h_.1))) hb); replace s := mk_ (Kd.R_below (by (with_reducible repeat (first | apply Kd.R_alloc | apply Kd.R_drewN | apply Kd.R_drew)); exact (Kd.R_mono (Kd.R_far (Kd.R_far (Kd.R_types s.out b.out (by decide)) (fun _ hk => hk.2) _) (fun _ hk => hk.2) _) (fun _ h_ => h_.1))) hb); replace a := mk_ (blk_below (g := O) (o := .cells #[.int .i64 t, .slice y i.length v] 27 (0, 0)) (by refine bs_ ?_; refine blk_far ?_ p.out _; refine bs_ ?_; refine blk_far ?_ p.out _; refine bs_ ?_; exact a.out) hb); replace b := mk_ (blk_below (g := Z) (o := .cells #[.int .i64 K, .slice L u.length E] 27 (0, 0)) (by refine bs_ ?_; refine blk_put (cs := #[.int .i64 K, .slice none 0 0]) ?_ 1 _ rfl; refine bs_ ?_; refine blk_put (cs := #[.int .i64 0, .slice none 0 0]) ?_ 0 _ rfl; refine bs_ ?_; exact b.out) hb); replace HB := ht_ HB hb; (try clear hb)))
   go_meet
   case rel => exact ⟨_, ((af != aI)), sm_, H', ⟨by first | omega | exact Nat.le_refl _⟩, ⟨Kd.S_below j.out lt_⟩, ⟨Kd.R_below l.out lt_⟩, ⟨Kd.R_below (Kd.R_mono m.out (fun _ hk => hk.2)) lt_⟩, ⟨Kd.R_below (Kd.R_mono s.out (fun _ hk => hk.2)) lt_⟩, ⟨by refine bs_ ?_; exact a.out⟩, ⟨by refine bs_ ?_; exact b.out⟩, ⟨at_ HB.out⟩⟩
  have H' := mk_ H
  clear H
  have bO := p.out
  have bP := B.out
  obtain ⟨ay, az, aA, aB⟩ := b2_ a
  obtain ⟨aC, aD, aE, aF⟩ := b2_ b
  go_wp2_with (first | ((with_reducible refine gate_callee (f := 28) rfl ?_); refine gc_ 28 (some 41) Tryd.func28 #[.agg #[.int .i64 t, .slice y i.length v], .agg #[.int .i64 K, .slice L u.length E]] ?_; (with_reducible refine mo_ (laws_sameProof.calls k t _ _ i K _ _ u false _ ?side1 ?side2 ?side3 ?side4 aZ.out) ?_); (case side1 => refine (Kd.R_reads' (e := 68) (base := w.heap.size) (ok := fun k_ => (True ∧ some k_ ≠ (.slice L u.length E : Value).ownBlock)) (n := i.length) (c := v) ?_).2.2; exact (by (with_reducible repeat (first | apply Kd.R_alloc | apply Kd.R_drewN | apply Kd.R_drew)); exact (Kd.R_mono (Kd.R_far (Kd.R_far (Kd.R_types m.out b.out (by decide)) (fun _ hk => hk.2) _) (fun _ hk => hk.2) _) (fun _ h_ => h_.1)))); (case side2 => exact (Kd.R_reads' m.out).2.1); (case side3 => refine (Kd.R_reads' (e := 68) (base := w.heap.size) (ok := fun k_ => (True ∧ some k_ ≠ (.slice y i.length v : Value).ownBlock)) (n := u.length) (c := E) ?_).2.2; exact (by (with_reducible repeat (first | apply Kd.R_alloc | apply Kd.R_drewN | apply Kd.R_drew)); exact (Kd.R_mono (Kd.R_far (Kd.R_far (Kd.R_types s.out b.out (by decide)) (fun _ hk => hk.2) _) (fun _ hk => hk.2) _) (fun _ h_ => h_.1)))); (case side4 => exact (Kd.R_reads' s.out).2.1); intro ck hb; replace j := mk_ (Kd.S_below (by (with_reducible repeat (first | apply Kd.S_alloc | apply Kd.S_drewN | apply Kd.S_drew)); exact (Kd.S_mono (Kd.S_far (Kd.S_far (Kd.S_types j.out b.out (by decide)) (fun _ hk => hk.2) _) (fun _ hk => hk.2) _) (fun _ h_ => h_.1))) hb); replace l := mk_ (Kd.R_below (by (with_reducible repeat (first | apply Kd.R_alloc | apply Kd.R_drewN | apply Kd.R_drew)); exact (Kd.R_mono (Kd.R_far (Kd.R_far (Kd.R_types l.out b.out (by decide)) (fun _ hk => hk.2) _) (fun _ hk => hk.2) _) (fun _ h_ => h_.1))) hb); replace m := mk_ (Kd.R_below (by (with_reducible repeat (first | apply Kd.R_alloc | apply Kd.R_drewN | apply Kd.R_drew)); exact (Kd.R_mono (Kd.R_far (Kd.R_far (Kd.R_types m.out b.out (by decide)) (fun _ hk => hk.2) _) (fun _ hk => hk.2) _) (fun _ h_ => h_.1))) hb); replace s := mk_ (Kd.R_below (by (with_reducible repeat (first | apply Kd.R_alloc | apply Kd.R_drewN | apply Kd.R_drew)); exact (Kd.R_mono (Kd.R_far (Kd.R_far (Kd.R_types s.out b.out (by decide)) (fun _ hk => hk.2) _) (fun _ hk => hk.2) _) (fun _ h_ => h_.1))) hb); replace a := mk_ (blk_below (g := O) (o := .cells #[.int .i64 t, .slice y i.length v] 27 (0, 0)) (by refine bs_ ?_; refine blk_far ?_ p.out _; refine bs_ ?_; refine blk_far ?_ p.out _; refine bs_ ?_; exact a.out) hb); replace b := mk_ (blk_below (g := Z) (o := .cells #[.int .i64 K, .slice L u.length E] 27 (0, 0)) (by refine bs_ ?_; refine blk_put (cs := #[.int .i64 K, .slice none 0 0]) ?_ 1 _ rfl; refine bs_ ?_; refine blk_put (cs := #[.int .i64 0, .slice none 0 0]) ?_ 0 _ rfl; refine bs_ ?_; exact b.out) hb); replace HB := ht_ HB hb; (try clear hb)))
  go_meet
  case rel => exact ⟨_, (true), sm_, H', ⟨by first | omega | exact Nat.le_refl _⟩, ⟨Kd.S_below j.out lt_⟩, ⟨Kd.R_below l.out lt_⟩, ⟨Kd.R_below (Kd.R_mono m.out (fun _ hk => hk.2)) lt_⟩, ⟨Kd.R_below (Kd.R_mono s.out (fun _ hk => hk.2)) lt_⟩, ⟨by refine bs_ ?_; exact a.out⟩, ⟨by refine bs_ ?_; exact b.out⟩, ⟨at_ HB.out⟩⟩
 clear aJ
 try clear c2
 try clear aG
 try clear aH
 try clear ag
 try clear ah
 try clear ak
 try clear al
 try clear ao
 try clear ap
 try clear au
 try clear av
 try clear ay
 try clear az
 try clear aC
 try clear aD
 try clear ai
 try clear aj
 try clear am
 try clear an
 try clear aq
 try clear ar
 try clear aw
 try clear ax
 try clear aA
 try clear aB
 try clear aE
 try clear aF
 obtain ⟨kq, aa, rfl, HA, cl, z, A, d, D, a, b, HB⟩ := hcut
 cases kq with
 | zero => exact absurd HA.out (by simp [laws_FnReadProof.j0])
 | succ bC =>
  have H := HA.out
  clear HA
  simp only [laws_FnReadProof.j0] at H
  revert H; refine ib_ ?_ ?_ <;> rintro rfl H
  ·cases H
  revert H; refine bi_ ?_ ?_ <;> rintro rfl H
  ·revert H; refine ti_ (qfk_ fun cm aP aQ H => ?_) (qt_ fun aP aQ H => ?_)
   ·cases H
   revert H; refine ti_ (qfk_ fun bD aR aS H => ?_) (qt_ fun aR aS H => ?_)
   ·have bQ : ¬ (i = []) := fun h_ => bD (by rw [h_]; rfl)
    cases H
   replace H := Option.bind_eq_some_iff.mp H
   obtain ⟨a4, aK, H⟩ := H
   replace H : (some a4) = some true := H
   have bE := mk_ aK
   clear aK
   first | (obtain rfl := Option.some.inj H) | clear H
   have bR := p.out
   have bS := B.out
   have bb : wc.cell? ⟨O, 0, none⟩ = some (.int .i64 t) := (blk_cell a.out 0).trans rfl
   have bc : wc.cell? ⟨O, 1, none⟩ = some (.slice y i.length v) := (blk_cell a.out 1).trans rfl
   have be := blk_frozen a.out 0
   have bf := blk_frozen a.out 1
   go_wp2_with (first | (go_at_call 11; (with_reducible refine (laws_alive.calls  true _ bE.out).mono ?_); rintro e w' ⟨rfl, ⟨nd, rfl⟩⟩))
   go_ret
   exact ⟨er_, at_ HB.out⟩
  revert H; refine g_ (fun aL H => ?_)
  have bT := eq_true aL
  have bU : decide (J.size + 1 ≤ 9223372036854775807) = true := decide_eq_true aL
  try have bV : (9223372036854775807 < J.size + 1) = False := eq_false (Nat.not_lt.2 aL)
  replace H := bm_ H; obtain ⟨⟨a5, aM, a6⟩, bF, H⟩ := H
  try dsimp only at H
  revert H; refine bd_ fun a7 bG H => ?_
  try dsimp only at H
  revert H; refine ti_ (qfk_ fun cn aT aU H => ?_) (qt_ fun aT aU H => ?_)
  ·cases H
  revert H; refine bd_ fun cd bH H => ?_
  try dsimp only at H
  revert H; refine ib_ ?_ ?_ <;> rintro rfl H
  ·have hl_ := Option.some.inj H
   go_wp2_with (first | ((with_reducible refine gate_callee (f := 12) rfl ?_); refine gc_ 12 (some 68) Tryd.func12 #[.int .i64 I, .slice ab x.length Y, .slice X q.length U, .string (J ++ (⟨#[42]⟩ : ByteArray))] ?_; (with_reducible refine (impl_ReadProof.calls I _ _ x _ _ q (J ++ (⟨#[42]⟩ : ByteArray)) a5 aM a6 _ ?side1 ?side2 ?side3 ?side4 bF.out).mono ?_); (case side1 => exact Kd.C_below (Kd.S_reads' z.out).2.2 lt_); (case side2 => exact (Kd.S_reads' z.out).2.1); (case side3 => exact Kd.C_below (Kd.R_reads' A.out).2.2 lt_); (case side4 => exact (Kd.R_reads' A.out).2.1); rintro e co ⟨ce, rfl, M, hb⟩; refine ⟨_, rfl, ?_⟩; replace z := mk_ (Kd.S_below (Kd.S_below z.out lt_) hb); replace A := mk_ (Kd.R_below (Kd.R_below A.out lt_) hb); have W := mk_ (Kd.R_lower (Kd.R_new' (Kd.R_new' M (Kd.R_lt (Kd.R_below d.out lt_))) (Kd.R_lt (Kd.R_below D.out lt_))) (below_size (at_ HB.out))); replace d := mk_ (Kd.R_elder' (Kd.R_below d.out lt_) (Kd.R_base M) hb); replace a := mk_ (blk_at a.out hb); replace b := mk_ (blk_at b.out hb); replace HB := ht_ HB hb; (try clear D); (try clear hb); (try clear M)) | ((with_reducible refine gate_dst (N := 11) rfl ?_); (try (refine gate_guard (by rfl) ?_; dsimp only)); refine bx_ 11 #[.int .i64 0, .slice none 0 0] 27 ?_; intro bW hg cp P hb; replace z := mk_ (Kd.S_below (Kd.S_below z.out lt_) hb); replace A := mk_ (Kd.R_below (Kd.R_below A.out lt_) hb); replace d := mk_ (Kd.R_below (Kd.R_below d.out lt_) hb); replace W := mk_ (Kd.R_below (Kd.R_below W.out lt_) hb); have G := mk_ (P); have aV := gw_ hg HB.out; have bX := aV; replace HB := ht_ HB hb; have T := nl_ hg a.out; have ac := ng_ hg a.out; replace a := mk_ (blk_at a.out hb); have ad := nl_ hg b.out; have ae := ng_ hg b.out; (try clear D b); clear hb P hg; have bY := ac.out; have bZ := T.out; have b0 := ae.out; have b1 := ad.out; obtain ⟨bg, bh, bj, bk⟩ := b2_ G; obtain ⟨a8, a9, ba⟩ := Kd.R_slice W.out; subst ba; have b2 := p.out; have b3 := B.out; obtain ⟨bn, bo, bp, bq⟩ := b2_ a) | ((with_reducible refine gate_callee (f := 8) rfl ?_); refine gc_ 8 (some 75) Tryd.func8 #[.int .i64 I, .slice ab x.length Y, .slice X q.length U, .agg #[.int .i64 t, .slice y i.length v]] ?_; (with_reducible refine mo_ (impl_ProofText.calls bC I _ _ x _ _ q t _ _ i a7 _ ?side1 ?side2 ?side3 ?side4 ?side5 ?side6 bG.out) ?_); (case side1 => refine (Kd.S_reads' (e := 79) (base := w.heap.size) (ok := fun k_ => some k_ ≠ (.slice X q.length U : Value).ownBlock) (n := x.length) (c := Y) ?_).2.2; exact (by (with_reducible repeat (first | apply Kd.S_alloc | apply Kd.S_drewN | apply Kd.S_drew)); exact (Kd.S_mono (Kd.S_far (Kd.S_far (Kd.S_types z.out G.out (by decide)) (fun _ hk => hk.2) _) (fun _ hk => hk.2) _) (fun _ h_ => h_.1)))); (case side2 => exact (Kd.S_reads' z.out).2.1); (case side3 => refine (Kd.R_reads' (e := 82) (base := w.heap.size) (ok := fun k_ => True) (n := q.length) (c := U) ?_).2.2; exact (by (with_reducible repeat (first | apply Kd.R_alloc | apply Kd.R_drewN | apply Kd.R_drew)); exact (Kd.R_mono (Kd.R_far (Kd.R_far (Kd.R_types A.out G.out (by decide)) (fun _ hk => hk.2) _) (fun _ hk => hk.2) _) (fun _ h_ => h_.1)))); (case side4 => exact (Kd.R_reads' A.out).2.1); (case side5 => refine (Kd.R_reads' (e := 68) (base := w.heap.size) (ok := fun k_ => (some k_ ≠ (.slice L u.length E : Value).ownBlock ∧ some k_ ≠ (.slice a8 aM.length a9 : Value).ownBlock)) (n := i.length) (c := v) ?_).2.2; exact (by (with_reducible repeat (first | apply Kd.R_alloc | apply Kd.R_drewN | apply Kd.R_drew)); exact (Kd.R_mono (Kd.R_far (Kd.R_far (Kd.R_types d.out G.out (by decide)) (fun _ hk => hk.2) _) (fun _ hk => hk.2) _) (fun _ h_ => h_.1)))); (case side6 => exact (Kd.R_reads' d.out).2.1); intro cq hb; replace z := mk_ (Kd.S_below (by (with_reducible repeat (first | apply Kd.S_alloc | apply Kd.S_drewN | apply Kd.S_drew)); exact (Kd.S_mono (Kd.S_far (Kd.S_far (Kd.S_types z.out G.out (by decide)) (fun _ hk => hk.2) _) (fun _ hk => hk.2) _) (fun _ h_ => h_.1))) hb); replace A := mk_ (Kd.R_below (by (with_reducible repeat (first | apply Kd.R_alloc | apply Kd.R_drewN | apply Kd.R_drew)); exact (Kd.R_mono (Kd.R_far (Kd.R_far (Kd.R_types A.out G.out (by decide)) (fun _ hk => hk.2) _) (fun _ hk => hk.2) _) (fun _ h_ => h_.1))) hb); replace d := mk_ (Kd.R_below (by (with_reducible repeat (first | apply Kd.R_alloc | apply Kd.R_drewN | apply Kd.R_drew)); exact (Kd.R_mono (Kd.R_far (Kd.R_far (Kd.R_types d.out G.out (by decide)) (fun _ hk => hk.2) _) (fun _ hk => hk.2) _) (fun _ h_ => h_.1))) hb); replace a := mk_ (blk_below (g := O) (o := .cells #[.int .i64 t, .slice y i.length v] 27 (0, 0)) (by refine bs_ ?_; refine blk_far ?_ T.out _; refine bs_ ?_; refine blk_far ?_ T.out _; refine bs_ ?_; exact a.out) hb); replace HB := ht_ HB hb; (try clear D W b G); (try clear hb); obtain ⟨br, bs, bu, bv⟩ := b2_ a) | (go_at_call 10; (with_reducible refine (impl_ProofOk.calls I _ _ x _ _ q t _ _ i true _ ?side1 ?side2 ?side3 ?side4 ?side5 ?side6 bH.out).mono ?_); (case side1 => exact Kd.C_below (Kd.S_reads' z.out).2.2 lt_); (case side2 => exact (Kd.S_reads' z.out).2.1); (case side3 => exact Kd.C_below (Kd.R_reads' A.out).2.2 lt_); (case side4 => exact (Kd.R_reads' A.out).2.1); (case side5 => exact Kd.C_below (Kd.R_reads' d.out).2.2 lt_); (case side6 => exact (Kd.R_reads' d.out).2.1); rintro e cr ⟨rfl, hb⟩; replace HB := ht_ HB hb; (try clear z A d D W a b G); (try clear hb)))
   go_ret
   exact ⟨er_, at_ HB.out⟩
  cases H
/-- THE ONE PURE STATEMENT of laws_FnReadProof: yours. -/
noncomputable def laws_FnReadProof.Pure : Prop := ∀ (l0 : List Int), l0.length ≤ maxLen → l0.length * 1 ≤ 140737488351232 → (∀ x ∈ l0, (Lit.int .u8 x).wf = true) → ∃ k, laws_FnReadProof.f k l0 = some true
theorem laws_FnReadProof.walk (P : laws_FnReadProof.Pure) (a0 : Option Addr) (len0 cap0 : Nat) (z0 : List Int) (w : World) (w0 : (a0 = none ∧ len0 = 0 ∧ cap0 = 0 ∧ z0 = []) ∨ ∃ x, a0 = some x ∧ len0 ≤ cap0 ∧ cap0 ≤ maxLen ∧ z0.length = cap0 ∧ (∀ i, i < z0.length → w.cell? (x.add i) = some (.int .u8 (z0.getD i 0))) ∧ ∀ n ∈ z0, (Lit.int .u8 n).wf = true) (y0 : len0 * 1 ≤ 140737488351232) :
  Calls Tryd.prog 6 #[.slice a0 len0 cap0] w fun e w' => e = .returned (.bool true) ∧ Below w.heap.size w w' := by
 obtain ⟨l0, rfl, hr0, hm0, hw0, hc0⟩ := ReadsInt.ofRowC w0
 obtain ⟨k, h⟩ := P l0 hm0 y0 hw0
 refine (laws_FnReadProof.calls k _ _ l0 true w (Kd.C_of_reads (d := (0 : Int)) (h1 := fun _ => rfl) hr0) hc0 h rfl).mono ?_
 rintro e w' ⟨rfl, hd⟩
 exact ⟨rfl, hd⟩
end Go.Proofs.YtcaogllnbpmcgaaDoor.P

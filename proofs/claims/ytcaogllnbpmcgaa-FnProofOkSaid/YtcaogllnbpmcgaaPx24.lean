/- Go's functions come to just the answers of the Lean functions told here. -/
import Derived.Test.YtcaogllnbpmcgaaPx23
namespace Go.Proofs.Ytcaogllnbpmcgaa.P
open Go.RowKit Go.Proofs.YtcaogllnbpmcgaaW.PrintWords Go.Proofs.YtcaogllnbpmcgaaW.PrintLast Go.Proofs.YtcaogllnbpmcgaaW.PrintMore
attribute [local go_sem] max2_int min2_int max_two min_two max_three min_three max_four min_four
set_option linter.unusedVariables false
set_option linter.unusedSimpArgs false
def spec_DrawProofOk.f (k : Nat) (l0 : List Int) : Option (Int × (List (S38)) × (List (S47)) × Int × (List (S93))) := (spec_l20Open.f l0).bind fun bt419 => ((spec_l20Proof.f k bt419.1 bt419.2 2).bind fun bt422 => (some (bt422.1, bt422.2.1, bt422.2.2.1, bt422.2.2.2.1, bt422.2.2.2.2.1)))
set_option maxHeartbeats 8000000 in
set_option maxRecDepth 100000 in
theorem spec_DrawProofOk.calls (k : Nat) (A0 : Option Addr) (c0 : Nat) (l0 : List Int) (r1 : Int) (r2 : List (S38)) (r3 : List (S47)) (r4 : Int) (r5 : List (S93)) (w : World) (hr0 : Kd.C (Kd.int .u8) w A0 l0.length l0) (hc0 : l0.length ≤ c0) (h : spec_DrawProofOk.f k l0 = some (r1, r2, r3, r4, r5)) :
  Calls Try.prog 45 #[.slice A0 l0.length c0] w fun e w' => ∃ v1_ v2_ v4_ : Value, e = .returned (.tuple #[.int .i64 r1, v1_, v2_, .agg #[.int .i64 r4, v4_]]) ∧ Kd.S k38 38 w' w.heap.size (fun k_ => some k_ ≠ (v2_ : Value).ownBlock) v1_ r2 ∧ Kd.R k47 47 w' w.heap.size (fun _ => True) v2_ r3 ∧ Kd.R k93 93 w' w.heap.size (fun _ => True) v4_ r5 ∧ Below w.heap.size w w' := by
 have hu51 := Try.underlying51
 have HR0 := mk_ hr0
 have HC0 := mk_ hc0
 clear hr0 hc0
 have HB := mk_ (Below.refl w.heap.size w)
 unfold spec_DrawProofOk.f at h
 have H := h
 clear h
 replace H := Option.bind_eq_some_iff.mp H
 obtain ⟨⟨t419, t420⟩, A20, H⟩ := H
 try dsimp only at H
 have A2 := mk_ A20
 clear A20
 replace H := Option.bind_eq_some_iff.mp H
 obtain ⟨⟨t422, t423, t426, t429, t430, t433⟩, A30, H⟩ := H
 try dsimp only at H
 have A3 := mk_ A30
 clear A30
 simp only [Option.some.injEq, Prod.mk.injEq] at H
 obtain ⟨rfl, rfl, rfl, rfl, rfl⟩ := H
 go_enter Try.func45, Try.ntmps45
 go_wp2_with (first | ((with_reducible refine gate_dst (N := 5) rfl ?_); refine bx_ 5 #[.int .i64 0, .slice none 0 0] 51 ?_; intro gb418 hg w4 hbox hb; have BK418 := mk_ (hbox); have GW418 := mk_ (gb_ hg HB.out); have GE418 := mk_ (gb_ hg HB.out); replace HB := mk_ (below_step (below_at HB.out) hb); clear hb hbox hg) | ((with_reducible refine gate_callee (f := 56) rfl ?_); refine goesL_ (some 7) rfl rfl Try.func56 (by kernel_rfl) rfl #[.slice A0 l0.length c0] rfl gl_ ?_; (with_reducible refine (spec_l20Open.calls _ _ l0 t419 t420 w _ ?side1 ?side2 ?side3 A2.out).mono ?_); (case side1 => exact at_ HB.out); (case side2 => exact HR0.out); (case side3 => exact HC0.out); rintro e w5 ⟨g421, rfl, hi, hb, hb2⟩; refine ⟨_, rfl, ?_⟩; replace HB := mk_ (hb); have HI421 := mk_ (hi); have NB421_418 := mk_ (IsS117.ne_blk hi (blk_below (g := gb418) (o := .cells #[.int .i64 0, .slice none 0 0] 51 (0, 0)) (bk_ BK418.out) hb2) (by decide)); have NB418_421 := mk_ (Ne.symm (IsS117.ne_blk hi (blk_below (g := gb418) (o := .cells #[.int .i64 0, .slice none 0 0] 51 (0, 0)) (bk_ BK418.out) hb2) (by decide))); replace BK418 := mk_ (blk_below (g := gb418) (o := .cells #[.int .i64 0, .slice none 0 0] 51 (0, 0)) (bk_ BK418.out) hb2); (try clear hb)) | ((with_reducible refine gate_callee (f := 82) rfl ?_); refine goesL_ (some 8) rfl rfl Try.func82 (by kernel_rfl) rfl #[.pointer (some ⟨g421, 0, none⟩), .int .i64 2] rfl gl_ ?_; (with_reducible refine (spec_l20Proof.calls k g421 t419 t420 2 t422 t423 t426 t429 t430 t433 w _ ?side1 ?side2 A3.out).mono ?_); (case side1 => repeat (first | (with_reducible first | exact HI421.out | apply IsS117.alloc | apply IsS117.drewN | apply IsS117.drew | apply IsS117.set_1 | refine IsS117.far ?_ NB421_418.out _) | exact HI421.out)); (case side2 => repeat (first | (with_reducible first | exact HB.out | apply below_alloc | apply pw_below_drewN | apply below_drew1 | refine below_set ?_ (IsS117.ge HI421.out) | refine below_set ?_ GE418.out) | exact HB.out)); rintro e w6 ⟨v424, v427, v431, rfl, ho0, ho1, ho2, hi, hb, hk⟩; refine ⟨_, rfl, ?_⟩; replace BK418 := mk_ (KeepBut.blk hk (g' := gb418) (o := .cells #[.int .i64 0, .slice none 0 0] 51 (0, 0)) (bk_ BK418.out) NB418_421.out (by simp)); have HO425 := mk_ (Kd.S_lower ho0 (below_size (by repeat (first | (with_reducible first | exact HB.out | apply below_alloc | apply pw_below_drewN | apply below_drew1 | refine below_set ?_ (IsS117.ge HI421.out) | refine below_set ?_ GE418.out) | exact HB.out)))); have HO428 := mk_ (Kd.R_lower ho1 (below_size (by repeat (first | (with_reducible first | exact HB.out | apply below_alloc | apply pw_below_drewN | apply below_drew1 | refine below_set ?_ (IsS117.ge HI421.out) | refine below_set ?_ GE418.out) | exact HB.out)))); have HO432 := mk_ (Kd.R_lower ho2 (below_size (by repeat (first | (with_reducible first | exact HB.out | apply below_alloc | apply pw_below_drewN | apply below_drew1 | refine below_set ?_ (IsS117.ge HI421.out) | refine below_set ?_ GE418.out) | exact HB.out)))); replace HB := mk_ (hb); replace HI421 := mk_ (hi); (try clear hb); (try clear ho0); (try clear ho1); (try clear ho2); have hnb7 := NB418_421.out; have hnc7 := NB421_418.out; have hcz8_0 := blk_cell BK418.out 0; have hcz8_1 := blk_cell BK418.out 1; have hfz8_0 := blk_frozen BK418.out 0; have hfz8_1 := blk_frozen BK418.out 1; obtain ⟨Ao9, co9, eo9⟩ := Kd.R_slice HO432.out; subst eo9))
 refine bodyPost_ret (results_list (rs := [.tmp 2, .tmp 3, .tmp 4, .cell 5 51]) rfl (by simp) (.tmp (.tmp (.tmp (.cell gb418 51 #[.int .i64 t429, .slice Ao9 t430.length co9] (0, 0) _ rfl (by refine bs_ ?_; refine blk_put (cs := #[.int .i64 t429, .slice none 0 0]) ?_ 1 _ rfl; refine bs_ ?_; refine blk_put (cs := #[.int .i64 0, .slice none 0 0]) ?_ 0 _ rfl; refine bs_ ?_; exact BK418.out) Try.underlying51 rfl (by kernel_rfl) .nil))))) rfl ?_
 exact ⟨_, _, _, er_, by (with_reducible repeat (first | apply Kd.S_alloc | apply Kd.S_drewN | apply Kd.S_drew)); exact Kd.S_mono (Kd.S_far (p := ⟨gb418, 1, none⟩) (Kd.S_far (p := ⟨gb418, 0, none⟩) (Kd.S_types HO425.out BK418.out (by decide)) (fun _ hk => hk.2) (.int .i64 t429)) (fun _ hk => hk.2) (.slice Ao9 t430.length co9)) (fun _ hk => hk.1), by (with_reducible repeat (first | apply Kd.R_alloc | apply Kd.R_drewN | apply Kd.R_drew)); exact Kd.R_mono (Kd.R_far (p := ⟨gb418, 1, none⟩) (Kd.R_far (p := ⟨gb418, 0, none⟩) (Kd.R_types HO428.out BK418.out (by decide)) (fun _ hk => hk.2) (.int .i64 t429)) (fun _ hk => hk.2) (.slice Ao9 t430.length co9)) (fun _ hk => trivial), by (with_reducible repeat (first | apply Kd.R_alloc | apply Kd.R_drewN | apply Kd.R_drew)); exact Kd.R_mono (Kd.R_far (p := ⟨gb418, 1, none⟩) (Kd.R_far (p := ⟨gb418, 0, none⟩) (Kd.R_types HO432.out BK418.out (by decide)) (fun _ hk => hk.2) (.int .i64 t429)) (fun _ hk => hk.2) (.slice Ao9 t430.length co9)) (fun _ hk => trivial), by repeat (first | (with_reducible first | exact HB.out | apply below_alloc | apply pw_below_drewN | apply below_drew1 | refine below_set ?_ (IsS117.ge HI421.out) | refine below_set ?_ GE418.out) | exact HB.out)⟩
end Go.Proofs.Ytcaogllnbpmcgaa.P

/- Go's functions come to just the answers of the Lean functions told here. -/
import Derived.Test.YtcaogllnbpmcgaaDoorMAllFnReadProof3
import Derived.Laws.EntriesVeiled
set_option maxHeartbeats 8000000
set_option maxRecDepth 100000
namespace Go.Proofs.YtcaogllnbpmcgaaDoor.P
open Go.RowKit Go.Proofs.YtcaogllnbpmcgaaDoorW.PrintWords Go.Proofs.YtcaogllnbpmcgaaDoorW.PrintLast Go.Proofs.YtcaogllnbpmcgaaDoorW.PrintMore
attribute [local go_sem] max2_int min2_int max_two min_two max_three min_three max_four min_four
set_option linter.unusedVariables false
set_option linter.unusedSimpArgs false
-- HAND rounds=0 making=1
-- IMPORTS: Derived.Test.YtcaogllnbpmcgaaDoorMReadW Derived.Laws.EntriesVeiled
noncomputable def impl_ReadProof.f (a0 : Int) (l1 : List (S79)) (l2 : List (S82)) (a3 : ByteArray) : Option (Int × (List (S68)) × Bool) := if l1.length < 4611686018427387904 then some (M.readF a0 l1 l2 a3) else none
theorem impl_ReadProof.calls (I : Int) (A1 : Option Addr) (c1 : Nat) (l1 : List (S79)) (A2 : Option Addr) (c2 : Nat) (l : List (S82)) (g : ByteArray) (O : Int) (J : List (S68)) (r3 : Bool) (w : World) (aG : Kd.C k79 w A1 l1.length l1) (aH : l1.length ≤ c1) (aI : Kd.C k82 w A2 l.length l) (aJ : l.length ≤ c2) (h : impl_ReadProof.f I l1 l g = some (O, J, r3)) :
  Calls Tryd.prog 12 #[.int .i64 I, .slice A1 l1.length c1, .slice A2 l.length c2, .string g] w fun e w' => ∃ aK : Value, e = .returned (.tuple #[.agg #[.int .i64 O, aK], .bool r3]) ∧ Kd.R k68 68 w' w.heap.size (fun _ => True) aK J ∧ Below w.heap.size w w' := by
 unfold impl_ReadProof.f at h
 by_cases am : l1.length < 4611686018427387904
 case neg => rw [if_neg am] at h; cases h
 rw [if_pos am] at h
 have hr := Option.some.inj h
 clear h
 have aL := Lib.hid aG
 have aM := Lib.hid aI
 clear aG aI
 have hu := Tryd.underlying27
 obtain ⟨w0, ag⟩ : ∃ w0, w.alloc (.cells #[.int .i64 0, .slice none 0 0] 27) = w0 := ⟨_, rfl⟩
 have U := Lib.hid (show w0.heap[w.heap.size]? = some (.cells #[.int .i64 0, .slice none 0 0] 27 (0, 0)) by rw [← ag]; exact M.new_at_ _ _ _ rfl)
 have Y := Lib.hid (show Below w.heap.size w w0 by rw [← ag]; exact below_alloc (Below.refl _ _) _)
 have Z := Lib.hid (show w0.heap.size = w.heap.size + 1 by rw [← ag, M.alloc_size_])
 have infoP : (Tryd.prog.info? 27).map (fun i => (i.zero, i.size, i.bytes)) = some (some (.agg #[.int .i64 0, .slice none 0 0]), 2, 32) := by kernel_rfl
 by_cases an : 200 < g.size
 case pos =>
  have c0 : decide (200 < (g.size : Int)) = true := decide_eq_true (by omega)
  obtain ⟨rfl, rfl, rfl⟩ : O = 0 ∧ J = [] ∧ r3 = false := by
   unfold M.readF at hr
   rw [if_pos an] at hr
   injection hr with e1 e2
   injection e2 with e2 e3
   exact ⟨e1.symm, e2.symm, e3.symm⟩
  clear hr an
  obtain ⟨m, o, u⟩ := M.read_fin (w := w) (w0 := w0) (W := w0) (bx := w.heap.size) (v := .slice none 0 0) (sp := []) (x := .int .i64 0) (y := .slice none 0 0) (Below.refl _ _) (Kd.R_nil _ _ _ _ _) U.out (by rw [Z.out]; exact Nat.le_refl _) (Nat.le_refl _) Y.out
  have ab := (blk_cell U.out 0).trans rfl
  have ac := (blk_cell U.out 1).trans rfl
  have ad := blk_frozen U.out 0
  have ae := blk_frozen U.out 1
  have z := Lib.hid m
  have A := Lib.hid o
  have B := Lib.hid u
  clear m o u
  go_enter Tryd.func12, Tryd.ntmps12
  go_upto_region 1 with (fail)
  clear ag
  go_wp2
  refine bodyPost_ret (results_ct rfl _ _ w.heap.size 27 #[.int .i64 0, .slice none 0 0] (0, 0) _ rfl z.out Tryd.underlying27 rfl (by kernel_rfl)) rfl ?_
  exact ⟨_, rfl, A.out, B.out⟩
 have c0 : decide (200 < (g.size : Int)) = false := decide_eq_false (by omega)
 obtain ⟨b, hb⟩ : ∃ b, w0.heap.size = b := ⟨_, rfl⟩
 obtain ⟨W1, aZ⟩ : ∃ W1, w0.alloc (.cells #[.int .i64 0, .slice none 0 0] 27) = W1 := ⟨_, rfl⟩
 have E1 := M.RE.start w0
 rw [aZ, hb] at E1
 obtain ⟨W2, a1⟩ : ∃ W2, (W1.setCell ⟨b, 0, none⟩ (.int .i64 0)).setCell ⟨b, 1, none⟩ (.slice none 0 0) = W2 := ⟨_, rfl⟩
 have E2 := E1.zero
 rw [a1] at E2
 have P := (blk_cell E1.hq 0).trans rfl
 have ah := (blk_cell E1.hq 1).trans rfl
 have ao := blk_frozen E1.hq 0
 have a2 := blk_frozen E1.hq 1
 have a4 := Lib.hid E2
 obtain ⟨G, hG⟩ : ∃ G, Q.readI (g.size + 1) 0 (M.bl g) = G := ⟨_, rfl⟩
 have T := M.read_calls (g.size + 1) g _ [] W2 (by omega) (by omega) (by decide) E2
 rw [show Q.readI (g.size + 1) ([] : List Q.Sp).length (M.bl g) = G from hG] at T
 have HT := Lib.hid T
 have hF : M.readO I l1 l G = (O, J, r3) := by rw [← hr, M.readI_O (n := I) (s := l1) (t := l) (x := g) (by omega), hG]
 have aa := Lib.hid hF
 have HG := Lib.hid hG
 have HBX := Lib.hid (show w.heap.size < b by rw [← hb, Z.out]; omega)
 have hne : w.heap.size ≠ b := by have := HBX.out; omega
 have hne' : b ≠ w.heap.size := fun h => hne h.symm
 clear hr hG hF E1 E2 infoP T
 go_enter Tryd.func12, Tryd.ntmps12
 go_upto_region 3 with (fail)
 clear ag
 go_upto_region 4 with (fail)
 clear P ah ao a2
 go_upto_region 5 with (go_at_call 40; (refine HT.out.mono ?_); rintro e W5 ⟨c, k, a5, v5, D, rfl, aN, _, _, ap, aq⟩; have E5 := Lib.hid aN; have a9 := Lib.hid ap; have au := Lib.hid aq; clear aN ap aq HT a4)
 obtain ⟨Av, cv, ev⟩ := Kd.R_slice E5.out.hr
 subst ev
 have P := (blk_cell E5.out.hq 0).trans rfl
 have ao := blk_frozen E5.out.hq 0
 have aO := blk_below U.out E5.out.hb
 obtain ⟨G1, G2, G3⟩ := E5.out.first c
 have av := blk_far (p := ⟨b, 0, none⟩) aO hne (.int .i64 c)
 obtain ⟨W6, aP⟩ : ∃ W6, W5.setCell ⟨b, 0, none⟩ (.int .i64 c) = W6 := ⟨_, rfl⟩
 rw [aP] at G1 G2 G3 av
 have aw := Lib.hid G1
 have aQ := Lib.hid G2
 have ai := Lib.hid G3
 have d := Lib.hid av
 clear G1 G2 G3 av aO
 go_upto_region 6 with (fail)
 clear aP P ao
 cases a5 with
 | false =>
  have hn : G = none := by
   have h := au.out
   cases hq : G with
   | none => rfl
   | some q => rw [hq] at h; exact absurd h.1 Bool.false_ne_true
  subst hn
  obtain ⟨rfl, rfl, rfl⟩ : O = 0 ∧ J = [] ∧ r3 = false := by
   have h := aa.out
   rw [show M.readO I l1 l none = (0, [], false) from rfl] at h
   injection h with e1 e2
   injection e2 with e2 e3
   exact ⟨e1.symm, e2.symm, e3.symm⟩
  obtain ⟨m, o, u⟩ := M.read_fin (w := w) (w0 := w0) (W := W6) (bx := w.heap.size) (v := .slice none 0 0) (sp := []) (x := .int .i64 0) (y := .slice none 0 0) ai.out (Kd.R_nil _ _ _ _ _) d.out (by rw [Z.out]; exact Nat.le_refl _) (Nat.le_refl _) Y.out
  have ab := (blk_cell d.out 0).trans rfl
  have ac := (blk_cell d.out 1).trans rfl
  have ad := blk_frozen d.out 0
  have ae := blk_frozen d.out 1
  have z := Lib.hid m
  have A := Lib.hid o
  have B := Lib.hid u
  clear m o u
  go_wp2
  refine bodyPost_ret (results_ct rfl _ _ w.heap.size 27 #[.int .i64 0, .slice none 0 0] (0, 0) _ rfl z.out Tryd.underlying27 rfl (by kernel_rfl)) rfl ?_
  exact ⟨_, rfl, A.out, B.out⟩
 | true =>
 have hG : G = some (D, c, M.bl k) := by
  have h := au.out
  cases hq : G with
  | none => rw [hq] at h; exact Bool.noConfusion h
  | some q =>
   obtain ⟨a, x, r⟩ := q
   rw [hq] at h
   obtain ⟨_, h1, h2, h3⟩ := h
   rw [h1, h2, h3]
   rfl
 subst hG
 have hemp := M.empty_is (s := k)
 have L := M.bl_ne (s := k)
 by_cases hrest : M.bl k = []
 case neg =>
  rw [decide_eq_false hrest] at hemp L
  have aF : (k.toList != (⟨#[]⟩ : ByteArray).toList) = true := by unfold bne; rw [L]; rfl
  obtain ⟨rfl, rfl, rfl⟩ : O = 0 ∧ J = [] ∧ r3 = false := by
   have h := aa.out
   rw [M.readO_rest hrest] at h
   injection h with e1 e2
   injection e2 with e2 e3
   exact ⟨e1.symm, e2.symm, e3.symm⟩
  obtain ⟨m, o, u⟩ := M.read_fin (w := w) (w0 := w0) (W := W6) (bx := w.heap.size) (v := .slice none 0 0) (sp := []) (x := .int .i64 0) (y := .slice none 0 0) ai.out (Kd.R_nil _ _ _ _ _) d.out (by rw [Z.out]; exact Nat.le_refl _) (Nat.le_refl _) Y.out
  have ab := (blk_cell d.out 0).trans rfl
  have ac := (blk_cell d.out 1).trans rfl
  have ad := blk_frozen d.out 0
  have ae := blk_frozen d.out 1
  have z := Lib.hid m
  have A := Lib.hid o
  have B := Lib.hid u
  clear m o u
  go_wp2
  refine bodyPost_ret (results_ct rfl _ _ w.heap.size 27 #[.int .i64 0, .slice none 0 0] (0, 0) _ rfl z.out Tryd.underlying27 rfl (by kernel_rfl)) rfl ?_
  exact ⟨_, rfl, A.out, B.out⟩
 rw [decide_eq_true hrest] at hemp L
 have aF : (k.toList != (⟨#[]⟩ : ByteArray).toList) = false := by unfold bne; rw [L]; rfl
 rw [hrest] at aa
 have hread : Q.readI (g.size + 1) 0 (M.bl g) = some (D, c, []) := by rw [HG.out, hrest]
 have ax := M.read_prf64 am hread
 obtain ⟨K, hK⟩ := M.impl_textE I l1 l c D ax (@decide (M.PrfOk I l1 l c D) (Classical.propDecidable _)) (@decide_eq_true_iff _ (Classical.propDecidable _))
 have HK := Lib.hid (hK K (Nat.le_refl _))
 have hti := M.text_iff (n := I) (s := l1) (t := l) (by decide) (Q.readI_some _ _ _ _ hread)
 have hte := M.list_eq (s := M.textF I l1 l c D) (t := g)
 obtain ⟨X, hX⟩ : ∃ X, M.textF I l1 l c D = X := ⟨_, rfl⟩
 rw [hX] at HK hti hte
 clear hK hX hread ax au
 have P := (blk_cell aw.out 0).trans rfl
 have ah := (blk_cell aw.out 1).trans rfl
 have ak := Lib.hid (below_step Y.out ai.out)
 have al := Lib.hid (Kd.R_reads' aQ.out)
 by_cases hp : M.PrfOk I l1 l c D
 case neg =>
  have ay : ¬ M.bl X = M.bl g := fun h => hp (hti.1 (M.bl_inj h))
  rw [decide_eq_false ay] at hte
  have aX : (X.toList != g.toList) = true := by unfold bne; rw [hte]; rfl
  obtain ⟨rfl, rfl, rfl⟩ : O = 0 ∧ J = [] ∧ r3 = false := by
   have h := aa.out
   rw [M.readO_no hp] at h
   injection h with e1 e2
   injection e2 with e2 e3
   exact ⟨e1.symm, e2.symm, e3.symm⟩
  clear hti ay
  go_upto_region 7 with (go_at_call 8; (refine (impl_ProofText.calls K I A1 c1 l1 A2 c2 l c Av cv D X _ (Kd.C_below aL.out ak.out) aH (Kd.C_below aM.out ak.out) aJ al.out.2.2 al.out.2.1 HK.out).mono ?_); rintro e W7 ⟨rfl, E⟩; have j := Lib.hid (blk_below d.out E); have az := Lib.hid (below_step ai.out E); clear E P ah)
  obtain ⟨m, o, u⟩ := M.read_fin (w := w) (w0 := w0) (W := W7) (bx := w.heap.size) (v := .slice none 0 0) (sp := []) (x := .int .i64 0) (y := .slice none 0 0) az.out (Kd.R_nil _ _ _ _ _) j.out (by rw [Z.out]; exact Nat.le_refl _) (Nat.le_refl _) Y.out
  have ab := (blk_cell j.out 0).trans rfl
  have ac := (blk_cell j.out 1).trans rfl
  have ad := blk_frozen j.out 0
  have ae := blk_frozen j.out 1
  have z := Lib.hid m
  have A := Lib.hid o
  have B := Lib.hid u
  clear m o u
  go_wp2
  refine bodyPost_ret (results_ct rfl _ _ w.heap.size 27 #[.int .i64 0, .slice none 0 0] (0, 0) _ rfl z.out Tryd.underlying27 rfl (by kernel_rfl)) rfl ?_
  exact ⟨_, rfl, A.out, B.out⟩
 rw [M.readO_yes hp] at aa
 have hx := hti.2 hp
 subst hx
 have aX : (X.toList != X.toList) = false := by simp
 obtain ⟨rfl, rfl, rfl⟩ : O = c ∧ J = D ∧ r3 = true := by
  have h := aa.out
  injection h with e1 e2
  injection e2 with e2 e3
  exact ⟨e1.symm, e2.symm, e3.symm⟩
 clear hti hte
 go_upto_region 8 with (go_at_call 8; (refine (impl_ProofText.calls K I A1 c1 l1 A2 c2 l O Av cv J X _ (Kd.C_below aL.out ak.out) aH (Kd.C_below aM.out ak.out) aJ al.out.2.2 al.out.2.1 HK.out).mono ?_); rintro e W7 ⟨rfl, E⟩; have j := Lib.hid (blk_below d.out E); have az := Lib.hid (below_step ai.out E); have a6 := Lib.hid (Kd.R_below aQ.out E); have aR := Lib.hid (blk_below aw.out E); clear E P ah)
 have P := (blk_cell aR.out 0).trans rfl
 have ah := (blk_cell aR.out 1).trans rfl
 obtain ⟨m, o, u⟩ := M.read_fin (w := w) (w0 := w0) (W := W7) (bx := w.heap.size) (v := .slice Av J.length cv) (sp := J) (x := .int .i64 O) (y := .slice Av J.length cv) az.out a6.out j.out (by rw [Z.out]; exact Nat.le_refl _) (Nat.le_refl _) Y.out
 have ab := (blk_cell j.out 0).trans rfl
 have ac := (blk_cell j.out 1).trans rfl
 have ad := blk_frozen j.out 0
 have ae := blk_frozen j.out 1
 have z := Lib.hid m
 have A := Lib.hid o
 have B := Lib.hid u
 clear m o u
 go_wp2
 refine bodyPost_ret (results_ct rfl _ _ w.heap.size 27 #[.int .i64 O, .slice Av J.length cv] (0, 0) _ rfl z.out Tryd.underlying27 rfl (by kernel_rfl)) rfl ?_
 exact ⟨_, rfl, A.out, B.out⟩
end Go.Proofs.YtcaogllnbpmcgaaDoor.P

/- The program's leastAsks, walked with its memo: it tells the least number of questions, and the memo holds least numbers alone. -/
import Derived.Test.YtnmkifpifmdplaaMMemo
import Derived.Test.YtnmkifpifmdplaaPx4
import Derived.Test.YtnmkifpifmdplaaPx2
import Derived.Lib.Hide
set_option linter.unusedVariables false
set_option linter.unusedSimpArgs false
namespace Go.Proofs.Ytnmkifpifmdplaa.M
open Go Go.RowKit Go.Proofs.YtnmkifpifmdplaaW.PrintWords Go.Proofs.Ytnmkifpifmdplaa.P Go.Maps
theorem lawK : Keyed Try.prog 3 := int_keyed Try.underlying3
theorem zeroK (w : World) : (zeroValue 3).run Try.prog w = .ok (.int .i64 0) w := by kernel_rfl
/-- The memo, in a world. -/
def Has (n B k : Nat) (D : MemoD) (w : World) : Prop := w.ownsMap Try.prog 3 (plainElem Try.prog 3) B k D ∧ MemoOk n D
def Post (n T B k c : Nat) (w : World) (e : Ending) (w' : World) : Prop := e = .returned (.int .i64 (leastN n T)) ∧ ∃ (k' : Nat) (D' : MemoD), Has n B k' D' w' ∧ k' ≤ k + c ∧ w.grownBy w' (some B)
def Rel (n B k c m : Nat) (w wr : World) : Prop := ∃ (k' : Nat) (D' : MemoD), Has n B k' D' wr ∧ k' ≤ k + cst c m ∧ w.grownBy wr (some B)
theorem Has.below {n B k : Nat} {D : MemoD} {w w' : World} (h : Has n B k D w) (hb : Below w.heap.size w w') : Has n B k D w' := ⟨h.1.kept (grown_of_below hb none) (by simp), h.2⟩
theorem key_T (T : Nat) (h : T < 65536) : keyOf Try.prog 3 (.int .i64 (T : Int)) = some (.int .i64 (T : Int)) := keyOf_int_mk Try.underlying3 (by simp [Lit.wf, IntKind.min, IntKind.max, IntKind.bits, IntKind.signed]; omega)
theorem grown_below {w w1 w2 : World} {B : Nat} (hg : w.grownBy w1 (some B)) (hb : Below w1.heap.size w1 w2) : w.grownBy w2 (some B) := hg.trans (grown_of_below hb (some B))
set_option maxHeartbeats 8000000 in
set_option maxRecDepth 100000 in
theorem least_base (n : Nat) (hn : 1 ≤ n) (h4 : n ≤ 4) (c k : Nat) (t : Int) (D : MemoD) (w : World) (B : Nat) (h0 : 0 ≤ t) (hT : t.toNat < pw (pw n)) (hm : Has n B k D w) (hs : Settled n t.toNat) :
    Calls Try.prog 60 #[.int .i64 (n : Int), .int .i64 t, .map (some B)] w (Post n t.toNat B k c w) := by
  have hppw := ppw h4
  have hl := least_settled hn hs
  by_cases ht : t = 0
  · subst ht
    have HL := Lib.hid hl
    clear hl hs
    go_enter Try.func60, Try.ntmps60
    go_wp2_with fail
    go_ret
    exact ⟨by rw [HL.out]; rfl, k, D, hm, by omega, World.grownBy.refl w _⟩
  · have e0 : (t == 0) = false := by rw [beq_eq_false_iff_ne]; exact ht
    have hk := ((settled_f hn h4 hT).1 hs).resolve_left (by omega)
    rw [show ((t.toNat : Nat) : Int) = t by omega] at hk
    obtain ⟨K, hK⟩ := impl_knownE (n : Int) t
    have HK := Lib.hid (hK K (Nat.le_refl _))
    clear hK hs
    obtain ⟨v, hv⟩ : ∃ v : Int, knownF (n : Int) t = v := ⟨_, rfl⟩
    rw [hv] at HK hk
    have HL := Lib.hid hl
    clear hl hv ht
    go_enter Try.func60, Try.ntmps60
    go_wp2_with fail
    refine (impl_KnownTeller.calls K (n : Int) t v _ HK.out).mono ?_
    rintro e w1 ⟨rfl, hb1⟩
    go_wp2_with fail
    go_ret
    exact ⟨by rw [HL.out]; rfl, k, D, hm.below hb1, by omega, grown_of_below hb1 (some B)⟩
theorem wfT {x : Int} (h0 : -1000000 ≤ x) (h1 : x ≤ 1000000) : (Lit.int .i64 x).wf = true := by
  simp [Lit.wf, IntKind.min, IntKind.max, IntKind.bits, IntKind.signed]
  omega
theorem key_t (t : Int) (h0 : 0 ≤ t) (h1 : t < 65536) : keyOf Try.prog 3 (.int .i64 t) = some (.int .i64 t) := keyOf_int_mk Try.underlying3 (wfT (by omega) (by omega))
set_option maxHeartbeats 8000000 in
set_option maxRecDepth 100000 in
theorem least_memo (n : Nat) (hn : 1 ≤ n) (h4 : n ≤ 4) (c k : Nat) (t : Int) (D : MemoD) (w : World) (B : Nat) (h0 : 0 ≤ t) (hT : t.toNat < pw (pw n)) (hm : Has n B k D w) (hs : ¬ Settled n t.toNat) (hh : Maps.has D (.int .i64 t) = true) :
    Calls Try.prog 60 #[.int .i64 (n : Int), .int .i64 t, .map (some B)] w (Post n t.toNat B k c w) := by
  have hppw := ppw h4
  have et : ((t.toNat : Nat) : Int) = t := by omega
  have hns := fun h => hs ((settled_f hn h4 hT).2 h)
  rw [et] at hns
  have e0 : (t == 0) = false := by
    rw [beq_eq_false_iff_ne]
    exact fun h => hns (.inl (by omega))
  obtain ⟨K, hK⟩ := impl_knownE (n : Int) t
  have HK := Lib.hid (hK K (Nat.le_refl _))
  clear hK hs
  obtain ⟨v, hv⟩ : ∃ v : Int, knownF (n : Int) t = v := ⟨_, rfl⟩
  rw [hv] at HK hns
  have hv0 : v < 0 := Int.not_le.1 fun h => hns (.inr h)
  have hkey := key_t t h0 (by omega)
  have HM := Lib.hid (fun (cc : Int) (e : D.atKey (.int .i64 t) zeroL = .lit (.int .i64 cc)) => memo_at hm.2 hT (by unfold keyL; rw [et]; exact hh) (by unfold keyL; rw [et]; exact e))
  clear hv hns et
  go_enter Try.func60, Try.ntmps60
  go_wp2_with fail
  refine (impl_KnownTeller.calls K (n : Int) t v _ HK.out).mono ?_
  rintro e w1 ⟨rfl, hb1⟩
  have hown1 := (hm.below hb1).1
  go_wp2_with (at_lookup; refine wpList_lookup_own_ok_int _ rfl _ _ 60 rfl 3 3 .i64 lawK Try.underlying60 Try.underlying3 (zeroK _) B k D rfl hown1 _ _ rfl hkey ?_; intro cc hat hwc; have HA := Lib.hid hat; clear hat)
  go_ret
  exact ⟨by rw [← HM.out cc HA.out]; rfl, k, D, hm.below hb1, by omega, grown_of_below hb1 (some B)⟩
theorem asked_is (n : Nat) (hn : 1 ≤ n) (h4 : n ≤ 4) (t : Int) (h0 : 0 ≤ t) (hT : t.toNat < pw (pw n)) (who whom : Nat) (h1 : who < n) (h2 : whom < n) : impl_AskedTable.f (n : Int) t (who : Int) (whom : Int) true = some ((partT n t.toNat who whom true : Nat) : Int) := by
  rw [impl_askF]
  unfold askF
  rw [if_pos ⟨(tabOk_nat n t).2 ⟨hn, h4, h0, by omega⟩, by omega, by omega, by omega, by omega⟩]
  rfl
theorem rel_skip {n B k c m : Nat} {w wr w1 : World} (h : Rel n B k c m w wr) (hb : Below wr.heap.size wr w1) : Rel n B k c (m + 1) w w1 := by
  obtain ⟨k', D', hm, hk, hg⟩ := h
  exact ⟨k', D', hm.below hb, by rw [cst_succ]; omega, grown_below hg hb⟩
set_option maxHeartbeats 16000000 in
set_option maxRecDepth 100000 in
theorem least_walk (n : Nat) (hn : 1 ≤ n) (h4 : n ≤ 4) (p : Nat) (ih : ∀ (t : Int) (k : Nat) (D : MemoD) (w : World) (B : Nat), 0 ≤ t → t.toNat < pw (pw n) → popW n t.toNat ≤ p → Has n B k D w → k + capN p < 9223372036854775807 →
      Calls Try.prog 60 #[.int .i64 (n : Int), .int .i64 t, .map (some B)] w (Post n t.toNat B k (capN p) w))
    (k : Nat) (t : Int) (D : MemoD) (w : World) (B : Nat) (h0 : 0 ≤ t) (hT : t.toNat < pw (pw n)) (hp : popW n t.toNat ≤ p + 1) (hm : Has n B k D w) (hs : ¬ Settled n t.toNat) (hh : Maps.has D (.int .i64 t) = false) (hcap : k + capN (p + 1) < 9223372036854775807) :
    Calls Try.prog 60 #[.int .i64 (n : Int), .int .i64 t, .map (some B)] w (Post n t.toNat B k (capN (p + 1)) w) := by
  have hppw := ppw h4
  have hc1 := capN_pos p
  have hc2 : capN (p + 1) = 13 * capN p := rfl
  have et : ((t.toNat : Nat) : Int) = t := by omega
  have hns := fun h => hs ((settled_f hn h4 hT).2 h)
  rw [et] at hns
  have e0 : (t == 0) = false := by
    rw [beq_eq_false_iff_ne]
    exact fun h => hns (.inl (by omega))
  obtain ⟨K, hK⟩ := impl_knownE (n : Int) t
  have HK := Lib.hid (hK K (Nat.le_refl _))
  have HS := Lib.hid hs
  clear hK hs
  obtain ⟨v, hv⟩ : ∃ v : Int, knownF (n : Int) t = v := ⟨_, rfl⟩
  rw [hv] at HK hns
  have hv0 : v < 0 := Int.not_le.1 fun h => hns (.inr h)
  have hkey := key_t t h0 (by omega)
  have HC2 := Lib.hid hc2
  have HET := Lib.hid et
  clear hv hns hc2 et
  go_enter Try.func60, Try.ntmps60
  go_wp2_with fail
  refine (impl_KnownTeller.calls K (n : Int) t v _ HK.out).mono ?_
  rintro e w1 ⟨rfl, hb1⟩
  have hown1 := (hm.below hb1).1
  go_wp2_with (at_lookup; refine wpList_lookup_own_ok_int _ rfl _ _ 60 rfl 3 3 .i64 lawK Try.underlying60 Try.underlying3 (zeroK _) B k D rfl hown1 _ _ rfl hkey ?_; intro cc hat hwc; clear hat hwc)
  go_loopw [9, 33] (fun b i wr => ∃ (who : Nat) (bb : Int), who ≤ n ∧ i = .int .i64 (who : Int) ∧ b = .int .i64 bb ∧ Best n t.toNat who 0 bb ∧ Rel n B k (capN p) (tri who) w wr) (fun _ i _ => n - (intOf i).toNat)
  case atStart => exact ⟨0, -1, Nat.zero_le _, rfl, rfl, best_none hn, k, D, hm.below hb1, Nat.le_add_right _ _, grown_of_below hb1 (some B)⟩
  case round =>
    obtain ⟨who, bb, hw, rfl, rfl, hB, hR⟩ := hrel
    have hbb := best_bd hB
    clear hown1
    by_cases hlt : who < n
    · go_wp2_with fail
      obtain ⟨wo, rfl⟩ : ∃ wo : World, wo = wr := ⟨_, rfl⟩
      go_loopw [9, 37] (fun b i wr => ∃ (whom : Nat) (bb : Int), whom ≤ who ∧ i = .int .i64 (whom : Int) ∧ b = .int .i64 bb ∧ Best n t.toNat who whom bb ∧ Rel n B k (capN p) (tri who + whom) w wr) (fun _ i _ => who - (intOf i).toNat)
      case atStart => exact ⟨0, bb, Nat.zero_le _, rfl, rfl, hB, hR⟩
      case round =>
        clear hB hR hbb
        obtain ⟨whom, bb, hwm, rfl, rfl, hB, hR⟩ := hrel
        have hbb := best_bd hB
        by_cases hlt2 : whom < who
        · obtain ⟨k1, D1, hm1, hk1, hg1⟩ := hR
          have HASK := Lib.hid (asked_is n hn h4 t h0 hT who whom hlt (by omega))
          have HNOT := Lib.hid (andNot_part (i := who) (j := whom) h4 hT)
          have hpp := popW_part n t.toNat who whom
          have hyl := partT_lt n t.toNat who whom true
          have hzl := partT_lt n t.toNat who whom false
          have hys := best_step hlt2 hlt hB
          have hyk := best_skip hlt2 hlt hB
          have hpy : partT n t.toNat who whom true ≠ 0 → 1 ≤ popW n (partT n t.toNat who whom true) := popW_pos hyl
          have hpz : partT n t.toNat who whom false ≠ 0 → 1 ≤ popW n (partT n t.toNat who whom false) := popW_pos hzl
          have HY := Lib.hid hys
          have HS2 := Lib.hid hyk
          clear hys hyk
          obtain ⟨y, hy⟩ : ∃ y : Nat, partT n t.toNat who whom true = y := ⟨_, rfl⟩
          obtain ⟨z, hz⟩ : ∃ z : Nat, partT n t.toNat who whom false = z := ⟨_, rfl⟩
          rw [hy] at HASK HNOT HY HS2 hpp hyl hpy
          rw [hz] at HNOT HY HS2 hpp hzl hpz
          rw [HET.out] at HNOT
          clear hy hz
          obtain ⟨yi, hyi⟩ : ∃ yi : Int, ((y : Nat) : Int) = yi := ⟨_, rfl⟩
          obtain ⟨zi, hzi⟩ : ∃ zi : Int, ((z : Nat) : Int) = zi := ⟨_, rfl⟩
          obtain rfl : y = yi.toNat := by omega
          obtain rfl : z = zi.toNat := by omega
          rw [hyi] at HASK HNOT
          rw [hzi] at HNOT
          have hnot := HNOT.out
          have y0 : 0 ≤ yi := by omega
          have z0 : 0 ≤ zi := by omega
          have hk0 : k1 + capN p < 9223372036854775807 := by
            have hl := cst_mono (capN p) (m := tri who + whom) (m' := 5) (by have := tri_4 (n := who + 1) (by omega); simp only [tri] at this; omega)
            have hl6 : cst (capN p) 5 = 10 * capN p := by unfold cst; omega
            have hc2 := HC2.out
            omega
          have hk0' : k1 + capN p + capN p < 9223372036854775807 := by
            have hl := cst_mono (capN p) (m := tri who + whom) (m' := 5) (by have := tri_4 (n := who + 1) (by omega); simp only [tri] at this; omega)
            have hl6 : cst (capN p) 5 = 10 * capN p := by unfold cst; omega
            have hc2 := HC2.out
            omega
          clear hyi hzi
          by_cases ey : yi = 0
          · have e1 : (yi == 0) = true := by rw [beq_iff_eq]; exact ey
            have HB2 := Lib.hid (HS2.out (.inl (by omega)))
            clear ey
            go_wp2_with fail
            refine (impl_AskedTable.calls (n : Int) t (who : Int) (whom : Int) true yi _ HASK.out).mono ?_
            rintro e w2 ⟨rfl, hb2⟩
            go_wp2_with fail
            go_roundw
            case rel => exact ⟨whom + 1, bb, by omega, by go_num, rfl, HB2.out, rel_skip ⟨k1, D1, hm1, hk1, hg1⟩ hb2⟩
            case measure => simp [intOf]; omega
          have e1 : (yi == 0) = false := by rw [beq_eq_false_iff_ne]; exact ey
          by_cases ez : zi = 0
          · have e2 : (zi == 0) = true := by rw [beq_iff_eq]; exact ez
            have HB2 := Lib.hid (HS2.out (.inr (by omega)))
            clear ey ez
            go_wp2_with fail
            refine (impl_AskedTable.calls (n : Int) t (who : Int) (whom : Int) true yi _ HASK.out).mono ?_
            rintro e w2 ⟨rfl, hb2⟩
            go_wp2_with fail
            go_roundw
            case rel => exact ⟨whom + 1, bb, by omega, by go_num, rfl, HB2.out, rel_skip ⟨k1, D1, hm1, hk1, hg1⟩ hb2⟩
            case measure => simp [intOf]; omega
          have e2 : (zi == 0) = false := by rw [beq_eq_false_iff_ne]; exact ez
          have HB2 := Lib.hid (HY.out (by omega) (by omega))
          have hpy := hpy (by omega)
          have hpz := hpz (by omega)
          clear ey ez HS2 HY
          obtain ⟨a, ha⟩ : ∃ a : Int, leastN n yi.toNat = a := ⟨_, rfl⟩
          obtain ⟨cc2, hcc⟩ : ∃ c : Int, leastN n zi.toNat = c := ⟨_, rfl⟩
          have ba := leastN_bd hn hyl
          have bc := leastN_bd hn hzl
          rw [ha] at ba HB2
          rw [hcc] at bc HB2
          have HA := Lib.hid ha
          have HCC := Lib.hid hcc
          clear ha hcc
          by_cases g1 : a < 0
          · have HB3 : Hid (Best n t.toNat who (whom + 1) (bb)) := Lib.hid (by have := HB2.out; unfold better at this; first | rwa [if_neg (by omega)] at this | (rw [if_pos (by omega)] at this; rwa [show (1 + max a cc2 : Int) = bb by omega] at this))
            go_wp2_with fail
            refine (impl_AskedTable.calls (n : Int) t (who : Int) (whom : Int) true yi _ HASK.out).mono ?_
            rintro e w2 ⟨rfl, hb2⟩
            have hmA := hm1.below hb2
            go_wp2_with fail
            refine (ih yi k1 D1 _ B y0 hyl (by omega) hmA hk0).mono ?_
            rintro e w3 ⟨he3, k3, D3, hm3, hk3, hg3⟩
            rw [HA.out] at he3
            subst he3
            go_wp2_with fail
            refine (ih zi k3 D3 _ B z0 hzl (by omega) hm3 (by omega)).mono ?_
            rintro e w4 ⟨he4, k4, D4, hm4, hk4, hg4⟩
            rw [HCC.out] at he4
            subst he4
            go_wp2_with fail
            go_roundw
            case rel => exact ⟨whom + 1, bb, by omega, by go_num, by first | rfl | go_num, HB3.out, k4, D4, hm4, by rw [← Nat.add_assoc, cst_succ]; omega, (grown_below hg1 hb2).trans (hg3.trans hg4)⟩
            case measure => simp [intOf]; omega
          by_cases g2 : cc2 < 0
          · have HB3 : Hid (Best n t.toNat who (whom + 1) (bb)) := Lib.hid (by have := HB2.out; unfold better at this; first | rwa [if_neg (by omega)] at this | (rw [if_pos (by omega)] at this; rwa [show (1 + max a cc2 : Int) = bb by omega] at this))
            go_wp2_with fail
            refine (impl_AskedTable.calls (n : Int) t (who : Int) (whom : Int) true yi _ HASK.out).mono ?_
            rintro e w2 ⟨rfl, hb2⟩
            have hmA := hm1.below hb2
            go_wp2_with fail
            refine (ih yi k1 D1 _ B y0 hyl (by omega) hmA hk0).mono ?_
            rintro e w3 ⟨he3, k3, D3, hm3, hk3, hg3⟩
            rw [HA.out] at he3
            subst he3
            go_wp2_with fail
            refine (ih zi k3 D3 _ B z0 hzl (by omega) hm3 (by omega)).mono ?_
            rintro e w4 ⟨he4, k4, D4, hm4, hk4, hg4⟩
            rw [HCC.out] at he4
            subst he4
            go_wp2_with fail
            go_roundw
            case rel => exact ⟨whom + 1, bb, by omega, by go_num, by first | rfl | go_num, HB3.out, k4, D4, hm4, by rw [← Nat.add_assoc, cst_succ]; omega, (grown_below hg1 hb2).trans (hg3.trans hg4)⟩
            case measure => simp [intOf]; omega
          have g1' : 0 ≤ a := by omega
          have g2' : 0 ≤ cc2 := by omega
          clear g1 g2
          by_cases gm : a < cc2
          · by_cases g3 : bb < 0
            · have HB3 : Hid (Best n t.toNat who (whom + 1) (1 + cc2)) := Lib.hid (by have := HB2.out; unfold better at this; first | rwa [if_neg (by omega)] at this | (rw [if_pos (by omega)] at this; rwa [show (1 + max a cc2 : Int) = 1 + cc2 by omega] at this))
              go_wp2_with fail
              refine (impl_AskedTable.calls (n : Int) t (who : Int) (whom : Int) true yi _ HASK.out).mono ?_
              rintro e w2 ⟨rfl, hb2⟩
              have hmA := hm1.below hb2
              go_wp2_with fail
              refine (ih yi k1 D1 _ B y0 hyl (by omega) hmA hk0).mono ?_
              rintro e w3 ⟨he3, k3, D3, hm3, hk3, hg3⟩
              rw [HA.out] at he3
              subst he3
              go_wp2_with fail
              refine (ih zi k3 D3 _ B z0 hzl (by omega) hm3 (by omega)).mono ?_
              rintro e w4 ⟨he4, k4, D4, hm4, hk4, hg4⟩
              rw [HCC.out] at he4
              subst he4
              go_wp2_with fail
              go_roundw
              case rel => exact ⟨whom + 1, 1 + cc2, by omega, by go_num, by first | rfl | go_num, HB3.out, k4, D4, hm4, by rw [← Nat.add_assoc, cst_succ]; omega, (grown_below hg1 hb2).trans (hg3.trans hg4)⟩
              case measure => simp [intOf]; omega
            have g3' : 0 ≤ bb := by omega
            clear g3
            by_cases g4 : 1 + cc2 < bb
            · have HB3 : Hid (Best n t.toNat who (whom + 1) (1 + cc2)) := Lib.hid (by have := HB2.out; unfold better at this; first | rwa [if_neg (by omega)] at this | (rw [if_pos (by omega)] at this; rwa [show (1 + max a cc2 : Int) = 1 + cc2 by omega] at this))
              go_wp2_with fail
              refine (impl_AskedTable.calls (n : Int) t (who : Int) (whom : Int) true yi _ HASK.out).mono ?_
              rintro e w2 ⟨rfl, hb2⟩
              have hmA := hm1.below hb2
              go_wp2_with fail
              refine (ih yi k1 D1 _ B y0 hyl (by omega) hmA hk0).mono ?_
              rintro e w3 ⟨he3, k3, D3, hm3, hk3, hg3⟩
              rw [HA.out] at he3
              subst he3
              go_wp2_with fail
              refine (ih zi k3 D3 _ B z0 hzl (by omega) hm3 (by omega)).mono ?_
              rintro e w4 ⟨he4, k4, D4, hm4, hk4, hg4⟩
              rw [HCC.out] at he4
              subst he4
              go_wp2_with fail
              go_roundw
              case rel => exact ⟨whom + 1, 1 + cc2, by omega, by go_num, by first | rfl | go_num, HB3.out, k4, D4, hm4, by rw [← Nat.add_assoc, cst_succ]; omega, (grown_below hg1 hb2).trans (hg3.trans hg4)⟩
              case measure => simp [intOf]; omega
            · have HB3 : Hid (Best n t.toNat who (whom + 1) (bb)) := Lib.hid (by have := HB2.out; unfold better at this; first | rwa [if_neg (by omega)] at this | (rw [if_pos (by omega)] at this; rwa [show (1 + max a cc2 : Int) = bb by omega] at this))
              go_wp2_with fail
              refine (impl_AskedTable.calls (n : Int) t (who : Int) (whom : Int) true yi _ HASK.out).mono ?_
              rintro e w2 ⟨rfl, hb2⟩
              have hmA := hm1.below hb2
              go_wp2_with fail
              refine (ih yi k1 D1 _ B y0 hyl (by omega) hmA hk0).mono ?_
              rintro e w3 ⟨he3, k3, D3, hm3, hk3, hg3⟩
              rw [HA.out] at he3
              subst he3
              go_wp2_with fail
              refine (ih zi k3 D3 _ B z0 hzl (by omega) hm3 (by omega)).mono ?_
              rintro e w4 ⟨he4, k4, D4, hm4, hk4, hg4⟩
              rw [HCC.out] at he4
              subst he4
              go_wp2_with fail
              go_roundw
              case rel => exact ⟨whom + 1, bb, by omega, by go_num, by first | rfl | go_num, HB3.out, k4, D4, hm4, by rw [← Nat.add_assoc, cst_succ]; omega, (grown_below hg1 hb2).trans (hg3.trans hg4)⟩
              case measure => simp [intOf]; omega
          · by_cases g3 : bb < 0
            · have HB3 : Hid (Best n t.toNat who (whom + 1) (1 + a)) := Lib.hid (by have := HB2.out; unfold better at this; first | rwa [if_neg (by omega)] at this | (rw [if_pos (by omega)] at this; rwa [show (1 + max a cc2 : Int) = 1 + a by omega] at this))
              go_wp2_with fail
              refine (impl_AskedTable.calls (n : Int) t (who : Int) (whom : Int) true yi _ HASK.out).mono ?_
              rintro e w2 ⟨rfl, hb2⟩
              have hmA := hm1.below hb2
              go_wp2_with fail
              refine (ih yi k1 D1 _ B y0 hyl (by omega) hmA hk0).mono ?_
              rintro e w3 ⟨he3, k3, D3, hm3, hk3, hg3⟩
              rw [HA.out] at he3
              subst he3
              go_wp2_with fail
              refine (ih zi k3 D3 _ B z0 hzl (by omega) hm3 (by omega)).mono ?_
              rintro e w4 ⟨he4, k4, D4, hm4, hk4, hg4⟩
              rw [HCC.out] at he4
              subst he4
              go_wp2_with fail
              go_roundw
              case rel => exact ⟨whom + 1, 1 + a, by omega, by go_num, by first | rfl | go_num, HB3.out, k4, D4, hm4, by rw [← Nat.add_assoc, cst_succ]; omega, (grown_below hg1 hb2).trans (hg3.trans hg4)⟩
              case measure => simp [intOf]; omega
            have g3' : 0 ≤ bb := by omega
            clear g3
            by_cases g4 : 1 + a < bb
            · have HB3 : Hid (Best n t.toNat who (whom + 1) (1 + a)) := Lib.hid (by have := HB2.out; unfold better at this; first | rwa [if_neg (by omega)] at this | (rw [if_pos (by omega)] at this; rwa [show (1 + max a cc2 : Int) = 1 + a by omega] at this))
              go_wp2_with fail
              refine (impl_AskedTable.calls (n : Int) t (who : Int) (whom : Int) true yi _ HASK.out).mono ?_
              rintro e w2 ⟨rfl, hb2⟩
              have hmA := hm1.below hb2
              go_wp2_with fail
              refine (ih yi k1 D1 _ B y0 hyl (by omega) hmA hk0).mono ?_
              rintro e w3 ⟨he3, k3, D3, hm3, hk3, hg3⟩
              rw [HA.out] at he3
              subst he3
              go_wp2_with fail
              refine (ih zi k3 D3 _ B z0 hzl (by omega) hm3 (by omega)).mono ?_
              rintro e w4 ⟨he4, k4, D4, hm4, hk4, hg4⟩
              rw [HCC.out] at he4
              subst he4
              go_wp2_with fail
              go_roundw
              case rel => exact ⟨whom + 1, 1 + a, by omega, by go_num, by first | rfl | go_num, HB3.out, k4, D4, hm4, by rw [← Nat.add_assoc, cst_succ]; omega, (grown_below hg1 hb2).trans (hg3.trans hg4)⟩
              case measure => simp [intOf]; omega
            · have HB3 : Hid (Best n t.toNat who (whom + 1) (bb)) := Lib.hid (by have := HB2.out; unfold better at this; first | rwa [if_neg (by omega)] at this | (rw [if_pos (by omega)] at this; rwa [show (1 + max a cc2 : Int) = bb by omega] at this))
              go_wp2_with fail
              refine (impl_AskedTable.calls (n : Int) t (who : Int) (whom : Int) true yi _ HASK.out).mono ?_
              rintro e w2 ⟨rfl, hb2⟩
              have hmA := hm1.below hb2
              go_wp2_with fail
              refine (ih yi k1 D1 _ B y0 hyl (by omega) hmA hk0).mono ?_
              rintro e w3 ⟨he3, k3, D3, hm3, hk3, hg3⟩
              rw [HA.out] at he3
              subst he3
              go_wp2_with fail
              refine (ih zi k3 D3 _ B z0 hzl (by omega) hm3 (by omega)).mono ?_
              rintro e w4 ⟨he4, k4, D4, hm4, hk4, hg4⟩
              rw [HCC.out] at he4
              subst he4
              go_wp2_with fail
              go_roundw
              case rel => exact ⟨whom + 1, bb, by omega, by go_num, by first | rfl | go_num, HB3.out, k4, D4, hm4, by rw [← Nat.add_assoc, cst_succ]; omega, (grown_below hg1 hb2).trans (hg3.trans hg4)⟩
              case measure => simp [intOf]; omega
        · obtain rfl : whom = who := by omega
          go_wp2_with fail
          go_roundw
          case rel => exact ⟨whom + 1, bb, by omega, by go_num, rfl, best_next hB, hR⟩
          case measure => simp [intOf]; omega
    · obtain rfl : who = n := by omega
      obtain ⟨k1, D1, hm1, hk1, hg1⟩ := hR
      have HE := Lib.hid (best_end hn hT HS.out hB)
      have HP : Hid (MemoOk who (D1.put (.int .i64 t) (.lit (.int .i64 bb)))) := Lib.hid (by
        have := memo_put (T := t.toNat) hm1.2
        unfold keyL at this
        rw [HET.out, ← HE.out] at this
        exact this)
      have hl := cst_mono (capN p) (tri_4 h4)
      have hl6 := cst_6 (capN p)
      have hc2 := HC2.out
      have hk2 : k1 < maxLen := by unfold maxLen; omega
      have hk3 : k1 + 1 ≤ k + capN (p + 1) := by omega
      have hwf : (Lit.int .i64 bb).wf = true := wfT (by omega) (by omega)
      have hown := hm1.1
      have HG := Lib.hid hg1
      clear hl hl6 hc2 hg1
      go_wp2_with (at_mapUpdate; refine wpList_mapUpdate_own _ rfl _ _ _ 60 rfl 3 3 lawK Try.underlying60 _ B k1 D1 rfl hown hk2 _ _ _ rfl rfl hkey _ [] (plainElem_int Try.underlying3 hwf) ?_; intro w3 hown3 hgrow3)
      go_ret
      exact ⟨by rw [← HE.out]; rfl, k1 + 1, _, ⟨hown3, HP.out⟩, hk3, HG.out.trans hgrow3⟩
theorem least_calls (n : Nat) (hn : 1 ≤ n) (h4 : n ≤ 4) : ∀ (p : Nat) (t : Int) (k : Nat) (D : MemoD) (w : World) (B : Nat), 0 ≤ t → t.toNat < pw (pw n) → popW n t.toNat ≤ p → Has n B k D w → k + capN p < 9223372036854775807 →
    Calls Try.prog 60 #[.int .i64 (n : Int), .int .i64 t, .map (some B)] w (Post n t.toNat B k (capN p) w) := by
  intro p
  induction p with
  | zero =>
    intro t k D w B h0 hT hp hm hk
    refine least_base n hn h4 _ k t D w B h0 hT hm (.inl ?_)
    refine Classical.byContradiction fun h => ?_
    have := popW_pos hT h
    omega
  | succ p ih =>
    intro t k D w B h0 hT hp hm hk
    by_cases hs : Settled n t.toNat
    · exact least_base n hn h4 _ k t D w B h0 hT hm hs
    cases hh : Maps.has D (.int .i64 t)
    · exact least_walk n hn h4 p ih k t D w B h0 hT hp hm hs hh hk
    · exact least_memo n hn h4 _ k t D w B h0 hT hm hs hh
end Go.Proofs.Ytnmkifpifmdplaa.M

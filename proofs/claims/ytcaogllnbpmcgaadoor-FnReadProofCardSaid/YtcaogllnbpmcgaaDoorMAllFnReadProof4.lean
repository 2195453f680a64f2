/- What the proof of this law needs besides: texts of ours, one behind the other. -/
import Derived.Test.YtcaogllnbpmcgaaDoorPx30
import Derived.Test.YtcaogllnbpmcgaaDoorMAllFnReadProof3
import Derived.Test.YtcaogllnbpmcgaaDoorPx24
set_option linter.unusedVariables false
set_option linter.unusedSimpArgs false
namespace Go.Proofs.YtcaogllnbpmcgaaDoor.M
open Go Go.RowKit Go.Proofs.YtcaogllnbpmcgaaDoorW.PrintWords Go.Proofs.YtcaogllnbpmcgaaDoor.P
theorem bits_xor_i64 (a b : Nat) (ha : a < 2 ^ 62) (hb : b < 2 ^ 62) : Go.bits .xor .i64 (a : Int) (b : Int) = ((a ^^^ b : Nat) : Int) := by
 have hx : a ^^^ b < 2 ^ 62 := Nat.xor_lt_two_pow ha hb
 have ea : a % 2 ^ IntKind.i64.bits = a := Nat.mod_eq_of_lt (Nat.lt_of_lt_of_le ha (by decide))
 have eb : b % 2 ^ IntKind.i64.bits = b := Nat.mod_eq_of_lt (Nat.lt_of_lt_of_le hb (by decide))
 simp only [Go.bits, BitVec.ofInt_natCast, BitVec.toNat_xor, BitVec.toNat_ofNat, ea, eb]
 generalize a ^^^ b = q at hx ⊢
 exact wraps_i64 (q : Int) (by omega) (by omega)
def Bytes (b : List Int) : Prop := b.length ≤ 2000 ∧ ∀ x ∈ b, 0 ≤ x ∧ x ≤ 255
theorem Bytes.rd {b : List Int} (h : Bytes b) (i : Int) : 0 ≤ rd b i ∧ rd b i ≤ 255 := by
 unfold Go.Proofs.YtcaogllnbpmcgaaDoorW.PrintWords.rd
 by_cases hi : i.toNat < b.length
 ·rw [List.getD_eq_getElem?_getD, List.getElem?_eq_getElem hi]
  exact h.2 _ (List.getElem_mem hi)
 ·rw [List.getD_eq_getElem?_getD, List.getElem?_eq_none (by omega)]
  exact ⟨by decide, by decide⟩
theorem tmod_bd (x n : Int) (hx : 0 ≤ x) (hn : 0 < n) : 0 ≤ Int.tmod x n ∧ Int.tmod x n < n := by
 rw [Int.tmod_eq_emod_of_nonneg hx]
 exact ⟨Int.emod_nonneg _ (by omega), Int.emod_lt_of_pos _ hn⟩
theorem tdiv_bd (x n : Int) (hx : 0 ≤ x) (hn : 0 < n) : 0 ≤ Int.tdiv x n ∧ Int.tdiv x n ≤ x := by
 rw [Int.tdiv_eq_ediv_of_nonneg hx]
 exact ⟨Int.ediv_nonneg hx (by omega), Int.ediv_le_self _ hx⟩
theorem pickE (b : List Int) (hb : Bytes b) (p : Nat) (hp : p ≤ 1000000) (n : Int) :
  ∃ r : Nat, Ev (fun k => spec_l20Rd_pick.f k b (p : Int) n) ((r : Int), ((p + 1 : Nat) : Int)) ∧ (1 ≤ n → (r : Int) < n) ∧ (n < 1 → r = 0) := by
 have hl := hb.1
 unfold spec_l20Rd_pick.f
 rw [w64s (by omega)]
 by_cases h : n < 1
 ·refine ⟨0, ev_pos h ?_, fun h' => by omega, fun _ => rfl⟩
  refine Ev.step (fun k => by rw [spec_l20Rd_pick.j0]) ?_
  exact ev_pos rfl (ev_ret rfl)
 by_cases h0 : b.length = 0
 ·refine ⟨0, ev_neg h ?_, fun h' => by omega, fun _ => rfl⟩
  rw [show ((b.length : Int) == 0) = true by simp [h0]]
  refine Ev.step (fun k => by rw [spec_l20Rd_pick.j0]) ?_
  exact ev_pos rfl (ev_ret rfl)
 have ep : wrap64 (((p + 1 : Nat) : Int) - 1) = (p : Int) := by
  rw [w64 (by omega) (by omega)]
  omega
 have eb : ((b.length : Int) == 0) = false := by
  rw [beq_eq_false_iff_ne]
  omega
 have out : ∀ x : Int, 0 ≤ x → Ev (fun k => spec_l20Rd_pick.j0 k n false b ((p + 1 : Nat) : Int)) (Int.tmod x n, ((p + 1 : Nat) : Int)) →
   ∃ r : Nat, Ev (fun k => if n < 1 then spec_l20Rd_pick.j0 k n true b ((p + 1 : Nat) : Int) else spec_l20Rd_pick.j0 k n ((b.length : Int) == 0) b ((p + 1 : Nat) : Int)) ((r : Int), ((p + 1 : Nat) : Int)) ∧ (1 ≤ n → (r : Int) < n) ∧ (n < 1 → r = 0) := fun x hx hE => by
  have hm := tmod_bd x n hx (by omega)
  refine ⟨(Int.tmod x n).toNat, ev_neg h ?_, fun _ => by omega, fun h' => absurd h' h⟩
  rw [eb, Int.toNat_of_nonneg hm.1]
  exact hE
 by_cases hlt : p < b.length
 ·have hr := hb.rd (p : Int)
  refine out (wrap64 (rd b (p : Int))) (by rw [w64 (by omega) (by omega)]; omega) ?_
  refine Ev.step (fun k => by rw [spec_l20Rd_pick.j0]) ?_
  rw [ep]
  refine ev_neg (by decide) ?_
  refine ev_pos (by omega) ?_
  refine ev_pos (by omega) ?_
  exact ev_neg (by omega) (ev_ret rfl)
 ·have q1 := tmod_bd (p : Int) (b.length : Int) (by omega) (by omega)
  have q2 := tdiv_bd (p : Int) (b.length : Int) (by omega) (by omega)
  have e7 : wrap64 (wrap64 ((p : Int) * 7) + 3) = (p : Int) * 7 + 3 := by rw [w64 (x := (p : Int) * 7) (by omega) (by omega), w64 (by omega) (by omega)]
  have q3 := tmod_bd ((p : Int) * 7 + 3) (b.length : Int) (by omega) (by omega)
  have hr1 := hb.rd (Int.tmod (p : Int) (b.length : Int))
  have hr2 := hb.rd (Int.tmod ((p : Int) * 7 + 3) (b.length : Int))
  obtain ⟨x, hx, hxb⟩ : ∃ x : Nat, wrap64 (wrap64 (wrap64 (wrap64 (wrap64 (rd b (Int.tmod (p : Int) (b.length : Int))) * 131) + wrap64 (wrap64 (rd b (Int.tmod ((p : Int) * 7 + 3) (b.length : Int))) * 1117)) + wrap64 ((p : Int) * 29)) + wrap64 (wrap64 (Int.tdiv (p : Int) (b.length : Int)) * 53)) = (x : Int) ∧ x < 2 ^ 60 := by
   generalize rd b (Int.tmod (p : Int) (b.length : Int)) = u at hr1 ⊢
   generalize rd b (Int.tmod ((p : Int) * 7 + 3) (b.length : Int)) = v at hr2 ⊢
   generalize Int.tdiv (p : Int) (b.length : Int) = t at q2 ⊢
   rw [w64 (x := u) (by omega) (by omega), w64 (x := v) (by omega) (by omega), w64 (x := t) (by omega) (by omega), w64 (x := u * 131) (by omega) (by omega), w64 (x := v * 1117) (by omega) (by omega), w64 (x := t * 53) (by omega) (by omega), w64 (x := (p : Int) * 29) (by omega) (by omega),
    w64 (x := u * 131 + v * 1117) (by omega) (by omega), w64 (x := u * 131 + v * 1117 + (p : Int) * 29) (by omega) (by omega), w64 (x := u * 131 + v * 1117 + (p : Int) * 29 + t * 53) (by omega) (by omega)]
   exact ⟨(u * 131 + v * 1117 + (p : Int) * 29 + t * 53).toNat, by omega, by omega⟩
  refine out (((x ^^^ (x / 64)) : Nat) : Int) (by omega) ?_
  refine Ev.step (fun k => by rw [spec_l20Rd_pick.j0]) ?_
  rw [ep, e7, hx, show Int.tdiv (x : Int) 64 = ((x / 64 : Nat) : Int) from rfl, w64 (x := ((x / 64 : Nat) : Int)) (by omega) (by omega), bits_xor_i64 _ _ (by omega) (by omega)]
  refine ev_neg (by decide) ?_
  refine ev_neg (by omega) ?_
  refine ev_neg (by omega) ?_
  refine ev_pos (by omega) ?_
  refine ev_pos (by omega) ?_
  refine ev_pos (by omega) ?_
  refine ev_pos (by omega) ?_
  exact ev_neg (by omega) (ev_ret rfl)
theorem openE (l : List Int) (hw : ∀ x ∈ l, (Lit.int .u8 x).wf = true) : ∃ b, spec_l20Open.f l = some (b, ((0 : Nat) : Int)) ∧ Bytes b := by
 have hx : ∀ x ∈ l, 0 ≤ x ∧ x ≤ 255 := fun x hx => by
  have := hw x hx
  simp [Lit.wf, IntKind.min, IntKind.max, IntKind.bits, IntKind.signed] at this
  omega
 unfold spec_l20Open.f
 by_cases h : (l.length : Int) > 2000
 ·rw [if_pos h, if_pos (by omega)]
  exact ⟨l.take 2000, rfl, by simp; omega, fun x hm => hx x (List.mem_of_mem_take hm)⟩
 ·rw [if_neg h]
  exact ⟨l, rfl, by omega, hx⟩
def SmallL (l : List Mk) : Prop := ∀ x ∈ l, x.f1 ≤ 9223372036854775807
theorem SmallL.M64 {l : List Mk} (h : SmallL l) : M64 l := fun i => by
 rcases Nat.lt_or_ge i l.length with hi | hi
 ·rw [List.getD_eq_getElem?_getD, List.getElem?_eq_getElem hi]
  exact h _ (List.getElem_mem hi)
 ·rw [List.getD_eq_getElem?_getD, List.getElem?_eq_none hi]
  show zM.f1 ≤ _
  decide
theorem SmallL.app {l m : List Mk} (h : SmallL l) (h' : SmallL m) : SmallL (l ++ m) := fun x hx => by
 rcases List.mem_append.1 hx with hx | hx
 ·exact h x hx
 ·exact h' x hx
theorem SmallL.one {x : Mk} (h : x.f1 ≤ 9223372036854775807) : SmallL [x] := fun y hy => by
 rw [List.mem_singleton.1 hy]
 exact h
theorem oddE (b : List Int) (hb : Bytes b) (p : Nat) (hp : p ≤ 100000) (n : Int) : ∃ o : Bool, ∃ q : Nat, Ev (fun k => spec_l20Rd_odd.f k b (p : Int) n) (o, (q : Int)) ∧ q ≤ p + 1 := by
 unfold spec_l20Rd_odd.f
 by_cases h : n > 0
 ·obtain ⟨r, e, _⟩ := pickE b hb p (by omega) n
  exact ⟨_, p + 1, ev_pos h (ev_bind e (ev_ret rfl)), Nat.le_refl _⟩
 ·exact ⟨false, p, ev_neg h (ev_ret rfl), by omega⟩
theorem pickB (b : List Int) (hb : Bytes b) (p : Nat) (hp : p ≤ 100000) (n : Int) (hn : n ≤ 9223372036854775807) : ∃ r : Nat, Ev (fun k => spec_l20Rd_pick.f k b (p : Int) n) ((r : Int), ((p + 1 : Nat) : Int)) ∧ (1 ≤ n → (r : Int) < n) ∧ (r : Int) ≤ 9223372036854775807 := by
 obtain ⟨r, e, h1, h2⟩ := pickE b hb p (by omega) n
 refine ⟨r, e, h1, ?_⟩
 by_cases h : 1 ≤ n
 ·have := h1 h
  omega
 ·have := h2 (by omega)
  omega
theorem term_j3 (b : List Int) (hb : Bytes b) (d : Int) (t : List Mk) (p : Nat) (hp : p ≤ 10000) (h1 : 1 ≤ t.length) (h2 : t.length ≤ 4096) (hs : SmallL t) :
  ∃ (s : List Mk) (q : Nat), Ev (fun k => spec_l20Term.j3 k d t b (p : Int)) (s, (q : Int)) ∧ s.length ≤ 4097 ∧ SmallL s ∧ q ≤ p + 3 := by
 obtain ⟨o, q, eo, hq⟩ := oddE b hb p (by omega) d
 cases o with
 | false =>
  refine ⟨t, q, Ev.step (fun k => by rw [spec_l20Term.j3]) ?_, by omega, hs, by omega⟩
  exact ev_bind eo (ev_neg (by simp) (ev_ret rfl))
 | true =>
  obtain ⟨r, e, _⟩ := pickE b hb q (by omega) 3
  by_cases h0 : r = 0
  ·refine ⟨[], q + 1, Ev.step (fun k => by rw [spec_l20Term.j3]) ?_, by simp, fun x hx => by simp at hx, by omega⟩
   exact ev_bind eo (ev_pos rfl (ev_bind e (ev_pos (by simp [h0]) (ev_ret rfl))))
  by_cases h1' : r = 1
  ·refine ⟨t ++ [⟨5, 0⟩], q + 1, Ev.step (fun k => by rw [spec_l20Term.j3]) ?_, by simp; omega, hs.app (SmallL.one (by decide)), by omega⟩
   exact ev_bind eo (ev_pos rfl (ev_bind e (ev_neg (by simp; omega) (ev_pos (by simp [h1']) (ev_pos (by omega) (ev_ret rfl))))))
  ·obtain ⟨r2, e2, _⟩ := pickE b hb (q + 1) (by omega) 2
   refine ⟨t.set 0 ⟨(r2 : Int), 6⟩, q + 2, Ev.step (fun k => by rw [spec_l20Term.j3]) ?_, by simp; omega, fun x hx => ?_, by omega⟩
   ·exact ev_bind eo (ev_pos rfl (ev_bind e (ev_neg (by simp; omega) (ev_neg (by simp; omega) (ev_bind e2 (ev_pos (by omega) (ev_ret rfl)))))))
   ·rcases List.mem_or_eq_of_mem_set hx with hx | rfl
    ·exact hs x hx
    ·show (6 : Int) ≤ _
     decide
def PartsP (c : Nat) (xs : List (List Mk)) : Prop := ∀ r ∈ xs, 1 ≤ r.length ∧ r.length ≤ c ∧ SmallL r
theorem parts_at {c : Nat} {xs : List (List Mk)} (h : PartsP c xs) (i : Nat) (hi : i < xs.length) : 1 ≤ (rd_Lparts xs (i : Int)).length ∧ (rd_Lparts xs (i : Int)).length ≤ c ∧ SmallL (rd_Lparts xs (i : Int)) := by
 unfold rd_Lparts
 rw [Int.toNat_natCast, List.getD_eq_getElem?_getD, List.getElem?_eq_getElem hi]
 exact h _ (List.getElem_mem hi)
def Fits (c m : Nat) : Prop := (c + 1) * 2 ^ m ≤ 4096
theorem Fits.next {c m : Nat} (h : Fits c (m + 1)) : Fits (2 * c + 1) m := by
 unfold Fits at h ⊢
 rw [show 2 * c + 1 + 1 = (c + 1) * 2 by omega, Nat.mul_assoc, Nat.mul_comm 2, ← Nat.pow_succ]
 exact h
theorem Fits.le {c m : Nat} (h : Fits c m) : c + 1 ≤ 4096 := by
 unfold Fits at h
 have h2 : 1 ≤ 2 ^ m := Nat.one_le_two_pow
 have h3 : (c + 1) * 1 ≤ (c + 1) * 2 ^ m := Nat.mul_le_mul_left _ h2
 rw [Nat.mul_one] at h3
 exact Nat.le_trans h3 h
theorem Fits.start : Fits 1 7 := by
 unfold Fits
 decide
set_option maxHeartbeats 1600000 in
theorem term_l1 (b : List Int) (hb : Bytes b) (d : Int) : ∀ (m : Nat) (xs : List (List Mk)) (x9 p c : Nat), 1 ≤ xs.length → xs.length + x9 ≤ m → m ≤ 12 → Fits c m → PartsP c xs → p + 3 * m ≤ 5000 →
  ∃ (s : List Mk) (q : Nat), Ev (fun k => spec_l20Term.l1 k d xs (x9 : Int) b (p : Int)) (s, (q : Int)) ∧ s.length ≤ 4097 ∧ SmallL s ∧ q ≤ p + 3 * m + 4 := by
 intro m
 induction m with
 | zero => intro xs x9 p c h1 h2; omega
 | succ m ih =>
  intro xs x9 p c h1 h2 hm hc hP hp
  have hc2 := hc.next
  have hc4 := hc.le
  clear hc
  by_cases hl : xs.length = 1
  ·-- one part left: it is the term
   obtain ⟨a1, a2, a3⟩ : 1 ≤ (rd_Lparts xs 0).length ∧ (rd_Lparts xs 0).length ≤ c ∧ SmallL (rd_Lparts xs 0) := parts_at hP 0 (by omega)
   obtain ⟨r, e, _⟩ := pickE b hb p (by omega) 5
   by_cases h0 : r = 0
   ·obtain ⟨s, q, hE, hs1, hs2, hq⟩ := term_j3 b hb d (rd_Lparts xs 0 ++ [⟨2, 0⟩]) (p + 1) (by omega) (by simp) (by simp; omega) (a3.app (SmallL.one (by decide)))
    refine ⟨s, q, Ev.step (fun k => by rw [spec_l20Term.l1]) ?_, hs1, hs2, by omega⟩
    refine ev_neg (by omega) (ev_pos (by omega) ?_)
    simp only [Option.bind_some, List.nil_append]
    refine ev_pos (by simp only [List.length_nil]; omega) ?_
    exact ev_bind e (ev_pos (by simp [h0]) (ev_pos (by have : (rd_Lparts xs (0 : Int)).length ≤ c := a2; omega) hE))
   ·obtain ⟨s, q, hE, hs1, hs2, hq⟩ := term_j3 b hb d (rd_Lparts xs 0) (p + 1) (by omega) a1 (by omega) a3
    refine ⟨s, q, Ev.step (fun k => by rw [spec_l20Term.l1]) ?_, hs1, hs2, by omega⟩
    refine ev_neg (by omega) (ev_pos (by omega) ?_)
    simp only [Option.bind_some, List.nil_append]
    refine ev_pos (by simp only [List.length_nil]; omega) ?_
    exact ev_bind e (ev_neg (by simp; omega) hE)
  ·obtain ⟨r, e, hr, _⟩ := pickE b hb p (by omega) ((xs.length : Int) - 1)
   have hr := hr (by omega)
   obtain ⟨a1, a2, a3⟩ := parts_at hP r (by omega)
   obtain ⟨b1, b2, b3⟩ := parts_at hP (r + 1) (by omega)
   have w1 : wrap64 ((r : Int) + 1) = ((r + 1 : Nat) : Int) := w64s (by omega)
   have w2 : wrap64 ((r : Int) + 2) = ((r + 2 : Nat) : Int) := by rw [w64 (by omega) (by omega)]; omega
   have wl : wrap64 ((xs.length : Int) - 1) = (xs.length : Int) - 1 := w64 (by omega) (by omega)
   generalize hA : rd_Lparts xs (r : Int) = A at a1 a2 a3
   generalize hB : rd_Lparts xs ((r + 1 : Nat) : Int) = B at b1 b2 b3
   -- two parts made one
   have J : ∀ p1 : Nat, p ≤ p1 → p1 ≤ p + 2 → ∃ (r3 : Nat) (s : List Mk) (q : Nat), Ev (fun k => spec_l20Rd_pick.f k b (p1 : Int) 3) ((r3 : Int), ((p1 + 1 : Nat) : Int)) ∧
     Ev (fun k => spec_l20Term.l1 k d (xs.take r ++ [A ++ B ++ [⟨wrap64 (3 + (r3 : Int)), 0⟩]] ++ xs.drop (r + 2)) (x9 : Int) b ((p1 + 1 : Nat) : Int)) (s, (q : Int)) ∧ s.length ≤ 4097 ∧ SmallL s ∧ q ≤ p + 3 * (m + 1) + 4 := fun p1 hp1 hp2 => by
    obtain ⟨r3, e3, _⟩ := pickE b hb p1 (by omega) 3
    obtain ⟨s, q, hE, hs1, hs2, hq⟩ := ih (xs.take r ++ [A ++ B ++ [⟨wrap64 (3 + (r3 : Int)), 0⟩]] ++ xs.drop (r + 2)) x9 (p1 + 1) (2 * c + 1) (by simp; omega) (by simp; omega) (by omega) hc2 (fun z hz => by
     simp only [List.mem_append, List.mem_singleton] at hz
     rcases hz with (hz | rfl) | hz
     ·obtain ⟨y1, y2, y3⟩ := hP z (List.mem_of_mem_take hz); exact ⟨y1, by omega, y3⟩
     ·refine ⟨by simp; omega, by simp only [List.length_append, List.length_singleton]; omega, (a3.app b3).app (SmallL.one (show (0 : Int) ≤ 9223372036854775807 by decide))⟩
     ·obtain ⟨y1, y2, y3⟩ := hP z (List.mem_of_mem_drop hz); exact ⟨y1, by omega, y3⟩) (by omega)
    exact ⟨r3, s, q, e3, hE, hs1, hs2, by omega⟩
   have walkJ : ∀ (p1 r3 : Nat) (s : List Mk) (q : Nat), Ev (fun k => spec_l20Rd_pick.f k b (p1 : Int) 3) ((r3 : Int), ((p1 + 1 : Nat) : Int)) →
     Ev (fun k => spec_l20Term.l1 k d (xs.take r ++ [A ++ B ++ [⟨wrap64 (3 + (r3 : Int)), 0⟩]] ++ xs.drop (r + 2)) (x9 : Int) b ((p1 + 1 : Nat) : Int)) (s, (q : Int)) →
     Ev (fun k => if (0 : Int) ≤ (r : Int) then (if (r : Int) < (xs.length : Int) then (if 0 + (A).length < 8796093022208 then (if (0 : Int) ≤ ((r + 1 : Nat) : Int) then (if ((r + 1 : Nat) : Int) < (xs.length : Int) then (if (A).length + (B).length < 8796093022208 then ((spec_l20Rd_pick.f k b (p1 : Int) 3).bind fun bt => (if (A ++ B).length < 8796093022208 then (if (r : Int) ≤ (xs.length : Int) then (if 0 + (xs.take (r : Int).toNat).length < 5864062014805 then (if (xs.take (r : Int).toNat).length < 5864062014805 then (if (0 : Int) ≤ ((r + 2 : Nat) : Int) then (if ((r + 2 : Nat) : Int) ≤ (xs.length : Int) then (if (xs.take (r : Int).toNat ++ [A ++ B ++ [(⟨wrap64 (3 + bt.1), 0⟩ : Mk)]]).length + (xs.drop ((r + 2 : Nat) : Int).toNat).length < 5864062014805 then (spec_l20Term.l1 k d (xs.take (r : Int).toNat ++ [A ++ B ++ [(⟨wrap64 (3 + bt.1), 0⟩ : Mk)]] ++ xs.drop ((r + 2 : Nat) : Int).toNat) (x9 : Int) b bt.2) else none) else none) else none) else none) else none) else none) else none)) else none) else none) else none) else none) else none) else none) (s, (q : Int)) := fun p1 r3 s q e3 hE => by
    refine ev_pos (by omega) (ev_pos (by omega) (ev_pos (by omega) (ev_pos (by omega) (ev_pos (by omega) (ev_pos (by omega) (ev_bind e3 ?_))))))
    simp only [Int.toNat_natCast]
    refine ev_pos (by simp; omega) (ev_pos (by omega) (ev_pos (by simp; omega) (ev_pos (by simp; omega) (ev_pos (by omega) (ev_pos (by omega) (ev_pos (by simp; omega) hE))))))
   by_cases h9 : 0 < x9
   ·obtain ⟨r2, e2, _⟩ := pickE b hb (p + 1) (by omega) 4
    by_cases hz : r2 = 0
    ·-- one part turned
     obtain ⟨s, q, hE, hs1, hs2, hq⟩ := ih (xs.set r (A ++ [⟨2, 0⟩])) (x9 - 1) (p + 2) (2 * c + 1) (by simp; omega) (by simp; omega) (by omega) hc2 (fun z hz => by
      rcases List.mem_or_eq_of_mem_set hz with hz | rfl
      ·obtain ⟨y1, y2, y3⟩ := hP z hz; exact ⟨y1, by omega, y3⟩
      ·exact ⟨by simp, by simp; omega, a3.app (SmallL.one (by decide))⟩) (by omega)
     refine ⟨s, q, Ev.step (fun k => by rw [spec_l20Term.l1]) ?_, hs1, hs2, by omega⟩
     refine ev_pos (by omega) ?_
     rw [wl]
     refine ev_bind e ?_
     refine ev_pos (by omega) (ev_bind e2 (Ev.step (fun k => by rw [spec_l20Term.j2]) ?_))
     refine ev_pos (by simp [hz]) ?_
     simp only [Option.bind_some, List.nil_append, List.length_nil, Int.toNat_natCast, hA]
     refine ev_pos (by omega) (ev_pos (by omega) (ev_pos (by omega) (ev_pos (by omega) ?_)))
     rw [w64 (x := (x9 : Int) - 1) (by omega) (by omega), show (x9 : Int) - 1 = ((x9 - 1 : Nat) : Int) by omega]
     exact hE
    ·obtain ⟨r3, s, q, e3, hE, hs1, hs2, hq⟩ := J (p + 2) (by omega) (by omega)
     refine ⟨s, q, Ev.step (fun k => by rw [spec_l20Term.l1]) ?_, hs1, hs2, hq⟩
     refine ev_pos (by omega) ?_
     rw [wl]
     refine ev_bind e ?_
     refine ev_pos (by omega) (ev_bind e2 (Ev.step (fun k => by rw [spec_l20Term.j2]) ?_))
     refine ev_neg (by simp; omega) ?_
     simp only [Option.bind_some, List.nil_append, List.length_nil, w1, w2, hA, hB]
     exact walkJ _ _ _ _ e3 hE
   ·obtain ⟨r3, s, q, e3, hE, hs1, hs2, hq⟩ := J (p + 1) (by omega) (by omega)
    refine ⟨s, q, Ev.step (fun k => by rw [spec_l20Term.l1]) ?_, hs1, hs2, hq⟩
    refine ev_pos (by omega) ?_
    rw [wl]
    refine ev_bind e ?_
    refine ev_neg (by omega) (Ev.step (fun k => by rw [spec_l20Term.j2]) ?_)
    refine ev_neg (by decide) ?_
    simp only [Option.bind_some, List.nil_append, List.length_nil, w1, w2, hA, hB]
    exact walkJ _ _ _ _ e3 hE
theorem term_l0 (b : List Int) (hb : Bytes b) (d x1 : Int) (h1 : 1 ≤ x1) (h4 : x1 ≤ 4) : ∀ (n : Nat) (xs : List (List Mk)) (p : Nat), xs.length + n ≤ 4 → 1 ≤ xs.length + n → PartsP 1 xs → p + 2 * n ≤ 4000 →
  ∃ (s : List Mk) (q : Nat), Ev (fun k => spec_l20Term.l0 k x1 d xs (n : Int) b (p : Int)) (s, (q : Int)) ∧ s.length ≤ 4097 ∧ SmallL s ∧ q ≤ p + 2 * n + 25 := by
 intro n
 induction n with
 | zero =>
  intro xs p hn hn1 hP hp
  obtain ⟨s, q, hE, hs1, hs2, hq⟩ := term_l1 b hb d 7 xs 3 p 1 (by omega) (by omega) (by omega) Fits.start hP (by omega)
  refine ⟨s, q, Ev.step (fun k => by rw [spec_l20Term.l0]) ?_, hs1, hs2, by omega⟩
  exact ev_neg (by decide) hE
 | succ n ih =>
  intro xs p hn hn1 hP hp
  obtain ⟨r, e, _⟩ := pickE b hb p (by omega) 4
  have hw : wrap64 (((n + 1 : Nat) : Int) - 1) = (n : Int) := by rw [w64 (by omega) (by omega)]; omega
  have one : ∀ z : Mk, z.f1 ≤ 9223372036854775807 → PartsP 1 (xs ++ [[z]]) := fun z hz y hy => by
   rcases List.mem_append.1 hy with hy | hy
   ·exact hP y hy
   ·rw [List.mem_singleton.1 hy]
    exact ⟨by simp, by simp, SmallL.one hz⟩
  by_cases h0 : r = 0
  ·obtain ⟨r2, e2, _, hr2⟩ := pickB b hb (p + 1) (by omega) (wrap64 (x1 + 2)) (by rw [w64 (by omega) (by omega)]; omega)
   obtain ⟨s, q, hE, hs1, hs2, hq⟩ := ih (xs ++ [[⟨1, (r2 : Int)⟩]]) (p + 2) (by simp; omega) (by simp; omega) (one _ hr2) (by omega)
   refine ⟨s, q, Ev.step (fun k => by rw [spec_l20Term.l0]) ?_, hs1, hs2, by omega⟩
   rw [hw]
   exact ev_pos (by omega) (ev_bind e (ev_pos (by simp [h0]) (ev_bind e2 (ev_pos (by omega) hE))))
  ·obtain ⟨r2, e2, _, hr2⟩ := pickB b hb (p + 1) (by omega) x1 (by omega)
   obtain ⟨s, q, hE, hs1, hs2, hq⟩ := ih (xs ++ [[⟨0, (r2 : Int)⟩]]) (p + 2) (by simp; omega) (by simp; omega) (one _ hr2) (by omega)
   refine ⟨s, q, Ev.step (fun k => by rw [spec_l20Term.l0]) ?_, hs1, hs2, by omega⟩
   rw [hw]
   exact ev_pos (by omega) (ev_bind e (ev_neg (by simp; omega) (ev_bind e2 (ev_pos (by omega) hE))))
theorem l20TermE (b : List Int) (hb : Bytes b) (p : Nat) (hp : p ≤ 3900) (people d : Int) : ∃ (s : List Mk) (q : Nat), Ev (fun k => spec_l20Term.f k b (p : Int) people d) (s, (q : Int)) ∧ s.length ≤ 4097 ∧ SmallL s ∧ q ≤ p + 40 := by
 obtain ⟨r, e, hr, _⟩ := pickE b hb p (by omega) 4
 have hr := hr (by decide)
 obtain ⟨s, q, hE, hs1, hs2, hq⟩ := term_l0 b hb d (mn (mx people 1) 4) (by unfold mn mx; split <;> split <;> omega) (by unfold mn mx; split <;> split <;> omega) (r + 1) [] (p + 1) (by simp; omega) (by simp) (fun r hr => by simp at hr) (by omega)
 refine ⟨s, q, ?_, hs1, hs2, by omega⟩
 unfold spec_l20Term.f
 refine ev_bind e ?_
 dsimp only
 rw [w64 (x := 1 + (r : Int)) (by omega) (by omega), show 1 + (r : Int) = ((r + 1 : Nat) : Int) by omega]
 exact hE
theorem l20ClaimE (b : List Int) (hb : Bytes b) (p : Nat) (hp : p ≤ 3000) (people d : Int) : ∃ (who : Int) (t : List Mk) (q : Nat), Ev (fun k => spec_l20Claim.f k b (p : Int) people d) (who, t, (q : Int)) ∧ t.length ≤ 4097 ∧ SmallL t ∧ q ≤ p + 50 := by
 obtain ⟨r, e, _⟩ := pickE b hb p (by omega) (mx people 1)
 obtain ⟨t, q, et, ht1, ht2, hq⟩ := l20TermE b hb (p + 1) (by omega) people (wrap64 (d * 2))
 obtain ⟨o, q2, eo, hq2⟩ := oddE b hb q (by omega) d
 cases o with
 | false =>
  refine ⟨(r : Int), t, q2, ?_, ht1, ht2, by omega⟩
  unfold spec_l20Claim.f
  exact ev_bind e (ev_bind et (ev_bind eo (ev_neg (by simp) (Ev.step (fun k => by rw [spec_l20Claim.j0]) (ev_ret rfl)))))
 | true =>
  obtain ⟨r2, e2, h2, _⟩ := pickE b hb q2 (by omega) 2
  have h2 := h2 (by decide)
  refine ⟨rd [(-1), 4] (r2 : Int), t, q2 + 1, ?_, ht1, ht2, by omega⟩
  unfold spec_l20Claim.f
  refine ev_bind e (ev_bind et (ev_bind eo (ev_pos rfl ?_)))
  simp only [Option.bind_some]
  exact ev_bind e2 (ev_pos (by omega) (ev_pos (by simp; omega) (Ev.step (fun k => by rw [spec_l20Claim.j0]) (ev_ret rfl))))
def SmallS (s : List Cl) : Prop := ∀ c ∈ s, c.f1.length ≤ 4097 ∧ SmallL c.f1
theorem SmallS.S64 {s : List Cl} (h : SmallS s) (hl : s.length < 4611686018427387904) : S64 s := ⟨hl, fun i => by
 rcases Nat.lt_or_ge i s.length with hi | hi
 ·rw [List.getD_eq_getElem?_getD, List.getElem?_eq_getElem hi]
  obtain ⟨h1, h2⟩ := h _ (List.getElem_mem hi)
  exact ⟨h2.M64, by show (s[i]).f1.length < _; omega⟩
 ·rw [List.getD_eq_getElem?_getD, List.getElem?_eq_none hi]
  have h0 : zC.f1 = ([] : List Mk) := rfl
  refine ⟨SmallL.M64 (fun x hx => ?_), ?_⟩
  ·have hx : x ∈ zC.f1 := hx
   rw [h0] at hx
   simp at hx
  ·show zC.f1.length < _
   rw [h0]
   decide⟩
theorem SmallS.app {s : List Cl} (h : SmallS s) {c : Cl} (h1 : c.f1.length ≤ 4097) (h2 : SmallL c.f1) : SmallS (s ++ [c]) := fun x hx => by
 rcases List.mem_append.1 hx with hx | hx
 ·exact h x hx
 ·rw [List.mem_singleton.1 hx]
  exact ⟨h1, h2⟩
theorem story_l1 (b : List Int) (n : Int) (p : Nat) : ∀ (d : Nat) (s : List Cl), 7 ≤ s.length + d → s.length ≤ 20 → SmallS s → ∃ s', Ev (fun k => spec_l20Story.l1 k n s b (p : Int)) (n, s', (p : Int)) ∧ s'.length ≤ 20 ∧ SmallS s' := by
 intro d
 induction d with
 | zero =>
  intro s h h2 hs
  refine ⟨s, Ev.step (fun k => by rw [spec_l20Story.l1]) ?_, h2, hs⟩
  exact ev_neg (by omega) (ev_ret rfl)
 | succ d ih =>
  intro s h h2 hs
  by_cases h7 : s.length < 7
  ·obtain ⟨s', hE, h3, h4⟩ := ih (s ++ [⟨0, [⟨0, 0⟩]⟩]) (by simp; omega) (by simp; omega) (hs.app (by simp) (SmallL.one (by decide)))
   refine ⟨s', Ev.step (fun k => by rw [spec_l20Story.l1]) ?_, h3, h4⟩
   exact ev_pos (by omega) (ev_pos (by omega) hE)
  ·refine ⟨s, Ev.step (fun k => by rw [spec_l20Story.l1]) ?_, h2, hs⟩
   exact ev_neg (by omega) (ev_ret rfl)
theorem story_l0 (b : List Int) (hb : Bytes b) (x1 n : Int) : ∀ (d : Nat) (s : List Cl) (p : Nat), p + 50 * d ≤ 3000 → s.length + d ≤ 10 → SmallS s →
  ∃ (s' : List Cl) (q : Nat), Ev (fun k => spec_l20Story.l0 k x1 n s (d : Int) b (p : Int)) (n, s', (q : Int)) ∧ s'.length ≤ 20 ∧ SmallS s' ∧ q ≤ p + 50 * d + 1 := by
 intro d
 induction d with
 | zero =>
  intro s p hp hl hs
  obtain ⟨o, q, eo, hq⟩ := oddE b hb p (by omega) x1
  cases o with
  | false =>
   refine ⟨s, q, Ev.step (fun k => by rw [spec_l20Story.l0]) ?_, by omega, hs, by omega⟩
   exact ev_neg (by decide) (ev_bind eo (ev_neg (by simp) (ev_ret rfl)))
  | true =>
   obtain ⟨s', hE, h3, h4⟩ := story_l1 b n q 7 s (by omega) (by omega) hs
   refine ⟨s', q, Ev.step (fun k => by rw [spec_l20Story.l0]) ?_, h3, h4, by omega⟩
   exact ev_neg (by decide) (ev_bind eo (ev_pos rfl hE))
 | succ d ih =>
  intro s p hp hl hs
  obtain ⟨who, t, q, et, ht1, ht2, hq⟩ := l20ClaimE b hb p (by omega) n (wrap64 (x1 * 3))
  obtain ⟨s', q2, hE, h3, h4, hq2⟩ := ih (s ++ [⟨who, t⟩]) q (by omega) (by simp; omega) (hs.app ht1 ht2)
  have hw : wrap64 (((d + 1 : Nat) : Int) - 1) = (d : Int) := by rw [w64 (by omega) (by omega)]; omega
  refine ⟨s', q2, Ev.step (fun k => by rw [spec_l20Story.l0]) ?_, h3, h4, by omega⟩
  rw [hw]
  exact ev_pos (by omega) (ev_bind et (ev_pos (by omega) hE))
theorem l20StoryE (b : List Int) (hb : Bytes b) (p : Nat) (hp : p ≤ 1000) (x1 : Int) : ∃ (n : Int) (s : List Cl) (q : Nat), Ev (fun k => spec_l20Story.f k b (p : Int) x1) (n, s, (q : Int)) ∧ 1 ≤ n ∧ n ≤ 4 ∧ s.length ≤ 20 ∧ SmallS s ∧ q ≤ p + 300 := by
 obtain ⟨r, e, h, _⟩ := pickE b hb p (by omega) 4
 obtain ⟨r2, e2, h2, _⟩ := pickE b hb (p + 1) (by omega) 5
 have h := h (by decide)
 have h2 := h2 (by decide)
 obtain ⟨s, q, hE, h3, h4, hq⟩ := story_l0 b hb x1 (wrap64 (1 + (r : Int))) r2 [] (p + 2) (by omega) (by simp; omega) (fun x hx => by simp at hx)
 refine ⟨wrap64 (1 + (r : Int)), s, q, ?_, by rw [w64 (by omega) (by omega)]; omega, by rw [w64 (by omega) (by omega)]; omega, h3, h4, by omega⟩
 unfold spec_l20Story.f
 exact ev_bind e (ev_bind e2 hE)
theorem spec_story_l (n : Nat) (hn : n ≤ 4) (s : List Cl) (h : ∀ i, i < s.length → ClaimP n (s.getD i zC).f0 (s.getD i zC).f1) (hs : s.length ≤ 6) : ∀ d i a : Nat, i + d = s.length → a < 65536 →
  Ev (fun k => spec_l4Story.l0 k (n : Int) s (a : Int) (i : Int)) (((s.drop i).foldl (fun t c => t &&& tabC n c) a : Nat) : Int) := by
 intro d
 induction d with
 | zero =>
  intro i a hi ha
  refine Ev.step (fun k => by rw [spec_l4Story.l0]) ?_
  refine ev_neg (by omega) (ev_ret ?_)
  rw [List.drop_eq_nil_of_le (by omega)]
  rfl
 | succ d ih =>
  intro i a hi ha
  refine Ev.step (fun k => by rw [spec_l4Story.l0]) ?_
  have hc := tabC_lt n hn (s.getD i zC)
  rw [rdC, w64s (i := i) (by omega), drop_C s i (by omega), List.foldl_cons]
  refine ev_pos (by omega) ?_
  refine ev_pos (by omega) ?_
  refine ev_bind (spec_l4TableE n _ (h i (by omega))) ?_
  rw [and_nat' _ _ (by omega) (by omega)]
  exact ih (i + 1) _ (by omega) (Nat.lt_of_le_of_lt Nat.and_le_left ha)
theorem spec_storyE (n : Nat) (s : List Cl) (h : StoryP n s) : Ev (fun k => spec_l4Story.f k (n : Int) s) ((tabS n s : Nat) : Int) := by
 have hn : n ≤ 4 := by have := h.2.1.2; omega
 have hp := ppw' hn
 have hpos := pw_pos (pw n)
 unfold spec_l4Story.f tabS
 rw [shl2' n hn, w64 (by omega) (by omega), show (pw (pw n) : Int) - 1 = ((pw (pw n) - 1 : Nat) : Int) by omega]
 refine ev_pos (by omega) ?_
 exact spec_story_l n hn s h.1 h.2.2 s.length 0 (pw (pw n) - 1) (by omega) (by omega)
end Go.Proofs.YtcaogllnbpmcgaaDoor.M
namespace Go.Proofs.YtcaogllnbpmcgaaDoor.M
open Go Go.RowKit Go.Proofs.YtcaogllnbpmcgaaDoorW.PrintWords
theorem pw4 {n : Nat} (h : n ≤ 4) : pw n ≤ 16 := Nat.pow_le_pow_right (n := 2) (by decide) h
theorem shl_u64 (n : Nat) (hn : n ≤ 4) : shl .u64 1 (n : Int) = (pw n : Int) := by
 rcases (by omega : n = 0 ∨ n = 1 ∨ n = 2 ∨ n = 3 ∨ n = 4) with rfl | rfl | rfl | rfl | rfl <;> decide
theorem shl2 (n : Nat) (hn : n ≤ 4) : shl .i64 1 (shl .u64 1 (n : Int)) = (pw (pw n) : Int) := by
 rw [shl_u64 n hn, shl_nat _ (by have := pw4 hn; omega)]
theorem ppw {n : Nat} (h : n ≤ 4) : pw (pw n) ≤ 65536 := pw16 (pw4 h)
def TabOk (n t : Int) : Prop := 1 ≤ n ∧ n ≤ 4 ∧ 0 ≤ t ∧ t < (pw (pw n.toNat) : Int)
instance (n t : Int) : Decidable (TabOk n t) := by unfold TabOk; infer_instance
theorem some_dec {b : Bool} {P : Prop} [Decidable P] (h : b = true ↔ P) : some b = some (decide P) := by
 congr 1
 rw [Bool.eq_iff_iff, decide_eq_true_eq]
 exact h
theorem tabOk_nat (m : Nat) (t : Int) : TabOk (m : Int) t ↔ 1 ≤ m ∧ m ≤ 4 ∧ 0 ≤ t ∧ t < (pw (pw m) : Int) := by
 unfold TabOk
 rw [Int.toNat_natCast]
 omega
def wl (T n : Nat) : List Nat := (List.range' 0 (pw n)).filter fun w => bitN T w == 1
end Go.Proofs.YtcaogllnbpmcgaaDoor.M
namespace Go.Proofs.YtcaogllnbpmcgaaDoor.M
open Go Go.RowKit Go.Proofs.YtcaogllnbpmcgaaDoorW.PrintWords Go.Proofs.YtcaogllnbpmcgaaDoorW.PrintLast Go.Proofs.YtcaogllnbpmcgaaDoor.P
theorem l1InF (a b c : Int) : spec_l1In.f a b c = some (decide (b ≤ a ∧ a ≤ c)) := by
 unfold spec_l1In.f
 by_cases h : a ≥ b
 ·rw [if_pos h]
  simp [h]
 ·rw [if_neg h]
  simp
  intro h'
  omega
theorem spec_tabOkF (n t : Int) : spec_TableOk.f n t = some (decide (TabOk n t)) := by
 unfold spec_TableOk.f
 rw [l1InF]
 simp only [Option.bind_some]
 by_cases h : 1 ≤ n ∧ n ≤ 4
 ·obtain ⟨m, rfl⟩ : ∃ m : Nat, n = (m : Int) := ⟨n.toNat, by omega⟩
  have := ppw (n := m) (by omega)
  have := pw_pos (pw m)
  rw [if_pos (decide_eq_true h), shl2 m (by omega), if_pos (by omega), l1InF, w64 (by omega) (by omega)]
  simp only [Option.bind_some]
  refine some_dec ?_
  rw [tabOk_nat, decide_eq_true_eq]
  omega
 ·rw [if_neg (fun h' => h (of_decide_eq_true h'))]
  exact some_dec ⟨fun h => (by cases h), fun h' => absurd ⟨h'.1, h'.2.1⟩ h⟩
theorem worlds_ex (n : Nat) (hn : n ≤ 4) (T : Nat) (hT : TabOk (n : Int) (T : Int)) : ∀ (d i : Nat) (acc : List Int), i + d = pw n → acc.length ≤ i → ∃ L, Ev (fun k => spec_WorldsIn.l0 k (n : Int) (T : Int) acc (i : Int)) L := by
 have hp := pw4 hn
 intro d
 induction d with
 | zero =>
  intro i acc hi ha
  refine ⟨acc, Ev.step (fun k => by rw [spec_WorldsIn.l0, spec_tabOkF]) ?_⟩
  simp only [Option.bind_some]
  refine ev_pos (decide_eq_true hT) (ev_pos (by omega) ?_)
  rw [shl_nat n (by omega), decide_eq_false (by omega)]
  refine Ev.step (fun k => by rw [spec_WorldsIn.j1]) ?_
  exact ev_neg (by simp) (ev_ret rfl)
 | succ d ih =>
  intro i acc hi ha
  by_cases h1 : Int.tmod (shr .i64 (T : Int) (i : Int)) 2 = 1
  ·obtain ⟨L, hL⟩ := ih (i + 1) (acc ++ [(i : Int)]) (by omega) (by simp; omega)
   refine ⟨L, Ev.step (fun k => by rw [spec_WorldsIn.l0, spec_tabOkF]) ?_⟩
   simp only [Option.bind_some]
   refine ev_pos (decide_eq_true hT) (ev_pos (by omega) ?_)
   rw [shl_nat n (by omega), decide_eq_true (by omega : (i : Int) < ((pw n : Nat) : Int))]
   refine Ev.step (fun k => by rw [spec_WorldsIn.j1, w64s (by omega)]) ?_
   exact ev_pos rfl (ev_pos (by omega) (ev_pos h1 (ev_pos (by omega) hL)))
  ·obtain ⟨L, hL⟩ := ih (i + 1) acc (by omega) (by omega)
   refine ⟨L, Ev.step (fun k => by rw [spec_WorldsIn.l0, spec_tabOkF]) ?_⟩
   simp only [Option.bind_some]
   refine ev_pos (decide_eq_true hT) (ev_pos (by omega) ?_)
   rw [shl_nat n (by omega), decide_eq_true (by omega : (i : Int) < ((pw n : Nat) : Int))]
   refine Ev.step (fun k => by rw [spec_WorldsIn.j1, w64s (by omega)]) ?_
   exact ev_pos rfl (ev_pos (by omega) (ev_neg h1 hL))
theorem worldsInE (n : Int) (h1 : 1 ≤ n) (h4 : n ≤ 4) (t : Int) : ∃ L, Ev (fun k => spec_WorldsIn.f k n t) L := by
 unfold spec_WorldsIn.f
 by_cases hT : TabOk n t
 ·obtain ⟨m, rfl⟩ : ∃ m : Nat, n = (m : Int) := ⟨n.toNat, by omega⟩
  obtain ⟨T, rfl⟩ : ∃ T : Nat, t = (T : Int) := ⟨t.toNat, by have := hT.2.2.1; omega⟩
  exact worlds_ex m (by omega) T hT (pw m) 0 [] (by omega) (by simp)
 ·refine ⟨[], Ev.step (fun k => by rw [spec_WorldsIn.l0, spec_tabOkF]) ?_⟩
  simp only [Option.bind_some]
  refine ev_neg (by simpa using hT) ?_
  refine Ev.step (fun k => by rw [spec_WorldsIn.j1]) ?_
  exact ev_neg (by simp) (ev_ret rfl)
theorem l20ProvedE (b : List Int) (hb : Bytes b) : ∃ (n : Int) (s : List Cl) (l : List Mk) (q : Nat), Ev (fun k => spec_l20Proved.f k b ((0 : Nat) : Int)) (n, s, l, (q : Int)) ∧ s.length ≤ 20 ∧ SmallS s ∧ l.length ≤ 4097 ∧ SmallL l ∧ n ≤ 4 ∧ q ≤ 400 := by
 obtain ⟨n, s, q, es, hn1, hn4, hsl, hss, hq⟩ := l20StoryE b hb 0 (by omega) 14
 obtain ⟨l, q2, el, hl1, hl2, hq2⟩ := l20TermE b hb q (by omega) n 14
 have h64 := hss.S64 (by omega)
 obtain ⟨t, et⟩ : ∃ t, Ev (fun k => spec_StoryTable.f k n s) t := by
  unfold spec_StoryTable.f
  obtain ⟨c, hc, hi⟩ := spec_storyOk n (by omega) s h64
  cases c with
  | false => exact ⟨-1, ev_bind hc (ev_neg (by decide) (ev_ret rfl))⟩
  | true =>
   obtain ⟨m, rfl⟩ : ∃ m : Nat, n = (m : Int) := ⟨n.toNat, by omega⟩
   exact ⟨_, ev_bind hc (ev_pos rfl (ev_bind (spec_storyE m s (hi.1 rfl)) (ev_ret rfl)))⟩
 obtain ⟨L, eL⟩ := worldsInE n hn1 hn4 t
 unfold spec_l20Proved.f
 by_cases hL : (L.length : Int) > 0
 ·obtain ⟨r, e, _⟩ := pickE b hb q2 (by omega) 2
  by_cases h0 : r = 0
  ·obtain ⟨r2, e2, h2, _⟩ := pickE b hb (q2 + 1) (by omega) n
   have h2 := h2 hn1
   by_cases hz : Int.tmod (shr .i64 (rd L 0) (r2 : Int)) 2 = 0
   ·refine ⟨n, s, [⟨0, (r2 : Int)⟩, ⟨2, 0⟩], q2 + 2, ?_, hsl, hss, by simp, fun x hx => ?_, hn4, by omega⟩
    ·refine ev_bind es (ev_bind el (ev_bind et (ev_bind eL (ev_pos hL (ev_bind e ?_)))))
     dsimp only
     rw [show (((r : Nat) : Int) == 0) = true by simp [h0]]
     refine Ev.step (fun k => by rw [spec_l20Proved.j0]) ?_
     refine ev_pos rfl (ev_bind e2 ?_)
     simp only [Option.bind_some]
     refine ev_pos (by omega) (ev_pos (by omega) (ev_pos hz (ev_pos (by simp) (ev_ret rfl))))
    ·rcases List.mem_cons.1 hx with rfl | hx
     ·show (r2 : Int) ≤ _
      omega
     ·rw [List.mem_singleton.1 hx]
      show (0 : Int) ≤ _
      decide
   ·refine ⟨n, s, [⟨0, (r2 : Int)⟩], q2 + 2, ?_, hsl, hss, by simp, SmallL.one (show (r2 : Int) ≤ _ by omega), hn4, by omega⟩
    refine ev_bind es (ev_bind el (ev_bind et (ev_bind eL (ev_pos hL (ev_bind e ?_)))))
    dsimp only
    rw [show (((r : Nat) : Int) == 0) = true by simp [h0]]
    refine Ev.step (fun k => by rw [spec_l20Proved.j0]) ?_
    refine ev_pos rfl (ev_bind e2 ?_)
    simp only [Option.bind_some]
    refine ev_pos (by omega) (ev_pos (by omega) (ev_neg hz (ev_ret rfl)))
  ·refine ⟨n, s, l, q2 + 1, ?_, hsl, hss, hl1, hl2, hn4, by omega⟩
   refine ev_bind es (ev_bind el (ev_bind et (ev_bind eL (ev_pos hL (ev_bind e ?_)))))
   dsimp only
   rw [show (((r : Nat) : Int) == 0) = false from beq_eq_false_iff_ne.mpr (by omega)]
   refine Ev.step (fun k => by rw [spec_l20Proved.j0]) ?_
   exact ev_neg (by simp) (ev_ret rfl)
 ·refine ⟨n, s, l, q2, ?_, hsl, hss, hl1, hl2, hn4, by omega⟩
  refine ev_bind es (ev_bind el (ev_bind et (ev_bind eL (ev_neg hL ?_))))
  dsimp only
  refine Ev.step (fun k => by rw [spec_l20Proved.j0]) ?_
  exact ev_neg (by simp) (ev_ret rfl)
end Go.Proofs.YtcaogllnbpmcgaaDoor.M
namespace Go.Proofs.YtcaogllnbpmcgaaDoor.Q
open Go Go.Proofs.YtcaogllnbpmcgaaDoor.P
def goalB (n k wd : Nat) (hold : Nat → Bool) : Bool := goalM n (2 ^ k - 1) wd hold
def closeC (n k wd : Nat) (may : Nat → Nat → Bool) : Nat → Nat → Option Int
 | 0, _ => none
 | d + 1, i => if goalB n k wd (fun w => !may i w) = true then some (-2 - (i : Int)) else closeC n k wd may d (i + 1)
def closeP (n k wd m : Nat) (hold : Nat → Bool) (may : Nat → Nat → Bool) : Option Int :=
 if goalB n k wd hold = true then some (-1) else closeC n k wd may m 0
def growQ (n m : Nat) (hold : Nat → Bool) (may : Nat → Nat → Bool) : Nat → Nat → Nat → Nat → Option (List Sp × Int)
 | d, k, wd, L => match closeP n k wd m hold may with
  | some t => some ([], t)
  | none => match d with
   | 0 => none
   | d + 1 => match growQ n m hold may d (k + 1) wd (L + 1) with
    | none => none
    | some (a, no) => match growQ n m hold may d (k + 1) (wd + 2 ^ k) (L + 1 + a.length) with
     | none => none
     | some (b, yes) => some (⟨(k : Int), no, yes⟩ :: (a ++ b), (L : Int))
theorem growQ_close {n m : Nat} {hold : Nat → Bool} {may : Nat → Nat → Bool} {d k wd L : Nat} {t : Int} (h : closeP n k wd m hold may = some t) : growQ n m hold may d k wd L = some ([], t) := by
 cases d <;> simp only [growQ, h]
theorem growQ_zero {n m : Nat} {hold : Nat → Bool} {may : Nat → Nat → Bool} {k wd L : Nat} (h : closeP n k wd m hold may = none) : growQ n m hold may 0 k wd L = none := by
 simp only [growQ, h]
theorem growQ_no {n m : Nat} {hold : Nat → Bool} {may : Nat → Nat → Bool} {d k wd L : Nat} (h : closeP n k wd m hold may = none) (h1 : growQ n m hold may d (k + 1) wd (L + 1) = none) : growQ n m hold may (d + 1) k wd L = none := by
 rw [growQ, h]
 simp only
 rw [h1]
theorem growQ_yes {n m : Nat} {hold : Nat → Bool} {may : Nat → Nat → Bool} {d k wd L : Nat} {a : List Sp} {no : Int} (h : closeP n k wd m hold may = none) (h1 : growQ n m hold may d (k + 1) wd (L + 1) = some (a, no))
  (h2 : growQ n m hold may d (k + 1) (wd + 2 ^ k) (L + 1 + a.length) = none) : growQ n m hold may (d + 1) k wd L = none := by
 rw [growQ, h]
 simp only
 rw [h1]
 simp only
 rw [h2]
theorem growQ_both {n m : Nat} {hold : Nat → Bool} {may : Nat → Nat → Bool} {d k wd L : Nat} {a b : List Sp} {no yes : Int} (h : closeP n k wd m hold may = none) (h1 : growQ n m hold may d (k + 1) wd (L + 1) = some (a, no))
  (h2 : growQ n m hold may d (k + 1) (wd + 2 ^ k) (L + 1 + a.length) = some (b, yes)) : growQ n m hold may (d + 1) k wd L = some (⟨(k : Int), no, yes⟩ :: (a ++ b), (L : Int)) := by
 rw [growQ, h]
 simp only
 rw [h1]
 simp only
 rw [h2]
theorem closeC_some (n k wd : Nat) (may : Nat → Nat → Bool) : ∀ d i t, closeC n k wd may d i = some t → ∃ j, i ≤ j ∧ j < i + d ∧ t = -2 - (j : Int) ∧ goalB n k wd (fun w => !may j w) = true
 | 0, _, _, h => by cases h
 | d + 1, i, t, h => by
  unfold closeC at h
  by_cases hg : goalB n k wd (fun w => !may i w) = true
  ·rw [if_pos hg] at h
   exact ⟨i, Nat.le_refl _, by omega, (Option.some.inj h).symm, hg⟩
  ·rw [if_neg hg] at h
   obtain ⟨j, h1, h2, h3, h4⟩ := closeC_some n k wd may d (i + 1) t h
   exact ⟨j, by omega, by omega, h3, h4⟩
theorem grow_len (n m : Nat) (hold : Nat → Bool) (may : Nat → Nat → Bool) : ∀ (d k wd L : Nat) (a : List Sp) (t : Int), growQ n m hold may d k wd L = some (a, t) → a.length + 1 ≤ 2 ^ d := by
 intro d
 induction d with
 | zero =>
  intro k wd L a t h
  cases hc : closeP n k wd m hold may with
  | some t => rw [growQ_close hc] at h; cases h; decide
  | none => rw [growQ_zero hc] at h; cases h
 | succ d ih =>
  intro k wd L a t h
  cases hc : closeP n k wd m hold may with
  | some t =>
   rw [growQ_close hc] at h
   cases h
   exact Nat.pow_pos (by decide)
  | none =>
   cases e1 : growQ n m hold may d (k + 1) wd (L + 1) with
   | none => rw [growQ_no hc e1] at h; cases h
   | some x =>
    obtain ⟨a1, no⟩ := x
    cases e2 : growQ n m hold may d (k + 1) (wd + 2 ^ k) (L + 1 + a1.length) with
    | none => rw [growQ_yes hc e1 e2] at h; cases h
    | some y =>
     obtain ⟨b, yes⟩ := y
     rw [growQ_both hc e1 e2] at h
     have h1 := ih _ _ _ _ _ e1
     have h2 := ih _ _ _ _ _ e2
     cases h
     rw [List.length_cons, List.length_append, Nat.pow_succ]
     omega
theorem close_cl {n m k wd : Nat} {hold : Nat → Bool} {may : Nat → Nat → Bool} {t : Int} (h : closeP n k wd m hold may = some t) : t < 0 ∧ clM n m hold may (2 ^ k - 1) wd t = true := by
 unfold closeP at h
 by_cases hg : goalB n k wd hold = true
 ·rw [if_pos hg] at h
  cases h
  exact ⟨by decide, by unfold clM; rw [if_pos rfl]; exact hg⟩
 ·rw [if_neg hg] at h
  obtain ⟨j, _, h2, rfl, h4⟩ := closeC_some n k wd may m 0 t h
  refine ⟨by omega, ?_⟩
  unfold clM
  rw [if_neg (by omega), if_pos (by omega), show (-2 - (-2 - (j : Int))).toNat = j by omega]
  exact h4
theorem two_pow_or (k : Nat) : (2 ^ k - 1) ||| 2 ^ k = 2 ^ (k + 1) - 1 := by
 refine Nat.eq_of_testBit_eq fun i => ?_
 rw [Nat.testBit_or, Nat.testBit_two_pow_sub_one, Nat.testBit_two_pow_sub_one, Nat.testBit_two_pow]
 rw [Bool.eq_iff_iff, Bool.or_eq_true, decide_eq_true_eq, decide_eq_true_eq, decide_eq_true_eq]
 omega
theorem low_or {wd k : Nat} (h : wd < 2 ^ k) : wd ||| 2 ^ k = wd + 2 ^ k := by
 have := Nat.two_pow_add_eq_or_of_lt h 1
 rw [Nat.mul_one] at this
 rw [Nat.or_comm, Nat.add_comm, this]
theorem app_get (a b : List Sp) (j : Nat) : (a ++ b).getD j zS = if j < a.length then a.getD j zS else b.getD (j - a.length) zS := by
 rw [List.getD_eq_getElem?_getD, List.getD_eq_getElem?_getD, List.getD_eq_getElem?_getD, List.getElem?_append]
 split <;> rfl
theorem grow_vis {S : List Sp} {n m : Nat} {hold : Nat → Bool} {may : Nat → Nat → Bool} : ∀ (d k wd L f : Nat) (a : List Sp) (t : Int), k + d = n → wd < 2 ^ k → d < f → growQ n m hold may d k wd L = some (a, t) →
  L + a.length ≤ S.length → (∀ j, j < a.length → S.getD (L + j) zS = a.getD j zS) →
  visP S n (clM n m hold may) f t (2 ^ k - 1) wd = some (List.range' L a.length) ∧ (t < 0 ∨ t = (L : Int) ∧ 0 < a.length) := by
 intro d
 induction d with
 | zero =>
  intro k wd L f a t hk hwd hf h hL hS
  cases hc : closeP n k wd m hold may with
  | none => rw [growQ_zero hc] at h; cases h
  | some u =>
   rw [growQ_close hc] at h
   cases h
   obtain ⟨h1, h2⟩ := close_cl hc
   cases f with
   | zero => omega
   | succ f =>
    rw [vis_neg h1, if_pos h2]
    exact ⟨rfl, .inl h1⟩
 | succ d ih =>
  intro k wd L f a t hk hwd hf h hL hS
  cases f with
  | zero => omega
  | succ f =>
   cases hc : closeP n k wd m hold may with
   | some u =>
    rw [growQ_close hc] at h
    cases h
    obtain ⟨h1, h2⟩ := close_cl hc
    rw [vis_neg h1, if_pos h2]
    exact ⟨rfl, .inl h1⟩
   | none =>
    cases e1 : growQ n m hold may d (k + 1) wd (L + 1) with
    | none => rw [growQ_no hc e1] at h; cases h
    | some x =>
     obtain ⟨a1, no⟩ := x
     cases e2 : growQ n m hold may d (k + 1) (wd + 2 ^ k) (L + 1 + a1.length) with
     | none => rw [growQ_yes hc e1 e2] at h; cases h
     | some y =>
      obtain ⟨b, yes⟩ := y
      rw [growQ_both hc e1 e2] at h
      cases h
      rw [List.length_cons, List.length_append] at hL hS
      have h0 := hS 0 (by omega)
      rw [Nat.add_zero] at h0
      have h0 : S.getD L zS = ⟨(k : Int), no, yes⟩ := h0
      have hp : 2 ^ (k + 1) = 2 ^ k * 2 := Nat.pow_succ ..
      obtain ⟨v1, o1⟩ := ih (k + 1) wd (L + 1) f a1 no (by omega) (by omega) (by omega) e1 (by omega) (fun j hj => by
       have := hS (j + 1) (by omega)
       rw [List.getD_cons_succ, app_get, if_pos hj] at this
       rw [← this]; congr 1; omega)
      obtain ⟨v2, o2⟩ := ih (k + 1) (wd + 2 ^ k) (L + 1 + a1.length) f b yes (by omega) (by omega) (by omega) e2 (by omega) (fun j hj => by
       have := hS (a1.length + j + 1) (by omega)
       rw [List.getD_cons_succ, app_get, if_neg (by omega), show a1.length + j - a1.length = j by omega] at this
       rw [← this]; congr 1; omega)
      refine ⟨?_, .inr ⟨rfl, by simp⟩⟩
      have hbit : (2 ^ k - 1).testBit k = false := by rw [Nat.testBit_two_pow_sub_one]; simp
      have e : ((L : Int)).toNat = L := Int.toNat_natCast L
      have hkt : (S.getD ((L : Int)).toNat zS).f0.toNat = k := by rw [e, h0]; exact Int.toNat_natCast k
      rw [vis_node (f := f) (tgt := (L : Int)) (a := List.range' (L + 1) a1.length) (b := List.range' (L + 1 + a1.length) b.length) (by omega) ⟨by rw [e, h0]; show 0 ≤ (k : Int); omega, by rw [e, h0]; show (k : Int) < n; omega, by rw [hkt]; exact hbit⟩
       ⟨by
        rw [e, h0]
        show okN S no _
        unfold okN
        omega, by
        rw [e, h0]
        show okN S yes _
        unfold okN
        omega⟩
       (by rw [hkt, two_pow_or, e, h0]; exact v1) (by rw [hkt, two_pow_or, low_or hwd, e, h0]; exact v2)]
      rw [e, List.length_cons, List.length_append, List.range'_succ, ← List.range'_append_1]
end Go.Proofs.YtcaogllnbpmcgaaDoor.Q
namespace Go.Proofs.YtcaogllnbpmcgaaDoor.M
open Go Go.RowKit Go.Proofs.YtcaogllnbpmcgaaDoorW.PrintWords Go.Proofs.YtcaogllnbpmcgaaDoor.P
def FirstP (n k : Nat) (ks : List Int) : Prop := KnowP n ks ∧ ∀ i, i < n → (0 ≤ ks.getD i 0 ↔ i < k)
theorem first_facts {n k : Nat} {ks : List Int} (hn : n ≤ 4) (hk : k ≤ n) (h : FirstP n k ks) : knOf ks = 2 ^ k - 1 ∧ wdOf ks < 2 ^ k := by
 have F : ∀ n : Fin 5, ∀ k : Fin 5, ∀ ks ∈ allK n.val, k.val ≤ n.val → (∀ i : Fin n.val, (0 ≤ ks.getD i.val 0 ↔ i.val < k.val)) → knOf ks = 2 ^ k.val - 1 ∧ wdOf ks < 2 ^ k.val := by decide +kernel
 exact F ⟨n, by omega⟩ ⟨k, by omega⟩ ks h.1 hk (fun i => h.2 i.val i.isLt)
theorem first_nothing (n : Nat) : FirstP n 0 (List.replicate n (-1)) := by
 refine ⟨know_nothing n, fun i hi => ?_⟩
 rw [List.getD_eq_getElem?_getD, List.getElem?_replicate, if_pos hi]
 show (0 : Int) ≤ -1 ↔ _
 omega
theorem first_next {n k : Nat} {ks : List Int} (hk : k < n) (h : FirstP n k ks) (x : Int) (hx : x = 0 ∨ x = 1) : FirstP n (k + 1) (ks.set k x) := by
 refine ⟨know_set h.1 k x hx, fun i hi => ?_⟩
 have hl := know_len h.1
 rw [List.getD_eq_getElem?_getD, List.getElem?_set]
 by_cases hki : k = i
 ·subst hki
  rw [if_pos rfl, if_pos (by omega)]
  show (0 : Int) ≤ x ↔ _
  omega
 ·rw [if_neg hki, ← List.getD_eq_getElem?_getD, h.2 i hi]
  omega
theorem first_wd {n k : Nat} {ks : List Int} (hn : n ≤ 4) (hk : k < n) (h : FirstP n k ks) : wdOf (ks.set k 0) = wdOf ks ∧ wdOf (ks.set k 1) = wdOf ks + 2 ^ k := by
 have h0 : ks.getD k 0 < 0 := by have := h.2 k hk; omega
 obtain ⟨_, a, _, b⟩ := ((know_facts n hn ks h.1).2.2 k hk).2 h0
 refine ⟨a, ?_⟩
 rw [b, Q.low_or (first_facts hn (by omega) h).2]
def GrowR (o : Option (List Q.Sp × Int)) (sp : List Q.Sp) (m : Nat) (r : List Q.Sp × Int × Bool) : Prop :=
 (match o with
 | some (a, x) => r = (sp ++ a, x, true)
 | none => r.2.2 = false) ∧ sp.length ≤ r.1.length ∧ r.1.length + 1 ≤ sp.length + m
section
variable (n : Nat) (s : List Cl) (t : List Mk)
theorem grow_who (hn : n ≤ 4) {k : Nat} {ks : List Int} (sp : List Q.Sp) (h : FirstP n k ks) (hk : k ≤ n) (R : List Q.Sp × Int × Bool)
  (hR : Ev (fun j => spec_l11Grow.l1 j (n : Int) s t ks sp (if k < n then (k : Int) else -1) (-1)) R) : Ev (fun j => spec_l11Grow.l1 j (n : Int) s t ks sp (-1) ((n : Int) - 1)) R := by
 have hl := know_len h.1
 have go : ∀ i : Nat, i ≤ n → Ev (fun j => spec_l11Grow.l1 j (n : Int) s t ks sp (if k < i then (if i < n then (i : Int) else -1) else (if k < n then (k : Int) else -1)) ((i : Int) - 1)) R := by
  intro i
  induction i with
  | zero =>
   intro _
   rw [if_neg (by omega)]
   exact hR
  | succ i ih =>
   intro hi
   refine Ev.step (fun j => by rw [spec_l11Grow.l1]) ?_
   have e1 : ((i + 1 : Nat) : Int) - 1 = (i : Int) := by omega
   rw [e1]
   refine ev_pos (by omega) (ev_pos (by omega) (ev_pos (by omega) ?_))
   have ew : wrap64 ((i : Int) - 1) = (i : Int) - 1 := Go.Proofs.YtcaogllnbpmcgaaDoor.M.w64 (by omega) (by omega)
   rw [rdN, ew]
   have hf := h.2 i (by omega)
   by_cases hki : i < k
   ·refine ev_neg (by have := hf.2 hki; omega) ?_
    have := ih (by omega)
    rw [if_neg (by omega)] at this ⊢
    exact this
   ·refine ev_pos (by omega) ?_
    have := ih (by omega)
    by_cases hke : k < i
    ·rw [if_pos hke, if_pos (by omega)] at this
     exact this
    ·obtain rfl : k = i := by omega
     rw [if_neg hke, if_pos (by omega)] at this
     exact this
 have := go n (Nat.le_refl _)
 by_cases hk : k < n
 ·rw [if_pos hk, if_neg (Nat.lt_irrefl _)] at this
  exact this
 ·rw [if_neg hk, if_neg hk] at this
  exact this
theorem grow_claims (hS : StoryP (n : Int) s) (hT : TermP (n : Int) t) {k : Nat} {ks : List Int} (sp : List Q.Sp) (h : FirstP n k ks) (hk : k ≤ n) (hn : n ≤ 4) (R : List Q.Sp × Int × Bool)
  (h1 : ∀ x, Q.closeC n k (wdOf ks) (mayT s) s.length 0 = some x → R = (sp, x, true))
  (h2 : Q.closeC n k (wdOf ks) (mayT s) s.length 0 = none → Ev (fun j => spec_l11Grow.l1 j (n : Int) s t ks sp (-1) ((n : Int) - 1)) R) :
  Ev (fun j => spec_l11Grow.l0 j (n : Int) s t ks sp (-1) 0) R := by
 have h6 := hS.2.2
 have hf := (first_facts hn hk h).1
 have go : ∀ d i : Nat, i + d = s.length → (Q.closeC n k (wdOf ks) (mayT s) d i = Q.closeC n k (wdOf ks) (mayT s) s.length 0) → Ev (fun j => spec_l11Grow.l0 j (n : Int) s t ks sp (-1) (i : Int)) R := by
  intro d
  induction d with
  | zero =>
   intro i hi hc
   refine Ev.step (fun j => by rw [spec_l11Grow.l0]) (ev_neg (by omega) ?_)
   have ew : wrap64 ((n : Int) - 1) = (n : Int) - 1 := Go.Proofs.YtcaogllnbpmcgaaDoor.M.w64 (by omega) (by omega)
   rw [ew]
   exact h2 hc.symm
  | succ d ih =>
   intro i hi hc
   have ew : wrap64 (-2 - (i : Int)) = -2 - (i : Int) := Go.Proofs.YtcaogllnbpmcgaaDoor.M.w64 (by omega) (by omega)
   refine Ev.step (fun j => by rw [spec_l11Grow.l0]) (ev_pos (by omega) ?_)
   rw [ew]
   refine ev_bind (spec_closesE n s t hS hT ks h.1 (-2 - (i : Int)) (by omega) (by omega)) ?_
   have e : clQ_ n s t (knOf ks) (wdOf ks) (-2 - (i : Int)) = Q.goalB n k (wdOf ks) (fun w => !mayT s i w) := by
    unfold clQ_ Q.clM Q.goalB
    rw [if_neg (by omega), if_pos (by omega), hf, show (-2 - (-2 - (i : Int))).toNat = i by omega]
   rw [e]
   have hcc : Q.closeC n k (wdOf ks) (mayT s) (d + 1) i = if Q.goalB n k (wdOf ks) (fun w => !mayT s i w) = true then some (-2 - (i : Int)) else Q.closeC n k (wdOf ks) (mayT s) d (i + 1) := rfl
   by_cases hg : Q.goalB n k (wdOf ks) (fun w => !mayT s i w) = true
   ·rw [hcc, if_pos hg] at hc
    exact ev_pos hg (ev_ret (h1 _ hc.symm).symm)
   ·rw [hcc, if_neg hg] at hc
    rw [w64s (by omega)]
    exact ev_neg hg (ih (i + 1) (by omega) hc)
 exact go s.length 0 (by omega) rfl
end
section
variable {n : Nat} {s : List Cl} {t : List Mk}
theorem set_mid (sp a : List Q.Sp) (x y : Q.Sp) : (sp ++ x :: a).set sp.length y = sp ++ y :: a := by
 rw [List.set_append_right _ _ (Nat.le_refl _), Nat.sub_self]
 rfl
theorem spec_growE (hS : StoryP (n : Int) s) (hT : TermP (n : Int) t) : ∀ (d k : Nat) (ks : List Int) (sp : List Q.Sp), k + d = n → FirstP n k ks → sp.length + 2 ^ d ≤ 100 →
  ∃ r, Ev (fun j => spec_l11Grow.f j (n : Int) s t ks sp) r ∧ GrowR (Q.growQ n s.length (holdT t) (mayT s) d k (wdOf ks) sp.length) sp (2 ^ d) r := by
 have hn := hS.2.1
 have hn4 : n ≤ 4 := by omega
 intro d
 induction d with
 | zero =>
  intro k ks sp hk hF hsp
  have hg0 := spec_closesE n s t hS hT ks hF.1 (-1) (by omega) (by omega)
  have e : clQ_ n s t (knOf ks) (wdOf ks) (-1) = Q.goalB n k (wdOf ks) (holdT t) := by
   unfold clQ_ Q.clM Q.goalB
   rw [if_pos rfl, (first_facts hn4 (by omega) hF).1]
  rw [e] at hg0
  cases hc : Q.closeP n k (wdOf ks) s.length (holdT t) (mayT s) with
  | some x =>
   rw [Q.growQ_close hc]
   refine ⟨(sp, x, true), ?_, by show (sp, x, true) = (sp ++ [], x, true); rw [List.append_nil], Nat.le_refl _, by simp⟩
   refine Ev.step (fun j => by rw [spec_l11Grow.f]) (ev_bind hg0 ?_)
   unfold Q.closeP at hc
   by_cases hg : Q.goalB n k (wdOf ks) (holdT t) = true
   ·rw [if_pos hg] at hc
    cases hc
    exact ev_pos hg (ev_ret rfl)
   ·rw [if_neg hg] at hc
    refine ev_neg hg (grow_claims n s t hS hT sp hF (by omega) hn4 _ (fun y hy => ?_) (fun h => ?_))
    ·rw [hc] at hy; cases hy; rfl
    ·rw [hc] at h; cases h
  | none =>
   rw [Q.growQ_zero hc]
   refine ⟨(sp, -1, false), ?_, rfl, Nat.le_refl _, by simp⟩
   refine Ev.step (fun j => by rw [spec_l11Grow.f]) (ev_bind hg0 ?_)
   unfold Q.closeP at hc
   by_cases hg : Q.goalB n k (wdOf ks) (holdT t) = true
   ·rw [if_pos hg] at hc; cases hc
   ·rw [if_neg hg] at hc
    refine ev_neg hg (grow_claims n s t hS hT sp hF (by omega) hn4 _ (fun y hy => ?_) (fun h => ?_))
    ·rw [hc] at hy; cases hy
    ·refine grow_who n s t hn4 sp hF (by omega) _ ?_
     rw [if_neg (by omega)]
     exact Ev.step (fun j => by rw [spec_l11Grow.l1]) (ev_neg (by decide) (ev_pos (by decide) (ev_ret rfl)))
 | succ d ih =>
  intro k ks sp hk hF hsp
  have hg0 := spec_closesE n s t hS hT ks hF.1 (-1) (by omega) (by omega)
  have e : clQ_ n s t (knOf ks) (wdOf ks) (-1) = Q.goalB n k (wdOf ks) (holdT t) := by
   unfold clQ_ Q.clM Q.goalB
   rw [if_pos rfl, (first_facts hn4 (by omega) hF).1]
  rw [e] at hg0
  have hpos := Nat.two_pow_pos d
  have hp2 : 2 ^ (d + 1) = 2 * 2 ^ d := by rw [Nat.pow_succ]; omega
  cases hc : Q.closeP n k (wdOf ks) s.length (holdT t) (mayT s) with
  | some x =>
   rw [Q.growQ_close hc]
   refine ⟨(sp, x, true), ?_, by show (sp, x, true) = (sp ++ [], x, true); rw [List.append_nil], Nat.le_refl _, by show sp.length + 1 ≤ _; omega⟩
   refine Ev.step (fun j => by rw [spec_l11Grow.f]) (ev_bind hg0 ?_)
   unfold Q.closeP at hc
   by_cases hg : Q.goalB n k (wdOf ks) (holdT t) = true
   ·rw [if_pos hg] at hc
    cases hc
    exact ev_pos hg (ev_ret rfl)
   ·rw [if_neg hg] at hc
    refine ev_neg hg (grow_claims n s t hS hT sp hF (by omega) hn4 _ (fun y hy => ?_) (fun h => ?_))
    ·rw [hc] at hy; cases hy; rfl
    ·rw [hc] at h; cases h
  | none =>
   have hkn : k < n := by omega
   have hl := know_len hF.1
   obtain ⟨w0, w1⟩ := first_wd hn4 hkn hF
   have hs1 : (sp ++ [(⟨(k : Int), -1, -1⟩ : Q.Sp)]).length = sp.length + 1 := by simp
   obtain ⟨r1, hr1, hG1, hl1, hm1⟩ := ih (k + 1) (ks.set k 0) (sp ++ [⟨(k : Int), -1, -1⟩]) (by omega) (first_next hkn hF 0 (.inl rfl)) (by omega)
   rw [hs1, w0] at hG1
   rw [hs1] at hl1 hm1
   obtain ⟨r2, hr2, hG2, hl2, hm2⟩ := ih (k + 1) (ks.set k 1) r1.1 (by omega) (first_next hkn hF 1 (.inr rfl)) (by omega)
   rw [w1] at hG2
   have step : Ev (fun j => spec_l11Grow.f j (n : Int) s t ks sp) (r2.1.set sp.length ⟨(k : Int), r1.2.1, r2.2.1⟩, (sp.length : Int), r1.2.2 && r2.2.2) := by
    refine Ev.step (fun j => by rw [spec_l11Grow.f]) (ev_bind hg0 ?_)
    unfold Q.closeP at hc
    by_cases hg : Q.goalB n k (wdOf ks) (holdT t) = true
    ·rw [if_pos hg] at hc; cases hc
    rw [if_neg hg] at hc
    refine ev_neg hg (grow_claims n s t hS hT sp hF (by omega) hn4 _ (fun y hy => ?_) (fun h => ?_))
    ·rw [hc] at hy; cases hy
    refine grow_who n s t hn4 sp hF (by omega) _ ?_
    rw [if_pos hkn]
    refine Ev.step (fun j => by rw [spec_l11Grow.l1]) (ev_neg (by decide) (ev_neg (by omega) ?_))
    simp only [Option.bind_some, List.nil_append, List.length_nil, Nat.zero_add, Int.toNat_natCast]
    refine ev_pos (by omega) (ev_pos (by omega) (ev_pos (by omega) (ev_pos (by omega) (ev_pos (by omega) (ev_pos (by omega) (ev_pos (by omega) ?_))))))
    refine ev_bind hr1 (ev_bind hr2 (ev_pos (by omega) (ev_pos (by omega) ?_)))
    cases hb : r1.2.2 with
    | true => exact ev_pos rfl (ev_ret (by rw [Bool.true_and]))
    | false => exact ev_neg (by decide) (ev_ret (by rw [Bool.false_and]))
   refine ⟨_, step, ?_, ?_, ?_⟩
   ·cases e1 : Q.growQ n s.length (holdT t) (mayT s) d (k + 1) (wdOf ks) (sp.length + 1) with
    | none =>
     rw [Q.growQ_no hc e1]
     rw [e1] at hG1
     have hG1 : r1.2.2 = false := hG1
     show (r1.2.2 && r2.2.2) = false
     rw [hG1]
     rfl
    | some q =>
     obtain ⟨a, no⟩ := q
     rw [e1] at hG1
     obtain rfl : r1 = (sp ++ [⟨(k : Int), -1, -1⟩] ++ a, no, true) := hG1
     have hla : (sp ++ [(⟨(k : Int), -1, -1⟩ : Q.Sp)] ++ a).length = sp.length + 1 + a.length := by simp; omega
     dsimp only at hG2
     rw [hla] at hG2
     cases e2 : Q.growQ n s.length (holdT t) (mayT s) d (k + 1) (wdOf ks + 2 ^ k) (sp.length + 1 + a.length) with
     | none =>
      rw [Q.growQ_yes hc e1 e2]
      rw [e2] at hG2
      have hG2 : r2.2.2 = false := hG2
      show (true && r2.2.2) = false
      rw [hG2]
      rfl
     | some q2 =>
      obtain ⟨b, yes⟩ := q2
      rw [Q.growQ_both hc e1 e2]
      rw [e2] at hG2
      obtain rfl : r2 = (sp ++ [⟨(k : Int), -1, -1⟩] ++ a ++ b, yes, true) := hG2
      show (_, _, _) = _
      dsimp only
      rw [show sp ++ [(⟨(k : Int), -1, -1⟩ : Q.Sp)] ++ a ++ b = sp ++ (⟨(k : Int), -1, -1⟩ :: (a ++ b)) by simp, set_mid]
      rfl
   ·show sp.length ≤ (r2.1.set _ _).length
    rw [List.length_set]
    omega
   ·show (r2.1.set _ _).length + 1 ≤ _
    rw [List.length_set]
    omega
end
def grQ (n : Nat) (s : List Cl) (t : List Mk) : Nat → Nat → Nat → Nat → Option (List Q.Sp × Int) := Q.growQ n s.length (holdT t) (mayT s)
def findO : Option (List Q.Sp × Int) → Int × List Q.Sp × Bool
 | some (a, x) => (x, a, true)
 | none => (0, [], false)
noncomputable def findF (n : Int) (s : List Cl) (t : List Mk) : Int × List Q.Sp × Bool :=
 @ite _ (StoryP n s ∧ TermP n t) (Classical.propDecidable _) (findO (grQ n.toNat s t n.toNat 0 0 0)) (0, [], false)
end Go.Proofs.YtcaogllnbpmcgaaDoor.M
namespace Go.Proofs.YtcaogllnbpmcgaaDoor.Q
theorem vis_fuel {S : List Sp} {n : Nat} {cl : Nat → Nat → Int → Bool} : ∀ (f : Nat) (tgt : Int) (kn wd : Nat) (l : List Nat), visP S n cl f tgt kn wd = some l →
  ∀ g : Nat, (tgt < 0 → 1 ≤ g) → (0 ≤ tgt → tgt < S.length ∧ (S.length : Int) < g + tgt) → visP S n cl g tgt kn wd = some l := by
 intro f
 induction f with
 | zero => intro tgt kn wd l h; cases h
 | succ f ih =>
  intro tgt kn wd l h g h1 h2
  cases g with
  | zero =>
   by_cases h0 : tgt < 0
   ·have := h1 h0; omega
   ·have := h2 (by omega); omega
  | succ g =>
   by_cases h0 : tgt < 0
   ·rw [vis_neg h0] at h ⊢
    exact h
   ·obtain ⟨hn, hs, a, b, ha, hb, rfl⟩ := vis_some h0 h
    have h3 := h2 (by omega)
    have e1 := hs.1
    have e2 := hs.2
    unfold okN at e1 e2
    exact vis_node h0 hn hs (ih _ _ _ _ ha g (by omega) (by omega)) (ih _ _ _ _ hb g (by omega) (by omega))
theorem grow_small (n m : Nat) (hold : Nat → Bool) (may : Nat → Nat → Bool) : ∀ (d k wd L : Nat) (a : List Sp) (t : Int), growQ n m hold may d k wd L = some (a, t) →
  (-2 - (m : Int) ≤ t ∧ t ≤ (L : Int)) ∧ ∀ y ∈ a, -2 - (m : Int) ≤ y.f1 ∧ -2 - (m : Int) ≤ y.f2 := by
 have hcl : ∀ {k wd : Nat} {t : Int} (L : Nat), closeP n k wd m hold may = some t → -2 - (m : Int) ≤ t ∧ t ≤ (L : Int) := by
  intro k wd t L h
  unfold closeP at h
  by_cases hg : goalB n k wd hold = true
  ·rw [if_pos hg] at h
   cases h
   omega
  ·rw [if_neg hg] at h
   obtain ⟨j, _, h2, rfl, _⟩ := closeC_some n k wd may m 0 t h
   omega
 intro d
 induction d with
 | zero =>
  intro k wd L a t h
  cases hc : closeP n k wd m hold may with
  | some x =>
   rw [growQ_close hc] at h
   cases h
   exact ⟨hcl L hc, fun y hy => by cases hy⟩
  | none => rw [growQ_zero hc] at h; cases h
 | succ d ih =>
  intro k wd L a t h
  cases hc : closeP n k wd m hold may with
  | some x =>
   rw [growQ_close hc] at h
   cases h
   exact ⟨hcl L hc, fun y hy => by cases hy⟩
  | none =>
   cases e1 : growQ n m hold may d (k + 1) wd (L + 1) with
   | none => rw [growQ_no hc e1] at h; cases h
   | some x =>
    obtain ⟨a1, no⟩ := x
    cases e2 : growQ n m hold may d (k + 1) (wd + 2 ^ k) (L + 1 + a1.length) with
    | none => rw [growQ_yes hc e1 e2] at h; cases h
    | some y =>
     obtain ⟨b, yes⟩ := y
     rw [growQ_both hc e1 e2] at h
     obtain ⟨⟨p1, p2⟩, p3⟩ := ih _ _ _ _ _ e1
     obtain ⟨⟨q1, q2⟩, q3⟩ := ih _ _ _ _ _ e2
     cases h
     refine ⟨by omega, fun z hz => ?_⟩
     rcases List.mem_cons.1 hz with rfl | hz
     ·exact ⟨p1, q1⟩
     ·rcases List.mem_append.1 hz with hz | hz
      ·exact p3 z hz
      ·exact q3 z hz
end Go.Proofs.YtcaogllnbpmcgaaDoor.Q
namespace Go.Proofs.YtcaogllnbpmcgaaDoor.M
open Go Go.RowKit Go.Proofs.YtcaogllnbpmcgaaDoorW.PrintWords Go.Proofs.YtcaogllnbpmcgaaDoor.P
section
variable {n : Nat} {s : List Cl} {t : List Mk}
theorem grow_ok (hS : StoryP (n : Int) s) (hT : TermP (n : Int) t) {a : List Q.Sp} {x : Int} (h : grQ n s t n 0 0 0 = some (a, x)) : PrfOk (n : Int) s t x a := by
 have hn := hS.2.1
 unfold grQ at h
 have hlen := Q.grow_len _ _ _ _ _ _ _ _ _ _ h
 have hp : 2 ^ n ≤ 2 ^ 4 := Nat.pow_le_pow_right (by decide) (by omega)
 obtain ⟨v, o⟩ := Q.grow_vis (S := a) n 0 0 0 (n + 1) a x (by omega) (by decide) (by omega) h (by omega) (fun j _ => by rw [Nat.zero_add])
 have v : Q.visP a n (clQ n s t) (n + 1) x 0 0 = some (List.range' 0 a.length) := v
 have hx : x < 0 → a.length = 0 := fun h0 => by
  rw [Q.vis_neg h0] at v
  split at v
  ·have := congrArg List.length (Option.some.inj v)
   rw [List.length_range'] at this
   exact this.symm
  ·cases v
 have hok : Q.okN a x (-1) := by unfold Q.okN; omega
 refine ⟨hS, hT, by omega, fun h0 => ?_, ?_⟩
 ·rcases o with o | o
  ·have := hx o; omega
  ·exact o.1
 ·rw [Int.toNat_natCast, Q.okI_iff x hok]
  refine ⟨_, Q.vis_fuel _ _ _ _ _ v (a.length + 2) (by omega) (fun h0 => by omega), List.nodup_range', fun i hi => ?_⟩
  rw [List.mem_range'_1]
  omega
end
theorem findF_no {n : Int} {s : List Cl} {t : List Mk} (h : ¬ (StoryP n s ∧ TermP n t)) : findF n s t = (0, [], false) := by
 unfold findF
 rw [if_neg h]
theorem findF_yes {n : Nat} {s : List Cl} {t : List Mk} (hS : StoryP (n : Int) s) (hT : TermP (n : Int) t) : findF (n : Int) s t = findO (grQ n s t n 0 0 0) := by
 unfold findF
 rw [if_pos ⟨hS, hT⟩, Int.toNat_natCast]
theorem findF_64 (n : Int) (s : List Cl) (t : List Mk) : (-8 ≤ (findF n s t).1 ∧ (findF n s t).1 ≤ 0) ∧ (findF n s t).2.1.length ≤ 15 ∧ ∀ y ∈ (findF n s t).2.1, -8 ≤ y.f1 ∧ -8 ≤ y.f2 := by
 by_cases h : StoryP n s ∧ TermP n t
 ·obtain ⟨hS, hT⟩ := h
  have hn := hS.2.1
  have h6 := hS.2.2
  obtain ⟨m, rfl⟩ : ∃ m : Nat, n = (m : Int) := ⟨n.toNat, by omega⟩
  rw [findF_yes hS hT]
  cases hg : grQ m s t m 0 0 0 with
  | none => exact ⟨by show -8 ≤ (0 : Int) ∧ (0 : Int) ≤ 0; omega, Nat.zero_le _, fun y hy => by cases hy⟩
  | some q =>
   obtain ⟨a, x⟩ := q
   have hg' := hg
   unfold grQ at hg
   obtain ⟨⟨a1, a2⟩, a3⟩ := Q.grow_small _ _ _ _ _ _ _ _ _ _ hg
   have hl := (grow_ok hS hT hg').2.2.1
   exact ⟨⟨by show -8 ≤ x; omega, by show x ≤ 0; omega⟩, hl, fun y hy => by have := a3 y hy; omega⟩
 ·rw [findF_no h]
  exact ⟨by show -8 ≤ (0 : Int) ∧ (0 : Int) ≤ 0; omega, Nat.zero_le _, fun y hy => by cases hy⟩
theorem spec_findE (n : Int) (hnb : n ≤ 9223372036854775807) (s : List Cl) (h64 : S64 s) (t : List Mk) (ht : M64 t) (htl : t.length < 4611686018427387904) : Ev (fun k => spec_FindProof.f k n s t) (findF n s t) := by
 unfold spec_FindProof.f
 have stop : ¬ (StoryP n s ∧ TermP n t) → Ev (fun k => spec_FindProof.j0 k n s t true) (findF n s t) := fun h => by
  rw [findF_no h]
  exact Ev.step (fun k => by rw [spec_FindProof.j0]) (ev_pos rfl (ev_ret rfl))
 by_cases hS : StoryP n s
 case neg => exact ev_bind ((spec_storyOk n hnb s h64).ev (b := false) ⟨fun h => (by cases h), fun h => absurd h hS⟩) (ev_neg (by decide) (stop fun h => hS h.1))
 refine ev_bind ((spec_storyOk n hnb s h64).ev (b := true) ⟨fun _ => hS, fun _ => rfl⟩) (ev_pos rfl ?_)
 by_cases hT : TermP n t
 case neg => exact ev_bind ((spec_termOk n hnb t ht htl).ev (b := false) ⟨fun h => (by cases h), fun h => absurd h hT⟩) (stop fun h => hT h.2)
 refine ev_bind ((spec_termOk n hnb t ht htl).ev (b := true) ⟨fun _ => hT, fun _ => rfl⟩) ?_
 refine Ev.step (fun k => by rw [spec_FindProof.j0]) (ev_neg (by decide) ?_)
 have hn := hS.2.1
 obtain ⟨m, rfl⟩ : ∃ m : Nat, n = (m : Int) := ⟨n.toNat, by omega⟩
 refine ev_bind (spec_nothingE m (by omega)) ?_
 obtain ⟨r, hr, hG, _, _⟩ := spec_growE hS hT m 0 (List.replicate m (-1)) [] (by omega) (first_nothing m) (by have := Nat.pow_le_pow_right (n := 2) (by decide) (show m ≤ 4 by omega); show 0 + 2 ^ m ≤ 100; omega)
 rw [(nothing_of m (by omega)).2, List.length_nil] at hG
 refine ev_bind hr ?_
 rw [findF_yes hS hT]
 unfold grQ
 cases hq : Q.growQ m s.length (holdT t) (mayT s) m 0 0 0 with
 | none =>
  rw [hq] at hG
  have hG : r.2.2 = false := hG
  exact ev_neg (by rw [hG]; decide) (ev_ret rfl)
 | some q =>
  obtain ⟨a, x⟩ := q
  rw [hq] at hG
  obtain rfl : r = ([] ++ a, x, true) := hG
  exact ev_pos rfl (ev_ret rfl)
def SmallP (fi : Int) (S : List Q.Sp) : Prop := (-8 ≤ fi ∧ fi ≤ 16) ∧ S.length ≤ 16 ∧ ∀ y ∈ S, -8 ≤ y.f1 ∧ -8 ≤ y.f2
theorem SmallP.prf64 {fi : Int} {S : List Q.Sp} (h : SmallP fi S) (s : List Cl) (hs : s.length ≤ 100) : Prf64 s fi S := by
 refine ⟨by omega, by have := h.1; omega, fun i hi => ?_⟩
 have := h.2.2 _ (getD_mem S Q.zS i hi)
 omega
theorem SmallP.set {fi : Int} {S : List Q.Sp} (h : SmallP fi S) (i : Nat) (y : Q.Sp) (h1 : -8 ≤ y.f1) (h2 : -8 ≤ y.f2) : SmallP fi (S.set i y) := by
 refine ⟨h.1, by rw [List.length_set]; exact h.2.1, fun z hz => ?_⟩
 rcases List.mem_or_eq_of_mem_set hz with hz | rfl
 ·exact h.2.2 z hz
 ·exact ⟨h1, h2⟩
theorem proof_j0 (b : List Int) (hb : Bytes b) (d n : Int) (s : List Cl) (l : List Mk) (p : Nat) (hp : p ≤ 1000) (fi : Int) (S : List Q.Sp) (hS : SmallP fi S) (hl : S.length ≤ 15) (h0 : fi ≤ 0) :
  ∃ (fi' : Int) (S' : List Q.Sp) (q : Nat), Ev (fun k => spec_l20Proof.j0 k d n s l b (p : Int) fi S) (n, s, l, fi', S', (q : Int)) ∧ SmallP fi' S' ∧ q ≤ p + 4 := by
 have fin : ∀ (fi : Int) (S : List Q.Sp) (q : Int), Ev (fun k => spec_l20Proof.j1 k n s l b q fi S) (n, s, l, fi, S, q) := fun fi S q => Ev.step (fun k => by rw [spec_l20Proof.j1]) (ev_ret rfl)
 obtain ⟨o, p1, eo, hp1⟩ := oddE b hb p (by omega) d
 cases o with
 | false => exact ⟨fi, S, p1, Ev.step (fun k => by rw [spec_l20Proof.j0]) (ev_bind eo (ev_neg Bool.false_ne_true (fin _ _ _))), hS, by omega⟩
 | true =>
  obtain ⟨r, e, hr, _⟩ := pickE b hb p1 (by omega) 4
  by_cases r0 : r = 0
  ·obtain ⟨r2, e2, hr2, _⟩ := pickE b hb (p1 + 1) (by omega) 4
   have hr2 := hr2 (by decide)
   refine ⟨(r2 : Int) - 3, S, p1 + 2, ?_, ⟨by omega, hS.2⟩, by omega⟩
   refine Ev.step (fun k => by rw [spec_l20Proof.j0]) (ev_bind eo (ev_pos rfl (ev_bind e ?_)))
   dsimp only
   refine ev_pos (by omega) (ev_bind e2 ?_)
   dsimp only
   rw [w64 (by omega) (by omega)]
   exact fin _ _ _
  by_cases r1 : r = 1
  ·obtain ⟨r2, e2, hr2, _⟩ := pickE b hb (p1 + 1) (by omega) 4
   refine ⟨fi, S ++ [⟨(r2 : Int), -1, -2⟩], p1 + 2, ?_, ⟨hS.1, by simp; omega, fun y hy => ?_⟩, by omega⟩
   refine Ev.step (fun k => by rw [spec_l20Proof.j0]) (ev_bind eo (ev_pos rfl (ev_bind e ?_)))
   dsimp only
   exact ev_neg (by omega) (ev_pos (by omega) (ev_bind e2 (ev_pos (by omega) (fin _ _ _))))
   rcases List.mem_append.1 hy with hy | hy
   ·exact hS.2.2 y hy
   ·rw [List.mem_singleton.1 hy]
    exact ⟨by show (-8 : Int) ≤ -1; decide, by show (-8 : Int) ≤ -2; decide⟩
  by_cases r2 : r = 2
  ·by_cases hz : (S.length : Int) > 0
   ·obtain ⟨i, ei, hi, _⟩ := pickE b hb (p1 + 1) (by omega) (S.length : Int)
    have hi := hi (by omega)
    obtain ⟨w, ew, _⟩ := pickE b hb (p1 + 2) (by omega) 5
    have hm := hS.2.2 _ (getD_mem S Q.zS i (by omega))
    refine ⟨fi, S.set i ⟨(w : Int), (S.getD i Q.zS).f1, (S.getD i Q.zS).f2⟩, p1 + 3, ?_, hS.set i _ hm.1 hm.2, by omega⟩
    refine Ev.step (fun k => by rw [spec_l20Proof.j0]) (ev_bind eo (ev_pos rfl (ev_bind e ?_)))
    dsimp only
    refine ev_neg (by omega) (ev_neg (by omega) (ev_pos (by omega) (ev_pos hz (ev_bind ei (ev_bind ew (ev_pos (by dsimp only; omega) (ev_pos hi ?_)))))))
    dsimp only
    rw [rdS, Int.toNat_natCast]
    exact fin _ _ _
   ·refine ⟨fi, S, p1 + 1, ?_, hS, by omega⟩
    refine Ev.step (fun k => by rw [spec_l20Proof.j0]) (ev_bind eo (ev_pos rfl (ev_bind e ?_)))
    dsimp only
    exact ev_neg (by omega) (ev_neg (by omega) (ev_pos (by omega) (ev_neg hz (fin _ _ _))))
  ·by_cases hz : (S.length : Int) > 0
   ·obtain ⟨w, ew, hw, _⟩ := pickE b hb (p1 + 1) (by omega) 5
    have hm := hS.2.2 _ (getD_mem S Q.zS 0 (by omega))
    refine ⟨fi, S.set 0 ⟨(S.getD 0 Q.zS).f0, (w : Int) - 3, (S.getD 0 Q.zS).f2⟩, p1 + 2, ?_, hS.set 0 _ (by show -8 ≤ (w : Int) - 3; omega) hm.2, by omega⟩
    refine Ev.step (fun k => by rw [spec_l20Proof.j0]) (ev_bind eo (ev_pos rfl (ev_bind e ?_)))
    dsimp only
    refine ev_neg (by omega) (ev_neg (by omega) (ev_neg (by omega) (ev_pos hz (ev_bind ew (ev_pos (by omega) ?_)))))
    have e0 : rd_T68 S 0 = S.getD 0 Q.zS := rdS S 0
    dsimp only
    rw [e0, w64 (x := (w : Int) - 3) (by have := hw (by decide); omega) (by have := hw (by decide); omega)]
    exact fin _ _ _
   ·refine ⟨fi, S, p1 + 1, ?_, hS, by omega⟩
    refine Ev.step (fun k => by rw [spec_l20Proof.j0]) (ev_bind eo (ev_pos rfl (ev_bind e ?_)))
    dsimp only
    exact ev_neg (by omega) (ev_neg (by omega) (ev_neg (by omega) (ev_neg hz (fin _ _ _))))
theorem l20ProofE (b : List Int) (hb : Bytes b) (d : Int) : ∃ (n : Int) (s : List Cl) (l : List Mk) (fi : Int) (S : List Q.Sp) (q : Nat), Ev (fun k => spec_l20Proof.f k b ((0 : Nat) : Int) d) (n, s, l, fi, S, (q : Int)) ∧
  s.length ≤ 20 ∧ SmallS s ∧ l.length ≤ 4097 ∧ SmallL l ∧ n ≤ 4 ∧ SmallP fi S ∧ q ≤ 500 := by
 obtain ⟨n, s, l, p, ep, hsl, hss, hll, hls, hn4, hp⟩ := l20ProvedE b hb
 have h64 := hss.S64 (by omega)
 have small : ∀ l : List Mk, SmallP (findF n s l).1 (findF n s l).2.1 ∧ (findF n s l).2.1.length ≤ 15 ∧ (findF n s l).1 ≤ 0 := fun l => by
  obtain ⟨h1, h2, h3⟩ := findF_64 n s l
  exact ⟨⟨by omega, by omega, h3⟩, h2, h1.2⟩
 cases hok : (findF n s l).2.2 with
 | true =>
  obtain ⟨h1, h2, h3⟩ := small l
  obtain ⟨fi', S', q, ej, hS', hq⟩ := proof_j0 b hb d n s l p (by omega) _ _ h1 h2 h3
  refine ⟨n, s, l, fi', S', q, ?_, hsl, hss, hll, hls, hn4, hS', by omega⟩
  unfold spec_l20Proof.f
  exact ev_bind ep (ev_bind (spec_findE n (by omega) s h64 l hls.M64 (by omega)) (ev_pos hok ej))
 | false =>
  obtain ⟨h1, h2, h3⟩ := small [⟨1, 0⟩]
  obtain ⟨fi', S', q, ej, hS', hq⟩ := proof_j0 b hb d n s [⟨1, 0⟩] p (by omega) _ _ h1 h2 h3
  refine ⟨n, s, [⟨1, 0⟩], fi', S', q, ?_, hsl, hss, by simp, SmallL.one (by decide), hn4, hS', by omega⟩
  unfold spec_l20Proof.f
  refine ev_bind ep (ev_bind (spec_findE n (by omega) s h64 l hls.M64 (by omega)) (ev_neg (by rw [hok]; decide) (ev_bindc rfl ?_)))
  exact ev_bind (spec_findE n (by omega) s h64 [⟨1, 0⟩] (SmallL.one (by decide)).M64 (by decide)) ej
theorem set_at (sp a : List Q.Sp) (x y : Q.Sp) : (sp ++ x :: a).set sp.length y = sp ++ y :: a := by
 rw [List.set_append_right _ _ (Nat.le_refl _), Nat.sub_self]
 rfl
section
variable {s : ByteArray} (hs : s.size ≤ 200)
theorem j1_bad (sp : List Q.Sp) (a b c d : Int) : Ev (fun k => spec_l11Read.j1 k s sp a b c d true) (sp, -1, -1) :=
 Ev.step (fun k => by rw [spec_l11Read.j1]) (ev_pos rfl (ev_ret rfl))
def midK (s : ByteArray) (L : Nat) (c : Int) (b : List Q.Sp × Int × Int) (k : Nat) : Option (List Q.Sp × Int × Int) :=
 if b.2.2 < 0 then (spec_l11Read.j1 k s b.1 (L : Int) c b.2.1 b.2.2 true) else (if b.2.2 ≥ (s.size : Int) then (spec_l11Read.j1 k s b.1 (L : Int) c b.2.1 b.2.2 true) else (if 0 ≤ b.2.2 then (if b.2.2 < (s.size : Int) then (spec_l11Read.j1 k s b.1 (L : Int) c b.2.1 b.2.2 ((bt s b.2.2) != 44)) else (none)) else (none)))
def endK (s : ByteArray) (x9 x10 x11 : Int) (b : List Q.Sp × Int × Int) : Option (List Q.Sp × Int × Int) :=
 if b.2.2 < 0 then (some (b.1, (-1), (-1))) else (if b.2.2 ≥ (s.size : Int) then (some (b.1, (-1), (-1))) else (if 0 ≤ b.2.2 then (if b.2.2 < (s.size : Int) then (if (bt s b.2.2) = 41 then (if 0 ≤ x9 then (if x9 < (b.1.length : Int) then (some ((b.1.set (x9 : Int).toNat (⟨x10, x11, b.2.1⟩ : Q.Sp)), x9, wrap64 (b.2.2 + 1))) else (none)) else (none)) else (some (b.1, (-1), (-1)))) else (none)) else (none)))
include hs
theorem w_ (j d : Nat) (hj : j ≤ s.size) (hd : d ≤ 10) : wrap64 ((j : Int) + (d : Int)) = ((j + d : Nat) : Int) := by rw [Go.Proofs.YtcaogllnbpmcgaaDoor.M.w64 (by omega) (by omega)]; omega
omit hs in
theorem rf_end (i : Nat) (sp : List Q.Sp) (h : s.size ≤ i) : Ev (fun k => spec_l11Read.f k s (i : Int) sp) (sp, -1, -1) :=
 Ev.step (fun k => by rw [spec_l11Read.f]) (ev_pos (by omega) (ev_ret rfl))
theorem rf_star (i : Nat) (sp : List Q.Sp) (h : i < s.size) (hc : bt s (i : Int) = 42) : Ev (fun k => spec_l11Read.f k s (i : Int) sp) (sp, -1, ((i + 1 : Nat) : Int)) := by
 refine Ev.step (fun k => by rw [spec_l11Read.f]) (ev_neg (by omega) (ev_pos (by omega) (ev_pos (by omega) (ev_pos hc (ev_ret ?_)))))
 rw [show (i : Int) + 1 = (i : Int) + ((1 : Nat) : Int) from rfl, w_ hs i 1 (by omega) (by decide)]
omit hs in
theorem rf_j0 (i : Nat) (sp : List Q.Sp) (h : i < s.size) (hc : ¬ bt s (i : Int) = 42) (hd : ¬ (48 ≤ bt s (i : Int) ∧ bt s (i : Int) ≤ 53)) {r : List Q.Sp × Int × Int} (hr : Ev (fun k => spec_l11Read.j0 k s (i : Int) sp false) r) : Ev (fun k => spec_l11Read.f k s (i : Int) sp) r := by
 refine Ev.step (fun k => by rw [spec_l11Read.f]) (ev_neg (by omega) (ev_pos (by omega) (ev_pos (by omega) (ev_neg hc ?_))))
 by_cases h48 : bt s (i : Int) ≥ 48
 ·refine ev_pos h48 ?_
  rw [show decide (bt s (i : Int) ≤ 53) = false from decide_eq_false fun h => hd ⟨h48, h⟩]
  exact hr
 ·exact ev_neg h48 hr
theorem rf_dig (i : Nat) (sp : List Q.Sp) (h : i < s.size) (hd : 48 ≤ bt s (i : Int) ∧ bt s (i : Int) ≤ 53) : Ev (fun k => spec_l11Read.f k s (i : Int) sp) (sp, -2 - (bt s (i : Int) - 48), ((i + 1 : Nat) : Int)) := by
 refine Ev.step (fun k => by rw [spec_l11Read.f]) (ev_neg (by omega) (ev_pos (by omega) (ev_pos (by omega) (ev_neg (by omega) (ev_pos hd.1 ?_)))))
 rw [show decide (bt s (i : Int) ≤ 53) = true from decide_eq_true hd.2]
 refine Ev.step (fun k => by rw [spec_l11Read.j0]) (ev_pos rfl (ev_pos (by omega) (ev_pos (by omega) (ev_ret ?_))))
 rw [show (i : Int) + 1 = (i : Int) + ((1 : Nat) : Int) from rfl, w_ hs i 1 (by omega) (by decide), show (bt s (i : Int) - 48) % 256 = bt s (i : Int) - 48 by omega]
omit hs in
theorem rj_let (i : Nat) (sp : List Q.Sp) (h : i < s.size) (hl : ¬ (97 ≤ bt s (i : Int) ∧ bt s (i : Int) ≤ 100)) : Ev (fun k => spec_l11Read.j0 k s (i : Int) sp false) (sp, -1, -1) := by
 refine Ev.step (fun k => by rw [spec_l11Read.j0]) (ev_neg (by decide) (ev_pos (by omega) (ev_pos (by omega) ?_)))
 by_cases h1 : bt s (i : Int) < 97
 ·exact ev_pos h1 (ev_ret rfl)
 ·exact ev_neg h1 (ev_pos (by omega) (ev_ret rfl))
theorem rj_open (i : Nat) (sp : List Q.Sp) (h : i < s.size) (hl : 97 ≤ bt s (i : Int) ∧ bt s (i : Int) ≤ 100) (hn : i + 1 < s.size → ¬ bt s ((i + 1 : Nat) : Int) = 40) : Ev (fun k => spec_l11Read.j0 k s (i : Int) sp false) (sp, -1, -1) := by
 have w1 : wrap64 ((i : Int) + 1) = ((i + 1 : Nat) : Int) := w_ hs i 1 (by omega) (by decide)
 refine Ev.step (fun k => by rw [spec_l11Read.j0]) (ev_neg (by decide) (ev_pos (by omega) (ev_pos (by omega) (ev_neg (by omega) (ev_neg (by omega) ?_)))))
 rw [w1]
 by_cases h1 : i + 1 < s.size
 ·exact ev_neg (by omega) (ev_pos (by omega) (ev_pos (by omega) (ev_neg (hn h1) (ev_ret rfl))))
 ·exact ev_pos (by omega) (ev_ret rfl)
theorem rj_full (i : Nat) (sp : List Q.Sp) (h : i + 1 < s.size) (hl : 97 ≤ bt s (i : Int) ∧ bt s (i : Int) ≤ 100) (h40 : bt s ((i + 1 : Nat) : Int) = 40) (h15 : 15 ≤ sp.length) : Ev (fun k => spec_l11Read.j0 k s (i : Int) sp false) (sp, -1, -1) := by
 have w1 : wrap64 ((i : Int) + 1) = ((i + 1 : Nat) : Int) := w_ hs i 1 (by omega) (by decide)
 refine Ev.step (fun k => by rw [spec_l11Read.j0]) (ev_neg (by decide) (ev_pos (by omega) (ev_pos (by omega) (ev_neg (by omega) (ev_neg (by omega) ?_)))))
 rw [w1]
 exact ev_neg (by omega) (ev_pos (by omega) (ev_pos (by omega) (ev_pos h40 (ev_pos (by omega) (ev_ret rfl)))))
theorem rj_go (i : Nat) (sp sp1 : List Q.Sp) (c : Int) (h : i + 1 < s.size) (hc : bt s (i : Int) = c) (hl : 97 ≤ c ∧ c ≤ 100) (h40 : bt s ((i + 1 : Nat) : Int) = 40) (h15 : sp.length < 15) (hsp1 : sp ++ [(⟨c - 97, -1, -1⟩ : Q.Sp)] = sp1) {r1 r : List Q.Sp × Int × Int}
  (h1 : Ev (fun k => spec_l11Read.f k s ((i + 2 : Nat) : Int) sp1) r1) (h2 : Ev (fun k => midK s sp.length (c - 97) r1 k) r) : Ev (fun k => spec_l11Read.j0 k s (i : Int) sp false) r := by
 have w1 : wrap64 ((i : Int) + 1) = ((i + 1 : Nat) : Int) := w_ hs i 1 (by omega) (by decide)
 have w2 : wrap64 ((i : Int) + 2) = ((i + 2 : Nat) : Int) := w_ hs i 2 (by omega) (by decide)
 subst hc
 have hm : (bt s (i : Int) - 97) % 256 = bt s (i : Int) - 97 := by omega
 refine Ev.step (fun k => by rw [spec_l11Read.j0]) (ev_neg (by decide) (ev_pos (by omega) (ev_pos (by omega) (ev_neg (by omega) (ev_neg (by omega) ?_)))))
 rw [w1, w2, hm]
 refine ev_neg (by omega) (ev_pos (by omega) (ev_pos (by omega) (ev_pos h40 (ev_neg (by omega) (ev_bindc rfl ?_)))))
 refine ev_pos (by simp only [List.length_nil]; omega) (ev_bindc rfl (ev_pos (by simp only [List.nil_append]; omega) ?_))
 rw [List.nil_append, hsp1]
 exact ev_bind h1 h2
omit hs in
theorem mid_bad {L : Nat} {c : Int} (b : List Q.Sp × Int × Int) (h : b.2.2 = -1) : Ev (fun k => midK s L c b k) (b.1, -1, -1) := by
 unfold midK
 exact ev_pos (by omega) (j1_bad ..)
omit hs in
theorem mid_no {L : Nat} {c x : Int} (l : List Q.Sp) (j : Nat) (hj : j ≤ s.size) (hn : j < s.size → ¬ bt s (j : Int) = 44) : Ev (fun k => midK s L c (l, x, (j : Int)) k) (l, -1, -1) := by
 unfold midK
 dsimp only
 by_cases h : j < s.size
 ·refine ev_neg (by omega) (ev_neg (by omega) (ev_pos (by omega) (ev_pos (by omega) ?_)))
  rw [show (bt s (j : Int) != 44) = true from bne_iff_ne.mpr (hn h)]
  exact j1_bad ..
 ·exact ev_neg (by omega) (ev_pos (by omega) (j1_bad ..))
theorem mid_go {L : Nat} {c x : Int} (l : List Q.Sp) (j : Nat) (hj : j < s.size) (h44 : bt s (j : Int) = 44) {r2 r : List Q.Sp × Int × Int} (h1 : Ev (fun k => spec_l11Read.f k s ((j + 1 : Nat) : Int) l) r2) (h2 : endK s (L : Int) c x r2 = some r) : Ev (fun k => midK s L c (l, x, (j : Int)) k) r := by
 have w1 : wrap64 ((j : Int) + 1) = ((j + 1 : Nat) : Int) := w_ hs j 1 (by omega) (by decide)
 unfold midK
 dsimp only
 refine ev_neg (by omega) (ev_neg (by omega) (ev_pos (by omega) (ev_pos (by omega) ?_)))
 rw [show (bt s (j : Int) != 44) = false from bne_eq_false_iff_eq.mpr h44]
 refine Ev.step (fun k => by rw [spec_l11Read.j1]) (ev_neg (by decide) ?_)
 rw [w1]
 exact ev_bind h1 (show Ev (fun _ => endK s (L : Int) c x r2) r by rw [h2]; exact ev_ret rfl)
omit hs in
theorem end_bad {x9 x10 x11 : Int} (b : List Q.Sp × Int × Int) (h : b.2.2 = -1) : endK s x9 x10 x11 b = some (b.1, -1, -1) := by
 unfold endK
 rw [if_pos (by omega)]
omit hs in
theorem end_no {x9 x10 x11 y : Int} (l : List Q.Sp) (j : Nat) (hj : j ≤ s.size) (hn : j < s.size → ¬ bt s (j : Int) = 41) : endK s x9 x10 x11 (l, y, (j : Int)) = some (l, -1, -1) := by
 unfold endK
 dsimp only
 by_cases h : j < s.size
 ·rw [if_neg (by omega), if_neg (by omega), if_pos (by omega), if_pos (by omega), if_neg (hn h)]
 ·rw [if_neg (by omega), if_pos (by omega)]
theorem end_yes {L : Nat} {x10 x11 y : Int} (l : List Q.Sp) (j : Nat) (hj : j < s.size) (h41 : bt s (j : Int) = 41) (hL : L < l.length) : endK s (L : Int) x10 x11 (l, y, (j : Int)) = some (l.set L ⟨x10, x11, y⟩, (L : Int), ((j + 1 : Nat) : Int)) := by
 have w1 : wrap64 ((j : Int) + 1) = ((j + 1 : Nat) : Int) := w_ hs j 1 (by omega) (by decide)
 unfold endK
 dsimp only
 rw [if_neg (by omega), if_neg (by omega), if_pos (by omega), if_pos (by omega), if_pos h41, if_pos (by omega), if_pos (by omega), w1, Int.toNat_natCast]
end
def ReadR (s : ByteArray) (i : Nat) (sp : List Q.Sp) (o : Option (List Q.Sp × Int × List Int)) (r : List Q.Sp × Int × Int) : Prop :=
 (o = none ∧ r.2.2 = -1) ∨ ∃ a x, ∃ j : Nat, i < j ∧ j ≤ s.size ∧ o = some (a, x, (bl s).drop j) ∧ r = (sp ++ a, x, (j : Int))
theorem drop_ne {s : ByteArray} {j : Nat} {c : Int} (h : j < s.size → ¬ bt s (j : Int) = c) : ∀ q, (bl s).drop j ≠ c :: q := by
 intro q e
 by_cases hj : j < s.size
 ·rw [bl_drop s j hj] at e
  exact h hj (List.cons.inj e).1
 ·rw [bl_end s j (by omega)] at e
  cases e
theorem spec_readE {s : ByteArray} (hs : s.size ≤ 200) : ∀ (f i : Nat) (sp : List Q.Sp), i ≤ s.size → s.size < f + i → sp.length ≤ 16 →
  ∃ r, Ev (fun k => spec_l11Read.f k s (i : Int) sp) r ∧ ReadR s i sp (Q.readG 4 6 15 f sp.length ((bl s).drop i)) r := by
 intro f
 induction f with
 | zero => intro i sp h1 h2; omega
 | succ f ih =>
  intro i sp hi hf hsp
  by_cases he : s.size ≤ i
  ·exact ⟨_, rf_end i sp he, .inl ⟨by rw [bl_end s i he]; rfl, rfl⟩⟩
  have hlt : i < s.size := by omega
  obtain ⟨c, hc⟩ : ∃ c, bt s (i : Int) = c := ⟨_, rfl⟩
  have hd1 := bl_drop s i hlt
  rw [hc] at hd1
  rw [hd1]
  by_cases h42 : c = 42
  ·exact ⟨_, rf_star hs i sp hlt (hc.trans h42), .inr ⟨[], -1, i + 1, by omega, by omega, by rw [h42]; rfl, by rw [List.append_nil]⟩⟩
  by_cases hd : 48 ≤ c ∧ c ≤ 53
  ·refine ⟨_, rf_dig hs i sp hlt (by rw [hc]; exact hd), .inr ⟨[], -2 - (c - 48), i + 1, by omega, by omega, ?_, by rw [List.append_nil, hc]⟩⟩
   unfold Q.readG
   rw [if_neg h42, if_pos (by omega)]
  have start : ∀ {r : List Q.Sp × Int × Int}, Ev (fun k => spec_l11Read.j0 k s (i : Int) sp false) r → Ev (fun k => spec_l11Read.f k s (i : Int) sp) r := rf_j0 i sp hlt (by rw [hc]; exact h42) (by rw [hc]; exact hd)
  have hd' : ¬ (48 ≤ c ∧ c < 48 + ((6 : Nat) : Int)) := by omega
  by_cases hl : 97 ≤ c ∧ c ≤ 100
  case neg =>
   refine ⟨_, start (rj_let i sp hlt (by rw [hc]; exact hl)), .inl ⟨?_, rfl⟩⟩
   unfold Q.readG
   rw [if_neg h42, if_neg hd', if_pos (.inl (by omega))]
  have hl' : 97 ≤ c ∧ c < 97 + ((4 : Nat) : Int) := by omega
  by_cases h40 : i + 1 < s.size ∧ bt s ((i + 1 : Nat) : Int) = 40
  case neg =>
   refine ⟨_, start (rj_open hs i sp hlt (by rw [hc]; exact hl) fun h1 h2 => h40 ⟨h1, h2⟩), .inl ⟨?_, rfl⟩⟩
   have hne := drop_ne (s := s) (j := i + 1) (c := 40) fun h1 h2 => h40 ⟨h1, h2⟩
   by_cases h15 : 15 ≤ sp.length
   ·unfold Q.readG
    rw [if_neg h42, if_neg hd', if_pos (.inr h15)]
   ·rw [Q.readG_let h42 hd' hl' h15]
    split
    ·rename_i e
     exact absurd e (hne _)
    ·rfl
  by_cases h15 : 15 ≤ sp.length
  ·refine ⟨_, start (rj_full hs i sp h40.1 (by rw [hc]; exact hl) h40.2 h15), .inl ⟨?_, rfl⟩⟩
   unfold Q.readG
   rw [if_neg h42, if_neg hd', if_pos (.inr h15)]
  have hd2 := bl_drop s (i + 1) h40.1
  rw [h40.2] at hd2
  rw [hd2]
  obtain ⟨sp1, hsp1⟩ : ∃ x, sp ++ [(⟨c - 97, -1, -1⟩ : Q.Sp)] = x := ⟨_, rfl⟩
  have hl1 : sp1.length = sp.length + 1 := by rw [← hsp1]; simp
  obtain ⟨r1, er1, hR1⟩ := ih (i + 2) sp1 (by omega) (by omega) (by omega)
  rw [hl1] at hR1
  have go : ∀ {r}, Ev (fun k => midK s sp.length (c - 97) r1 k) r → Ev (fun k => spec_l11Read.f k s (i : Int) sp) r := fun h => start (rj_go hs i sp sp1 c h40.1 hc hl h40.2 (by omega) hsp1 er1 h)
  have N1 := Q.readG_n2 (f := f) (r1 := (bl s).drop (i + 1 + 1)) h42 hd' hl' h15
  rcases hR1 with ⟨e1, h1⟩ | ⟨a, no, j, hj1, hj2, e1, rfl⟩
  ·exact ⟨_, go (mid_bad r1 h1), .inl ⟨N1 e1, rfl⟩⟩
  obtain ⟨A, _, _, lA, mA⟩ := Q.readG_sound (by decide) _ _ _ _ _ _ e1
  have hla : a.length = A.nodes := by
   have := congrArg (fun p => p.1.length) lA
   rw [Q.Tr.lay_len] at this
   exact this
  have hlen : (sp1 ++ a).length ≤ 16 := by
   rw [List.length_append, hl1, hla]
   by_cases h0 : 0 < A.nodes
   ·have := mA h0; omega
   ·omega
  by_cases h44 : j < s.size ∧ bt s (j : Int) = 44
  case neg =>
   have hne : j < s.size → ¬ bt s (j : Int) = 44 := fun h1 h2 => h44 ⟨h1, h2⟩
   exact ⟨_, go (mid_no _ j hj2 hne), .inl ⟨Q.readG_n3 h42 hd' hl' h15 e1 (drop_ne hne), rfl⟩⟩
  have hd3 := bl_drop s j h44.1
  rw [h44.2] at hd3
  rw [hd3] at e1
  obtain ⟨r2, er2, hR2⟩ := ih (j + 1) (sp1 ++ a) (by omega) (by omega) hlen
  rw [List.length_append, hl1] at hR2
  have go2 : ∀ {r}, endK s (sp.length : Int) (c - 97) no r2 = some r → Ev (fun k => spec_l11Read.f k s (i : Int) sp) r := fun h => go (mid_go hs _ j h44.1 h44.2 er2 h)
  rcases hR2 with ⟨e2, h2⟩ | ⟨b, yes, j2, hk1, hk2, e2, rfl⟩
  ·exact ⟨_, go2 (end_bad r2 h2), .inl ⟨Q.readG_n4 h42 hd' hl' h15 e1 e2, rfl⟩⟩
  by_cases h41 : j2 < s.size ∧ bt s (j2 : Int) = 41
  case neg =>
   have hne : j2 < s.size → ¬ bt s (j2 : Int) = 41 := fun h1 h2 => h41 ⟨h1, h2⟩
   exact ⟨_, go2 (end_no _ j2 hk2 hne), .inl ⟨Q.readG_n5 h42 hd' hl' h15 e1 e2 (drop_ne hne), rfl⟩⟩
  have hd4 := bl_drop s j2 h41.1
  rw [h41.2] at hd4
  rw [hd4] at e2
  refine ⟨_, go2 (end_yes hs _ j2 h41.1 h41.2 (by simp only [List.length_append, hl1]; omega)), .inr ⟨⟨c - 97, no, yes⟩ :: (a ++ b), (sp.length : Int), j2 + 1, by omega, by omega, Q.readG_y h42 hd' hl' h15 e1 e2, ?_⟩⟩
  rw [← hsp1, show sp ++ [(⟨c - 97, -1, -1⟩ : Q.Sp)] ++ a ++ b = sp ++ (⟨c - 97, -1, -1⟩ :: (a ++ b)) by simp, set_at]
theorem toList_iff (s t : ByteArray) : s.toList = t.toList ↔ s = t := by
 rw [Go.ByteArray.toList_eq, Go.ByteArray.toList_eq]
 constructor
 ·intro h
  cases s
  cases t
  congr 1
  exact Array.toList_inj.1 h
 ·intro h
  rw [h]
theorem spec_readProofE (n : Int) (hnb : n ≤ 9223372036854775807) (s : List Cl) (h64 : S64 s) (t : List Mk) (ht : M64 t) (htl : t.length < 4611686018427387904) (x : ByteArray) : Ev (fun k => spec_ReadProof.f k n s t x) (readF n s t x) := by
 unfold spec_ReadProof.f
 by_cases h2 : 200 < x.size
 ·refine ev_pos (by omega) (ev_ret ?_)
  unfold readF
  rw [if_pos h2]
 refine ev_neg (by omega) ?_
 obtain ⟨r, er, hR⟩ := spec_readE (s := x) (by omega) (x.size + 1) 0 [] (Nat.zero_le _) (by omega) (by decide)
 refine ev_bind er ?_
 rw [List.drop_zero] at hR
 have hR : ReadR x 0 [] (Q.readG 4 6 15 (x.size + 1) 0 (bl x)) r := hR
 rcases hR with ⟨h1, h3⟩ | ⟨a, y, j, hj1, hj2, ho, rfl⟩
 ·refine ev_neg (by omega) (ev_ret ?_)
  rw [readF_no x fun a y _ h => by rw [h1] at h; cases h]
 rw [List.nil_append]
 dsimp only
 by_cases hj : j = x.size
 case neg =>
  refine ev_neg (by omega) (ev_ret ?_)
  rw [readF_no x fun a' y' _ h => by
   rw [ho, bl_drop x j (by omega)] at h
   injection h with h
   injection h with _ h
   injection h with _ h
   cases h]
 rw [hj, bl_end x x.size (Nat.le_refl _)] at ho
 refine ev_pos (by omega) ?_
 have hp : Prf64 s y a := by
  obtain ⟨T, hT, _, hl, _⟩ := Q.readG_sound (by decide) _ _ _ _ _ _ ho
  obtain ⟨h1, h3⟩ := Q.lay_64 (by decide) T 0 hT
  rw [← hl] at h1 h3
  dsimp only at h1 h3
  refine ⟨h64.1, by omega, fun i hi => ?_⟩
  have := h3 _ (getD_mem a Q.zS i hi)
  omega
 refine ev_bind (spec_textE n hnb s h64 t ht htl y a hp) ?_
 have hi := text_iff (n := n) (s := s) (t := t) (by decide) ho
 by_cases hk : PrfOk n s t y a
 ·refine ev_pos ((toList_iff _ _).2 (hi.2 hk)) (ev_ret ?_)
  rw [readF_yes x (by omega) ho hk]
 ·refine ev_neg (fun h => hk (hi.1 ((toList_iff _ _).1 h))) (ev_ret ?_)
  rw [readF_no x fun a' y' _ h => by
   rw [ho] at h
   injection h with h
   injection h with h1 h
   injection h with h3 _
   rw [← h1, ← h3]
   exact hk]
end Go.Proofs.YtcaogllnbpmcgaaDoor.M

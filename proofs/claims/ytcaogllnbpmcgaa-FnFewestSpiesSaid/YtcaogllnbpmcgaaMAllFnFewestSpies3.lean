/- What the proof of this law needs besides: texts of ours, one behind the other. -/
import Derived.Test.YtcaogllnbpmcgaaMBase
import Derived.Test.YtcaogllnbpmcgaaPx12
import Derived.Test.YtcaogllnbpmcgaaPx14
import Derived.Test.YtcaogllnbpmcgaaMAllFnFewestSpies2
import Derived.Test.YtcaogllnbpmcgaaPx13
import Derived.Test.YtcaogllnbpmcgaaWMore
import Derived.Test.YtcaogllnbpmcgaaPx3
import Derived.Test.YtcaogllnbpmcgaaPx5
import Derived.Test.YtcaogllnbpmcgaaPx11
import Derived.Test.YtcaogllnbpmcgaaMAllFnFewestSpies1
import Derived.Test.YtcaogllnbpmcgaaPx16
import Derived.Test.YtcaogllnbpmcgaaPx15
/- The reader of draws: each pick tells a number in its bounds and goes one step on. -/
set_option linter.unusedVariables false
set_option linter.unusedSimpArgs false
namespace Go.Proofs.Ytcaogllnbpmcgaa.M
open Go Go.RowKit Go.Proofs.YtcaogllnbpmcgaaW.PrintWords Go.Proofs.Ytcaogllnbpmcgaa.P

theorem bits_xor_i64 (a b : Nat) (ha : a < 2 ^ 62) (hb : b < 2 ^ 62) : Go.bits .xor .i64 (a : Int) (b : Int) = ((a ^^^ b : Nat) : Int) := by
  have hx : a ^^^ b < 2 ^ 62 := Nat.xor_lt_two_pow ha hb
  have ea : a % 2 ^ IntKind.i64.bits = a := Nat.mod_eq_of_lt (Nat.lt_of_lt_of_le ha (by decide))
  have eb : b % 2 ^ IntKind.i64.bits = b := Nat.mod_eq_of_lt (Nat.lt_of_lt_of_le hb (by decide))
  simp only [Go.bits, BitVec.ofInt_natCast, BitVec.toNat_xor, BitVec.toNat_ofNat, ea, eb]
  generalize a ^^^ b = q at hx ⊢
  exact wraps_i64 (q : Int) (by omega) (by omega)
/-- The bytes of a code. -/
def Bytes (b : List Int) : Prop := b.length ≤ 2000 ∧ ∀ x ∈ b, 0 ≤ x ∧ x ≤ 255
theorem Bytes.rd {b : List Int} (h : Bytes b) (i : Int) : 0 ≤ rd b i ∧ rd b i ≤ 255 := by
  unfold Go.Proofs.YtcaogllnbpmcgaaW.PrintWords.rd
  by_cases hi : i.toNat < b.length
  · rw [List.getD_eq_getElem?_getD, List.getElem?_eq_getElem hi]
    exact h.2 _ (List.getElem_mem hi)
  · rw [List.getD_eq_getElem?_getD, List.getElem?_eq_none (by omega)]
    exact ⟨by decide, by decide⟩
theorem tmod_bd (x n : Int) (hx : 0 ≤ x) (hn : 0 < n) : 0 ≤ Int.tmod x n ∧ Int.tmod x n < n := by
  rw [Int.tmod_eq_emod_of_nonneg hx]
  exact ⟨Int.emod_nonneg _ (by omega), Int.emod_lt_of_pos _ hn⟩
theorem tdiv_bd (x n : Int) (hx : 0 ≤ x) (hn : 0 < n) : 0 ≤ Int.tdiv x n ∧ Int.tdiv x n ≤ x := by
  rw [Int.tdiv_eq_ediv_of_nonneg hx]
  exact ⟨Int.ediv_nonneg hx (by omega), Int.ediv_le_self _ hx⟩
/-- What a pick tells, and where it leaves the reader. -/
theorem pickE (b : List Int) (hb : Bytes b) (p : Nat) (hp : p ≤ 1000000) (n : Int) :
    ∃ r : Nat, Ev (fun k => spec_l20Rd_pick.f k b (p : Int) n) ((r : Int), ((p + 1 : Nat) : Int)) ∧ (1 ≤ n → (r : Int) < n) ∧ (n < 1 → r = 0) := by
  have hl := hb.1
  unfold spec_l20Rd_pick.f
  rw [w64s (by omega)]
  by_cases h : n < 1
  · refine ⟨0, ev_pos h ?_, fun h' => by omega, fun _ => rfl⟩
    refine Ev.step (fun k => by rw [spec_l20Rd_pick.j0]) ?_
    exact ev_pos rfl (ev_ret rfl)
  by_cases h0 : b.length = 0
  · refine ⟨0, ev_neg h ?_, fun h' => by omega, fun _ => rfl⟩
    rw [show ((b.length : Int) == 0) = true by simp [h0]]
    refine Ev.step (fun k => by rw [spec_l20Rd_pick.j0]) ?_
    exact ev_pos rfl (ev_ret rfl)
  have ep : wrap64 (((p + 1 : Nat) : Int) - 1) = (p : Int) := by
    rw [w64 (by omega) (by omega)]
    omega
  have eb : ((b.length : Int) == 0) = false := by
    rw [beq_eq_false_iff_ne]
    omega
  have out : ∀ x : Int, 0 ≤ x → Ev (fun k => spec_l20Rd_pick.j0 k n false b ((p + 1 : Nat) : Int)) (Int.tmod x n, ((p + 1 : Nat) : Int)) →
      ∃ r : Nat, Ev (fun k => if n < 1 then spec_l20Rd_pick.j0 k n true b ((p + 1 : Nat) : Int) else spec_l20Rd_pick.j0 k n ((b.length : Int) == 0) b ((p + 1 : Nat) : Int)) ((r : Int), ((p + 1 : Nat) : Int)) ∧ (1 ≤ n → (r : Int) < n) ∧ (n < 1 → r = 0) := fun x hx hE => by
    have hm := tmod_bd x n hx (by omega)
    refine ⟨(Int.tmod x n).toNat, ev_neg h ?_, fun _ => by omega, fun h' => absurd h' h⟩
    rw [eb, Int.toNat_of_nonneg hm.1]
    exact hE
  by_cases hlt : p < b.length
  · have hr := hb.rd (p : Int)
    refine out (wrap64 (rd b (p : Int))) (by rw [w64 (by omega) (by omega)]; omega) ?_
    refine Ev.step (fun k => by rw [spec_l20Rd_pick.j0]) ?_
    rw [ep]
    refine ev_neg (by decide) ?_
    refine ev_pos (by omega) ?_
    refine ev_pos (by omega) ?_
    exact ev_neg (by omega) (ev_ret rfl)
  · have q1 := tmod_bd (p : Int) (b.length : Int) (by omega) (by omega)
    have q2 := tdiv_bd (p : Int) (b.length : Int) (by omega) (by omega)
    have e7 : wrap64 (wrap64 ((p : Int) * 7) + 3) = (p : Int) * 7 + 3 := by rw [w64 (x := (p : Int) * 7) (by omega) (by omega), w64 (by omega) (by omega)]
    have q3 := tmod_bd ((p : Int) * 7 + 3) (b.length : Int) (by omega) (by omega)
    have hr1 := hb.rd (Int.tmod (p : Int) (b.length : Int))
    have hr2 := hb.rd (Int.tmod ((p : Int) * 7 + 3) (b.length : Int))
    obtain ⟨x, hx, hxb⟩ : ∃ x : Nat, wrap64 (wrap64 (wrap64 (wrap64 (wrap64 (rd b (Int.tmod (p : Int) (b.length : Int))) * 131) + wrap64 (wrap64 (rd b (Int.tmod ((p : Int) * 7 + 3) (b.length : Int))) * 1117)) + wrap64 ((p : Int) * 29)) + wrap64 (wrap64 (Int.tdiv (p : Int) (b.length : Int)) * 53)) = (x : Int) ∧ x < 2 ^ 60 := by
      generalize rd b (Int.tmod (p : Int) (b.length : Int)) = u at hr1 ⊢
      generalize rd b (Int.tmod ((p : Int) * 7 + 3) (b.length : Int)) = v at hr2 ⊢
      generalize Int.tdiv (p : Int) (b.length : Int) = t at q2 ⊢
      rw [w64 (x := u) (by omega) (by omega), w64 (x := v) (by omega) (by omega), w64 (x := t) (by omega) (by omega), w64 (x := u * 131) (by omega) (by omega), w64 (x := v * 1117) (by omega) (by omega), w64 (x := t * 53) (by omega) (by omega), w64 (x := (p : Int) * 29) (by omega) (by omega),
        w64 (x := u * 131 + v * 1117) (by omega) (by omega), w64 (x := u * 131 + v * 1117 + (p : Int) * 29) (by omega) (by omega), w64 (x := u * 131 + v * 1117 + (p : Int) * 29 + t * 53) (by omega) (by omega)]
      exact ⟨(u * 131 + v * 1117 + (p : Int) * 29 + t * 53).toNat, by omega, by omega⟩
    refine out (((x ^^^ (x / 64)) : Nat) : Int) (by omega) ?_
    refine Ev.step (fun k => by rw [spec_l20Rd_pick.j0]) ?_
    rw [ep, e7, hx, show Int.tdiv (x : Int) 64 = ((x / 64 : Nat) : Int) from rfl, w64 (x := ((x / 64 : Nat) : Int)) (by omega) (by omega), bits_xor_i64 _ _ (by omega) (by omega)]
    refine ev_neg (by decide) ?_
    refine ev_neg (by omega) ?_
    refine ev_neg (by omega) ?_
    refine ev_pos (by omega) ?_
    refine ev_pos (by omega) ?_
    refine ev_pos (by omega) ?_
    refine ev_pos (by omega) ?_
    exact ev_neg (by omega) (ev_ret rfl)
/-- A code, opened. -/
theorem openE (l : List Int) (hw : ∀ x ∈ l, (Lit.int .u8 x).wf = true) : ∃ b, spec_l20Open.f l = some (b, ((0 : Nat) : Int)) ∧ Bytes b := by
  have hx : ∀ x ∈ l, 0 ≤ x ∧ x ≤ 255 := fun x hx => by
    have := hw x hx
    simp [Lit.wf, IntKind.min, IntKind.max, IntKind.bits, IntKind.signed] at this
    omega
  unfold spec_l20Open.f
  by_cases h : (l.length : Int) > 2000
  · rw [if_pos h, if_pos (by omega)]
    exact ⟨l.take 2000, rfl, by simp; omega, fun x hm => hx x (List.mem_of_mem_take hm)⟩
  · rw [if_neg h]
    exact ⟨l, rfl, by omega, hx⟩
end Go.Proofs.Ytcaogllnbpmcgaa.M

/- Drawn terms: each draw ends; they are short. -/
set_option linter.unusedVariables false
set_option linter.unusedSimpArgs false
namespace Go.Proofs.Ytcaogllnbpmcgaa.M
open Go Go.RowKit Go.Proofs.YtcaogllnbpmcgaaW.PrintWords Go.Proofs.Ytcaogllnbpmcgaa.P
/-- Every mark's number is one of the machine's. -/
def SmallL (l : List Mk) : Prop := ∀ x ∈ l, x.f1 ≤ 9223372036854775807
theorem SmallL.M64 {l : List Mk} (h : SmallL l) : M64 l := fun i => by
  rcases Nat.lt_or_ge i l.length with hi | hi
  · rw [List.getD_eq_getElem?_getD, List.getElem?_eq_getElem hi]
    exact h _ (List.getElem_mem hi)
  · rw [List.getD_eq_getElem?_getD, List.getElem?_eq_none hi]
    show zM.f1 ≤ _
    decide
theorem SmallL.app {l m : List Mk} (h : SmallL l) (h' : SmallL m) : SmallL (l ++ m) := fun x hx => by
  rcases List.mem_append.1 hx with hx | hx
  · exact h x hx
  · exact h' x hx
theorem SmallL.one {x : Mk} (h : x.f1 ≤ 9223372036854775807) : SmallL [x] := fun y hy => by
  rw [List.mem_singleton.1 hy]
  exact h
theorem oddE (b : List Int) (hb : Bytes b) (p : Nat) (hp : p ≤ 100000) (n : Int) : ∃ o : Bool, ∃ q : Nat, Ev (fun k => spec_l20Rd_odd.f k b (p : Int) n) (o, (q : Int)) ∧ q ≤ p + 1 := by
  unfold spec_l20Rd_odd.f
  by_cases h : n > 0
  · obtain ⟨r, e, _⟩ := pickE b hb p (by omega) n
    exact ⟨_, p + 1, ev_pos h (ev_bind e (ev_ret rfl)), Nat.le_refl _⟩
  · exact ⟨false, p, ev_neg h (ev_ret rfl), by omega⟩
/-- Of a pick only that it is a number of the machine. -/
theorem pickB (b : List Int) (hb : Bytes b) (p : Nat) (hp : p ≤ 100000) (n : Int) (hn : n ≤ 9223372036854775807) : ∃ r : Nat, Ev (fun k => spec_l20Rd_pick.f k b (p : Int) n) ((r : Int), ((p + 1 : Nat) : Int)) ∧ (1 ≤ n → (r : Int) < n) ∧ (r : Int) ≤ 9223372036854775807 := by
  obtain ⟨r, e, h1, h2⟩ := pickE b hb p (by omega) n
  refine ⟨r, e, h1, ?_⟩
  by_cases h : 1 ≤ n
  · have := h1 h
    omega
  · have := h2 (by omega)
    omega
theorem term_j2 (b : List Int) (hb : Bytes b) (d : Int) (t : List Mk) (p : Nat) (hp : p ≤ 10000) (h1 : 1 ≤ t.length) (h2 : t.length ≤ 4096) (hs : SmallL t) :
    ∃ (s : List Mk) (q : Nat), Ev (fun k => spec_l20Term.j2 k d t b (p : Int)) (s, (q : Int)) ∧ s.length ≤ 4097 ∧ SmallL s ∧ q ≤ p + 3 := by
  obtain ⟨o, q, eo, hq⟩ := oddE b hb p (by omega) d
  cases o with
  | false =>
    refine ⟨t, q, Ev.step (fun k => by rw [spec_l20Term.j2]) ?_, by omega, hs, by omega⟩
    exact ev_bind eo (ev_neg (by simp) (ev_ret rfl))
  | true =>
    obtain ⟨r, e, _⟩ := pickE b hb q (by omega) 3
    by_cases h0 : r = 0
    · refine ⟨[], q + 1, Ev.step (fun k => by rw [spec_l20Term.j2]) ?_, by simp, fun x hx => by simp at hx, by omega⟩
      exact ev_bind eo (ev_pos rfl (ev_bind e (ev_pos (by simp [h0]) (ev_ret rfl))))
    by_cases h1' : r = 1
    · refine ⟨t ++ [⟨5, 0⟩], q + 1, Ev.step (fun k => by rw [spec_l20Term.j2]) ?_, by simp; omega, hs.app (SmallL.one (by decide)), by omega⟩
      exact ev_bind eo (ev_pos rfl (ev_bind e (ev_neg (by simp; omega) (ev_pos (by simp [h1']) (ev_pos (by omega) (ev_ret rfl))))))
    · obtain ⟨r2, e2, _⟩ := pickE b hb (q + 1) (by omega) 2
      refine ⟨t.set 0 ⟨(r2 : Int), 6⟩, q + 2, Ev.step (fun k => by rw [spec_l20Term.j2]) ?_, by simp; omega, fun x hx => ?_, by omega⟩
      · exact ev_bind eo (ev_pos rfl (ev_bind e (ev_neg (by simp; omega) (ev_neg (by simp; omega) (ev_bind e2 (ev_pos (by omega) (ev_ret rfl)))))))
      · rcases List.mem_or_eq_of_mem_set hx with hx | rfl
        · exact hs x hx
        · show (6 : Int) ≤ _
          decide
/-- A row of parts: none empty, none long. -/
def PartsP (c : Nat) (xs : List (List Mk)) : Prop := ∀ r ∈ xs, 1 ≤ r.length ∧ r.length ≤ c ∧ SmallL r
theorem parts_at {c : Nat} {xs : List (List Mk)} (h : PartsP c xs) (i : Nat) (hi : i < xs.length) : 1 ≤ (rd_Lparts xs (i : Int)).length ∧ (rd_Lparts xs (i : Int)).length ≤ c ∧ SmallL (rd_Lparts xs (i : Int)) := by
  unfold rd_Lparts
  rw [Int.toNat_natCast, List.getD_eq_getElem?_getD, List.getElem?_eq_getElem hi]
  exact h _ (List.getElem_mem hi)
/-- Rows of at most c marks, m steps more: none gets long. -/
def Fits (c m : Nat) : Prop := (c + 1) * 2 ^ m ≤ 4096
theorem Fits.next {c m : Nat} (h : Fits c (m + 1)) : Fits (2 * c + 1) m := by
  unfold Fits at h ⊢
  rw [show 2 * c + 1 + 1 = (c + 1) * 2 by omega, Nat.mul_assoc, Nat.mul_comm 2, ← Nat.pow_succ]
  exact h
theorem Fits.le {c m : Nat} (h : Fits c m) : c + 1 ≤ 4096 := by
  unfold Fits at h
  have h2 : 1 ≤ 2 ^ m := Nat.one_le_two_pow
  have h3 : (c + 1) * 1 ≤ (c + 1) * 2 ^ m := Nat.mul_le_mul_left _ h2
  rw [Nat.mul_one] at h3
  exact Nat.le_trans h3 h
theorem Fits.start : Fits 1 7 := by
  unfold Fits
  decide
set_option maxHeartbeats 1600000 in
theorem term_l1 (b : List Int) (hb : Bytes b) (d : Int) : ∀ (m : Nat) (xs : List (List Mk)) (x9 p c : Nat), 1 ≤ xs.length → xs.length + x9 ≤ m → m ≤ 12 → Fits c m → PartsP c xs → p + 3 * m ≤ 5000 →
    ∃ (s : List Mk) (q : Nat), Ev (fun k => spec_l20Term.l1 k d xs (x9 : Int) b (p : Int)) (s, (q : Int)) ∧ s.length ≤ 4097 ∧ SmallL s ∧ q ≤ p + 3 * m + 4 := by
  intro m
  induction m with
  | zero => intro xs x9 p c h1 h2; omega
  | succ m ih =>
    intro xs x9 p c h1 h2 hm hc hP hp
    have hc2 := hc.next
    have hc4 := hc.le
    clear hc
    by_cases hl : xs.length = 1
    · -- one part left: it is the term
      obtain ⟨a1, a2, a3⟩ : 1 ≤ (rd_Lparts xs 0).length ∧ (rd_Lparts xs 0).length ≤ c ∧ SmallL (rd_Lparts xs 0) := parts_at hP 0 (by omega)
      obtain ⟨r, e, _⟩ := pickE b hb p (by omega) 5
      by_cases h0 : r = 0
      · obtain ⟨s, q, hE, hs1, hs2, hq⟩ := term_j2 b hb d (rd_Lparts xs 0 ++ [⟨2, 0⟩]) (p + 1) (by omega) (by simp) (by simp; omega) (a3.app (SmallL.one (by decide)))
        refine ⟨s, q, Ev.step (fun k => by rw [spec_l20Term.l1]) ?_, hs1, hs2, by omega⟩
        refine ev_neg (by omega) (ev_pos (by omega) ?_)
        simp only [Option.bind_some, List.nil_append]
        refine ev_pos (by simp only [List.length_nil]; omega) ?_
        exact ev_bind e (ev_pos (by simp [h0]) (ev_pos (by have : (rd_Lparts xs (0 : Int)).length ≤ c := a2; omega) hE))
      · obtain ⟨s, q, hE, hs1, hs2, hq⟩ := term_j2 b hb d (rd_Lparts xs 0) (p + 1) (by omega) a1 (by omega) a3
        refine ⟨s, q, Ev.step (fun k => by rw [spec_l20Term.l1]) ?_, hs1, hs2, by omega⟩
        refine ev_neg (by omega) (ev_pos (by omega) ?_)
        simp only [Option.bind_some, List.nil_append]
        refine ev_pos (by simp only [List.length_nil]; omega) ?_
        exact ev_bind e (ev_neg (by simp; omega) hE)
    · obtain ⟨r, e, hr, _⟩ := pickE b hb p (by omega) ((xs.length : Int) - 1)
      have hr := hr (by omega)
      obtain ⟨a1, a2, a3⟩ := parts_at hP r (by omega)
      obtain ⟨b1, b2, b3⟩ := parts_at hP (r + 1) (by omega)
      have w1 : wrap64 ((r : Int) + 1) = ((r + 1 : Nat) : Int) := w64s (by omega)
      have w2 : wrap64 ((r : Int) + 2) = ((r + 2 : Nat) : Int) := by rw [w64 (by omega) (by omega)]; omega
      have wl : wrap64 ((xs.length : Int) - 1) = (xs.length : Int) - 1 := w64 (by omega) (by omega)
      generalize hA : rd_Lparts xs (r : Int) = A at a1 a2 a3
      generalize hB : rd_Lparts xs ((r + 1 : Nat) : Int) = B at b1 b2 b3
      -- two parts made one
      have J : ∀ p1 : Nat, p ≤ p1 → p1 ≤ p + 2 → ∃ (r3 : Nat) (s : List Mk) (q : Nat), Ev (fun k => spec_l20Rd_pick.f k b (p1 : Int) 3) ((r3 : Int), ((p1 + 1 : Nat) : Int)) ∧
          Ev (fun k => spec_l20Term.l1 k d (xs.take r ++ [A ++ B ++ [⟨wrap64 (3 + (r3 : Int)), 0⟩]] ++ xs.drop (r + 2)) (x9 : Int) b ((p1 + 1 : Nat) : Int)) (s, (q : Int)) ∧ s.length ≤ 4097 ∧ SmallL s ∧ q ≤ p + 3 * (m + 1) + 4 := fun p1 hp1 hp2 => by
        obtain ⟨r3, e3, _⟩ := pickE b hb p1 (by omega) 3
        obtain ⟨s, q, hE, hs1, hs2, hq⟩ := ih (xs.take r ++ [A ++ B ++ [⟨wrap64 (3 + (r3 : Int)), 0⟩]] ++ xs.drop (r + 2)) x9 (p1 + 1) (2 * c + 1) (by simp; omega) (by simp; omega) (by omega) hc2 (fun z hz => by
          simp only [List.mem_append, List.mem_singleton] at hz
          rcases hz with (hz | rfl) | hz
          · obtain ⟨y1, y2, y3⟩ := hP z (List.mem_of_mem_take hz); exact ⟨y1, by omega, y3⟩
          · refine ⟨by simp; omega, by simp only [List.length_append, List.length_singleton]; omega, (a3.app b3).app (SmallL.one (show (0 : Int) ≤ 9223372036854775807 by decide))⟩
          · obtain ⟨y1, y2, y3⟩ := hP z (List.mem_of_mem_drop hz); exact ⟨y1, by omega, y3⟩) (by omega)
        exact ⟨r3, s, q, e3, hE, hs1, hs2, by omega⟩
      have walkJ : ∀ (p1 r3 : Nat) (s : List Mk) (q : Nat), Ev (fun k => spec_l20Rd_pick.f k b (p1 : Int) 3) ((r3 : Int), ((p1 + 1 : Nat) : Int)) →
          Ev (fun k => spec_l20Term.l1 k d (xs.take r ++ [A ++ B ++ [⟨wrap64 (3 + (r3 : Int)), 0⟩]] ++ xs.drop (r + 2)) (x9 : Int) b ((p1 + 1 : Nat) : Int)) (s, (q : Int)) →
          Ev (fun k => if (0 : Int) ≤ (r : Int) then (if (r : Int) < (xs.length : Int) then (if 0 + (A).length < 8796093022208 then (if (0 : Int) ≤ ((r + 1 : Nat) : Int) then (if ((r + 1 : Nat) : Int) < (xs.length : Int) then (if (A).length + (B).length < 8796093022208 then ((spec_l20Rd_pick.f k b (p1 : Int) 3).bind fun bt => (if (A ++ B).length < 8796093022208 then (if (r : Int) ≤ (xs.length : Int) then (if 0 + (xs.take (r : Int).toNat).length < 5864062014805 then (if (xs.take (r : Int).toNat).length < 5864062014805 then (if (0 : Int) ≤ ((r + 2 : Nat) : Int) then (if ((r + 2 : Nat) : Int) ≤ (xs.length : Int) then (if (xs.take (r : Int).toNat ++ [A ++ B ++ [(⟨wrap64 (3 + bt.1), 0⟩ : Mk)]]).length + (xs.drop ((r + 2 : Nat) : Int).toNat).length < 5864062014805 then (spec_l20Term.l1 k d (xs.take (r : Int).toNat ++ [A ++ B ++ [(⟨wrap64 (3 + bt.1), 0⟩ : Mk)]] ++ xs.drop ((r + 2 : Nat) : Int).toNat) (x9 : Int) b bt.2) else none) else none) else none) else none) else none) else none) else none)) else none) else none) else none) else none) else none) else none) (s, (q : Int)) := fun p1 r3 s q e3 hE => by
        refine ev_pos (by omega) (ev_pos (by omega) (ev_pos (by omega) (ev_pos (by omega) (ev_pos (by omega) (ev_pos (by omega) (ev_bind e3 ?_))))))
        simp only [Int.toNat_natCast]
        refine ev_pos (by simp; omega) (ev_pos (by omega) (ev_pos (by simp; omega) (ev_pos (by simp; omega) (ev_pos (by omega) (ev_pos (by omega) (ev_pos (by simp; omega) hE))))))
      by_cases h9 : 0 < x9
      · obtain ⟨r2, e2, _⟩ := pickE b hb (p + 1) (by omega) 4
        by_cases hz : r2 = 0
        · -- one part turned
          obtain ⟨s, q, hE, hs1, hs2, hq⟩ := ih (xs.set r (A ++ [⟨2, 0⟩])) (x9 - 1) (p + 2) (2 * c + 1) (by simp; omega) (by simp; omega) (by omega) hc2 (fun z hz => by
            rcases List.mem_or_eq_of_mem_set hz with hz | rfl
            · obtain ⟨y1, y2, y3⟩ := hP z hz; exact ⟨y1, by omega, y3⟩
            · exact ⟨by simp, by simp; omega, a3.app (SmallL.one (by decide))⟩) (by omega)
          refine ⟨s, q, Ev.step (fun k => by rw [spec_l20Term.l1]) ?_, hs1, hs2, by omega⟩
          refine ev_pos (by omega) ?_
          rw [wl]
          refine ev_bind e ?_
          refine ev_pos (by omega) (ev_bind e2 (ev_pos (by simp [hz]) ?_))
          simp only [Option.bind_some, List.nil_append, List.length_nil, Int.toNat_natCast, hA]
          refine ev_pos (by omega) (ev_pos (by omega) (ev_pos (by omega) (ev_pos (by omega) ?_)))
          rw [w64 (x := (x9 : Int) - 1) (by omega) (by omega), show (x9 : Int) - 1 = ((x9 - 1 : Nat) : Int) by omega]
          exact hE
        · obtain ⟨r3, s, q, e3, hE, hs1, hs2, hq⟩ := J (p + 2) (by omega) (by omega)
          refine ⟨s, q, Ev.step (fun k => by rw [spec_l20Term.l1]) ?_, hs1, hs2, hq⟩
          refine ev_pos (by omega) ?_
          rw [wl]
          refine ev_bind e ?_
          refine ev_pos (by omega) (ev_bind e2 (ev_neg (by simp; omega) ?_))
          simp only [Option.bind_some, List.nil_append, List.length_nil, w1, w2, hA, hB]
          exact walkJ _ _ _ _ e3 hE
      · obtain ⟨r3, s, q, e3, hE, hs1, hs2, hq⟩ := J (p + 1) (by omega) (by omega)
        refine ⟨s, q, Ev.step (fun k => by rw [spec_l20Term.l1]) ?_, hs1, hs2, hq⟩
        refine ev_pos (by omega) ?_
        rw [wl]
        refine ev_bind e ?_
        refine ev_neg (by omega) ?_
        simp only [Option.bind_some, List.nil_append, List.length_nil, w1, w2, hA, hB]
        exact walkJ _ _ _ _ e3 hE
theorem term_l0 (b : List Int) (hb : Bytes b) (d x1 : Int) (h1 : 1 ≤ x1) (h4 : x1 ≤ 4) : ∀ (n : Nat) (xs : List (List Mk)) (p : Nat), xs.length + n ≤ 4 → 1 ≤ xs.length + n → PartsP 1 xs → p + 2 * n ≤ 4000 →
    ∃ (s : List Mk) (q : Nat), Ev (fun k => spec_l20Term.l0 k x1 d xs (n : Int) b (p : Int)) (s, (q : Int)) ∧ s.length ≤ 4097 ∧ SmallL s ∧ q ≤ p + 2 * n + 25 := by
  intro n
  induction n with
  | zero =>
    intro xs p hn hn1 hP hp
    obtain ⟨s, q, hE, hs1, hs2, hq⟩ := term_l1 b hb d 7 xs 3 p 1 (by omega) (by omega) (by omega) Fits.start hP (by omega)
    refine ⟨s, q, Ev.step (fun k => by rw [spec_l20Term.l0]) ?_, hs1, hs2, by omega⟩
    exact ev_neg (by decide) hE
  | succ n ih =>
    intro xs p hn hn1 hP hp
    obtain ⟨r, e, _⟩ := pickE b hb p (by omega) 4
    have hw : wrap64 (((n + 1 : Nat) : Int) - 1) = (n : Int) := by rw [w64 (by omega) (by omega)]; omega
    have one : ∀ z : Mk, z.f1 ≤ 9223372036854775807 → PartsP 1 (xs ++ [[z]]) := fun z hz y hy => by
      rcases List.mem_append.1 hy with hy | hy
      · exact hP y hy
      · rw [List.mem_singleton.1 hy]
        exact ⟨by simp, by simp, SmallL.one hz⟩
    by_cases h0 : r = 0
    · obtain ⟨r2, e2, _, hr2⟩ := pickB b hb (p + 1) (by omega) (wrap64 (x1 + 2)) (by rw [w64 (by omega) (by omega)]; omega)
      obtain ⟨s, q, hE, hs1, hs2, hq⟩ := ih (xs ++ [[⟨1, (r2 : Int)⟩]]) (p + 2) (by simp; omega) (by simp; omega) (one _ hr2) (by omega)
      refine ⟨s, q, Ev.step (fun k => by rw [spec_l20Term.l0]) ?_, hs1, hs2, by omega⟩
      rw [hw]
      exact ev_pos (by omega) (ev_bind e (ev_pos (by simp [h0]) (ev_bind e2 (ev_pos (by omega) hE))))
    · obtain ⟨r2, e2, _, hr2⟩ := pickB b hb (p + 1) (by omega) x1 (by omega)
      obtain ⟨s, q, hE, hs1, hs2, hq⟩ := ih (xs ++ [[⟨0, (r2 : Int)⟩]]) (p + 2) (by simp; omega) (by simp; omega) (one _ hr2) (by omega)
      refine ⟨s, q, Ev.step (fun k => by rw [spec_l20Term.l0]) ?_, hs1, hs2, by omega⟩
      rw [hw]
      exact ev_pos (by omega) (ev_bind e (ev_neg (by simp; omega) (ev_bind e2 (ev_pos (by omega) hE))))
/-- A drawn term: the draw ends, the term is no long one. -/
theorem l20TermE (b : List Int) (hb : Bytes b) (p : Nat) (hp : p ≤ 3900) (people d : Int) : ∃ (s : List Mk) (q : Nat), Ev (fun k => spec_l20Term.f k b (p : Int) people d) (s, (q : Int)) ∧ s.length ≤ 4097 ∧ SmallL s ∧ q ≤ p + 40 := by
  obtain ⟨r, e, hr, _⟩ := pickE b hb p (by omega) 4
  have hr := hr (by decide)
  obtain ⟨s, q, hE, hs1, hs2, hq⟩ := term_l0 b hb d (mn (mx people 1) 4) (by unfold mn mx; split <;> split <;> omega) (by unfold mn mx; split <;> split <;> omega) (r + 1) [] (p + 1) (by simp; omega) (by simp) (fun r hr => by simp at hr) (by omega)
  refine ⟨s, q, ?_, hs1, hs2, by omega⟩
  unfold spec_l20Term.f
  refine ev_bind e ?_
  dsimp only
  rw [w64 (x := 1 + (r : Int)) (by omega) (by omega), show 1 + (r : Int) = ((r + 1 : Nat) : Int) by omega]
  exact hE
end Go.Proofs.Ytcaogllnbpmcgaa.M

/- Drawn claims, stories, kinds: each draw ends; they are short. -/
set_option linter.unusedVariables false
set_option linter.unusedSimpArgs false
namespace Go.Proofs.Ytcaogllnbpmcgaa.M
open Go Go.RowKit Go.Proofs.YtcaogllnbpmcgaaW.PrintWords Go.Proofs.Ytcaogllnbpmcgaa.P
theorem l20ClaimE (b : List Int) (hb : Bytes b) (p : Nat) (hp : p ≤ 3000) (people d : Int) : ∃ (who : Int) (t : List Mk) (q : Nat), Ev (fun k => spec_l20Claim.f k b (p : Int) people d) (who, t, (q : Int)) ∧ t.length ≤ 4097 ∧ SmallL t ∧ q ≤ p + 50 := by
  obtain ⟨r, e, _⟩ := pickE b hb p (by omega) (mx people 1)
  obtain ⟨t, q, et, ht1, ht2, hq⟩ := l20TermE b hb (p + 1) (by omega) people (wrap64 (d * 2))
  obtain ⟨o, q2, eo, hq2⟩ := oddE b hb q (by omega) d
  cases o with
  | false =>
    refine ⟨(r : Int), t, q2, ?_, ht1, ht2, by omega⟩
    unfold spec_l20Claim.f
    exact ev_bind e (ev_bind et (ev_bind eo (ev_neg (by simp) (ev_ret rfl))))
  | true =>
    obtain ⟨r2, e2, h2, _⟩ := pickE b hb q2 (by omega) 2
    have h2 := h2 (by decide)
    refine ⟨rd [(-1), 4] (r2 : Int), t, q2 + 1, ?_, ht1, ht2, by omega⟩
    unfold spec_l20Claim.f
    refine ev_bind e (ev_bind et (ev_bind eo (ev_pos rfl ?_)))
    simp only [Option.bind_some]
    exact ev_bind e2 (ev_pos (by omega) (ev_pos (by simp; omega) (ev_ret rfl)))
/-- No claim's term is long, no mark's number beyond the machine's. -/
def SmallS (s : List Cl) : Prop := ∀ c ∈ s, c.f1.length ≤ 4097 ∧ SmallL c.f1
theorem SmallS.S64 {s : List Cl} (h : SmallS s) (hl : s.length < 4611686018427387904) : S64 s := ⟨hl, fun i => by
  rcases Nat.lt_or_ge i s.length with hi | hi
  · rw [List.getD_eq_getElem?_getD, List.getElem?_eq_getElem hi]
    obtain ⟨h1, h2⟩ := h _ (List.getElem_mem hi)
    exact ⟨h2.M64, by show (s[i]).f1.length < _; omega⟩
  · rw [List.getD_eq_getElem?_getD, List.getElem?_eq_none hi]
    have h0 : zC.f1 = ([] : List Mk) := rfl
    refine ⟨SmallL.M64 (fun x hx => ?_), ?_⟩
    · have hx : x ∈ zC.f1 := hx
      rw [h0] at hx
      simp at hx
    · show zC.f1.length < _
      rw [h0]
      decide⟩
theorem SmallS.app {s : List Cl} (h : SmallS s) {c : Cl} (h1 : c.f1.length ≤ 4097) (h2 : SmallL c.f1) : SmallS (s ++ [c]) := fun x hx => by
  rcases List.mem_append.1 hx with hx | hx
  · exact h x hx
  · rw [List.mem_singleton.1 hx]
    exact ⟨h1, h2⟩
theorem story_l1 (b : List Int) (n : Int) (p : Nat) : ∀ (d : Nat) (s : List Cl), 7 ≤ s.length + d → s.length ≤ 20 → SmallS s → ∃ s', Ev (fun k => spec_l20Story.l1 k n s b (p : Int)) (n, s', (p : Int)) ∧ s'.length ≤ 20 ∧ SmallS s' := by
  intro d
  induction d with
  | zero =>
    intro s h h2 hs
    refine ⟨s, Ev.step (fun k => by rw [spec_l20Story.l1]) ?_, h2, hs⟩
    exact ev_neg (by omega) (ev_ret rfl)
  | succ d ih =>
    intro s h h2 hs
    by_cases h7 : s.length < 7
    · obtain ⟨s', hE, h3, h4⟩ := ih (s ++ [⟨0, [⟨0, 0⟩]⟩]) (by simp; omega) (by simp; omega) (hs.app (by simp) (SmallL.one (by decide)))
      refine ⟨s', Ev.step (fun k => by rw [spec_l20Story.l1]) ?_, h3, h4⟩
      exact ev_pos (by omega) (ev_pos (by omega) hE)
    · refine ⟨s, Ev.step (fun k => by rw [spec_l20Story.l1]) ?_, h2, hs⟩
      exact ev_neg (by omega) (ev_ret rfl)
theorem story_l0 (b : List Int) (hb : Bytes b) (x1 n : Int) : ∀ (d : Nat) (s : List Cl) (p : Nat), p + 50 * d ≤ 3000 → s.length + d ≤ 10 → SmallS s →
    ∃ (s' : List Cl) (q : Nat), Ev (fun k => spec_l20Story.l0 k x1 n s (d : Int) b (p : Int)) (n, s', (q : Int)) ∧ s'.length ≤ 20 ∧ SmallS s' ∧ q ≤ p + 50 * d + 1 := by
  intro d
  induction d with
  | zero =>
    intro s p hp hl hs
    obtain ⟨o, q, eo, hq⟩ := oddE b hb p (by omega) x1
    cases o with
    | false =>
      refine ⟨s, q, Ev.step (fun k => by rw [spec_l20Story.l0]) ?_, by omega, hs, by omega⟩
      exact ev_neg (by decide) (ev_bind eo (ev_neg (by simp) (ev_ret rfl)))
    | true =>
      obtain ⟨s', hE, h3, h4⟩ := story_l1 b n q 7 s (by omega) (by omega) hs
      refine ⟨s', q, Ev.step (fun k => by rw [spec_l20Story.l0]) ?_, h3, h4, by omega⟩
      exact ev_neg (by decide) (ev_bind eo (ev_pos rfl hE))
  | succ d ih =>
    intro s p hp hl hs
    obtain ⟨who, t, q, et, ht1, ht2, hq⟩ := l20ClaimE b hb p (by omega) n (wrap64 (x1 * 3))
    obtain ⟨s', q2, hE, h3, h4, hq2⟩ := ih (s ++ [⟨who, t⟩]) q (by omega) (by simp; omega) (hs.app ht1 ht2)
    have hw : wrap64 (((d + 1 : Nat) : Int) - 1) = (d : Int) := by rw [w64 (by omega) (by omega)]; omega
    refine ⟨s', q2, Ev.step (fun k => by rw [spec_l20Story.l0]) ?_, h3, h4, by omega⟩
    rw [hw]
    exact ev_pos (by omega) (ev_bind et (ev_pos (by omega) hE))
theorem l20StoryE (b : List Int) (hb : Bytes b) (p : Nat) (hp : p ≤ 1000) (x1 : Int) : ∃ (n : Int) (s : List Cl) (q : Nat), Ev (fun k => spec_l20Story.f k b (p : Int) x1) (n, s, (q : Int)) ∧ 1 ≤ n ∧ n ≤ 4 ∧ s.length ≤ 20 ∧ SmallS s ∧ q ≤ p + 300 := by
  obtain ⟨r, e, h, _⟩ := pickE b hb p (by omega) 4
  obtain ⟨r2, e2, h2, _⟩ := pickE b hb (p + 1) (by omega) 5
  have h := h (by decide)
  have h2 := h2 (by decide)
  obtain ⟨s, q, hE, h3, h4, hq⟩ := story_l0 b hb x1 (wrap64 (1 + (r : Int))) r2 [] (p + 2) (by omega) (by simp; omega) (fun x hx => by simp at hx)
  refine ⟨wrap64 (1 + (r : Int)), s, q, ?_, by rw [w64 (by omega) (by omega)]; omega, by rw [w64 (by omega) (by omega)]; omega, h3, h4, by omega⟩
  unfold spec_l20Story.f
  exact ev_bind e (ev_bind e2 hE)
end Go.Proofs.Ytcaogllnbpmcgaa.M

/- The reference's rows of kinds by their numbers. -/
set_option linter.unusedVariables false
set_option linter.unusedSimpArgs false
namespace Go.Proofs.Ytcaogllnbpmcgaa.M
open Go Go.RowKit Go.Proofs.YtcaogllnbpmcgaaW.PrintWords Go.Proofs.YtcaogllnbpmcgaaW.PrintMore Go.Proofs.Ytcaogllnbpmcgaa.P
theorem tmod3 (m : Nat) : Int.tmod (m : Int) 3 = ((m % 3 : Nat) : Int) := rfl
theorem tdiv3 (m : Nat) : Int.tdiv (m : Int) 3 = ((m / 3 : Nat) : Int) := rfl
theorem spec_rows_l (n : Nat) (hn : n ≤ 4) : ∀ d i, i + d = n → Ev (fun k => spec_l9Rows.l0 k (n : Int) ((p3 i : Nat) : Int) (i : Int)) ((p3 n : Nat) : Int) := by
  intro d
  induction d with
  | zero =>
    intro i hi
    refine Ev.step (fun k => by rw [spec_l9Rows.l0]) (ev_neg (by omega) (ev_ret ?_))
    rw [show i = n by omega]
  | succ d ih =>
    intro i hi
    have := p3_le (n := i) (by omega)
    refine Ev.step (fun k => by rw [spec_l9Rows.l0]) (ev_pos (by omega) ?_)
    rw [w64s (by omega), w64 (by omega) (by omega), show ((p3 i : Nat) : Int) * 3 = ((p3 (i + 1) : Nat) : Int) from by show _ = ((p3 i * 3 : Nat) : Int); omega]
    exact ih (i + 1) (by omega)
theorem spec_rowsE (n : Nat) (hn : n ≤ 4) : Ev (fun k => spec_l9Rows.f k (n : Int)) ((p3 n : Nat) : Int) := spec_rows_l n hn n 0 (by omega)
theorem spec_kinds_dig_l (n : Nat) (hn : n ≤ 4) : ∀ (d i m : Nat) (acc : List Int), i + d = n → m ≤ 1000 → acc.length ≤ i → Ev (fun k => spec_l9Kinds.l0 k (n : Int) (m : Int) acc (i : Int)) (acc ++ digK d m) := by
  intro d
  induction d with
  | zero =>
    intro i m acc hi hm ha
    refine Ev.step (fun k => by rw [spec_l9Kinds.l0]) (ev_neg (by omega) (ev_ret ?_))
    rw [digK, List.append_nil]
  | succ d ih =>
    intro i m acc hi hm ha
    refine Ev.step (fun k => by rw [spec_l9Kinds.l0]) (ev_pos (by omega) (ev_pos (by omega) ?_))
    rw [tmod3, tdiv3, w64s (by omega), w64 (by omega) (by omega)]
    refine ev_eq (ih (i + 1) (m / 3) (acc ++ [((m % 3 : Nat) : Int)]) (by omega) (by omega) (by simp; omega)) ?_
    rw [List.append_assoc]
    rfl
theorem spec_digE (n : Nat) (hn : n ≤ 4) (m : Nat) (hm : m ≤ 1000) : Ev (fun k => spec_l9Kinds.f k (n : Int) (m : Int)) (digK n m) := spec_kinds_dig_l n hn n 0 m [] (by omega) hm (Nat.zero_le _)
theorem spec_spyN_l (ks : List Int) (hk : ks.length ≤ 4) : ∀ d i a, i + d = ks.length → a ≤ i → Ev (fun k => spec_l9Spies.l0 k ks (a : Int) (i : Int)) ((a + spyL (ks.drop i) : Nat) : Int) := by
  intro d
  induction d with
  | zero =>
    intro i a hi ha
    refine Ev.step (fun k => by rw [spec_l9Spies.l0]) (ev_neg (by omega) (ev_ret ?_))
    rw [List.drop_eq_nil_of_le (by omega)]
    rfl
  | succ d ih =>
    intro i a hi ha
    refine Ev.step (fun k => by rw [spec_l9Spies.l0]) (ev_pos (by omega) (ev_pos (by omega) ?_))
    have e : spyL (ks.drop i) = (if ks.getD i 0 = 2 then 1 else 0) + spyL (ks.drop (i + 1)) := by
      rw [List.drop_eq_getElem_cons (by omega : i < ks.length), getD_lt ks 0 i (by omega)]
      rfl
    rw [rdN, w64s (i := i) (by omega), e]
    by_cases h : ks.getD i 0 = 2
    · rw [if_pos h, w64s (by omega)]
      refine ev_pos h (ev_eq (ih (i + 1) (a + 1) (by omega) (by omega)) (by omega))
    · rw [if_neg h]
      refine ev_neg h (ev_eq (ih (i + 1) a (by omega) (by omega)) (by omega))
theorem spec_spiesNE (ks : List Int) (hk : ks.length ≤ 4) : Ev (fun k => spec_l9Spies.f k ks) ((spyL ks : Nat) : Int) := by
  refine ev_eq (spec_spyN_l ks hk ks.length 0 0 (by omega) (Nat.le_refl _)) ?_
  rw [List.drop_zero, Nat.zero_add]
end Go.Proofs.Ytcaogllnbpmcgaa.M

/- The reference's FewestSpies. -/
set_option linter.unusedVariables false
set_option linter.unusedSimpArgs false
namespace Go.Proofs.Ytcaogllnbpmcgaa.M
open Go Go.RowKit Go.Proofs.YtcaogllnbpmcgaaW.PrintWords Go.Proofs.YtcaogllnbpmcgaaW.PrintMore Go.Proofs.Ytcaogllnbpmcgaa.P
theorem spec_few_l (n : Nat) (hn : n ≤ 4) (s : List Cl) (hs : S64 s) : ∀ d i, i + d = p3 n → Ev (fun k => spec_FewestSpies.l0 k (n : Int) s ((bestN n (spB s) i : Nat) : Int) (i : Int)) ((fewS n s : Nat) : Int) := by
  have hp := p3_le hn
  intro d
  induction d with
  | zero =>
    intro i hi
    refine Ev.step (fun k => by rw [spec_FewestSpies.l0]) ?_
    refine ev_bind (spec_rowsE n hn) ?_
    refine ev_neg (by omega) (ev_ret ?_)
    rw [show i = p3 n by omega]
    rfl
  | succ d ih =>
    intro i hi
    refine Ev.step (fun k => by rw [spec_FewestSpies.l0]) ?_
    refine ev_bind (spec_rowsE n hn) ?_
    refine ev_pos (by omega) ?_
    refine ev_bind (spec_digE n hn i (by omega)) ?_
    have hnext := ih (i + 1) (by omega)
    unfold bestN at hnext
    rw [w64s (i := i) (by omega)]
    obtain ⟨b, hb, hbi⟩ := spec_spies (digK n i) (by rw [digK_len]; omega) s hs
    refine ev_bind hb ?_
    cases b with
    | true =>
      rw [if_pos ((spB_iff _ _).2 (hbi.1 rfl))] at hnext
      refine ev_pos rfl (ev_bind (spec_spiesNE _ (by rw [digK_len]; exact hn)) ?_)
      refine ev_eq hnext rfl |> fun h => ?_
      have e : mn ((bestN n (spB s) i : Nat) : Int) ((spyL (digK n i) : Nat) : Int) = ((min (bestN n (spB s) i) (spyL (digK n i)) : Nat) : Int) := by
        unfold mn
        split <;> omega
      rw [e]
      exact h
    | false =>
      rw [if_neg (fun h => Bool.noConfusion (hbi.2 ((spB_iff _ _).1 h)))] at hnext
      exact ev_neg (by decide) hnext
theorem spec_fewE (n : Int) (hn : n ≤ 9223372036854775807) (s : List Cl) (hs : S64 s) : Ev (fun k => spec_FewestSpies.f k n s) (fewF n s) := by
  unfold spec_FewestSpies.f fewF
  obtain ⟨b, hb, hi⟩ := spec_storyOk n hn s hs
  refine ev_bind hb ?_
  cases b with
  | false =>
    rw [if_neg (fun h => Bool.noConfusion (hi.2 h))]
    exact ev_neg (by decide) (ev_ret rfl)
  | true =>
    have hS := hi.1 rfl
    have h1 := hS.2.1
    rw [if_pos hS]
    obtain ⟨m, rfl⟩ : ∃ m : Nat, n = (m : Int) := ⟨n.toNat, by omega⟩
    refine ev_pos rfl ?_
    exact spec_few_l m (by omega) s hs (p3 m) 0 (by omega)
end Go.Proofs.Ytcaogllnbpmcgaa.M

/- The program's counting of rows, told. -/
set_option linter.unusedVariables false
set_option linter.unusedSimpArgs false
namespace Go.Proofs.Ytcaogllnbpmcgaa.M
open Go Go.RowKit Go.Proofs.YtcaogllnbpmcgaaW.PrintWords Go.Proofs.YtcaogllnbpmcgaaW.PrintMore Go.Proofs.Ytcaogllnbpmcgaa.P
theorem impl_spyRows_is (n : Int) (s : List Cl) (h : StoryP n s) (left : Int) (h0 : 0 ≤ left) (h1 : left ≤ 1000) : impl_spyRows.f n s left = some ((cntK (spB s) n.toNat [] left : Nat) : Int) := by
  unfold impl_spyRows.f
  rw [if_pos ⟨h, h0, h1⟩]
end Go.Proofs.Ytcaogllnbpmcgaa.M

/- The program's FewestSpies. -/
set_option linter.unusedVariables false
set_option linter.unusedSimpArgs false
namespace Go.Proofs.Ytcaogllnbpmcgaa.M
open Go Go.RowKit Go.Proofs.YtcaogllnbpmcgaaW.PrintWords Go.Proofs.YtcaogllnbpmcgaaW.PrintMore Go.Proofs.Ytcaogllnbpmcgaa.P
theorem impl_few_l (n : Nat) (s : List Cl) (h : StoryP (n : Int) s) : ∀ d i, i + d = fewS n s → Ev (fun k => impl_FewestSpies.l0 k (n : Int) s (i : Int)) ((fewS n s : Nat) : Int) := by
  have hle := few_le n s
  have hn := h.2.1
  intro d
  induction d with
  | zero =>
    intro i hi
    have hp := best_cnt n (spB s) (all_twoB n s h)
    rw [show bestN n (spB s) (p3 n) = i by unfold fewS at hi; omega] at hp
    refine Ev.step (fun k => by rw [impl_FewestSpies.l0]) ?_
    refine ev_bindc (impl_spyRows_is (n : Int) s h (i : Int) (by omega) (by omega)) ?_
    rw [Int.toNat_natCast]
    refine ev_pos (by omega) (ev_ret ?_)
    rw [show i = fewS n s by omega]
  | succ d ih =>
    intro i hi
    have hp := best_cnt0 n (spB s) i (by unfold fewS at hi; omega)
    refine Ev.step (fun k => by rw [impl_FewestSpies.l0]) ?_
    refine ev_bindc (impl_spyRows_is (n : Int) s h (i : Int) (by omega) (by omega)) ?_
    rw [Int.toNat_natCast, hp]
    refine ev_neg (by decide) ?_
    rw [w64s (by omega)]
    exact ih (i + 1) (by omega)
theorem impl_fewE (n : Int) (s : List Cl) (hs : s.length < 4611686018427387904) : Ev (fun k => impl_FewestSpies.f k n s) (fewF n s) := by
  unfold impl_FewestSpies.f
  obtain ⟨b, hb, hi⟩ := impl_storyOk n s hs
  refine ev_bind hb ?_
  cases b with
  | false =>
    rw [fewF_no n s (fun h => Bool.noConfusion (hi.2 h))]
    exact ev_neg (by decide) (ev_ret rfl)
  | true =>
    have hS := hi.1 rfl
    have h1 := hS.2.1
    rw [fewF_yes n s hS]
    obtain ⟨m, rfl⟩ : ∃ m : Nat, n = (m : Int) := ⟨n.toNat, by omega⟩
    refine ev_pos rfl ?_
    exact impl_few_l m s hS (fewS m s) 0 (by omega)
end Go.Proofs.Ytcaogllnbpmcgaa.M

/- Tables of claims and stories: the program's. -/
set_option linter.unusedVariables false
set_option linter.unusedSimpArgs false
namespace Go.Proofs.Ytcaogllnbpmcgaa.M
open Go Go.RowKit Go.Proofs.YtcaogllnbpmcgaaW.PrintWords Go.Proofs.Ytcaogllnbpmcgaa.P
theorem tabS' (p : Nat → Bool) (j : Nat) (hj : j ≤ 16) (h : p j = true) : Go.bits .or .i64 (tabN p j : Int) (pw j : Int) = ((tabN p (j + 1) : Nat) : Int) := by
  rw [or_pw p j hj]
  simp [tabN, h]
theorem tabZ' (p : Nat → Bool) (j : Nat) (h : p j = false) : tabN p j = tabN p (j + 1) := by simp [tabN, h]
theorem shl_u64' (n : Nat) (hn : n ≤ 4) : shl .u64 1 (n : Int) = (pw n : Int) := by
  rcases (by omega : n = 0 ∨ n = 1 ∨ n = 2 ∨ n = 3 ∨ n = 4) with rfl | rfl | rfl | rfl | rfl <;> decide
theorem shl2' (n : Nat) (hn : n ≤ 4) : shl .i64 1 (shl .u64 1 (n : Int)) = (pw (pw n) : Int) := by
  have := pwm4 hn
  rw [shl_u64' n hn, shl_nat _ (by omega)]
theorem ppw' {n : Nat} (h : n ≤ 4) : pw (pw n) ≤ 65536 := pw16 (pwm4 h)
theorem and_nat' (a b : Nat) (ha : a < 4294967296) (hb : b < 4294967296) : Go.bits .and .i64 (a : Int) (b : Int) = ((a &&& b : Nat) : Int) :=
  (bits_nat .i64 63 (by decide) wraps_i64 a b (by omega) (by omega)).1
/-- The table of a claim, and of a story. -/
def tabC (n : Nat) (c : Cl) : Nat := tabN (mayB c.f0.toNat c.f1) (pw n)
def tabS (n : Nat) (s : List Cl) : Nat := s.foldl (fun t c => t &&& tabC n c) (pw (pw n) - 1)
theorem tabC_lt (n : Nat) (hn : n ≤ 4) (c : Cl) : tabC n c < 65536 := Nat.lt_of_lt_of_le (tabN_lt _ _) (ppw' hn)
theorem impl_claimTableE (n : Nat) (c : Cl) (h : ClaimP n c.f0 c.f1) : impl_ClaimTable.f (n : Int) c.f0 c.f1 = some ((tabC n c : Nat) : Int) := by
  unfold impl_ClaimTable.f
  rw [if_pos h]
  rfl
theorem drop_C (s : List Cl) (i : Nat) (h : i < s.length) : s.drop i = s.getD i zC :: s.drop (i + 1) := by
  rw [List.drop_eq_getElem_cons h, getD_lt s zC i h]
theorem impl_story_l (n : Nat) (hn : n ≤ 4) (s : List Cl) (h : ∀ i, i < s.length → ClaimP n (s.getD i zC).f0 (s.getD i zC).f1) (hs : s.length ≤ 6) : ∀ d i a : Nat, i + d = s.length → a < 65536 →
    Ev (fun k => impl_storyTable.l0 k (n : Int) (a : Int) s (s.length : Int) (i : Int)) (((s.drop i).foldl (fun t c => t &&& tabC n c) a : Nat) : Int) := by
  intro d
  induction d with
  | zero =>
    intro i a hi ha
    refine Ev.step (fun k => by rw [impl_storyTable.l0]) ?_
    refine ev_neg (by omega) (ev_ret ?_)
    rw [List.drop_eq_nil_of_le (by omega)]
    rfl
  | succ d ih =>
    intro i a hi ha
    refine Ev.step (fun k => by rw [impl_storyTable.l0]) ?_
    have hc := tabC_lt n hn (s.getD i zC)
    rw [rdC, w64s (i := i) (by omega), drop_C s i (by omega), List.foldl_cons]
    refine ev_pos (by omega) ?_
    refine ev_pos (by omega) ?_
    refine ev_pos (by omega) ?_
    refine ev_bindc (impl_claimTableE n _ (h i (by omega))) ?_
    rw [and_nat' _ _ (by omega) (by omega)]
    exact ih (i + 1) _ (by omega) (Nat.lt_of_le_of_lt Nat.and_le_left ha)
theorem impl_storyE (n : Nat) (s : List Cl) (h : StoryP n s) : Ev (fun k => impl_storyTable.f k (n : Int) s) ((tabS n s : Nat) : Int) := by
  have hn : n ≤ 4 := by have := h.2.1.2; omega
  have hp := ppw' hn
  have hpos := pw_pos (pw n)
  unfold impl_storyTable.f tabS
  rw [shl2' n hn, w64 (by omega) (by omega), show (pw (pw n) : Int) - 1 = ((pw (pw n) - 1 : Nat) : Int) by omega]
  refine ev_pos (by omega) ?_
  exact impl_story_l n hn s h.1 h.2.2 s.length 0 (pw (pw n) - 1) (by omega) (by omega)
end Go.Proofs.Ytcaogllnbpmcgaa.M

/- Tables and their worlds, apart from the program. -/
set_option linter.unusedVariables false
set_option linter.unusedSimpArgs false
namespace Go.Proofs.Ytcaogllnbpmcgaa.M
open Go Go.RowKit Go.Proofs.YtcaogllnbpmcgaaW.PrintWords
theorem pw4 {n : Nat} (h : n ≤ 4) : pw n ≤ 16 := Nat.pow_le_pow_right (n := 2) (by decide) h
theorem shl_u64 (n : Nat) (hn : n ≤ 4) : shl .u64 1 (n : Int) = (pw n : Int) := by
  rcases (by omega : n = 0 ∨ n = 1 ∨ n = 2 ∨ n = 3 ∨ n = 4) with rfl | rfl | rfl | rfl | rfl <;> decide
theorem shl2 (n : Nat) (hn : n ≤ 4) : shl .i64 1 (shl .u64 1 (n : Int)) = (pw (pw n) : Int) := by
  rw [shl_u64 n hn, shl_nat _ (by have := pw4 hn; omega)]
theorem ppw {n : Nat} (h : n ≤ 4) : pw (pw n) ≤ 65536 := pw16 (pw4 h)
/-- A table of so many people. -/
def TabOk (n t : Int) : Prop := 1 ≤ n ∧ n ≤ 4 ∧ 0 ≤ t ∧ t < (pw (pw n.toNat) : Int)
instance (n t : Int) : Decidable (TabOk n t) := by unfold TabOk; infer_instance
theorem some_dec {b : Bool} {P : Prop} [Decidable P] (h : b = true ↔ P) : some b = some (decide P) := by
  congr 1
  rw [Bool.eq_iff_iff, decide_eq_true_eq]
  exact h
theorem tabOk_nat (m : Nat) (t : Int) : TabOk (m : Int) t ↔ 1 ≤ m ∧ m ≤ 4 ∧ 0 ≤ t ∧ t < (pw (pw m) : Int) := by
  unfold TabOk
  rw [Int.toNat_natCast]
  omega
/-! ### the worlds of a table -/
def wl (T n : Nat) : List Nat := (List.range' 0 (pw n)).filter fun w => bitN T w == 1
theorem mem_wl (T n w : Nat) : w ∈ wl T n ↔ w < pw n ∧ bitN T w = 1 := by
  unfold wl
  rw [List.mem_filter, List.mem_range'_1, beq_iff_eq]
  omega
theorem wl_len (T n : Nat) : (wl T n).length ≤ pw n := Nat.le_trans (List.length_filter_le _ _) (by rw [List.length_range']; exact Nat.le_refl _)
/-- As many worlds as the table's number has ones. -/
theorem wl_popN (n : Nat) : ∀ T m : Nat, m = pw n → ((List.range' 0 m).filter fun w => bitN T w == 1).length = popN m T := by
  intro T m _
  have h : ∀ m T i : Nat, ((List.range' i m).filter fun w => bitN T w == 1).length = popN m (T / 2 ^ i) := by
    intro m
    induction m with
    | zero => intro T i; simp [popN]
    | succ m ih =>
      intro T i
      rw [List.range'_succ, List.filter_cons, popN]
      have e : T / 2 ^ i / 2 = T / 2 ^ (i + 1) := by rw [Nat.div_div_eq_div_mul, Nat.pow_succ]
      rw [e]
      have hb := bitN_01 T i
      have hd : T / 2 ^ i % 2 = bitN T i := rfl
      rw [hd]
      rcases hb with hb | hb
      · rw [if_neg (by rw [hb]; decide), ih T (i + 1), hb, Nat.zero_add]
      · rw [if_pos (by rw [hb]; rfl), List.length_cons, ih T (i + 1), hb, Nat.add_comm]
  have := h m T 0
  rwa [Nat.pow_zero, Nat.div_one] at this
theorem wl_pop (T n : Nat) : (wl T n).length = popN (pw n) T := wl_popN n T (pw n) rfl
end Go.Proofs.Ytcaogllnbpmcgaa.M

/- Which worlds a story's table has; the program's StoryTable tells it. -/
set_option linter.unusedVariables false
set_option linter.unusedSimpArgs false
namespace Go.Proofs.Ytcaogllnbpmcgaa.M
open Go Go.RowKit Go.Proofs.YtcaogllnbpmcgaaW.PrintWords Go.Proofs.Ytcaogllnbpmcgaa.P
theorem bit_test (m i : Nat) : bitN m i = 1 ↔ m.testBit i = true := by
  rw [Nat.testBit_eq_decide_div_mod_eq, decide_eq_true_eq]
  rfl
theorem tab_bit (p : Nat → Bool) (N w : Nat) : bitN (tabN p N) w = 1 ↔ w < N ∧ p w = true := by
  rw [bit_test]
  induction N with
  | zero => simp [tabN]
  | succ N ih =>
    simp only [tabN]
    have hl := tabN_lt p N
    unfold pw at hl ⊢
    by_cases h : p N = true
    · rw [if_pos h, Nat.add_comm]
      rcases Nat.lt_trichotomy w N with hw | hw | hw
      · rw [Nat.testBit_two_pow_add_gt hw, ih]
        exact ⟨fun h => ⟨by omega, h.2⟩, fun h => ⟨hw, h.2⟩⟩
      · subst hw
        rw [Nat.testBit_two_pow_add_eq, Nat.testBit_lt_two_pow hl]
        exact ⟨fun _ => ⟨by omega, h⟩, fun _ => rfl⟩
      · rw [Nat.testBit_lt_two_pow (by
          have : 2 ^ (N + 1) ≤ 2 ^ w := Nat.pow_le_pow_right (by decide) hw
          omega)]
        exact ⟨fun h => (by cases h), fun h => by omega⟩
    · rw [if_neg h, Nat.add_zero, ih]
      constructor
      · exact fun h => ⟨by omega, h.2⟩
      · rintro ⟨a, b⟩
        refine ⟨?_, b⟩
        rcases Nat.lt_or_eq_of_le (Nat.le_of_lt_succ a) with c | c
        · exact c
        · exact absurd (c ▸ b) h
theorem tabS_bit (n : Nat) (s : List Cl) (w : Nat) : bitN (tabS n s) w = 1 ↔ w < pw n ∧ ∀ c ∈ s, mayB c.f0.toNat c.f1 w = true := by
  have fold : ∀ (s : List Cl) (a : Nat), bitN (s.foldl (fun t c => t &&& tabC n c) a) w = 1 ↔ bitN a w = 1 ∧ ∀ c ∈ s, bitN (tabC n c) w = 1 := by
    intro s
    induction s with
    | nil => intro a; simp
    | cons c s ih =>
      intro a
      rw [List.foldl_cons, ih, bit_test, Nat.testBit_and, Bool.and_eq_true, ← bit_test, ← bit_test]
      constructor
      · rintro ⟨⟨h1, h2⟩, h3⟩
        exact ⟨h1, fun x hx => by
          rcases List.mem_cons.1 hx with rfl | hx
          · exact h2
          · exact h3 x hx⟩
      · rintro ⟨h1, h2⟩
        exact ⟨⟨h1, h2 c (by simp)⟩, fun x hx => h2 x (by simp [hx])⟩
  unfold tabS
  rw [fold]
  have e : bitN (pw (pw n) - 1) w = 1 ↔ w < pw n := by
    rw [bit_test]
    unfold pw
    rw [Nat.testBit_two_pow_sub_one, decide_eq_true_eq]
  rw [e]
  constructor
  · rintro ⟨h1, h2⟩
    exact ⟨h1, fun c hc => ((tab_bit _ _ _).1 (h2 c hc)).2⟩
  · rintro ⟨h1, h2⟩
    exact ⟨h1, fun c hc => (tab_bit _ _ _).2 ⟨h1, h2 c hc⟩⟩
theorem tabS_max (n : Nat) (s : List Cl) : tabS n s < pw (pw n) := by
  have h : ∀ (s : List Cl) (a : Nat), a < pw (pw n) → s.foldl (fun t c => t &&& tabC n c) a < pw (pw n) := by
    intro s
    induction s with
    | nil => exact fun a h => h
    | cons c s ih => exact fun a h => ih _ (Nat.lt_of_le_of_lt Nat.and_le_left h)
  have := pw_pos (pw n)
  exact h s _ (by omega)
theorem impl_storyTableE (n : Nat) (s : List Cl) (h : StoryP n s) : Ev (fun k => impl_StoryTable.f k (n : Int) s) ((tabS n s : Nat) : Int) := by
  unfold impl_StoryTable.f
  refine ev_bind ((impl_storyOk n s (by have := h.2.2; omega)).ev (b := true) ⟨fun _ => h, fun _ => rfl⟩) ?_
  refine ev_pos rfl ?_
  exact ev_bind (impl_storyE n s h) (ev_ret rfl)
end Go.Proofs.Ytcaogllnbpmcgaa.M

/- Without spies there are as many rows as worlds. -/
set_option linter.unusedVariables false
set_option linter.unusedSimpArgs false
namespace Go.Proofs.Ytcaogllnbpmcgaa.M
open Go Go.RowKit Go.Proofs.YtcaogllnbpmcgaaW.PrintWords Go.Proofs.Ytcaogllnbpmcgaa.P
theorem bitK_world (n w : Nat) (hw : w < pw n) : worldK (bitK n w) = w := by
  refine Nat.eq_of_testBit_eq fun i => ?_
  unfold worldK
  rw [bitK_len, Bool.eq_iff_iff, ← bit_test, tab_bit, ← bit_test]
  by_cases hi : i < n
  · rw [bitK_get n w i hi]
    unfold bitN
    constructor
    · rintro ⟨_, h⟩
      have := eq_of_beq h
      omega
    · intro h
      exact ⟨hi, beq_iff_eq.2 (by omega)⟩
  · constructor
    · exact fun h => absurd h.1 hi
    · intro h
      rw [bit_test, Nat.testBit_lt_two_pow (Nat.lt_of_lt_of_le hw (Nat.pow_le_pow_right (by decide) (by omega)))] at h
      cases h
theorem range_rows (q : Nat → Bool) : ∀ m, ((List.range' 0 m).filter q).length = rowsN q m
  | 0 => rfl
  | m + 1 => by
    rw [List.range'_concat, List.filter_append, List.length_append, range_rows q m, rowsS]
    congr 1
    rw [Nat.zero_add, Nat.one_mul]
    by_cases h : q m = true
    · rw [if_pos h, List.filter_cons_of_pos h]; rfl
    · rw [if_neg h, List.filter_cons_of_neg h]; rfl
/-- Without spies there are as many rows as worlds. -/
theorem cnt_worlds (n : Nat) (s : List Cl) (h : StoryP (n : Int) s) : cntK (spB s) n [] 0 = (wl (tabS n s) n).length := by
  have hn := h.2.1
  rw [cnt_none]
  unfold wl
  rw [range_rows]
  refine rows_congr _ fun w hw => ?_
  rw [List.nil_append, Bool.eq_iff_iff, spB_iff, beq_iff_eq, tabS_bit]
  rw [no_two _ s (bitK_kinds n w (by omega) (by omega)) (by rw [bitK_len]; exact h) (bitK_two n w), bitK_world n w hw]
  exact ⟨fun h => ⟨hw, h⟩, fun h => h.2⟩
theorem few_zero (n : Nat) (s : List Cl) (h : StoryP (n : Int) s) : fewS n s = 0 ↔ tabS n s ≠ 0 := by
  have hn := h.2.1
  have hc := cnt_worlds n s h
  have h0 : 0 < cntK (spB s) n [] 0 ↔ fewS n s = 0 := by
    constructor
    · intro h'
      refine Classical.byContradiction fun hz => ?_
      have := best_cnt0 n (spB s) 0 (show 0 < fewS n s by omega)
      have e : ((0 : Nat) : Int) = 0 := rfl
      rw [e] at this
      omega
    · intro hz
      have := best_cnt n (spB s) (all_twoB n s h)
      unfold fewS at hz
      rwa [hz] at this
  rw [← h0, hc]
  constructor
  · intro hp hz
    rw [hz] at hp
    obtain ⟨w, hw⟩ := List.exists_mem_of_length_pos hp
    have := ((mem_wl 0 n w).1 hw).2
    simp [bitN] at this
  · intro hz
    refine Classical.byContradiction fun hc => hz ?_
    refine Nat.eq_of_testBit_eq fun i => ?_
    rw [Nat.zero_testBit]
    cases hb : (tabS n s).testBit i with
    | false => rfl
    | true =>
      have hb := (bit_test _ _).2 hb
      have hm : i ∈ wl (tabS n s) n := (mem_wl _ _ _).2 ⟨((tabS_bit n s i).1 hb).1, hb⟩
      exact absurd (List.length_pos_of_mem hm) hc
end Go.Proofs.Ytcaogllnbpmcgaa.M

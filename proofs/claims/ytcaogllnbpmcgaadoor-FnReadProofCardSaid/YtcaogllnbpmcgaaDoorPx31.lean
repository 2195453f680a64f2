/- Go's functions come to just the answers of the Lean functions told here. -/
import Derived.Test.YtcaogllnbpmcgaaDoorPx1
set_option maxHeartbeats 8000000
set_option maxRecDepth 100000
namespace Go.Proofs.YtcaogllnbpmcgaaDoor.P
open Go.RowKit Go.Proofs.YtcaogllnbpmcgaaDoorW.PrintWords Go.Proofs.YtcaogllnbpmcgaaDoorW.PrintLast Go.Proofs.YtcaogllnbpmcgaaDoorW.PrintMore
attribute [local go_sem] max2_int min2_int max_two min_two max_three min_three max_four min_four
set_option linter.unusedVariables false
set_option linter.unusedSimpArgs false
attribute [local go_sem high] eqA68
mutual
def laws_sameProof.j0 : Nat → Bool → Int → List (S68) → Int → List (S68) → Option (Bool)
 | 0, _, _, _, _, _ => none
 | k + 1, x19, x522000, x522001, x523000, x523001 => if x19 = true then (some false) else (laws_sameProof.l0 k 0 x522000 x522001 x523000 x523001)
def laws_sameProof.l0 : Nat → Int → Int → List (S68) → Int → List (S68) → Option (Bool)
 | 0, _, _, _, _, _ => none
 | k + 1, x5, x522000, x522001, x523000, x523001 => if x5 < (x522001.length : Int) then (if 0 ≤ x5 then (if x5 < (x523001.length : Int) then (if (!(((rd_T68 x522001 x5).f0) == ((rd_T68 x523001 x5).f0)) || (!(((rd_T68 x522001 x5).f1) == ((rd_T68 x523001 x5).f1)) || (!(((rd_T68 x522001 x5).f2) == ((rd_T68 x523001 x5).f2))))) = true then (some false) else (laws_sameProof.l0 k (wrap64 (x5 + 1)) x522000 x522001 x523000 x523001)) else (none)) else (none)) else (some true)
end
def laws_sameProof.f (k : Nat) (a0_0 : Int) (l0_1 : List (S68)) (a1_0 : Int) (l1_1 : List (S68)) : Option (Bool) := if a0_0 = a1_0 then (laws_sameProof.j0 k ((l0_1.length : Int) != (l1_1.length : Int)) a0_0 l0_1 a1_0 l1_1) else (laws_sameProof.j0 k true a0_0 l0_1 a1_0 l1_1)
theorem laws_sameProof.calls (k : Nat) (q : Int) (s : Option Addr) (t : Nat) (b : List (S68)) (u : Int) (D : Option Addr) (E : Nat) (d : List (S68)) (r : Bool) (w : World) (ar : Kd.C k68 w s b.length b) (au : b.length ≤ t) (av : Kd.C k68 w D d.length d) (aw : d.length ≤ E) (h : laws_sameProof.f k q b u d = some r) :
  Calls Tryd.prog 28 #[.agg #[.int .i64 q, .slice s b.length t], .agg #[.int .i64 u, .slice D d.length E]] w fun e w' => e = .returned (.bool r) ∧ Below w.heap.size w w' := by
 have bq := Tryd.underlying27
 have br := Tryd.underlying68
 have ax := mk_ ar
 have ba := mk_ au
 clear ar au
 have ay := mk_ av
 have bb := mk_ aw
 clear av aw
 have HB := mk_ (Below.refl w.heap.size w)
 unfold laws_sameProof.f at h
 have H := h
 clear h
 have aB := mk_ H
 clear H
 go_enter Tryd.func28, Tryd.ntmps28
 go_upto_region 1 with (first | ((with_reducible refine gate_dst (N := 2) rfl ?_); (try (refine gate_guard (by rfl) ?_; dsimp only)); refine bx_ 2 #[.int .i64 q, .slice s b.length t] 27 ?_; intro i hg w4 m hb; have a := mk_ (m); have M := gm_ hg HB.out; have az := M; replace HB := hs_ HB hb; clear hb m hg) | ((with_reducible refine gate_dst (N := 3) rfl ?_); (try (refine gate_guard (by rfl) ?_; dsimp only)); refine bx_ 3 #[.int .i64 u, .slice D d.length E] 27 ?_; intro l hg w5 m hb; have j := mk_ (m); have aa := gw_ hg HB.out; have aA := aa; replace HB := ht_ HB hb; have n := nl_ hg a.out; have p := ng_ hg a.out; replace a := mk_ (blk_at a.out hb); clear hb m hg))
 repeat (go_quiet (first | ((with_reducible refine gate_dst (N := 2) rfl ?_); (try (refine gate_guard (by rfl) ?_; dsimp only)); refine bx_ 2 #[.int .i64 q, .slice s b.length t] 27 ?_; intro i hg w4 m hb; have I := mk_ (below_step (below_at HB.out) hb); have J := mk_ (m); have K := mk_ (gb_ hg HB.out); have L := mk_ (gb_ hg HB.out); clear HB; have HB := I; have a := J; have M := K; have az := L; clear I J K L; clear hb m hg) | ((with_reducible refine gate_dst (N := 3) rfl ?_); (try (refine gate_guard (by rfl) ?_; dsimp only)); refine bx_ 3 #[.int .i64 u, .slice D d.length E] 27 ?_; intro l hg w5 m hb; have I := mk_ (blk_at a.out hb); have J := mk_ (below_step (at_ HB.out) hb); have K := mk_ (m); have L := mk_ ((by rw [hg]; exact (below_size (at_ HB.out)) : w.heap.size ≤ l)); have ac := mk_ ((by rw [hg]; exact (below_size (at_ HB.out)) : w.heap.size ≤ l)); have ad := mk_ ((by rw [hg]; exact Nat.ne_of_lt (blk_lt (g := i) (o := .cells #[.int .i64 q, .slice s b.length t] 27 (0, 0)) (bk_ a.out)) : i ≠ l)); have ae := mk_ ((by rw [hg]; exact Nat.ne_of_gt (blk_lt (g := i) (o := .cells #[.int .i64 q, .slice s b.length t] 27 (0, 0)) (bk_ a.out)) : l ≠ i)); clear a; clear HB; have a := I; have HB := J; have j := K; have aa := L; have aA := ac; have n := ad; have p := ae; clear I J K L ac ad ae; clear hb m hg)); go_upto_region 1 with (first | ((with_reducible refine gate_dst (N := 2) rfl ?_); (try (refine gate_guard (by rfl) ?_; dsimp only)); refine bx_ 2 #[.int .i64 q, .slice s b.length t] 27 ?_; intro i hg w4 m hb; have a := mk_ (m); have M := gm_ hg HB.out; have az := M; replace HB := hs_ HB hb; clear hb m hg) | ((with_reducible refine gate_dst (N := 3) rfl ?_); (try (refine gate_guard (by rfl) ?_; dsimp only)); refine bx_ 3 #[.int .i64 u, .slice D d.length E] 27 ?_; intro l hg w5 m hb; have I := mk_ (blk_at a.out hb); have J := mk_ (below_step (at_ HB.out) hb); have K := mk_ (m); have L := mk_ ((by rw [hg]; exact (below_size (at_ HB.out)) : w.heap.size ≤ l)); have ac := mk_ ((by rw [hg]; exact (below_size (at_ HB.out)) : w.heap.size ≤ l)); have ad := mk_ ((by rw [hg]; exact Nat.ne_of_lt (blk_lt (g := i) (o := .cells #[.int .i64 q, .slice s b.length t] 27 (0, 0)) (bk_ a.out)) : i ≠ l)); have ae := mk_ ((by rw [hg]; exact Nat.ne_of_gt (blk_lt (g := i) (o := .cells #[.int .i64 q, .slice s b.length t] 27 (0, 0)) (bk_ a.out)) : l ≠ i)); clear a; clear HB; have a := I; have HB := J; have j := K; have aa := L; have aA := ac; have n := ad; have p := ae; clear I J K L ac ad ae; clear hb m hg)))
 (try simp only [Act.put, z0_, z1_, z2_])
 go_cut [19] (fun a9 wc => ∃ (kq : Nat) (ab : Bool), a9 = .bool ab ∧ Aside0 (laws_sameProof.j0 kq ab q b u d = some r) ∧ Aside0 (kq ≤ k) ∧ Aside0 (wc.heap[i]? = some (.cells #[.int .i64 q, (.slice s b.length t)] 27 (0, 0))) ∧ Aside0 (wc.heap[l]? = some (.cells #[.int .i64 u, (.slice D d.length E)] 27 (0, 0))) ∧ Aside0 (Below w.heap.size w wc))
 case first =>
  have H := aB.out
  clear aB
  revert H; refine it_ (qt_ fun G ao H => ?_) (qfk_ fun c6 G ao H => ?_)
  ·(first | rw [G] | (simp only [i64_w, i32_w]; rw [G]) | skip)
   have H' := mk_ H
   clear H
   have bs := n.out
   have bu := p.out
   obtain ⟨af, ag, ah, ai⟩ := b2_ a
   obtain ⟨aj, ak, al, am⟩ := b2_ j
   go_wp2
   repeat (go_quiet (fail); try go_wp2)
   go_meet
   case rel => exact ⟨_, (((b.length : Int) != (d.length : Int))), sm_, H', ⟨by first | omega | exact Nat.le_refl _⟩, ⟨by refine bs_ ?_; exact a.out⟩, ⟨by refine bs_ ?_; exact j.out⟩, ⟨at_ HB.out⟩⟩
  (first | rw [G] | (simp only [i64_w, i32_w]; rw [G]) | skip)
  have H' := mk_ H
  clear H
  have bc := n.out
  have be := p.out
  obtain ⟨O, P, T, U⟩ := b2_ a
  obtain ⟨W, X, Y, Z⟩ := b2_ j
  go_wp2
  repeat (go_quiet (fail); try go_wp2)
  go_meet
  case rel => exact ⟨_, (true), sm_, H', ⟨by first | omega | exact Nat.le_refl _⟩, ⟨by refine bs_ ?_; exact a.out⟩, ⟨by refine bs_ ?_; exact j.out⟩, ⟨at_ HB.out⟩⟩
 clear aB
 try clear c6
 try clear G
 try clear ao
 try clear O
 try clear P
 try clear W
 try clear X
 try clear af
 try clear ag
 try clear aj
 try clear ak
 try clear T
 try clear U
 try clear Y
 try clear Z
 try clear ah
 try clear ai
 try clear al
 try clear am
 obtain ⟨kq, ab, rfl, HA, aG, a, j, HB⟩ := hcut
 cases kq with
 | zero => exact absurd HA.out (by simp [laws_sameProof.j0])
 | succ aH =>
  have H := HA.out
  clear HA
  simp only [laws_sameProof.j0] at H
  revert H; refine ib_ ?_ ?_ <;> rintro rfl H
  ·obtain rfl := Option.some.inj H
   go_wp2
   repeat (go_quiet (fail); try go_wp2)
   go_ret
   exact ⟨er_, at_ HB.out⟩
  have H' := mk_ H
  clear H
  go_wp2
  repeat (go_quiet (fail); try go_wp2)
  go_loopg [5] aH (fun kq v5 w' => ∃ (c : Int), v5 = .int .i64 c ∧ Aside0 (laws_sameProof.l0 kq c q b u d = some r) ∧ Aside0 (kq ≤ aH) ∧ Aside0 (w'.heap[i]? = some (.cells #[.int .i64 q, (.slice s b.length t)] 27 (0, 0))) ∧ Aside0 (w'.heap[l]? = some (.cells #[.int .i64 u, (.slice D d.length E)] 27 (0, 0))) ∧ Aside0 (Below w.heap.size w w'))
  case atStart => exact ⟨(0), sm_, H', ⟨Nat.le_refl _⟩, ⟨by refine bs_ ?_; exact a.out⟩, ⟨by refine bs_ ?_; exact j.out⟩, ⟨at_ HB.out⟩⟩
  clear H'
  try clear c6
  try clear G
  try clear ao
  try clear O
  try clear P
  try clear W
  try clear X
  try clear af
  try clear ag
  try clear aj
  try clear ak
  try clear T
  try clear U
  try clear Y
  try clear Z
  try clear ah
  try clear ai
  try clear al
  try clear am
  obtain ⟨c, rfl, HA, aI, a, j, HB⟩ := hrel
  cases gk with
  | zero => exact absurd HA.out (by simp [laws_sameProof.l0])
  | succ k2 =>
   have H := HA.out
   clear HA
   simp only [laws_sameProof.l0] at H
   revert H; refine ti_ (df_ fun aC H => ?_) (dt_ fun aC H => ?_)
   ·obtain rfl := Option.some.inj H
    have bf := n.out
    have bg := p.out
    have aN : wr.cell? ⟨i, 0, none⟩ = some (.int .i64 q) := (blk_cell a.out 0).trans rfl
    have aO : wr.cell? ⟨i, 1, none⟩ = some (.slice s b.length t) := (blk_cell a.out 1).trans rfl
    have aP := blk_frozen a.out 0
    have aQ := blk_frozen a.out 1
    go_wp2
    repeat (go_quiet (fail); try go_wp2)
    go_ret
    exact ⟨er_, at_ HB.out⟩
   revert H; refine g_ (dt_ fun bh => g_ (dt_ fun bj => it_ (fun an H => ?_) fun an H => ?_))
   ·have aD : (!(((rd_T68 b c).f0) == ((rd_T68 d c).f0)) || (!(((rd_T68 b c).f1) == ((rd_T68 d c).f1)) || (!(((rd_T68 b c).f2) == ((rd_T68 d c).f2))))) = true := an
    clear an
    obtain rfl := Option.some.inj H
    have bk := n.out
    have bn := p.out
    have aR : wr.cell? ⟨i, 0, none⟩ = some (.int .i64 q) := (blk_cell a.out 0).trans rfl
    have aS : wr.cell? ⟨i, 1, none⟩ = some (.slice s b.length t) := (blk_cell a.out 1).trans rfl
    have aT := blk_frozen a.out 0
    have aU := blk_frozen a.out 1
    obtain ⟨aE, ap, v, x, y⟩ := at_T68 ax.out c oa_ oa_
    cases ap
    replace v := cel HB.out v
    replace x := cel HB.out x
    replace y := cel HB.out y
    obtain ⟨aJ, aK⟩ := pq_ (c : Int) (b.length : Int)
    have aV : wr.cell? ⟨l, 0, none⟩ = some (.int .i64 u) := (blk_cell j.out 0).trans rfl
    have aW : wr.cell? ⟨l, 1, none⟩ = some (.slice D d.length E) := (blk_cell j.out 1).trans rfl
    have aX := blk_frozen j.out 0
    have aY := blk_frozen j.out 1
    obtain ⟨aF, aq, z, A, B⟩ := at_T68 ay.out c oa_ oa_
    cases aq
    replace z := cel HB.out z
    replace A := cel HB.out A
    replace B := cel HB.out B
    obtain ⟨aL, aM⟩ := pq_ (c : Int) (d.length : Int)
    go_wp2
    repeat (go_quiet (fail); try go_wp2)
    go_ret
    exact ⟨er_, at_ HB.out⟩
   have aD : (!(((rd_T68 b c).f0) == ((rd_T68 d c).f0)) || (!(((rd_T68 b c).f1) == ((rd_T68 d c).f1)) || (!(((rd_T68 b c).f2) == ((rd_T68 d c).f2))))) = false := by simpa using an
   clear an
   have H' := mk_ H
   clear H
   have bo := n.out
   have bp := p.out
   have aZ : wr.cell? ⟨i, 0, none⟩ = some (.int .i64 q) := (blk_cell a.out 0).trans rfl
   have a0 : wr.cell? ⟨i, 1, none⟩ = some (.slice s b.length t) := (blk_cell a.out 1).trans rfl
   have a1 := blk_frozen a.out 0
   have a2 := blk_frozen a.out 1
   obtain ⟨aE, ap, v, x, y⟩ := at_T68 ax.out c oa_ oa_
   cases ap
   replace v := cel HB.out v
   replace x := cel HB.out x
   replace y := cel HB.out y
   obtain ⟨aJ, aK⟩ := pq_ (c : Int) (b.length : Int)
   have a3 : wr.cell? ⟨l, 0, none⟩ = some (.int .i64 u) := (blk_cell j.out 0).trans rfl
   have a4 : wr.cell? ⟨l, 1, none⟩ = some (.slice D d.length E) := (blk_cell j.out 1).trans rfl
   have a5 := blk_frozen j.out 0
   have a6 := blk_frozen j.out 1
   obtain ⟨aF, aq, z, A, B⟩ := at_T68 ay.out c oa_ oa_
   cases aq
   replace z := cel HB.out z
   replace A := cel HB.out A
   replace B := cel HB.out B
   obtain ⟨aL, aM⟩ := pq_ (c : Int) (d.length : Int)
   go_wp2
   repeat (go_quiet (fail); try go_wp2)
   go_roundg k2
   case measure => have := aG.out; have := aI.out; omega
   case rel => exact ⟨(wrap64 (c + 1)), sm_, H', ⟨by have := aG.out; have := aI.out; omega⟩, ⟨by refine bs_ ?_; exact a.out⟩, ⟨by refine bs_ ?_; exact j.out⟩, ⟨at_ HB.out⟩⟩
end Go.Proofs.YtcaogllnbpmcgaaDoor.P

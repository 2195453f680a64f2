/- Drawn links: each draw ends; they are few. -/
import Derived.Test.YtnmkifpifmdplaaMLinksOk
import Derived.Test.YtnmkifpifmdplaaMPick
import Derived.Test.YtnmkifpifmdplaaPx14
set_option linter.unusedVariables false
set_option linter.unusedSimpArgs false
namespace Go.Proofs.Ytnmkifpifmdplaa.M
open Go Go.RowKit Go.Proofs.YtnmkifpifmdplaaW.PrintWords Go.Proofs.Ytnmkifpifmdplaa.P
theorem links_ex (b : List Int) (hb : Bytes b) (n : Int) : ∀ (d p : Nat) (acc : List Lnk), p + 4 * d ≤ 1000 → acc.length + d ≤ 100 →
    ∃ m s q, Ev (fun k => spec_l20Links.l0 k n acc (d : Int) b ((p : Nat) : Int)) (m, s, ((q : Nat) : Int)) ∧ s.length ≤ acc.length + d ∧ q ≤ p + 4 * d + 1 := by
  intro d
  induction d with
  | zero =>
    intro p acc hp ha
    obtain ⟨r1, e1, _⟩ := pickE b hb p (by omega) 60
    refine ⟨wrap64 (n + wrap64 (wrap64 (Int.tdiv (r1 : Int) 59) * 4)), acc, p + 1, Ev.step (fun k => by rw [spec_l20Links.l0]) ?_, by omega, by omega⟩
    refine ev_neg (by decide) ?_
    refine ev_bind e1 ?_
    exact ev_ret rfl
  | succ d ih =>
    intro p acc hp ha
    obtain ⟨r1, e1, _⟩ := pickE b hb p (by omega) n
    obtain ⟨r2, e2, _⟩ := pickE b hb (p + 1) (by omega) n
    obtain ⟨r3, e3, _⟩ := pickE b hb (p + 2) (by omega) 90
    obtain ⟨r4, e4, _⟩ := pickE b hb (p + 3) (by omega) 2
    obtain ⟨m, s, q, hE, hs, hq⟩ := ih (p + 4) (acc ++ [⟨(r1 : Int), wrap64 ((r2 : Int) + wrap64 (wrap64 (Int.tdiv (r3 : Int) 89) * 4)), ((r4 : Int) == 0)⟩]) (by omega) (by simp; omega)
    refine ⟨m, s, q, Ev.step (fun k => by rw [spec_l20Links.l0]) ?_, by simp at hs; omega, by omega⟩
    rw [w64 (x := ((d + 1 : Nat) : Int) - 1) (by omega) (by omega), show ((d + 1 : Nat) : Int) - 1 = (d : Int) by omega]
    refine ev_pos (by omega) ?_
    refine ev_bind e1 ?_
    refine ev_bind e2 ?_
    refine ev_bind e3 ?_
    refine ev_bind e4 ?_
    refine ev_pos (by omega) ?_
    exact hE
theorem l20LinksE (b : List Int) (hb : Bytes b) (p : Nat) (hp : p ≤ 100) : ∃ n s q, Ev (fun k => spec_l20Links.f k b (p : Int)) (n, s, ((q : Nat) : Int)) ∧ s.length ≤ 20 ∧ q ≤ p + 100 := by
  obtain ⟨r1, e1, _⟩ := pickE b hb p (by omega) 4
  obtain ⟨r2, e2, b2, _⟩ := pickE b hb (p + 1) (by omega) 6
  obtain ⟨r3, e3, b3, _⟩ := pickE b hb (p + 2) (by omega) 40
  have b2 := b2 (by omega)
  have b3 := b3 (by omega)
  have hq : Int.tdiv (r3 : Int) 39 = ((r3 / 39 : Nat) : Int) := rfl
  obtain ⟨n, s, q, hE, hs, hq'⟩ := links_ex b hb (wrap64 (1 + (r1 : Int))) (r2 + r3 / 39 * 3) (p + 3) [] (by omega) (by simp; omega)
  refine ⟨n, s, q, ?_, by simp at hs; omega, by omega⟩
  unfold spec_l20Links.f
  refine ev_bind e1 ?_
  refine ev_bind e2 ?_
  refine ev_bind e3 ?_
  dsimp only
  rw [hq, w64 (x := ((r3 / 39 : Nat) : Int)) (by omega) (by omega), w64 (x := ((r3 / 39 : Nat) : Int) * 3) (by omega) (by omega), w64 (x := (r2 : Int) + ((r3 / 39 : Nat) : Int) * 3) (by omega) (by omega), show (r2 : Int) + ((r3 / 39 : Nat) : Int) * 3 = ((r2 + r3 / 39 * 3 : Nat) : Int) by omega]
  exact hE
end Go.Proofs.Ytnmkifpifmdplaa.M

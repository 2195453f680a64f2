/- The exact laws' helper that marks links: it ends, and tells a number that isn't below 0. -/
import Derived.Test.YtnmkifpifmdplaaMLinksOk
import Derived.Test.YtnmkifpifmdplaaPx24
set_option linter.unusedVariables false
set_option linter.unusedSimpArgs false
namespace Go.Proofs.Ytnmkifpifmdplaa.M
open Go Go.RowKit Go.Proofs.YtnmkifpifmdplaaW.PrintWords Go.Proofs.Ytnmkifpifmdplaa.P
theorem mark_links_l (n : Nat) (hn : n ≤ 1048576) : ∀ d i (x : List Lnk) (a : Nat), i + d = n → x.length = n → a ≤ 1 + 3 * i → ∃ (b : Nat) (y : List Lnk), Ev (fun k => laws_markLinkS.l0 k x (a : Int) (i : Int)) ((b : Int), y) := by
  intro d
  induction d with
  | zero =>
    intro i x a hi hx ha
    refine ⟨a, x, Ev.step (fun k => by rw [laws_markLinkS.l0]) ?_⟩
    exact ev_neg (by omega) (ev_ret rfl)
  | succ d ih =>
    intro i x a hi hx ha
    obtain ⟨b, y, hE⟩ := ih (i + 1) (((x.set i (⟨(a : Int), (x.getD i zL).f1, (x.getD i zL).f2⟩ : Lnk)).set i (⟨((x.set i (⟨(a : Int), (x.getD i zL).f1, (x.getD i zL).f2⟩ : Lnk)).getD i zL).f0, ((a + 1 : Nat) : Int), ((x.set i (⟨(a : Int), (x.getD i zL).f1, (x.getD i zL).f2⟩ : Lnk)).getD i zL).f2⟩ : Lnk)).set i
      (⟨(((x.set i (⟨(a : Int), (x.getD i zL).f1, (x.getD i zL).f2⟩ : Lnk)).set i (⟨((x.set i (⟨(a : Int), (x.getD i zL).f1, (x.getD i zL).f2⟩ : Lnk)).getD i zL).f0, ((a + 1 : Nat) : Int), ((x.set i (⟨(a : Int), (x.getD i zL).f1, (x.getD i zL).f2⟩ : Lnk)).getD i zL).f2⟩ : Lnk)).getD i zL).f0, (((x.set i (⟨(a : Int), (x.getD i zL).f1, (x.getD i zL).f2⟩ : Lnk)).set i (⟨((x.set i (⟨(a : Int), (x.getD i zL).f1, (x.getD i zL).f2⟩ : Lnk)).getD i zL).f0, ((a + 1 : Nat) : Int), ((x.set i (⟨(a : Int), (x.getD i zL).f1, (x.getD i zL).f2⟩ : Lnk)).getD i zL).f2⟩ : Lnk)).getD i zL).f1, ((Int.tmod ((a + 2 : Nat) : Int) 3) == 0)⟩ : Lnk)) (a + 3) (by omega) (by simpa using hx) (by omega)
    refine ⟨b, y, Ev.step (fun k => by rw [laws_markLinkS.l0]) ?_⟩
    rw [w64s (i := i) (by omega), w64s (i := a) (by omega), w64s (i := a + 1) (by omega), w64s (i := a + 1 + 1) (by omega)]
    simp only [rdLnk, Int.toNat_natCast]
    refine ev_pos (by omega) ?_
    refine ev_pos (by omega) ?_
    refine ev_bindc rfl ?_
    refine ev_bindc rfl ?_
    exact hE
theorem mark_links (x : List Lnk) (hn : x.length ≤ 1048576) : ∃ (b : Nat) (y : List Lnk), Ev (fun k => laws_markLinkS.f k x 1) ((b : Int), y) := by
  unfold laws_markLinkS.f
  exact mark_links_l x.length hn x.length 0 x 1 (by omega) rfl (by omega)
end Go.Proofs.Ytnmkifpifmdplaa.M

/- The tied card of FnReadProof: the law's row is proved, for every input; the three tables of the library that its row lists are tied to the program's text by the given tie. -/
import Derived.Test.YtcaogllnbpmcgaaDoorCards
import Derived.Test.YtcaogllnbpmcgaaDoorTie
import Derived.Test.YtcaogllnbpmcgaaDoorLawFnReadProof
import Derived.SevenTiedAt
namespace Go.Proofs.YtcaogllnbpmcgaaDoor.fnReadProofC
open Go
theorem who (f : FuncId) (fn : Func) (hf : Tryd.prog.funcNamed "loop.example/tellersandliars/laws.FnReadProof" = some f) (hfn : Tryd.prog.funcs[f]? = some fn) : false = Tryd.prog.looks [] ∧ ∀ (j : Nat) t, fn.params[j]? = some t → Tryd.prog.wantsStandIn t = false := by
  obtain rfl : f = 6 := Option.some.inj ((show Tryd.prog.funcNamed "loop.example/tellersandliars/laws.FnReadProof" = some 6 by kernel_rfl).symm.trans hf) |>.symm
  obtain rfl : fn = Tryd.f6 := (Option.some.inj (Tryd.func6.symm.trans hfn)).symm
  refine ⟨by kernel_rfl, fun j t ht => ?_⟩
  rw [Tryd.params6] at ht
  have hm : t ∈ [22] := by
    have := Array.mem_of_getElem? ht
    simpa using this
  simp only [List.mem_cons, List.not_mem_nil, or_false] at hm
  rcases hm with rfl
  · exact (show Tryd.prog.wantsStandIn 22 = false by kernel_rfl)
end Go.Proofs.YtcaogllnbpmcgaaDoor.fnReadProofC
namespace Go.Proofs.YtcaogllnbpmcgaaDoor
open Go
/-- The tied card. -/
theorem fnReadProofCard_holds : Rows.FnReadProofCardSaid :=
  Claim7.holds_tied_plain_at .later [] [.data, .data, .data] true (true, "e0cbe189a45b692cac2a92c4bfa61719094ae2ce4ee3ed49ffae5867553291cd") false fnReadProof.over (fun _ h => by cases h) (by kernel_rfl) (fun _ h => by cases h) fnReadProof_row_tie rfl ⟨rfl, rfl⟩ (by kernel_rfl) rfl fnReadProofC.who (by kernel_rfl)
end Go.Proofs.YtcaogllnbpmcgaaDoor

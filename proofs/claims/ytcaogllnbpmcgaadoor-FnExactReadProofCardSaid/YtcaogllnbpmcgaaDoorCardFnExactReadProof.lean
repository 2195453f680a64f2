/- The tied card of FnExactReadProof: the law's row is proved, for every input; the three tables of the library that its row lists are tied to the program's text by the given tie. -/
import Derived.Test.YtcaogllnbpmcgaaDoorCards
import Derived.Test.YtcaogllnbpmcgaaDoorTie
import Derived.Test.YtcaogllnbpmcgaaDoorLawFnExactReadProof
import Derived.SevenTiedAt
namespace Go.Proofs.YtcaogllnbpmcgaaDoor.fnExactReadProofC
open Go
theorem who (f : FuncId) (fn : Func) (hf : Tryd.prog.funcNamed "loop.example/tellersandliars/laws.FnExactReadProof" = some f) (hfn : Tryd.prog.funcs[f]? = some fn) : false = Tryd.prog.looks [] ∧ ∀ (j : Nat) t, fn.params[j]? = some t → Tryd.prog.wantsStandIn t = false := by
  obtain rfl : f = 5 := Option.some.inj ((show Tryd.prog.funcNamed "loop.example/tellersandliars/laws.FnExactReadProof" = some 5 by kernel_rfl).symm.trans hf) |>.symm
  obtain rfl : fn = Tryd.f5 := (Option.some.inj (Tryd.func5.symm.trans hfn)).symm
  refine ⟨by kernel_rfl, fun j t ht => ?_⟩
  rw [Tryd.params5] at ht
  have hm : t ∈ [3, 36, 37, 9] := by
    have := Array.mem_of_getElem? ht
    simpa using this
  simp only [List.mem_cons, List.not_mem_nil, or_false] at hm
  rcases hm with rfl | rfl | rfl | rfl
  · exact (show Tryd.prog.wantsStandIn 3 = false by kernel_rfl)
  · exact (show Tryd.prog.wantsStandIn 36 = false by kernel_rfl)
  · exact (show Tryd.prog.wantsStandIn 37 = false by kernel_rfl)
  · exact (show Tryd.prog.wantsStandIn 9 = false by kernel_rfl)
end Go.Proofs.YtcaogllnbpmcgaaDoor.fnExactReadProofC
namespace Go.Proofs.YtcaogllnbpmcgaaDoor
open Go
/-- The tied card. -/
theorem fnExactReadProofCard_holds : Rows.FnExactReadProofCardSaid :=
  Claim7.holds_tied_plain_at .later [] [.data, .data, .data] true (true, "e0cbe189a45b692cac2a92c4bfa61719094ae2ce4ee3ed49ffae5867553291cd") false fnExactReadProof.over (fun _ h => by cases h) (by kernel_rfl) (fun _ h => by cases h) fnExactReadProof_row_tie rfl ⟨rfl, rfl⟩ (by kernel_rfl) rfl fnExactReadProofC.who (by kernel_rfl)
end Go.Proofs.YtcaogllnbpmcgaaDoor

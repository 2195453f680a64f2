/-
  No cell of these rows narrows 'for every input' (looked for: loops, veiled, ifaces, maps, wideKeys, modest, calm, conditions, laid).
  DERIVED. THE GIVEN ROWS OF THIS SEAT. 9 by the template 'for every input the law returns true; each argument reads behind the call as it read before'; 0 by the template 'total and deterministic' (their statements: YtcaogllnbpmcgaaTotals.lean).
  GIVEN WITH THE SEED: the statements are not yours to turn. If you find one false, say at which input.
  Laid BY PROGRAM, IN A SANDBOX (cutbox-rows.mjs): the forced cells as the released guide's own fill.sh prints them over the translation 582e0922a927eb6a… (all of the seat's roots in one cut). By AI agents, Wed Nov 11 2026. No macro, syntax, notation, axiom, sorry.
-/
import Derived.Test.YtcaogllnbpmcgaaChecked
import GoSem.Claim
import GoSem.ClaimJoined
import GoSem.ClaimMapViews
import Derived.JoinedTies
import Derived.KernelRfl
namespace Go.Proofs.Ytcaogllnbpmcgaa
/- THE CELL 'sum', in the pinned program and in every row, IS THE sha256 OF THE DUMP (.gsa) THAT YtcaogllnbpmcgaaProg.lean LOADS. Nothing in Lean hashes anything: it is a label: what it is worth is what the hold of that sum in a sandbox is worth. -/
noncomputable def Try.pinned : Pinned := { name := "ytcaogllnbpmcgaa", sum := "582e0922a927eb6a5ae4d50cd90b976290ad3d751df9c6f1d99491d86801b0e9", checked := Try.checked }
namespace Rows
def none {H : Type} : Left H := { results := [], args := [] }

/-- 'laws.FnExactSpyRows': WHATEVER THE INPUT: true; the input reads as it did. -/
def fnExactSpyRowsSpec : ChangeSpec := { name := "fnExactSpyRows", fn := fun _ => fun
  | [d1, d2, d3] => { results := [.lit (.bool true)], args := [d1, d2, d3] }
  | _ => none }
def fnExactSpyRowsRow : OpenClaim := { program := "ytcaogllnbpmcgaa", sum := "582e0922a927eb6a5ae4d50cd90b976290ad3d751df9c6f1d99491d86801b0e9", func := "loop.example/tellersandliars/laws.FnExactSpyRows", spec := "fnExactSpyRows", unfollowed := true, recurses := true, apart := false }
def FnExactSpyRowsSaid : Prop := fnExactSpyRowsRow.holds Try.pinned (OpenSpec.ofChange fnExactSpyRowsSpec)

/-- ITS FALSE NEIGHBOUR: 'it returns false'. Refute it at one input. -/
def fnExactSpyRowsWrong : ChangeSpec := { name := "fnExactSpyRows", fn := fun _ => fun
  | [d1, d2, d3] => { results := [.lit (.bool false)], args := [d1, d2, d3] }
  | _ => none }
def FnExactSpyRowsWrongFalsely : Prop := fnExactSpyRowsRow.holds Try.pinned (OpenSpec.ofChange fnExactSpyRowsWrong)

/-- 'laws.FnExactFewestSpies': WHATEVER THE INPUT: true; the input reads as it did. -/
def fnExactFewestSpiesSpec : ChangeSpec := { name := "fnExactFewestSpies", fn := fun _ => fun
  | [d1, d2] => { results := [.lit (.bool true)], args := [d1, d2] }
  | _ => none }
def fnExactFewestSpiesRow : OpenClaim := { program := "ytcaogllnbpmcgaa", sum := "582e0922a927eb6a5ae4d50cd90b976290ad3d751df9c6f1d99491d86801b0e9", func := "loop.example/tellersandliars/laws.FnExactFewestSpies", spec := "fnExactFewestSpies", unfollowed := true, recurses := true, apart := false }
def FnExactFewestSpiesSaid : Prop := fnExactFewestSpiesRow.holds Try.pinned (OpenSpec.ofChange fnExactFewestSpiesSpec)

/-- ITS FALSE NEIGHBOUR: 'it returns false'. Refute it at one input. -/
def fnExactFewestSpiesWrong : ChangeSpec := { name := "fnExactFewestSpies", fn := fun _ => fun
  | [d1, d2] => { results := [.lit (.bool false)], args := [d1, d2] }
  | _ => none }
def FnExactFewestSpiesWrongFalsely : Prop := fnExactFewestSpiesRow.holds Try.pinned (OpenSpec.ofChange fnExactFewestSpiesWrong)

/-- 'laws.FnFewestSpies': WHATEVER THE INPUT: true; the input reads as it did. -/
def fnFewestSpiesSpec : ChangeSpec := { name := "fnFewestSpies", fn := fun _ => fun
  | [d] => { results := [.lit (.bool true)], args := [d] }
  | _ => none }
def fnFewestSpiesRow : OpenClaim := { program := "ytcaogllnbpmcgaa", sum := "582e0922a927eb6a5ae4d50cd90b976290ad3d751df9c6f1d99491d86801b0e9", func := "loop.example/tellersandliars/laws.FnFewestSpies", spec := "fnFewestSpies", unfollowed := true, recurses := true, apart := false }
def FnFewestSpiesSaid : Prop := fnFewestSpiesRow.holds Try.pinned (OpenSpec.ofChange fnFewestSpiesSpec)

/-- ITS FALSE NEIGHBOUR: 'it returns false'. Refute it at one input. -/
def fnFewestSpiesWrong : ChangeSpec := { name := "fnFewestSpies", fn := fun _ => fun
  | [d] => { results := [.lit (.bool false)], args := [d] }
  | _ => none }
def FnFewestSpiesWrongFalsely : Prop := fnFewestSpiesRow.holds Try.pinned (OpenSpec.ofChange fnFewestSpiesWrong)

/-- 'laws.FnSpyRows': WHATEVER THE INPUT: true; the input reads as it did. -/
def fnSpyRowsSpec : ChangeSpec := { name := "fnSpyRows", fn := fun _ => fun
  | [d] => { results := [.lit (.bool true)], args := [d] }
  | _ => none }
def fnSpyRowsRow : OpenClaim := { program := "ytcaogllnbpmcgaa", sum := "582e0922a927eb6a5ae4d50cd90b976290ad3d751df9c6f1d99491d86801b0e9", func := "loop.example/tellersandliars/laws.FnSpyRows", spec := "fnSpyRows", unfollowed := true, recurses := true, apart := false }
def FnSpyRowsSaid : Prop := fnSpyRowsRow.holds Try.pinned (OpenSpec.ofChange fnSpyRowsSpec)

/-- ITS FALSE NEIGHBOUR: 'it returns false'. Refute it at one input. -/
def fnSpyRowsWrong : ChangeSpec := { name := "fnSpyRows", fn := fun _ => fun
  | [d] => { results := [.lit (.bool false)], args := [d] }
  | _ => none }
def FnSpyRowsWrongFalsely : Prop := fnSpyRowsRow.holds Try.pinned (OpenSpec.ofChange fnSpyRowsWrong)

/-- 'laws.FnProofBoth': WHATEVER THE INPUT: true; the input reads as it did. -/
def fnProofBothSpec : ChangeSpec := { name := "fnProofBoth", fn := fun _ => fun
  | [d] => { results := [.lit (.bool true)], args := [d] }
  | _ => none }
def fnProofBothRow : OpenClaim := { program := "ytcaogllnbpmcgaa", sum := "582e0922a927eb6a5ae4d50cd90b976290ad3d751df9c6f1d99491d86801b0e9", func := "loop.example/tellersandliars/laws.FnProofBoth", spec := "fnProofBoth", unfollowed := true, recurses := true, apart := false }
def FnProofBothSaid : Prop := fnProofBothRow.holds Try.pinned (OpenSpec.ofChange fnProofBothSpec)

/-- ITS FALSE NEIGHBOUR: 'it returns false'. Refute it at one input. -/
def fnProofBothWrong : ChangeSpec := { name := "fnProofBoth", fn := fun _ => fun
  | [d] => { results := [.lit (.bool false)], args := [d] }
  | _ => none }
def FnProofBothWrongFalsely : Prop := fnProofBothRow.holds Try.pinned (OpenSpec.ofChange fnProofBothWrong)

/-- 'laws.FnExactProofOk': WHATEVER THE INPUT: true; the input reads as it did. -/
def fnExactProofOkSpec : ChangeSpec := { name := "fnExactProofOk", fn := fun _ => fun
  | [d1, d2, d3, d4] => { results := [.lit (.bool true)], args := [d1, d2, d3, d4] }
  | _ => none }
def fnExactProofOkRow : OpenClaim := { program := "ytcaogllnbpmcgaa", sum := "582e0922a927eb6a5ae4d50cd90b976290ad3d751df9c6f1d99491d86801b0e9", func := "loop.example/tellersandliars/laws.FnExactProofOk", spec := "fnExactProofOk", unfollowed := true, recurses := true, apart := false }
def FnExactProofOkSaid : Prop := fnExactProofOkRow.holds Try.pinned (OpenSpec.ofChange fnExactProofOkSpec)

/-- ITS FALSE NEIGHBOUR: 'it returns false'. Refute it at one input. -/
def fnExactProofOkWrong : ChangeSpec := { name := "fnExactProofOk", fn := fun _ => fun
  | [d1, d2, d3, d4] => { results := [.lit (.bool false)], args := [d1, d2, d3, d4] }
  | _ => none }
def FnExactProofOkWrongFalsely : Prop := fnExactProofOkRow.holds Try.pinned (OpenSpec.ofChange fnExactProofOkWrong)

/-- 'laws.FnExactFindProof': WHATEVER THE INPUT: true; the input reads as it did. -/
def fnExactFindProofSpec : ChangeSpec := { name := "fnExactFindProof", fn := fun _ => fun
  | [d1, d2, d3] => { results := [.lit (.bool true)], args := [d1, d2, d3] }
  | _ => none }
def fnExactFindProofRow : OpenClaim := { program := "ytcaogllnbpmcgaa", sum := "582e0922a927eb6a5ae4d50cd90b976290ad3d751df9c6f1d99491d86801b0e9", func := "loop.example/tellersandliars/laws.FnExactFindProof", spec := "fnExactFindProof", unfollowed := true, recurses := true, apart := false }
def FnExactFindProofSaid : Prop := fnExactFindProofRow.holds Try.pinned (OpenSpec.ofChange fnExactFindProofSpec)

/-- ITS FALSE NEIGHBOUR: 'it returns false'. Refute it at one input. -/
def fnExactFindProofWrong : ChangeSpec := { name := "fnExactFindProof", fn := fun _ => fun
  | [d1, d2, d3] => { results := [.lit (.bool false)], args := [d1, d2, d3] }
  | _ => none }
def FnExactFindProofWrongFalsely : Prop := fnExactFindProofRow.holds Try.pinned (OpenSpec.ofChange fnExactFindProofWrong)

/-- 'laws.FnFindProof': WHATEVER THE INPUT: true; the input reads as it did. -/
def fnFindProofSpec : ChangeSpec := { name := "fnFindProof", fn := fun _ => fun
  | [d] => { results := [.lit (.bool true)], args := [d] }
  | _ => none }
def fnFindProofRow : OpenClaim := { program := "ytcaogllnbpmcgaa", sum := "582e0922a927eb6a5ae4d50cd90b976290ad3d751df9c6f1d99491d86801b0e9", func := "loop.example/tellersandliars/laws.FnFindProof", spec := "fnFindProof", unfollowed := true, recurses := true, apart := false }
def FnFindProofSaid : Prop := fnFindProofRow.holds Try.pinned (OpenSpec.ofChange fnFindProofSpec)

/-- ITS FALSE NEIGHBOUR: 'it returns false'. Refute it at one input. -/
def fnFindProofWrong : ChangeSpec := { name := "fnFindProof", fn := fun _ => fun
  | [d] => { results := [.lit (.bool false)], args := [d] }
  | _ => none }
def FnFindProofWrongFalsely : Prop := fnFindProofRow.holds Try.pinned (OpenSpec.ofChange fnFindProofWrong)

/-- 'laws.FnProofOk': WHATEVER THE INPUT: true; the input reads as it did. -/
def fnProofOkSpec : ChangeSpec := { name := "fnProofOk", fn := fun _ => fun
  | [d] => { results := [.lit (.bool true)], args := [d] }
  | _ => none }
def fnProofOkRow : OpenClaim := { program := "ytcaogllnbpmcgaa", sum := "582e0922a927eb6a5ae4d50cd90b976290ad3d751df9c6f1d99491d86801b0e9", func := "loop.example/tellersandliars/laws.FnProofOk", spec := "fnProofOk", unfollowed := true, recurses := true, apart := false }
def FnProofOkSaid : Prop := fnProofOkRow.holds Try.pinned (OpenSpec.ofChange fnProofOkSpec)

/-- ITS FALSE NEIGHBOUR: 'it returns false'. Refute it at one input. -/
def fnProofOkWrong : ChangeSpec := { name := "fnProofOk", fn := fun _ => fun
  | [d] => { results := [.lit (.bool false)], args := [d] }
  | _ => none }
def FnProofOkWrongFalsely : Prop := fnProofOkRow.holds Try.pinned (OpenSpec.ofChange fnProofOkWrong)

/- THE SECOND FORM. 'bulk': how many values and letters a reading holds, each counted each time it is reached (what is shared counts as often as it is met; a slice's spare places count too). A statement '..UptoSaid' is the law's where the arguments, and the package variables that the reading takes, are together of bulk at most 1048576: NARROWER than '..Said'. Prove '..Said' where nothing that the law and all that it calls make is longer than what came in: it says more and counts as full. Else prove '..UptoSaid'. A law counts once. -/
mutual
def uptoBulk {H : Type} : DataW H → Nat
  | .lit (.string bytes) => bytes.length + 1
  | .lit _ => 1
  | .nil => 1
  | .ptr d => uptoBulk d + 1
  | .slice elems spare => uptoBulkAll elems + uptoBulkAll spare + 1
  | .agg parts => uptoBulkAll parts + 1
  | .iface _ d => uptoBulk d + 1
  | .map entries => uptoBulkEntries entries + 1
  | .held _ => 1
def uptoBulkAll {H : Type} : List (DataW H) → Nat
  | [] => 0
  | d :: r => uptoBulk d + uptoBulkAll r
def uptoBulkEntries {H : Type} : List (Lit × DataW H) → Nat
  | [] => 0
  | x :: r => uptoBulkEntry x + uptoBulkEntries r
def uptoBulkEntry {H : Type} : Lit × DataW H → Nat
  | (.string bytes, d) => bytes.length + uptoBulk d + 1
  | (_, d) => uptoBulk d + 1
 end
def uptoSmall : (H : Type) → List (DataW H) → Bool := fun _ ds => decide (uptoBulkAll ds ≤ 1048576)
def OpenSpec.upto (s : _root_.Go.ChangeSpec) : _root_.Go.OpenSpec := { _root_.Go.OpenSpec.ofChange s with cond := some uptoSmall }

/-- 'laws.FnExactSpyRows', WHERE WHAT IT READS IS OF BULK AT MOST 1048576: true; the input reads as it did. -/
def fnExactSpyRowsUptoRow : OpenClaim := { program := "ytcaogllnbpmcgaa", sum := "582e0922a927eb6a5ae4d50cd90b976290ad3d751df9c6f1d99491d86801b0e9", func := "loop.example/tellersandliars/laws.FnExactSpyRows", spec := "fnExactSpyRows", unfollowed := true, recurses := true, apart := false, narrowed := true }
def FnExactSpyRowsUptoSaid : Prop := fnExactSpyRowsUptoRow.holds Try.pinned (OpenSpec.upto fnExactSpyRowsSpec)

/-- 'laws.FnExactFewestSpies', WHERE WHAT IT READS IS OF BULK AT MOST 1048576: true; the input reads as it did. -/
def fnExactFewestSpiesUptoRow : OpenClaim := { program := "ytcaogllnbpmcgaa", sum := "582e0922a927eb6a5ae4d50cd90b976290ad3d751df9c6f1d99491d86801b0e9", func := "loop.example/tellersandliars/laws.FnExactFewestSpies", spec := "fnExactFewestSpies", unfollowed := true, recurses := true, apart := false, narrowed := true }
def FnExactFewestSpiesUptoSaid : Prop := fnExactFewestSpiesUptoRow.holds Try.pinned (OpenSpec.upto fnExactFewestSpiesSpec)

/-- 'laws.FnFewestSpies', WHERE WHAT IT READS IS OF BULK AT MOST 1048576: true; the input reads as it did. -/
def fnFewestSpiesUptoRow : OpenClaim := { program := "ytcaogllnbpmcgaa", sum := "582e0922a927eb6a5ae4d50cd90b976290ad3d751df9c6f1d99491d86801b0e9", func := "loop.example/tellersandliars/laws.FnFewestSpies", spec := "fnFewestSpies", unfollowed := true, recurses := true, apart := false, narrowed := true }
def FnFewestSpiesUptoSaid : Prop := fnFewestSpiesUptoRow.holds Try.pinned (OpenSpec.upto fnFewestSpiesSpec)

/-- 'laws.FnSpyRows', WHERE WHAT IT READS IS OF BULK AT MOST 1048576: true; the input reads as it did. -/
def fnSpyRowsUptoRow : OpenClaim := { program := "ytcaogllnbpmcgaa", sum := "582e0922a927eb6a5ae4d50cd90b976290ad3d751df9c6f1d99491d86801b0e9", func := "loop.example/tellersandliars/laws.FnSpyRows", spec := "fnSpyRows", unfollowed := true, recurses := true, apart := false, narrowed := true }
def FnSpyRowsUptoSaid : Prop := fnSpyRowsUptoRow.holds Try.pinned (OpenSpec.upto fnSpyRowsSpec)

/-- 'laws.FnProofBoth', WHERE WHAT IT READS IS OF BULK AT MOST 1048576: true; the input reads as it did. -/
def fnProofBothUptoRow : OpenClaim := { program := "ytcaogllnbpmcgaa", sum := "582e0922a927eb6a5ae4d50cd90b976290ad3d751df9c6f1d99491d86801b0e9", func := "loop.example/tellersandliars/laws.FnProofBoth", spec := "fnProofBoth", unfollowed := true, recurses := true, apart := false, narrowed := true }
def FnProofBothUptoSaid : Prop := fnProofBothUptoRow.holds Try.pinned (OpenSpec.upto fnProofBothSpec)

/-- 'laws.FnExactProofOk', WHERE WHAT IT READS IS OF BULK AT MOST 1048576: true; the input reads as it did. -/
def fnExactProofOkUptoRow : OpenClaim := { program := "ytcaogllnbpmcgaa", sum := "582e0922a927eb6a5ae4d50cd90b976290ad3d751df9c6f1d99491d86801b0e9", func := "loop.example/tellersandliars/laws.FnExactProofOk", spec := "fnExactProofOk", unfollowed := true, recurses := true, apart := false, narrowed := true }
def FnExactProofOkUptoSaid : Prop := fnExactProofOkUptoRow.holds Try.pinned (OpenSpec.upto fnExactProofOkSpec)

/-- 'laws.FnExactFindProof', WHERE WHAT IT READS IS OF BULK AT MOST 1048576: true; the input reads as it did. -/
def fnExactFindProofUptoRow : OpenClaim := { program := "ytcaogllnbpmcgaa", sum := "582e0922a927eb6a5ae4d50cd90b976290ad3d751df9c6f1d99491d86801b0e9", func := "loop.example/tellersandliars/laws.FnExactFindProof", spec := "fnExactFindProof", unfollowed := true, recurses := true, apart := false, narrowed := true }
def FnExactFindProofUptoSaid : Prop := fnExactFindProofUptoRow.holds Try.pinned (OpenSpec.upto fnExactFindProofSpec)

/-- 'laws.FnFindProof', WHERE WHAT IT READS IS OF BULK AT MOST 1048576: true; the input reads as it did. -/
def fnFindProofUptoRow : OpenClaim := { program := "ytcaogllnbpmcgaa", sum := "582e0922a927eb6a5ae4d50cd90b976290ad3d751df9c6f1d99491d86801b0e9", func := "loop.example/tellersandliars/laws.FnFindProof", spec := "fnFindProof", unfollowed := true, recurses := true, apart := false, narrowed := true }
def FnFindProofUptoSaid : Prop := fnFindProofUptoRow.holds Try.pinned (OpenSpec.upto fnFindProofSpec)

/-- 'laws.FnProofOk', WHERE WHAT IT READS IS OF BULK AT MOST 1048576: true; the input reads as it did. -/
def fnProofOkUptoRow : OpenClaim := { program := "ytcaogllnbpmcgaa", sum := "582e0922a927eb6a5ae4d50cd90b976290ad3d751df9c6f1d99491d86801b0e9", func := "loop.example/tellersandliars/laws.FnProofOk", spec := "fnProofOk", unfollowed := true, recurses := true, apart := false, narrowed := true }
def FnProofOkUptoSaid : Prop := fnProofOkUptoRow.holds Try.pinned (OpenSpec.upto fnProofOkSpec)

end Rows
end Go.Proofs.Ytcaogllnbpmcgaa

/-
  No cell of these rows narrows 'for every input' (looked for: loops, veiled, ifaces, maps, wideKeys, modest, calm, conditions, laid).
  DERIVED. THE GIVEN ROWS OF THIS SEAT. 11 by the template 'for every input the law returns true; each argument reads behind the call as it read before'; 0 by the template 'total and deterministic' (their statements: YtnmkifpifmdplaaTotals.lean).
  GIVEN WITH THE SEED: the statements are not yours to turn. If you find one false, say at which input.
  Laid BY PROGRAM, IN A SANDBOX (cutbox-rows.mjs): the forced cells as the released guide's own fill.sh prints them over the translation fb35f06c528da8b1… (all of the seat's roots in one cut). By AI agents, Wed Nov 11 2026. No macro, syntax, notation, axiom, sorry.
-/
import Derived.Test.YtnmkifpifmdplaaChecked
import GoSem.Claim
import GoSem.ClaimJoined
import GoSem.ClaimMapViews
import Derived.JoinedTies
import Derived.KernelRfl
namespace Go.Proofs.Ytnmkifpifmdplaa
/- THE CELL 'sum', in the pinned program and in every row, IS THE sha256 OF THE DUMP (.gsa) THAT YtnmkifpifmdplaaProg.lean LOADS. Nothing in Lean hashes anything: it is a label: what it is worth is what the hold of that sum in a sandbox is worth. -/
noncomputable def Try.pinned : Pinned := { name := "ytnmkifpifmdplaa", sum := "fb35f06c528da8b1bf2c7390165b5802eeb64ebe409bdcb856f6c8237960fb1c", checked := Try.checked }
namespace Rows
def none {H : Type} : Left H := { results := [], args := [] }

/-- 'laws.FnExactAskedTable': WHATEVER THE INPUT: true; the input reads as it did. -/
def fnExactAskedTableSpec : ChangeSpec := { name := "fnExactAskedTable", fn := fun _ => fun
  | [d1, d2, d3, d4, d5] => { results := [.lit (.bool true)], args := [d1, d2, d3, d4, d5] }
  | _ => none }
def fnExactAskedTableRow : OpenClaim := { program := "ytnmkifpifmdplaa", sum := "fb35f06c528da8b1bf2c7390165b5802eeb64ebe409bdcb856f6c8237960fb1c", func := "loop.example/tellersandliars/laws.FnExactAskedTable", spec := "fnExactAskedTable", unfollowed := true, recurses := true, apart := false }
def FnExactAskedTableSaid : Prop := fnExactAskedTableRow.holds Try.pinned (OpenSpec.ofChange fnExactAskedTableSpec)

/-- ITS FALSE NEIGHBOUR: 'it returns false'. Refute it at one input. -/
def fnExactAskedTableWrong : ChangeSpec := { name := "fnExactAskedTable", fn := fun _ => fun
  | [d1, d2, d3, d4, d5] => { results := [.lit (.bool false)], args := [d1, d2, d3, d4, d5] }
  | _ => none }
def FnExactAskedTableWrongFalsely : Prop := fnExactAskedTableRow.holds Try.pinned (OpenSpec.ofChange fnExactAskedTableWrong)

/-- 'laws.FnExactKnownTeller': WHATEVER THE INPUT: true; the input reads as it did. -/
def fnExactKnownTellerSpec : ChangeSpec := { name := "fnExactKnownTeller", fn := fun _ => fun
  | [d1, d2] => { results := [.lit (.bool true)], args := [d1, d2] }
  | _ => none }
def fnExactKnownTellerRow : OpenClaim := { program := "ytnmkifpifmdplaa", sum := "fb35f06c528da8b1bf2c7390165b5802eeb64ebe409bdcb856f6c8237960fb1c", func := "loop.example/tellersandliars/laws.FnExactKnownTeller", spec := "fnExactKnownTeller", apart := false }
def FnExactKnownTellerSaid : Prop := fnExactKnownTellerRow.holds Try.pinned (OpenSpec.ofChange fnExactKnownTellerSpec)

/-- ITS FALSE NEIGHBOUR: 'it returns false'. Refute it at one input. -/
def fnExactKnownTellerWrong : ChangeSpec := { name := "fnExactKnownTeller", fn := fun _ => fun
  | [d1, d2] => { results := [.lit (.bool false)], args := [d1, d2] }
  | _ => none }
def FnExactKnownTellerWrongFalsely : Prop := fnExactKnownTellerRow.holds Try.pinned (OpenSpec.ofChange fnExactKnownTellerWrong)

/-- 'laws.FnExactMajorityTable': WHATEVER THE INPUT: true; the input reads as it did. -/
def fnExactMajorityTableSpec : ChangeSpec := { name := "fnExactMajorityTable", fn := fun _ => fun
  | [d] => { results := [.lit (.bool true)], args := [d] }
  | _ => none }
def fnExactMajorityTableRow : OpenClaim := { program := "ytnmkifpifmdplaa", sum := "fb35f06c528da8b1bf2c7390165b5802eeb64ebe409bdcb856f6c8237960fb1c", func := "loop.example/tellersandliars/laws.FnExactMajorityTable", spec := "fnExactMajorityTable", unfollowed := true, recurses := true, apart := false }
def FnExactMajorityTableSaid : Prop := fnExactMajorityTableRow.holds Try.pinned (OpenSpec.ofChange fnExactMajorityTableSpec)

/-- ITS FALSE NEIGHBOUR: 'it returns false'. Refute it at one input. -/
def fnExactMajorityTableWrong : ChangeSpec := { name := "fnExactMajorityTable", fn := fun _ => fun
  | [d] => { results := [.lit (.bool false)], args := [d] }
  | _ => none }
def FnExactMajorityTableWrongFalsely : Prop := fnExactMajorityTableRow.holds Try.pinned (OpenSpec.ofChange fnExactMajorityTableWrong)

/-- 'laws.FnMajorityTable': WHATEVER THE INPUT: true; the input reads as it did. -/
def fnMajorityTableSpec : ChangeSpec := { name := "fnMajorityTable", fn := fun _ => fun
  | [d] => { results := [.lit (.bool true)], args := [d] }
  | _ => none }
def fnMajorityTableRow : OpenClaim := { program := "ytnmkifpifmdplaa", sum := "fb35f06c528da8b1bf2c7390165b5802eeb64ebe409bdcb856f6c8237960fb1c", func := "loop.example/tellersandliars/laws.FnMajorityTable", spec := "fnMajorityTable", unfollowed := true, recurses := true, apart := false }
def FnMajorityTableSaid : Prop := fnMajorityTableRow.holds Try.pinned (OpenSpec.ofChange fnMajorityTableSpec)

/-- ITS FALSE NEIGHBOUR: 'it returns false'. Refute it at one input. -/
def fnMajorityTableWrong : ChangeSpec := { name := "fnMajorityTable", fn := fun _ => fun
  | [d] => { results := [.lit (.bool false)], args := [d] }
  | _ => none }
def FnMajorityTableWrongFalsely : Prop := fnMajorityTableRow.holds Try.pinned (OpenSpec.ofChange fnMajorityTableWrong)

/-- 'laws.FnKnownTeller': WHATEVER THE INPUT: true; the input reads as it did. -/
def fnKnownTellerSpec : ChangeSpec := { name := "fnKnownTeller", fn := fun _ => fun
  | [d] => { results := [.lit (.bool true)], args := [d] }
  | _ => none }
def fnKnownTellerRow : OpenClaim := { program := "ytnmkifpifmdplaa", sum := "fb35f06c528da8b1bf2c7390165b5802eeb64ebe409bdcb856f6c8237960fb1c", func := "loop.example/tellersandliars/laws.FnKnownTeller", spec := "fnKnownTeller", apart := false }
def FnKnownTellerSaid : Prop := fnKnownTellerRow.holds Try.pinned (OpenSpec.ofChange fnKnownTellerSpec)

/-- ITS FALSE NEIGHBOUR: 'it returns false'. Refute it at one input. -/
def fnKnownTellerWrong : ChangeSpec := { name := "fnKnownTeller", fn := fun _ => fun
  | [d] => { results := [.lit (.bool false)], args := [d] }
  | _ => none }
def FnKnownTellerWrongFalsely : Prop := fnKnownTellerRow.holds Try.pinned (OpenSpec.ofChange fnKnownTellerWrong)

/-- 'laws.FnExactLeastAsks': WHATEVER THE INPUT: true; the input reads as it did. -/
def fnExactLeastAsksSpec : ChangeSpec := { name := "fnExactLeastAsks", fn := fun _ => fun
  | [d1, d2] => { results := [.lit (.bool true)], args := [d1, d2] }
  | _ => none }
def fnExactLeastAsksRow : OpenClaim := { program := "ytnmkifpifmdplaa", sum := "fb35f06c528da8b1bf2c7390165b5802eeb64ebe409bdcb856f6c8237960fb1c", func := "loop.example/tellersandliars/laws.FnExactLeastAsks", spec := "fnExactLeastAsks", unfollowed := true, recurses := true, apart := false }
def FnExactLeastAsksSaid : Prop := fnExactLeastAsksRow.holds Try.pinned (OpenSpec.ofChange fnExactLeastAsksSpec)

/-- ITS FALSE NEIGHBOUR: 'it returns false'. Refute it at one input. -/
def fnExactLeastAsksWrong : ChangeSpec := { name := "fnExactLeastAsks", fn := fun _ => fun
  | [d1, d2] => { results := [.lit (.bool false)], args := [d1, d2] }
  | _ => none }
def FnExactLeastAsksWrongFalsely : Prop := fnExactLeastAsksRow.holds Try.pinned (OpenSpec.ofChange fnExactLeastAsksWrong)

/-- 'laws.FnAskSubset': WHATEVER THE INPUT: true; the input reads as it did. -/
def fnAskSubsetSpec : ChangeSpec := { name := "fnAskSubset", fn := fun _ => fun
  | [d] => { results := [.lit (.bool true)], args := [d] }
  | _ => none }
def fnAskSubsetRow : OpenClaim := { program := "ytnmkifpifmdplaa", sum := "fb35f06c528da8b1bf2c7390165b5802eeb64ebe409bdcb856f6c8237960fb1c", func := "loop.example/tellersandliars/laws.FnAskSubset", spec := "fnAskSubset", unfollowed := true, recurses := true, apart := false }
def FnAskSubsetSaid : Prop := fnAskSubsetRow.holds Try.pinned (OpenSpec.ofChange fnAskSubsetSpec)

/-- ITS FALSE NEIGHBOUR: 'it returns false'. Refute it at one input. -/
def fnAskSubsetWrong : ChangeSpec := { name := "fnAskSubset", fn := fun _ => fun
  | [d] => { results := [.lit (.bool false)], args := [d] }
  | _ => none }
def FnAskSubsetWrongFalsely : Prop := fnAskSubsetRow.holds Try.pinned (OpenSpec.ofChange fnAskSubsetWrong)

/-- 'laws.FnLinksOk': WHATEVER THE INPUT: true; the input reads as it did. -/
def fnLinksOkSpec : ChangeSpec := { name := "fnLinksOk", fn := fun _ => fun
  | [d] => { results := [.lit (.bool true)], args := [d] }
  | _ => none }
def fnLinksOkRow : OpenClaim := { program := "ytnmkifpifmdplaa", sum := "fb35f06c528da8b1bf2c7390165b5802eeb64ebe409bdcb856f6c8237960fb1c", func := "loop.example/tellersandliars/laws.FnLinksOk", spec := "fnLinksOk", apart := false }
def FnLinksOkSaid : Prop := fnLinksOkRow.holds Try.pinned (OpenSpec.ofChange fnLinksOkSpec)

/-- ITS FALSE NEIGHBOUR: 'it returns false'. Refute it at one input. -/
def fnLinksOkWrong : ChangeSpec := { name := "fnLinksOk", fn := fun _ => fun
  | [d] => { results := [.lit (.bool false)], args := [d] }
  | _ => none }
def FnLinksOkWrongFalsely : Prop := fnLinksOkRow.holds Try.pinned (OpenSpec.ofChange fnLinksOkWrong)

/-- 'laws.FnExactLinksOk': WHATEVER THE INPUT: true; the input reads as it did. -/
def fnExactLinksOkSpec : ChangeSpec := { name := "fnExactLinksOk", fn := fun _ => fun
  | [d1, d2] => { results := [.lit (.bool true)], args := [d1, d2] }
  | _ => none }
def fnExactLinksOkRow : OpenClaim := { program := "ytnmkifpifmdplaa", sum := "fb35f06c528da8b1bf2c7390165b5802eeb64ebe409bdcb856f6c8237960fb1c", func := "loop.example/tellersandliars/laws.FnExactLinksOk", spec := "fnExactLinksOk", apart := false }
def FnExactLinksOkSaid : Prop := fnExactLinksOkRow.holds Try.pinned (OpenSpec.ofChange fnExactLinksOkSpec)

/-- ITS FALSE NEIGHBOUR: 'it returns false'. Refute it at one input. -/
def fnExactLinksOkWrong : ChangeSpec := { name := "fnExactLinksOk", fn := fun _ => fun
  | [d1, d2] => { results := [.lit (.bool false)], args := [d1, d2] }
  | _ => none }
def FnExactLinksOkWrongFalsely : Prop := fnExactLinksOkRow.holds Try.pinned (OpenSpec.ofChange fnExactLinksOkWrong)

/-- 'laws.FnLinkGroups': WHATEVER THE INPUT: true; the input reads as it did. -/
def fnLinkGroupsSpec : ChangeSpec := { name := "fnLinkGroups", fn := fun _ => fun
  | [d] => { results := [.lit (.bool true)], args := [d] }
  | _ => none }
def fnLinkGroupsRow : OpenClaim := { program := "ytnmkifpifmdplaa", sum := "fb35f06c528da8b1bf2c7390165b5802eeb64ebe409bdcb856f6c8237960fb1c", func := "loop.example/tellersandliars/laws.FnLinkGroups", spec := "fnLinkGroups", apart := false }
def FnLinkGroupsSaid : Prop := fnLinkGroupsRow.holds Try.pinned (OpenSpec.ofChange fnLinkGroupsSpec)

/-- ITS FALSE NEIGHBOUR: 'it returns false'. Refute it at one input. -/
def fnLinkGroupsWrong : ChangeSpec := { name := "fnLinkGroups", fn := fun _ => fun
  | [d] => { results := [.lit (.bool false)], args := [d] }
  | _ => none }
def FnLinkGroupsWrongFalsely : Prop := fnLinkGroupsRow.holds Try.pinned (OpenSpec.ofChange fnLinkGroupsWrong)

/-- 'laws.FnExactLinkGroups': WHATEVER THE INPUT: true; the input reads as it did. -/
def fnExactLinkGroupsSpec : ChangeSpec := { name := "fnExactLinkGroups", fn := fun _ => fun
  | [d1, d2] => { results := [.lit (.bool true)], args := [d1, d2] }
  | _ => none }
def fnExactLinkGroupsRow : OpenClaim := { program := "ytnmkifpifmdplaa", sum := "fb35f06c528da8b1bf2c7390165b5802eeb64ebe409bdcb856f6c8237960fb1c", func := "loop.example/tellersandliars/laws.FnExactLinkGroups", spec := "fnExactLinkGroups", apart := false }
def FnExactLinkGroupsSaid : Prop := fnExactLinkGroupsRow.holds Try.pinned (OpenSpec.ofChange fnExactLinkGroupsSpec)

/-- ITS FALSE NEIGHBOUR: 'it returns false'. Refute it at one input. -/
def fnExactLinkGroupsWrong : ChangeSpec := { name := "fnExactLinkGroups", fn := fun _ => fun
  | [d1, d2] => { results := [.lit (.bool false)], args := [d1, d2] }
  | _ => none }
def FnExactLinkGroupsWrongFalsely : Prop := fnExactLinkGroupsRow.holds Try.pinned (OpenSpec.ofChange fnExactLinkGroupsWrong)

/- THE SECOND FORM. 'bulk': how many values and letters a reading holds, each counted each time it is reached (what is shared counts as often as it is met; a slice's spare places count too). A statement '..UptoSaid' is the law's where the arguments, and the package variables that the reading takes, are together of bulk at most 1048576: NARROWER than '..Said'. Prove '..Said' where nothing that the law and all that it calls make is longer than what came in: it says more and counts as full. Else prove '..UptoSaid'. A law counts once. -/
mutual
def uptoBulk {H : Type} : DataW H → Nat
  | .lit (.string bytes) => bytes.length + 1
  | .lit _ => 1
  | .nil => 1
  | .ptr d => uptoBulk d + 1
  | .slice elems spare => uptoBulkAll elems + uptoBulkAll spare + 1
  | .agg parts => uptoBulkAll parts + 1
  | .iface _ d => uptoBulk d + 1
  | .map entries => uptoBulkEntries entries + 1
  | .held _ => 1
def uptoBulkAll {H : Type} : List (DataW H) → Nat
  | [] => 0
  | d :: r => uptoBulk d + uptoBulkAll r
def uptoBulkEntries {H : Type} : List (Lit × DataW H) → Nat
  | [] => 0
  | x :: r => uptoBulkEntry x + uptoBulkEntries r
def uptoBulkEntry {H : Type} : Lit × DataW H → Nat
  | (.string bytes, d) => bytes.length + uptoBulk d + 1
  | (_, d) => uptoBulk d + 1
 end
def uptoSmall : (H : Type) → List (DataW H) → Bool := fun _ ds => decide (uptoBulkAll ds ≤ 1048576)
def OpenSpec.upto (s : _root_.Go.ChangeSpec) : _root_.Go.OpenSpec := { _root_.Go.OpenSpec.ofChange s with cond := some uptoSmall }

/-- 'laws.FnExactAskedTable', WHERE WHAT IT READS IS OF BULK AT MOST 1048576: true; the input reads as it did. -/
def fnExactAskedTableUptoRow : OpenClaim := { program := "ytnmkifpifmdplaa", sum := "fb35f06c528da8b1bf2c7390165b5802eeb64ebe409bdcb856f6c8237960fb1c", func := "loop.example/tellersandliars/laws.FnExactAskedTable", spec := "fnExactAskedTable", unfollowed := true, recurses := true, apart := false, narrowed := true }
def FnExactAskedTableUptoSaid : Prop := fnExactAskedTableUptoRow.holds Try.pinned (OpenSpec.upto fnExactAskedTableSpec)

/-- 'laws.FnExactKnownTeller', WHERE WHAT IT READS IS OF BULK AT MOST 1048576: true; the input reads as it did. -/
def fnExactKnownTellerUptoRow : OpenClaim := { program := "ytnmkifpifmdplaa", sum := "fb35f06c528da8b1bf2c7390165b5802eeb64ebe409bdcb856f6c8237960fb1c", func := "loop.example/tellersandliars/laws.FnExactKnownTeller", spec := "fnExactKnownTeller", apart := false, narrowed := true }
def FnExactKnownTellerUptoSaid : Prop := fnExactKnownTellerUptoRow.holds Try.pinned (OpenSpec.upto fnExactKnownTellerSpec)

/-- 'laws.FnExactMajorityTable', WHERE WHAT IT READS IS OF BULK AT MOST 1048576: true; the input reads as it did. -/
def fnExactMajorityTableUptoRow : OpenClaim := { program := "ytnmkifpifmdplaa", sum := "fb35f06c528da8b1bf2c7390165b5802eeb64ebe409bdcb856f6c8237960fb1c", func := "loop.example/tellersandliars/laws.FnExactMajorityTable", spec := "fnExactMajorityTable", unfollowed := true, recurses := true, apart := false, narrowed := true }
def FnExactMajorityTableUptoSaid : Prop := fnExactMajorityTableUptoRow.holds Try.pinned (OpenSpec.upto fnExactMajorityTableSpec)

/-- 'laws.FnMajorityTable', WHERE WHAT IT READS IS OF BULK AT MOST 1048576: true; the input reads as it did. -/
def fnMajorityTableUptoRow : OpenClaim := { program := "ytnmkifpifmdplaa", sum := "fb35f06c528da8b1bf2c7390165b5802eeb64ebe409bdcb856f6c8237960fb1c", func := "loop.example/tellersandliars/laws.FnMajorityTable", spec := "fnMajorityTable", unfollowed := true, recurses := true, apart := false, narrowed := true }
def FnMajorityTableUptoSaid : Prop := fnMajorityTableUptoRow.holds Try.pinned (OpenSpec.upto fnMajorityTableSpec)

/-- 'laws.FnKnownTeller', WHERE WHAT IT READS IS OF BULK AT MOST 1048576: true; the input reads as it did. -/
def fnKnownTellerUptoRow : OpenClaim := { program := "ytnmkifpifmdplaa", sum := "fb35f06c528da8b1bf2c7390165b5802eeb64ebe409bdcb856f6c8237960fb1c", func := "loop.example/tellersandliars/laws.FnKnownTeller", spec := "fnKnownTeller", apart := false, narrowed := true }
def FnKnownTellerUptoSaid : Prop := fnKnownTellerUptoRow.holds Try.pinned (OpenSpec.upto fnKnownTellerSpec)

/-- 'laws.FnExactLeastAsks', WHERE WHAT IT READS IS OF BULK AT MOST 1048576: true; the input reads as it did. -/
def fnExactLeastAsksUptoRow : OpenClaim := { program := "ytnmkifpifmdplaa", sum := "fb35f06c528da8b1bf2c7390165b5802eeb64ebe409bdcb856f6c8237960fb1c", func := "loop.example/tellersandliars/laws.FnExactLeastAsks", spec := "fnExactLeastAsks", unfollowed := true, recurses := true, apart := false, narrowed := true }
def FnExactLeastAsksUptoSaid : Prop := fnExactLeastAsksUptoRow.holds Try.pinned (OpenSpec.upto fnExactLeastAsksSpec)

/-- 'laws.FnAskSubset', WHERE WHAT IT READS IS OF BULK AT MOST 1048576: true; the input reads as it did. -/
def fnAskSubsetUptoRow : OpenClaim := { program := "ytnmkifpifmdplaa", sum := "fb35f06c528da8b1bf2c7390165b5802eeb64ebe409bdcb856f6c8237960fb1c", func := "loop.example/tellersandliars/laws.FnAskSubset", spec := "fnAskSubset", unfollowed := true, recurses := true, apart := false, narrowed := true }
def FnAskSubsetUptoSaid : Prop := fnAskSubsetUptoRow.holds Try.pinned (OpenSpec.upto fnAskSubsetSpec)

/-- 'laws.FnLinksOk', WHERE WHAT IT READS IS OF BULK AT MOST 1048576: true; the input reads as it did. -/
def fnLinksOkUptoRow : OpenClaim := { program := "ytnmkifpifmdplaa", sum := "fb35f06c528da8b1bf2c7390165b5802eeb64ebe409bdcb856f6c8237960fb1c", func := "loop.example/tellersandliars/laws.FnLinksOk", spec := "fnLinksOk", apart := false, narrowed := true }
def FnLinksOkUptoSaid : Prop := fnLinksOkUptoRow.holds Try.pinned (OpenSpec.upto fnLinksOkSpec)

/-- 'laws.FnExactLinksOk', WHERE WHAT IT READS IS OF BULK AT MOST 1048576: true; the input reads as it did. -/
def fnExactLinksOkUptoRow : OpenClaim := { program := "ytnmkifpifmdplaa", sum := "fb35f06c528da8b1bf2c7390165b5802eeb64ebe409bdcb856f6c8237960fb1c", func := "loop.example/tellersandliars/laws.FnExactLinksOk", spec := "fnExactLinksOk", apart := false, narrowed := true }
def FnExactLinksOkUptoSaid : Prop := fnExactLinksOkUptoRow.holds Try.pinned (OpenSpec.upto fnExactLinksOkSpec)

/-- 'laws.FnLinkGroups', WHERE WHAT IT READS IS OF BULK AT MOST 1048576: true; the input reads as it did. -/
def fnLinkGroupsUptoRow : OpenClaim := { program := "ytnmkifpifmdplaa", sum := "fb35f06c528da8b1bf2c7390165b5802eeb64ebe409bdcb856f6c8237960fb1c", func := "loop.example/tellersandliars/laws.FnLinkGroups", spec := "fnLinkGroups", apart := false, narrowed := true }
def FnLinkGroupsUptoSaid : Prop := fnLinkGroupsUptoRow.holds Try.pinned (OpenSpec.upto fnLinkGroupsSpec)

/-- 'laws.FnExactLinkGroups', WHERE WHAT IT READS IS OF BULK AT MOST 1048576: true; the input reads as it did. -/
def fnExactLinkGroupsUptoRow : OpenClaim := { program := "ytnmkifpifmdplaa", sum := "fb35f06c528da8b1bf2c7390165b5802eeb64ebe409bdcb856f6c8237960fb1c", func := "loop.example/tellersandliars/laws.FnExactLinkGroups", spec := "fnExactLinkGroups", apart := false, narrowed := true }
def FnExactLinkGroupsUptoSaid : Prop := fnExactLinkGroupsUptoRow.holds Try.pinned (OpenSpec.upto fnExactLinkGroupsSpec)

end Rows
end Go.Proofs.Ytnmkifpifmdplaa

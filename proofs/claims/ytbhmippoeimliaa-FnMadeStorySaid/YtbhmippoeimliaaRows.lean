/-
  No cell of these rows narrows 'for every input' (looked for: loops, veiled, ifaces, maps, wideKeys, modest, calm, conditions, laid).
  DERIVED. THE GIVEN ROWS OF THIS SEAT. 12 by the template 'for every input the law returns true; each argument reads behind the call as it read before'; 0 by the template 'total and deterministic' (their statements: YtbhmippoeimliaaTotals.lean).
  GIVEN WITH THE SEED: the statements are not yours to turn. If you find one false, say at which input.
  Laid BY PROGRAM, IN A SANDBOX (cutbox-rows.mjs): the forced cells as the released guide's own fill.sh prints them over the translation 3ae197102335edbc… (all of the seat's roots in one cut). By AI agents, Wed Nov 11 2026. No macro, syntax, notation, axiom, sorry.
-/
import Derived.Test.YtbhmippoeimliaaChecked
import GoSem.Claim
import GoSem.ClaimJoined
import GoSem.ClaimMapViews
import Derived.JoinedTies
import Derived.KernelRfl
namespace Go.Proofs.Ytbhmippoeimliaa
/- THE CELL 'sum', in the pinned program and in every row, IS THE sha256 OF THE DUMP (.gsa) THAT YtbhmippoeimliaaProg.lean LOADS. Nothing in Lean hashes anything: it is a label: what it is worth is what the hold of that sum in a sandbox is worth. -/
noncomputable def Try.pinned : Pinned := { name := "ytbhmippoeimliaa", sum := "3ae197102335edbc6f957320d84d866b0bfb942d5e18692b6678fb95474b0659", checked := Try.checked }
namespace Rows
def none {H : Type} : Left H := { results := [], args := [] }

/-- 'laws.FnLinkClash': WHATEVER THE INPUT: true; the input reads as it did. -/
def fnLinkClashSpec : ChangeSpec := { name := "fnLinkClash", fn := fun _ => fun
  | [d] => { results := [.lit (.bool true)], args := [d] }
  | _ => none }
def fnLinkClashRow : OpenClaim := { program := "ytbhmippoeimliaa", sum := "3ae197102335edbc6f957320d84d866b0bfb942d5e18692b6678fb95474b0659", func := "loop.example/tellersandliars/laws.FnLinkClash", spec := "fnLinkClash", unfollowed := true, recurses := true, apart := false }
def FnLinkClashSaid : Prop := fnLinkClashRow.holds Try.pinned (OpenSpec.ofChange fnLinkClashSpec)

/-- ITS FALSE NEIGHBOUR: 'it returns false'. Refute it at one input. -/
def fnLinkClashWrong : ChangeSpec := { name := "fnLinkClash", fn := fun _ => fun
  | [d] => { results := [.lit (.bool false)], args := [d] }
  | _ => none }
def FnLinkClashWrongFalsely : Prop := fnLinkClashRow.holds Try.pinned (OpenSpec.ofChange fnLinkClashWrong)

/-- 'laws.FnExactLinkStory': WHATEVER THE INPUT: true; the input reads as it did. -/
def fnExactLinkStorySpec : ChangeSpec := { name := "fnExactLinkStory", fn := fun _ => fun
  | [d1, d2] => { results := [.lit (.bool true)], args := [d1, d2] }
  | _ => none }
def fnExactLinkStoryRow : OpenClaim := { program := "ytbhmippoeimliaa", sum := "3ae197102335edbc6f957320d84d866b0bfb942d5e18692b6678fb95474b0659", func := "loop.example/tellersandliars/laws.FnExactLinkStory", spec := "fnExactLinkStory", apart := false }
def FnExactLinkStorySaid : Prop := fnExactLinkStoryRow.holds Try.pinned (OpenSpec.ofChange fnExactLinkStorySpec)

/-- ITS FALSE NEIGHBOUR: 'it returns false'. Refute it at one input. -/
def fnExactLinkStoryWrong : ChangeSpec := { name := "fnExactLinkStory", fn := fun _ => fun
  | [d1, d2] => { results := [.lit (.bool false)], args := [d1, d2] }
  | _ => none }
def FnExactLinkStoryWrongFalsely : Prop := fnExactLinkStoryRow.holds Try.pinned (OpenSpec.ofChange fnExactLinkStoryWrong)

/-- 'laws.FnLinkStory': WHATEVER THE INPUT: true; the input reads as it did. -/
def fnLinkStorySpec : ChangeSpec := { name := "fnLinkStory", fn := fun _ => fun
  | [d] => { results := [.lit (.bool true)], args := [d] }
  | _ => none }
def fnLinkStoryRow : OpenClaim := { program := "ytbhmippoeimliaa", sum := "3ae197102335edbc6f957320d84d866b0bfb942d5e18692b6678fb95474b0659", func := "loop.example/tellersandliars/laws.FnLinkStory", spec := "fnLinkStory", unfollowed := true, recurses := true, apart := false }
def FnLinkStorySaid : Prop := fnLinkStoryRow.holds Try.pinned (OpenSpec.ofChange fnLinkStorySpec)

/-- ITS FALSE NEIGHBOUR: 'it returns false'. Refute it at one input. -/
def fnLinkStoryWrong : ChangeSpec := { name := "fnLinkStory", fn := fun _ => fun
  | [d] => { results := [.lit (.bool false)], args := [d] }
  | _ => none }
def FnLinkStoryWrongFalsely : Prop := fnLinkStoryRow.holds Try.pinned (OpenSpec.ofChange fnLinkStoryWrong)

/-- 'laws.FnExactFollowsFrom': WHATEVER THE INPUT: true; the input reads as it did. -/
def fnExactFollowsFromSpec : ChangeSpec := { name := "fnExactFollowsFrom", fn := fun _ => fun
  | [d1, d2, d3] => { results := [.lit (.bool true)], args := [d1, d2, d3] }
  | _ => none }
def fnExactFollowsFromRow : OpenClaim := { program := "ytbhmippoeimliaa", sum := "3ae197102335edbc6f957320d84d866b0bfb942d5e18692b6678fb95474b0659", func := "loop.example/tellersandliars/laws.FnExactFollowsFrom", spec := "fnExactFollowsFrom", unfollowed := true, recurses := true, apart := false }
def FnExactFollowsFromSaid : Prop := fnExactFollowsFromRow.holds Try.pinned (OpenSpec.ofChange fnExactFollowsFromSpec)

/-- ITS FALSE NEIGHBOUR: 'it returns false'. Refute it at one input. -/
def fnExactFollowsFromWrong : ChangeSpec := { name := "fnExactFollowsFrom", fn := fun _ => fun
  | [d1, d2, d3] => { results := [.lit (.bool false)], args := [d1, d2, d3] }
  | _ => none }
def FnExactFollowsFromWrongFalsely : Prop := fnExactFollowsFromRow.holds Try.pinned (OpenSpec.ofChange fnExactFollowsFromWrong)

/-- 'laws.FnExactLinkWorlds': WHATEVER THE INPUT: true; the input reads as it did. -/
def fnExactLinkWorldsSpec : ChangeSpec := { name := "fnExactLinkWorlds", fn := fun _ => fun
  | [d1, d2] => { results := [.lit (.bool true)], args := [d1, d2] }
  | _ => none }
def fnExactLinkWorldsRow : OpenClaim := { program := "ytbhmippoeimliaa", sum := "3ae197102335edbc6f957320d84d866b0bfb942d5e18692b6678fb95474b0659", func := "loop.example/tellersandliars/laws.FnExactLinkWorlds", spec := "fnExactLinkWorlds", unfollowed := true, recurses := true, apart := false }
def FnExactLinkWorldsSaid : Prop := fnExactLinkWorldsRow.holds Try.pinned (OpenSpec.ofChange fnExactLinkWorldsSpec)

/-- ITS FALSE NEIGHBOUR: 'it returns false'. Refute it at one input. -/
def fnExactLinkWorldsWrong : ChangeSpec := { name := "fnExactLinkWorlds", fn := fun _ => fun
  | [d1, d2] => { results := [.lit (.bool false)], args := [d1, d2] }
  | _ => none }
def FnExactLinkWorldsWrongFalsely : Prop := fnExactLinkWorldsRow.holds Try.pinned (OpenSpec.ofChange fnExactLinkWorldsWrong)

/-- 'laws.FnSpyBetter': WHATEVER THE INPUT: true; the input reads as it did. -/
def fnSpyBetterSpec : ChangeSpec := { name := "fnSpyBetter", fn := fun _ => fun
  | [d] => { results := [.lit (.bool true)], args := [d] }
  | _ => none }
def fnSpyBetterRow : OpenClaim := { program := "ytbhmippoeimliaa", sum := "3ae197102335edbc6f957320d84d866b0bfb942d5e18692b6678fb95474b0659", func := "loop.example/tellersandliars/laws.FnSpyBetter", spec := "fnSpyBetter", recurses := true, apart := false }
def FnSpyBetterSaid : Prop := fnSpyBetterRow.holds Try.pinned (OpenSpec.ofChange fnSpyBetterSpec)

/-- ITS FALSE NEIGHBOUR: 'it returns false'. Refute it at one input. -/
def fnSpyBetterWrong : ChangeSpec := { name := "fnSpyBetter", fn := fun _ => fun
  | [d] => { results := [.lit (.bool false)], args := [d] }
  | _ => none }
def FnSpyBetterWrongFalsely : Prop := fnSpyBetterRow.holds Try.pinned (OpenSpec.ofChange fnSpyBetterWrong)

/-- 'laws.FnExactSpyStory': WHATEVER THE INPUT: true; the input reads as it did. -/
def fnExactSpyStorySpec : ChangeSpec := { name := "fnExactSpyStory", fn := fun _ => fun
  | [d1, d2] => { results := [.lit (.bool true)], args := [d1, d2] }
  | _ => none }
def fnExactSpyStoryRow : OpenClaim := { program := "ytbhmippoeimliaa", sum := "3ae197102335edbc6f957320d84d866b0bfb942d5e18692b6678fb95474b0659", func := "loop.example/tellersandliars/laws.FnExactSpyStory", spec := "fnExactSpyStory", recurses := true, apart := false }
def FnExactSpyStorySaid : Prop := fnExactSpyStoryRow.holds Try.pinned (OpenSpec.ofChange fnExactSpyStorySpec)

/-- ITS FALSE NEIGHBOUR: 'it returns false'. Refute it at one input. -/
def fnExactSpyStoryWrong : ChangeSpec := { name := "fnExactSpyStory", fn := fun _ => fun
  | [d1, d2] => { results := [.lit (.bool false)], args := [d1, d2] }
  | _ => none }
def FnExactSpyStoryWrongFalsely : Prop := fnExactSpyStoryRow.holds Try.pinned (OpenSpec.ofChange fnExactSpyStoryWrong)

/-- 'laws.FnLinkWorlds': WHATEVER THE INPUT: true; the input reads as it did. -/
def fnLinkWorldsSpec : ChangeSpec := { name := "fnLinkWorlds", fn := fun _ => fun
  | [d] => { results := [.lit (.bool true)], args := [d] }
  | _ => none }
def fnLinkWorldsRow : OpenClaim := { program := "ytbhmippoeimliaa", sum := "3ae197102335edbc6f957320d84d866b0bfb942d5e18692b6678fb95474b0659", func := "loop.example/tellersandliars/laws.FnLinkWorlds", spec := "fnLinkWorlds", unfollowed := true, recurses := true, apart := false }
def FnLinkWorldsSaid : Prop := fnLinkWorldsRow.holds Try.pinned (OpenSpec.ofChange fnLinkWorldsSpec)

/-- ITS FALSE NEIGHBOUR: 'it returns false'. Refute it at one input. -/
def fnLinkWorldsWrong : ChangeSpec := { name := "fnLinkWorlds", fn := fun _ => fun
  | [d] => { results := [.lit (.bool false)], args := [d] }
  | _ => none }
def FnLinkWorldsWrongFalsely : Prop := fnLinkWorldsRow.holds Try.pinned (OpenSpec.ofChange fnLinkWorldsWrong)

/-- 'laws.FnFollowsFrom': WHATEVER THE INPUT: true; the input reads as it did. -/
def fnFollowsFromSpec : ChangeSpec := { name := "fnFollowsFrom", fn := fun _ => fun
  | [d] => { results := [.lit (.bool true)], args := [d] }
  | _ => none }
def fnFollowsFromRow : OpenClaim := { program := "ytbhmippoeimliaa", sum := "3ae197102335edbc6f957320d84d866b0bfb942d5e18692b6678fb95474b0659", func := "loop.example/tellersandliars/laws.FnFollowsFrom", spec := "fnFollowsFrom", unfollowed := true, recurses := true, apart := false }
def FnFollowsFromSaid : Prop := fnFollowsFromRow.holds Try.pinned (OpenSpec.ofChange fnFollowsFromSpec)

/-- ITS FALSE NEIGHBOUR: 'it returns false'. Refute it at one input. -/
def fnFollowsFromWrong : ChangeSpec := { name := "fnFollowsFrom", fn := fun _ => fun
  | [d] => { results := [.lit (.bool false)], args := [d] }
  | _ => none }
def FnFollowsFromWrongFalsely : Prop := fnFollowsFromRow.holds Try.pinned (OpenSpec.ofChange fnFollowsFromWrong)

/-- 'laws.FnExactMadeStory': WHATEVER THE INPUT: true; the input reads as it did. -/
def fnExactMadeStorySpec : ChangeSpec := { name := "fnExactMadeStory", fn := fun _ => fun
  | [d1, d2, d3] => { results := [.lit (.bool true)], args := [d1, d2, d3] }
  | _ => none }
def fnExactMadeStoryRow : OpenClaim := { program := "ytbhmippoeimliaa", sum := "3ae197102335edbc6f957320d84d866b0bfb942d5e18692b6678fb95474b0659", func := "loop.example/tellersandliars/laws.FnExactMadeStory", spec := "fnExactMadeStory", recurses := true, apart := false }
def FnExactMadeStorySaid : Prop := fnExactMadeStoryRow.holds Try.pinned (OpenSpec.ofChange fnExactMadeStorySpec)

/-- ITS FALSE NEIGHBOUR: 'it returns false'. Refute it at one input. -/
def fnExactMadeStoryWrong : ChangeSpec := { name := "fnExactMadeStory", fn := fun _ => fun
  | [d1, d2, d3] => { results := [.lit (.bool false)], args := [d1, d2, d3] }
  | _ => none }
def FnExactMadeStoryWrongFalsely : Prop := fnExactMadeStoryRow.holds Try.pinned (OpenSpec.ofChange fnExactMadeStoryWrong)

/-- 'laws.FnMadeStory': WHATEVER THE INPUT: true; the input reads as it did. -/
def fnMadeStorySpec : ChangeSpec := { name := "fnMadeStory", fn := fun _ => fun
  | [d] => { results := [.lit (.bool true)], args := [d] }
  | _ => none }
def fnMadeStoryRow : OpenClaim := { program := "ytbhmippoeimliaa", sum := "3ae197102335edbc6f957320d84d866b0bfb942d5e18692b6678fb95474b0659", func := "loop.example/tellersandliars/laws.FnMadeStory", spec := "fnMadeStory", unfollowed := true, recurses := true, apart := false }
def FnMadeStorySaid : Prop := fnMadeStoryRow.holds Try.pinned (OpenSpec.ofChange fnMadeStorySpec)

/-- ITS FALSE NEIGHBOUR: 'it returns false'. Refute it at one input. -/
def fnMadeStoryWrong : ChangeSpec := { name := "fnMadeStory", fn := fun _ => fun
  | [d] => { results := [.lit (.bool false)], args := [d] }
  | _ => none }
def FnMadeStoryWrongFalsely : Prop := fnMadeStoryRow.holds Try.pinned (OpenSpec.ofChange fnMadeStoryWrong)

/-- 'laws.FnSpyStory': WHATEVER THE INPUT: true; the input reads as it did. -/
def fnSpyStorySpec : ChangeSpec := { name := "fnSpyStory", fn := fun _ => fun
  | [d] => { results := [.lit (.bool true)], args := [d] }
  | _ => none }
def fnSpyStoryRow : OpenClaim := { program := "ytbhmippoeimliaa", sum := "3ae197102335edbc6f957320d84d866b0bfb942d5e18692b6678fb95474b0659", func := "loop.example/tellersandliars/laws.FnSpyStory", spec := "fnSpyStory", unfollowed := true, recurses := true, apart := false }
def FnSpyStorySaid : Prop := fnSpyStoryRow.holds Try.pinned (OpenSpec.ofChange fnSpyStorySpec)

/-- ITS FALSE NEIGHBOUR: 'it returns false'. Refute it at one input. -/
def fnSpyStoryWrong : ChangeSpec := { name := "fnSpyStory", fn := fun _ => fun
  | [d] => { results := [.lit (.bool false)], args := [d] }
  | _ => none }
def FnSpyStoryWrongFalsely : Prop := fnSpyStoryRow.holds Try.pinned (OpenSpec.ofChange fnSpyStoryWrong)

/- THE SECOND FORM. 'bulk': how many values and letters a reading holds, each counted each time it is reached (what is shared counts as often as it is met; a slice's spare places count too). A statement '..UptoSaid' is the law's where the arguments, and the package variables that the reading takes, are together of bulk at most 1048576: NARROWER than '..Said'. Prove '..Said' where nothing that the law and all that it calls make is longer than what came in: it says more and counts as full. Else prove '..UptoSaid'. A law counts once. -/
mutual
def uptoBulk {H : Type} : DataW H → Nat
  | .lit (.string bytes) => bytes.length + 1
  | .lit _ => 1
  | .nil => 1
  | .ptr d => uptoBulk d + 1
  | .slice elems spare => uptoBulkAll elems + uptoBulkAll spare + 1
  | .agg parts => uptoBulkAll parts + 1
  | .iface _ d => uptoBulk d + 1
  | .map entries => uptoBulkEntries entries + 1
  | .held _ => 1
def uptoBulkAll {H : Type} : List (DataW H) → Nat
  | [] => 0
  | d :: r => uptoBulk d + uptoBulkAll r
def uptoBulkEntries {H : Type} : List (Lit × DataW H) → Nat
  | [] => 0
  | x :: r => uptoBulkEntry x + uptoBulkEntries r
def uptoBulkEntry {H : Type} : Lit × DataW H → Nat
  | (.string bytes, d) => bytes.length + uptoBulk d + 1
  | (_, d) => uptoBulk d + 1
 end
def uptoSmall : (H : Type) → List (DataW H) → Bool := fun _ ds => decide (uptoBulkAll ds ≤ 1048576)
def OpenSpec.upto (s : _root_.Go.ChangeSpec) : _root_.Go.OpenSpec := { _root_.Go.OpenSpec.ofChange s with cond := some uptoSmall }

/-- 'laws.FnLinkClash', WHERE WHAT IT READS IS OF BULK AT MOST 1048576: true; the input reads as it did. -/
def fnLinkClashUptoRow : OpenClaim := { program := "ytbhmippoeimliaa", sum := "3ae197102335edbc6f957320d84d866b0bfb942d5e18692b6678fb95474b0659", func := "loop.example/tellersandliars/laws.FnLinkClash", spec := "fnLinkClash", unfollowed := true, recurses := true, apart := false, narrowed := true }
def FnLinkClashUptoSaid : Prop := fnLinkClashUptoRow.holds Try.pinned (OpenSpec.upto fnLinkClashSpec)

/-- 'laws.FnExactLinkStory', WHERE WHAT IT READS IS OF BULK AT MOST 1048576: true; the input reads as it did. -/
def fnExactLinkStoryUptoRow : OpenClaim := { program := "ytbhmippoeimliaa", sum := "3ae197102335edbc6f957320d84d866b0bfb942d5e18692b6678fb95474b0659", func := "loop.example/tellersandliars/laws.FnExactLinkStory", spec := "fnExactLinkStory", apart := false, narrowed := true }
def FnExactLinkStoryUptoSaid : Prop := fnExactLinkStoryUptoRow.holds Try.pinned (OpenSpec.upto fnExactLinkStorySpec)

/-- 'laws.FnLinkStory', WHERE WHAT IT READS IS OF BULK AT MOST 1048576: true; the input reads as it did. -/
def fnLinkStoryUptoRow : OpenClaim := { program := "ytbhmippoeimliaa", sum := "3ae197102335edbc6f957320d84d866b0bfb942d5e18692b6678fb95474b0659", func := "loop.example/tellersandliars/laws.FnLinkStory", spec := "fnLinkStory", unfollowed := true, recurses := true, apart := false, narrowed := true }
def FnLinkStoryUptoSaid : Prop := fnLinkStoryUptoRow.holds Try.pinned (OpenSpec.upto fnLinkStorySpec)

/-- 'laws.FnExactFollowsFrom', WHERE WHAT IT READS IS OF BULK AT MOST 1048576: true; the input reads as it did. -/
def fnExactFollowsFromUptoRow : OpenClaim := { program := "ytbhmippoeimliaa", sum := "3ae197102335edbc6f957320d84d866b0bfb942d5e18692b6678fb95474b0659", func := "loop.example/tellersandliars/laws.FnExactFollowsFrom", spec := "fnExactFollowsFrom", unfollowed := true, recurses := true, apart := false, narrowed := true }
def FnExactFollowsFromUptoSaid : Prop := fnExactFollowsFromUptoRow.holds Try.pinned (OpenSpec.upto fnExactFollowsFromSpec)

/-- 'laws.FnExactLinkWorlds', WHERE WHAT IT READS IS OF BULK AT MOST 1048576: true; the input reads as it did. -/
def fnExactLinkWorldsUptoRow : OpenClaim := { program := "ytbhmippoeimliaa", sum := "3ae197102335edbc6f957320d84d866b0bfb942d5e18692b6678fb95474b0659", func := "loop.example/tellersandliars/laws.FnExactLinkWorlds", spec := "fnExactLinkWorlds", unfollowed := true, recurses := true, apart := false, narrowed := true }
def FnExactLinkWorldsUptoSaid : Prop := fnExactLinkWorldsUptoRow.holds Try.pinned (OpenSpec.upto fnExactLinkWorldsSpec)

/-- 'laws.FnSpyBetter', WHERE WHAT IT READS IS OF BULK AT MOST 1048576: true; the input reads as it did. -/
def fnSpyBetterUptoRow : OpenClaim := { program := "ytbhmippoeimliaa", sum := "3ae197102335edbc6f957320d84d866b0bfb942d5e18692b6678fb95474b0659", func := "loop.example/tellersandliars/laws.FnSpyBetter", spec := "fnSpyBetter", recurses := true, apart := false, narrowed := true }
def FnSpyBetterUptoSaid : Prop := fnSpyBetterUptoRow.holds Try.pinned (OpenSpec.upto fnSpyBetterSpec)

/-- 'laws.FnExactSpyStory', WHERE WHAT IT READS IS OF BULK AT MOST 1048576: true; the input reads as it did. -/
def fnExactSpyStoryUptoRow : OpenClaim := { program := "ytbhmippoeimliaa", sum := "3ae197102335edbc6f957320d84d866b0bfb942d5e18692b6678fb95474b0659", func := "loop.example/tellersandliars/laws.FnExactSpyStory", spec := "fnExactSpyStory", recurses := true, apart := false, narrowed := true }
def FnExactSpyStoryUptoSaid : Prop := fnExactSpyStoryUptoRow.holds Try.pinned (OpenSpec.upto fnExactSpyStorySpec)

/-- 'laws.FnLinkWorlds', WHERE WHAT IT READS IS OF BULK AT MOST 1048576: true; the input reads as it did. -/
def fnLinkWorldsUptoRow : OpenClaim := { program := "ytbhmippoeimliaa", sum := "3ae197102335edbc6f957320d84d866b0bfb942d5e18692b6678fb95474b0659", func := "loop.example/tellersandliars/laws.FnLinkWorlds", spec := "fnLinkWorlds", unfollowed := true, recurses := true, apart := false, narrowed := true }
def FnLinkWorldsUptoSaid : Prop := fnLinkWorldsUptoRow.holds Try.pinned (OpenSpec.upto fnLinkWorldsSpec)

/-- 'laws.FnFollowsFrom', WHERE WHAT IT READS IS OF BULK AT MOST 1048576: true; the input reads as it did. -/
def fnFollowsFromUptoRow : OpenClaim := { program := "ytbhmippoeimliaa", sum := "3ae197102335edbc6f957320d84d866b0bfb942d5e18692b6678fb95474b0659", func := "loop.example/tellersandliars/laws.FnFollowsFrom", spec := "fnFollowsFrom", unfollowed := true, recurses := true, apart := false, narrowed := true }
def FnFollowsFromUptoSaid : Prop := fnFollowsFromUptoRow.holds Try.pinned (OpenSpec.upto fnFollowsFromSpec)

/-- 'laws.FnExactMadeStory', WHERE WHAT IT READS IS OF BULK AT MOST 1048576: true; the input reads as it did. -/
def fnExactMadeStoryUptoRow : OpenClaim := { program := "ytbhmippoeimliaa", sum := "3ae197102335edbc6f957320d84d866b0bfb942d5e18692b6678fb95474b0659", func := "loop.example/tellersandliars/laws.FnExactMadeStory", spec := "fnExactMadeStory", recurses := true, apart := false, narrowed := true }
def FnExactMadeStoryUptoSaid : Prop := fnExactMadeStoryUptoRow.holds Try.pinned (OpenSpec.upto fnExactMadeStorySpec)

/-- 'laws.FnMadeStory', WHERE WHAT IT READS IS OF BULK AT MOST 1048576: true; the input reads as it did. -/
def fnMadeStoryUptoRow : OpenClaim := { program := "ytbhmippoeimliaa", sum := "3ae197102335edbc6f957320d84d866b0bfb942d5e18692b6678fb95474b0659", func := "loop.example/tellersandliars/laws.FnMadeStory", spec := "fnMadeStory", unfollowed := true, recurses := true, apart := false, narrowed := true }
def FnMadeStoryUptoSaid : Prop := fnMadeStoryUptoRow.holds Try.pinned (OpenSpec.upto fnMadeStorySpec)

/-- 'laws.FnSpyStory', WHERE WHAT IT READS IS OF BULK AT MOST 1048576: true; the input reads as it did. -/
def fnSpyStoryUptoRow : OpenClaim := { program := "ytbhmippoeimliaa", sum := "3ae197102335edbc6f957320d84d866b0bfb942d5e18692b6678fb95474b0659", func := "loop.example/tellersandliars/laws.FnSpyStory", spec := "fnSpyStory", unfollowed := true, recurses := true, apart := false, narrowed := true }
def FnSpyStoryUptoSaid : Prop := fnSpyStoryUptoRow.holds Try.pinned (OpenSpec.upto fnSpyStorySpec)

end Rows
end Go.Proofs.Ytbhmippoeimliaa

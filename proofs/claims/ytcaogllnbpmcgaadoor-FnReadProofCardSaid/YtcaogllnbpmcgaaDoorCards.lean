/-
  DERIVED. GIVEN WITH THE SEED: THE CARDS: each row of YtcaogllnbpmcgaaDoorRows.lean that lists a variable, with what it lists TIED to the program's text (the seventh form; the later family's looks); each row that meets fmt, with fmt's text TOLD by the authors' own Lean function (tested against real Go, not proved from fmt's source: count such statements apart). THE CARD IS WHAT COUNTS. Prove the row's statement (the work); the ties are given (YtcaogllnbpmcgaaDoorTie.lean); close each card by the builder's one call (the guide's Derived/Test/ToyasCard.lean, 'card_holds'). Laid BY PROGRAM, IN A SANDBOX (cutbox-door.mjs). By AI agents, Wed Nov 11 2026. No macro, syntax, notation, axiom, sorry.
-/
import Derived.Test.YtcaogllnbpmcgaaDoorRows
import GoSem.ClaimSeven
namespace Go.Proofs.YtcaogllnbpmcgaaDoor
namespace Rows

/-- THE TIED CARD OF 'laws.FnProofText'. -/
def fnProofTextCard : Claim7 := { stood := { row := fnProofTextRow, standIns := [], harness := (true, "e0cbe189a45b692cac2a92c4bfa61719094ae2ce4ee3ed49ffae5867553291cd"), looks := false }, kinds := [], alts := [], laidByText := true, laidKinds := [.data, .data, .data], laidTests := true, laidLooks := .later }
def FnProofTextCardSaid : Prop := Claim7.holds Tryd.pinned (.plain (OpenSpec.ofChange fnProofTextSpec)) fnProofTextCard

/-- THE TIED CARD OF 'laws.FnExactProofText'. -/
def fnExactProofTextCard : Claim7 := { stood := { row := fnExactProofTextRow, standIns := [], harness := (true, "e0cbe189a45b692cac2a92c4bfa61719094ae2ce4ee3ed49ffae5867553291cd"), looks := false }, kinds := [], alts := [], laidByText := true, laidKinds := [.data, .data, .data], laidTests := true, laidLooks := .later }
def FnExactProofTextCardSaid : Prop := Claim7.holds Tryd.pinned (.plain (OpenSpec.ofChange fnExactProofTextSpec)) fnExactProofTextCard

/-- THE TIED CARD OF 'laws.FnExactReadProof'. -/
def fnExactReadProofCard : Claim7 := { stood := { row := fnExactReadProofRow, standIns := [], harness := (true, "e0cbe189a45b692cac2a92c4bfa61719094ae2ce4ee3ed49ffae5867553291cd"), looks := false }, kinds := [], alts := [], laidByText := true, laidKinds := [.data, .data, .data], laidTests := true, laidLooks := .later }
def FnExactReadProofCardSaid : Prop := Claim7.holds Tryd.pinned (.plain (OpenSpec.ofChange fnExactReadProofSpec)) fnExactReadProofCard

/-- THE TIED CARD OF 'laws.FnReadProof'. -/
def fnReadProofCard : Claim7 := { stood := { row := fnReadProofRow, standIns := [], harness := (true, "e0cbe189a45b692cac2a92c4bfa61719094ae2ce4ee3ed49ffae5867553291cd"), looks := false }, kinds := [], alts := [], laidByText := true, laidKinds := [.data, .data, .data], laidTests := true, laidLooks := .later }
def FnReadProofCardSaid : Prop := Claim7.holds Tryd.pinned (.plain (OpenSpec.ofChange fnReadProofSpec)) fnReadProofCard

/-- THE SECOND FORM's CARD OF 'laws.FnProofText'. -/
def fnProofTextUptoCard : Claim7 := { stood := { row := fnProofTextUptoRow, standIns := [], harness := (true, "e0cbe189a45b692cac2a92c4bfa61719094ae2ce4ee3ed49ffae5867553291cd"), looks := false }, kinds := [], alts := [], laidByText := true, laidKinds := [.data, .data, .data], laidTests := true, laidLooks := .later }
def FnProofTextUptoCardSaid : Prop := Claim7.holds Tryd.pinned (.plain (OpenSpec.upto fnProofTextSpec)) fnProofTextUptoCard

/-- THE SECOND FORM's CARD OF 'laws.FnExactProofText'. -/
def fnExactProofTextUptoCard : Claim7 := { stood := { row := fnExactProofTextUptoRow, standIns := [], harness := (true, "e0cbe189a45b692cac2a92c4bfa61719094ae2ce4ee3ed49ffae5867553291cd"), looks := false }, kinds := [], alts := [], laidByText := true, laidKinds := [.data, .data, .data], laidTests := true, laidLooks := .later }
def FnExactProofTextUptoCardSaid : Prop := Claim7.holds Tryd.pinned (.plain (OpenSpec.upto fnExactProofTextSpec)) fnExactProofTextUptoCard

/-- THE SECOND FORM's CARD OF 'laws.FnExactReadProof'. -/
def fnExactReadProofUptoCard : Claim7 := { stood := { row := fnExactReadProofUptoRow, standIns := [], harness := (true, "e0cbe189a45b692cac2a92c4bfa61719094ae2ce4ee3ed49ffae5867553291cd"), looks := false }, kinds := [], alts := [], laidByText := true, laidKinds := [.data, .data, .data], laidTests := true, laidLooks := .later }
def FnExactReadProofUptoCardSaid : Prop := Claim7.holds Tryd.pinned (.plain (OpenSpec.upto fnExactReadProofSpec)) fnExactReadProofUptoCard

/-- THE SECOND FORM's CARD OF 'laws.FnReadProof'. -/
def fnReadProofUptoCard : Claim7 := { stood := { row := fnReadProofUptoRow, standIns := [], harness := (true, "e0cbe189a45b692cac2a92c4bfa61719094ae2ce4ee3ed49ffae5867553291cd"), looks := false }, kinds := [], alts := [], laidByText := true, laidKinds := [.data, .data, .data], laidTests := true, laidLooks := .later }
def FnReadProofUptoCardSaid : Prop := Claim7.holds Tryd.pinned (.plain (OpenSpec.upto fnReadProofSpec)) fnReadProofUptoCard
end Rows
end Go.Proofs.YtcaogllnbpmcgaaDoor

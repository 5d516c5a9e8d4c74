/-
  DERIVED. GIVEN WITH THE SEED: THE CARDS: each row of YtpcgfeckokgbfaaGreatDoorRows.lean that lists a variable, with what it lists TIED to the program's text (the seventh form; the later family's looks); each row that meets fmt, with fmt's text TOLD by the authors' own Lean function (tested against real Go, not proved from fmt's source: count such statements apart). THE CARD IS WHAT COUNTS. Prove the row's statement (the work); the ties are given (YtpcgfeckokgbfaaGreatDoorTie.lean); close each card by the builder's one call (the guide's Derived/Test/ToyasCard.lean, 'card_holds'). Laid BY PROGRAM, IN A SANDBOX (cutbox-door.mjs). By AI agents, Wed Nov 11 2026. No macro, syntax, notation, axiom, sorry.
-/
import Derived.Test.YtpcgfeckokgbfaaGreatDoorRows
import GoSem.ClaimSeven
namespace Go.Proofs.YtpcgfeckokgbfaaGreatDoor
namespace Rows

/-- THE TIED CARD OF 'mistlaw11.CoreEvals'. -/
def coreEvalsCard : Claim7 := { stood := { row := coreEvalsRow, standIns := [], harness := (true, "27f22032732088cd4c7471b96cb5312615fdbc6e9ba6ded89f6f43d55d78fd14"), looks := true }, kinds := [], alts := [], laidByText := true, laidKinds := [.data, .data, .data, .sentinel, .sentinel, .listed, .data], laidTests := true, laidLooks := .later }
def CoreEvalsCardSaid : Prop := Claim7.holds Tryz.pinned (.plain (OpenSpec.ofChange coreEvalsSpec)) coreEvalsCard

/-- THE TIED CARD OF 'mistlaw11.CoreInlines'. -/
def coreInlinesCard : Claim7 := { stood := { row := coreInlinesRow, standIns := [], harness := (true, "27f22032732088cd4c7471b96cb5312615fdbc6e9ba6ded89f6f43d55d78fd14"), looks := true }, kinds := [], alts := [], laidByText := true, laidKinds := [.data, .data, .data, .sentinel, .sentinel, .listed, .data], laidTests := true, laidLooks := .later }
def CoreInlinesCardSaid : Prop := Claim7.holds Tryz.pinned (.plain (OpenSpec.ofChange coreInlinesSpec)) coreInlinesCard

/-- THE TIED CARD OF 'mistlaw11.CoreEarlier'. -/
def coreEarlierCard : Claim7 := { stood := { row := coreEarlierRow, standIns := [], harness := (true, "27f22032732088cd4c7471b96cb5312615fdbc6e9ba6ded89f6f43d55d78fd14"), looks := true }, kinds := [], alts := [], laidByText := true, laidKinds := [.data, .data, .data, .sentinel, .sentinel, .listed, .data], laidTests := true, laidLooks := .later }
def CoreEarlierCardSaid : Prop := Claim7.holds Tryz.pinned (.plain (OpenSpec.ofChange coreEarlierSpec)) coreEarlierCard

/-- THE SECOND FORM's CARD OF 'mistlaw11.CoreEvals'. -/
def coreEvalsUptoCard : Claim7 := { stood := { row := coreEvalsUptoRow, standIns := [], harness := (true, "27f22032732088cd4c7471b96cb5312615fdbc6e9ba6ded89f6f43d55d78fd14"), looks := true }, kinds := [], alts := [], laidByText := true, laidKinds := [.data, .data, .data, .sentinel, .sentinel, .listed, .data], laidTests := true, laidLooks := .later }
def CoreEvalsUptoCardSaid : Prop := Claim7.holds Tryz.pinned (.plain (OpenSpec.upto coreEvalsSpec)) coreEvalsUptoCard

/-- THE SECOND FORM's CARD OF 'mistlaw11.CoreInlines'. -/
def coreInlinesUptoCard : Claim7 := { stood := { row := coreInlinesUptoRow, standIns := [], harness := (true, "27f22032732088cd4c7471b96cb5312615fdbc6e9ba6ded89f6f43d55d78fd14"), looks := true }, kinds := [], alts := [], laidByText := true, laidKinds := [.data, .data, .data, .sentinel, .sentinel, .listed, .data], laidTests := true, laidLooks := .later }
def CoreInlinesUptoCardSaid : Prop := Claim7.holds Tryz.pinned (.plain (OpenSpec.upto coreInlinesSpec)) coreInlinesUptoCard

/-- THE SECOND FORM's CARD OF 'mistlaw11.CoreEarlier'. -/
def coreEarlierUptoCard : Claim7 := { stood := { row := coreEarlierUptoRow, standIns := [], harness := (true, "27f22032732088cd4c7471b96cb5312615fdbc6e9ba6ded89f6f43d55d78fd14"), looks := true }, kinds := [], alts := [], laidByText := true, laidKinds := [.data, .data, .data, .sentinel, .sentinel, .listed, .data], laidTests := true, laidLooks := .later }
def CoreEarlierUptoCardSaid : Prop := Claim7.holds Tryz.pinned (.plain (OpenSpec.upto coreEarlierSpec)) coreEarlierUptoCard
end Rows
end Go.Proofs.YtpcgfeckokgbfaaGreatDoor

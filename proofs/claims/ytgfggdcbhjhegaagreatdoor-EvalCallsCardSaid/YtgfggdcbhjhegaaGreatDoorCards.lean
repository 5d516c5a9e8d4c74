/-
  DERIVED. GIVEN WITH THE SEED: THE CARDS: each row of YtgfggdcbhjhegaaGreatDoorRows.lean that lists a variable, with what it lists TIED to the program's text (the seventh form; the later family's looks); each row that meets fmt, with fmt's text TOLD by the authors' own Lean function (tested against real Go, not proved from fmt's source: count such statements apart). THE CARD IS WHAT COUNTS. Prove the row's statement (the work); the ties are given (YtgfggdcbhjhegaaGreatDoorTie.lean); close each card by the builder's one call (the guide's Derived/Test/ToyasCard.lean, 'card_holds'). Laid BY PROGRAM, IN A SANDBOX (cutbox-door.mjs). By AI agents, Wed Nov 11 2026. No macro, syntax, notation, axiom, sorry.
-/
import Derived.Test.YtgfggdcbhjhegaaGreatDoorRows
import GoSem.ClaimSeven
namespace Go.Proofs.YtgfggdcbhjhegaaGreatDoor
namespace Rows

/-- THE TIED CARD OF 'mistlaw08.EvalItems'. -/
def evalItemsCard : Claim7 := { stood := { row := evalItemsRow, standIns := [], harness := (true, "182cb0c81080dcd44fe323691287f58f5acd84f730c405a3d6366d6a040066d0"), looks := true }, kinds := [], alts := [], laidByText := true, laidKinds := [.data, .data, .data, .sentinel, .sentinel, .listed, .data], laidTests := true, laidLooks := .later }
def EvalItemsCardSaid : Prop := Claim7.holds Tryz.pinned (.plain (OpenSpec.ofChange evalItemsSpec)) evalItemsCard

/-- THE TIED CARD OF 'mistlaw08.EvalPrograms'. -/
def evalProgramsCard : Claim7 := { stood := { row := evalProgramsRow, standIns := [], harness := (true, "182cb0c81080dcd44fe323691287f58f5acd84f730c405a3d6366d6a040066d0"), looks := true }, kinds := [], alts := [], laidByText := true, laidKinds := [.data, .data, .data, .sentinel, .sentinel, .listed, .data], laidTests := true, laidLooks := .later }
def EvalProgramsCardSaid : Prop := Claim7.holds Tryz.pinned (.plain (OpenSpec.ofChange evalProgramsSpec)) evalProgramsCard

/-- THE TIED CARD OF 'mistlaw08.EvalCalls'. -/
def evalCallsCard : Claim7 := { stood := { row := evalCallsRow, standIns := [], harness := (true, "182cb0c81080dcd44fe323691287f58f5acd84f730c405a3d6366d6a040066d0"), looks := true }, kinds := [], alts := [], laidByText := true, laidKinds := [.data, .data, .data, .sentinel, .sentinel, .listed, .data], laidTests := true, laidLooks := .later }
def EvalCallsCardSaid : Prop := Claim7.holds Tryz.pinned (.plain (OpenSpec.ofChange evalCallsSpec)) evalCallsCard

/-- THE TIED CARD OF 'mistlaw08.EvalSteps'. -/
def evalStepsCard : Claim7 := { stood := { row := evalStepsRow, standIns := [], harness := (true, "182cb0c81080dcd44fe323691287f58f5acd84f730c405a3d6366d6a040066d0"), looks := true }, kinds := [], alts := [], laidByText := true, laidKinds := [.data, .data, .data, .sentinel, .sentinel, .listed, .data], laidTests := true, laidLooks := .later }
def EvalStepsCardSaid : Prop := Claim7.holds Tryz.pinned (.plain (OpenSpec.ofChange evalStepsSpec)) evalStepsCard

/-- THE TIED CARD OF 'mistlaw08.EvalExprs'. -/
def evalExprsCard : Claim7 := { stood := { row := evalExprsRow, standIns := [], harness := (true, "182cb0c81080dcd44fe323691287f58f5acd84f730c405a3d6366d6a040066d0"), looks := true }, kinds := [], alts := [], laidByText := true, laidKinds := [.data, .data, .data, .sentinel, .sentinel, .listed, .data], laidTests := true, laidLooks := .later }
def EvalExprsCardSaid : Prop := Claim7.holds Tryz.pinned (.plain (OpenSpec.ofChange evalExprsSpec)) evalExprsCard

/-- THE SECOND FORM's CARD OF 'mistlaw08.EvalItems'. -/
def evalItemsUptoCard : Claim7 := { stood := { row := evalItemsUptoRow, standIns := [], harness := (true, "182cb0c81080dcd44fe323691287f58f5acd84f730c405a3d6366d6a040066d0"), looks := true }, kinds := [], alts := [], laidByText := true, laidKinds := [.data, .data, .data, .sentinel, .sentinel, .listed, .data], laidTests := true, laidLooks := .later }
def EvalItemsUptoCardSaid : Prop := Claim7.holds Tryz.pinned (.plain (OpenSpec.upto evalItemsSpec)) evalItemsUptoCard

/-- THE SECOND FORM's CARD OF 'mistlaw08.EvalPrograms'. -/
def evalProgramsUptoCard : Claim7 := { stood := { row := evalProgramsUptoRow, standIns := [], harness := (true, "182cb0c81080dcd44fe323691287f58f5acd84f730c405a3d6366d6a040066d0"), looks := true }, kinds := [], alts := [], laidByText := true, laidKinds := [.data, .data, .data, .sentinel, .sentinel, .listed, .data], laidTests := true, laidLooks := .later }
def EvalProgramsUptoCardSaid : Prop := Claim7.holds Tryz.pinned (.plain (OpenSpec.upto evalProgramsSpec)) evalProgramsUptoCard

/-- THE SECOND FORM's CARD OF 'mistlaw08.EvalCalls'. -/
def evalCallsUptoCard : Claim7 := { stood := { row := evalCallsUptoRow, standIns := [], harness := (true, "182cb0c81080dcd44fe323691287f58f5acd84f730c405a3d6366d6a040066d0"), looks := true }, kinds := [], alts := [], laidByText := true, laidKinds := [.data, .data, .data, .sentinel, .sentinel, .listed, .data], laidTests := true, laidLooks := .later }
def EvalCallsUptoCardSaid : Prop := Claim7.holds Tryz.pinned (.plain (OpenSpec.upto evalCallsSpec)) evalCallsUptoCard

/-- THE SECOND FORM's CARD OF 'mistlaw08.EvalSteps'. -/
def evalStepsUptoCard : Claim7 := { stood := { row := evalStepsUptoRow, standIns := [], harness := (true, "182cb0c81080dcd44fe323691287f58f5acd84f730c405a3d6366d6a040066d0"), looks := true }, kinds := [], alts := [], laidByText := true, laidKinds := [.data, .data, .data, .sentinel, .sentinel, .listed, .data], laidTests := true, laidLooks := .later }
def EvalStepsUptoCardSaid : Prop := Claim7.holds Tryz.pinned (.plain (OpenSpec.upto evalStepsSpec)) evalStepsUptoCard

/-- THE SECOND FORM's CARD OF 'mistlaw08.EvalExprs'. -/
def evalExprsUptoCard : Claim7 := { stood := { row := evalExprsUptoRow, standIns := [], harness := (true, "182cb0c81080dcd44fe323691287f58f5acd84f730c405a3d6366d6a040066d0"), looks := true }, kinds := [], alts := [], laidByText := true, laidKinds := [.data, .data, .data, .sentinel, .sentinel, .listed, .data], laidTests := true, laidLooks := .later }
def EvalExprsUptoCardSaid : Prop := Claim7.holds Tryz.pinned (.plain (OpenSpec.upto evalExprsSpec)) evalExprsUptoCard
end Rows
end Go.Proofs.YtgfggdcbhjhegaaGreatDoor

/-
  DERIVED. GIVEN WITH THE SEED: THE CARDS: each row of YtjfgooffdmnnkaaGreatDoorRows.lean that lists a variable, with what it lists TIED to the program's text (the seventh form; the later family's looks); each row that meets fmt, with fmt's text TOLD by the authors' own Lean function (tested against real Go, not proved from fmt's source: count such statements apart). THE CARD IS WHAT COUNTS. Prove the row's statement (the work); the ties are given (YtjfgooffdmnnkaaGreatDoorTie.lean); close each card by the builder's one call (the guide's Derived/Test/ToyasCard.lean, 'card_holds'). Laid BY PROGRAM, IN A SANDBOX (cutbox-door.mjs). By AI agents, Wed Nov 11 2026. No macro, syntax, notation, axiom, sorry.
-/
import Derived.Test.YtjfgooffdmnnkaaGreatDoorRows
import GoSem.ClaimSeven
namespace Go.Proofs.YtjfgooffdmnnkaaGreatDoor
namespace Rows

/-- THE TIED CARD OF 'mistlaw09.WorldActive'. -/
def worldActiveCard : Claim7 := { stood := { row := worldActiveRow, standIns := [], harness := (true, "a1147731839a5651cb5ab021a3122828065f7f31ee10eb60cedd5ed00c38fd61"), looks := true }, kinds := [], alts := [], laidByText := true, laidKinds := [.data, .data, .data, .sentinel, .sentinel, .listed, .data], laidTests := true, laidLooks := .later }
def WorldActiveCardSaid : Prop := Claim7.holds Tryz.pinned (.plain (OpenSpec.ofChange worldActiveSpec)) worldActiveCard

/-- THE TIED CARD OF 'mistlaw09.WorldChoices'. -/
def worldChoicesCard : Claim7 := { stood := { row := worldChoicesRow, standIns := [], harness := (true, "a1147731839a5651cb5ab021a3122828065f7f31ee10eb60cedd5ed00c38fd61"), looks := true }, kinds := [], alts := [], laidByText := true, laidKinds := [.data, .data, .data, .sentinel, .sentinel, .listed, .data], laidTests := true, laidLooks := .later }
def WorldChoicesCardSaid : Prop := Claim7.holds Tryz.pinned (.plain (OpenSpec.ofChange worldChoicesSpec)) worldChoicesCard

/-- THE TIED CARD OF 'mistlaw09.WorldNumbers'. -/
def worldNumbersCard : Claim7 := { stood := { row := worldNumbersRow, standIns := [], harness := (true, "a1147731839a5651cb5ab021a3122828065f7f31ee10eb60cedd5ed00c38fd61"), looks := true }, kinds := [], alts := [], laidByText := true, laidKinds := [.data, .data, .data, .sentinel, .sentinel, .listed, .data], laidTests := true, laidLooks := .later }
def WorldNumbersCardSaid : Prop := Claim7.holds Tryz.pinned (.plain (OpenSpec.ofChange worldNumbersSpec)) worldNumbersCard

/-- THE TIED CARD OF 'mistlaw09.WorldAll'. -/
def worldAllCard : Claim7 := { stood := { row := worldAllRow, standIns := [], harness := (true, "a1147731839a5651cb5ab021a3122828065f7f31ee10eb60cedd5ed00c38fd61"), looks := true }, kinds := [], alts := [], laidByText := true, laidKinds := [.data, .data, .data, .sentinel, .sentinel, .listed, .data], laidTests := true, laidLooks := .later }
def WorldAllCardSaid : Prop := Claim7.holds Tryz.pinned (.plain (OpenSpec.ofChange worldAllSpec)) worldAllCard

/-- THE TIED CARD OF 'mistlaw09.WorldHolds'. -/
def worldHoldsCard : Claim7 := { stood := { row := worldHoldsRow, standIns := [], harness := (true, "a1147731839a5651cb5ab021a3122828065f7f31ee10eb60cedd5ed00c38fd61"), looks := true }, kinds := [], alts := [], laidByText := true, laidKinds := [.data, .data, .data, .sentinel, .sentinel, .listed, .data], laidTests := true, laidLooks := .later }
def WorldHoldsCardSaid : Prop := Claim7.holds Tryz.pinned (.plain (OpenSpec.ofChange worldHoldsSpec)) worldHoldsCard

/-- THE TIED CARD OF 'mistlaw09.WorldOdd'. -/
def worldOddCard : Claim7 := { stood := { row := worldOddRow, standIns := [], harness := (true, "a1147731839a5651cb5ab021a3122828065f7f31ee10eb60cedd5ed00c38fd61"), looks := true }, kinds := [], alts := [], laidByText := true, laidKinds := [.data, .data, .data, .sentinel, .sentinel, .listed, .data], laidTests := true, laidLooks := .later }
def WorldOddCardSaid : Prop := Claim7.holds Tryz.pinned (.plain (OpenSpec.ofChange worldOddSpec)) worldOddCard

/-- THE SECOND FORM's CARD OF 'mistlaw09.WorldActive'. -/
def worldActiveUptoCard : Claim7 := { stood := { row := worldActiveUptoRow, standIns := [], harness := (true, "a1147731839a5651cb5ab021a3122828065f7f31ee10eb60cedd5ed00c38fd61"), looks := true }, kinds := [], alts := [], laidByText := true, laidKinds := [.data, .data, .data, .sentinel, .sentinel, .listed, .data], laidTests := true, laidLooks := .later }
def WorldActiveUptoCardSaid : Prop := Claim7.holds Tryz.pinned (.plain (OpenSpec.upto worldActiveSpec)) worldActiveUptoCard

/-- THE SECOND FORM's CARD OF 'mistlaw09.WorldChoices'. -/
def worldChoicesUptoCard : Claim7 := { stood := { row := worldChoicesUptoRow, standIns := [], harness := (true, "a1147731839a5651cb5ab021a3122828065f7f31ee10eb60cedd5ed00c38fd61"), looks := true }, kinds := [], alts := [], laidByText := true, laidKinds := [.data, .data, .data, .sentinel, .sentinel, .listed, .data], laidTests := true, laidLooks := .later }
def WorldChoicesUptoCardSaid : Prop := Claim7.holds Tryz.pinned (.plain (OpenSpec.upto worldChoicesSpec)) worldChoicesUptoCard

/-- THE SECOND FORM's CARD OF 'mistlaw09.WorldNumbers'. -/
def worldNumbersUptoCard : Claim7 := { stood := { row := worldNumbersUptoRow, standIns := [], harness := (true, "a1147731839a5651cb5ab021a3122828065f7f31ee10eb60cedd5ed00c38fd61"), looks := true }, kinds := [], alts := [], laidByText := true, laidKinds := [.data, .data, .data, .sentinel, .sentinel, .listed, .data], laidTests := true, laidLooks := .later }
def WorldNumbersUptoCardSaid : Prop := Claim7.holds Tryz.pinned (.plain (OpenSpec.upto worldNumbersSpec)) worldNumbersUptoCard

/-- THE SECOND FORM's CARD OF 'mistlaw09.WorldAll'. -/
def worldAllUptoCard : Claim7 := { stood := { row := worldAllUptoRow, standIns := [], harness := (true, "a1147731839a5651cb5ab021a3122828065f7f31ee10eb60cedd5ed00c38fd61"), looks := true }, kinds := [], alts := [], laidByText := true, laidKinds := [.data, .data, .data, .sentinel, .sentinel, .listed, .data], laidTests := true, laidLooks := .later }
def WorldAllUptoCardSaid : Prop := Claim7.holds Tryz.pinned (.plain (OpenSpec.upto worldAllSpec)) worldAllUptoCard

/-- THE SECOND FORM's CARD OF 'mistlaw09.WorldHolds'. -/
def worldHoldsUptoCard : Claim7 := { stood := { row := worldHoldsUptoRow, standIns := [], harness := (true, "a1147731839a5651cb5ab021a3122828065f7f31ee10eb60cedd5ed00c38fd61"), looks := true }, kinds := [], alts := [], laidByText := true, laidKinds := [.data, .data, .data, .sentinel, .sentinel, .listed, .data], laidTests := true, laidLooks := .later }
def WorldHoldsUptoCardSaid : Prop := Claim7.holds Tryz.pinned (.plain (OpenSpec.upto worldHoldsSpec)) worldHoldsUptoCard

/-- THE SECOND FORM's CARD OF 'mistlaw09.WorldOdd'. -/
def worldOddUptoCard : Claim7 := { stood := { row := worldOddUptoRow, standIns := [], harness := (true, "a1147731839a5651cb5ab021a3122828065f7f31ee10eb60cedd5ed00c38fd61"), looks := true }, kinds := [], alts := [], laidByText := true, laidKinds := [.data, .data, .data, .sentinel, .sentinel, .listed, .data], laidTests := true, laidLooks := .later }
def WorldOddUptoCardSaid : Prop := Claim7.holds Tryz.pinned (.plain (OpenSpec.upto worldOddSpec)) worldOddUptoCard
end Rows
end Go.Proofs.YtjfgooffdmnnkaaGreatDoor

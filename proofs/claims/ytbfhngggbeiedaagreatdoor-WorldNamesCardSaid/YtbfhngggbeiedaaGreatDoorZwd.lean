/-
  The given statement WorldNamesCardSaid: the card.
-/
import Derived.Test.YtbfhngggbeiedaaGreatDoorZwc
import Derived.Test.YtbfhngggbeiedaaGreatDoorTie
import Derived.Test.YtbfhngggbeiedaaGreatDoorCards
import Derived.SevenTiedAt
namespace Go.Proofs.YtbfhngggbeiedaaGreatDoor
open Go

theorem worldNamesCard_holds : Rows.WorldNamesCardSaid :=
  Claim7.holds_tied_plain_at .later [] [.data, .data, .data, .sentinel, .sentinel, .listed, .data] true (true, "4a4be54c9aa3aafd4d5d6cec70cfb1be84f98fc4efa9c629913306bded27d7b0") true
    worldNames_holds (fun _ h => by cases h) (by kernel_rfl) (fun _ h => by cases h) worldNames_row_tie rfl ⟨rfl, rfl⟩ (by kernel_rfl) rfl
    (fun f fn hf hfn => by
      obtain rfl : f = 3 := Option.some.inj ((show Tryz.prog.funcNamed "mist/mistlaw09.WorldNames" = some 3 by kernel_rfl).symm.trans hf) |>.symm
      obtain rfl : fn = Tryz.f3 := (Option.some.inj (Tryz.func3.symm.trans hfn)).symm
      exact ⟨by kernel_rfl, fun j t ht => by
        rw [Tryz.params3] at ht
        simp at ht⟩)
    (by kernel_rfl)
#print axioms worldNamesCard_holds
end Go.Proofs.YtbfhngggbeiedaaGreatDoor

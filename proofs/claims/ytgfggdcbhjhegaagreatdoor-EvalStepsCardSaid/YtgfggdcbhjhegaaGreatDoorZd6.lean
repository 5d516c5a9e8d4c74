/-
  The given statement EvalStepsCardSaid: the card. No conditions.
-/
import Derived.Test.YtgfggdcbhjhegaaGreatDoorZh6
import Derived.Test.YtgfggdcbhjhegaaGreatDoorZe6
import Derived.Test.YtgfggdcbhjhegaaGreatDoorTie
import Derived.Test.YtgfggdcbhjhegaaGreatDoorCards
import Derived.SevenTiedAt
namespace Go.Proofs.YtgfggdcbhjhegaaGreatDoor
open Go
theorem evalStepsCard_holds : Rows.EvalStepsCardSaid :=
  Claim7.holds_tied_plain_at .later [] [.data, .data, .data, .sentinel, .sentinel, .listed, .data] true (true, "182cb0c81080dcd44fe323691287f58f5acd84f730c405a3d6366d6a040066d0") true
    atd (fun _ h => by cases h) zw6 (fun _ h => by cases h) evalSteps_row_tie rfl ⟨rfl, rfl⟩ zm rfl
    (fun f fn hf hfn => by
      obtain rfl : f = 6 := (Option.some.inj (zf6.symm.trans hf)).symm
      obtain rfl : fn = Tryz.f6 := (Option.some.inj (Tryz.func6.symm.trans hfn)).symm
      exact ⟨zl, fun j t ht => by
        rw [Tryz.params6] at ht
        rcases j with _ | _ | _ | j
        · exact Option.some.inj ht ▸ zs25
        · exact Option.some.inj ht ▸ zs3
        · exact Option.some.inj ht ▸ zs23
        · simp at ht⟩)
    zg6
#print axioms evalStepsCard_holds
end Go.Proofs.YtgfggdcbhjhegaaGreatDoor

/-
  The given statement EvalItemsCardSaid: the card. No conditions.
-/
import Derived.Test.YtgfggdcbhjhegaaGreatDoorZh3
import Derived.Test.YtgfggdcbhjhegaaGreatDoorZe3
import Derived.Test.YtgfggdcbhjhegaaGreatDoorTie
import Derived.Test.YtgfggdcbhjhegaaGreatDoorCards
import Derived.SevenTiedAt
namespace Go.Proofs.YtgfggdcbhjhegaaGreatDoor
open Go
theorem evalItemsCard_holds : Rows.EvalItemsCardSaid :=
  Claim7.holds_tied_plain_at .later [] [.data, .data, .data, .sentinel, .sentinel, .listed, .data] true (true, "182cb0c81080dcd44fe323691287f58f5acd84f730c405a3d6366d6a040066d0") true
    arK (fun _ h => by cases h) zw3 (fun _ h => by cases h) evalItems_row_tie rfl ⟨rfl, rfl⟩ zm rfl
    (fun f fn hf hfn => by
      obtain rfl : f = 3 := (Option.some.inj (zf3.symm.trans hf)).symm
      obtain rfl : fn = Tryz.f3 := (Option.some.inj (Tryz.func3.symm.trans hfn)).symm
      exact ⟨zl, fun j t ht => by
        rw [Tryz.params3] at ht
        rcases j with _ | _ | _ | j
        · exact Option.some.inj ht ▸ zs25
        · exact Option.some.inj ht ▸ zs3
        · exact Option.some.inj ht ▸ zs23
        · simp at ht⟩)
    zg3
#print axioms evalItemsCard_holds
end Go.Proofs.YtgfggdcbhjhegaaGreatDoor

/-
  The given statement EvalProgramsCardSaid: the card. No conditions.
-/
import Derived.Test.YtgfggdcbhjhegaaGreatDoorZh4
import Derived.Test.YtgfggdcbhjhegaaGreatDoorZe4
import Derived.Test.YtgfggdcbhjhegaaGreatDoorTie
import Derived.Test.YtgfggdcbhjhegaaGreatDoorCards
import Derived.SevenTiedAt
namespace Go.Proofs.YtgfggdcbhjhegaaGreatDoor
open Go
theorem evalProgramsCard_holds : Rows.EvalProgramsCardSaid :=
  Claim7.holds_tied_plain_at .later [] [.data, .data, .data, .sentinel, .sentinel, .listed, .data] true (true, "182cb0c81080dcd44fe323691287f58f5acd84f730c405a3d6366d6a040066d0") true
    ase (fun _ h => by cases h) zw4 (fun _ h => by cases h) evalPrograms_row_tie rfl ⟨rfl, rfl⟩ zm rfl
    (fun f fn hf hfn => by
      obtain rfl : f = 4 := (Option.some.inj (zf4.symm.trans hf)).symm
      obtain rfl : fn = Tryz.f4 := (Option.some.inj (Tryz.func4.symm.trans hfn)).symm
      exact ⟨zl, fun j t ht => by
        rw [Tryz.params4] at ht
        rcases j with _ | _ | j
        · exact Option.some.inj ht ▸ zs25
        · exact Option.some.inj ht ▸ zs23
        · simp at ht⟩)
    zg4
#print axioms evalProgramsCard_holds
end Go.Proofs.YtgfggdcbhjhegaaGreatDoor

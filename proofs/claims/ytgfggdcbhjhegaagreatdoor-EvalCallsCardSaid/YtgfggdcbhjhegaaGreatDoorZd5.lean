/-
  The given statement EvalCallsCardSaid: the card. No conditions.
-/
import Derived.Test.YtgfggdcbhjhegaaGreatDoorZh5
import Derived.Test.YtgfggdcbhjhegaaGreatDoorZe5
import Derived.Test.YtgfggdcbhjhegaaGreatDoorTie
import Derived.Test.YtgfggdcbhjhegaaGreatDoorCards
import Derived.SevenTiedAt
namespace Go.Proofs.YtgfggdcbhjhegaaGreatDoor
open Go
theorem evalCallsCard_holds : Rows.EvalCallsCardSaid :=
  Claim7.holds_tied_plain_at .later [] [.data, .data, .data, .sentinel, .sentinel, .listed, .data] true (true, "182cb0c81080dcd44fe323691287f58f5acd84f730c405a3d6366d6a040066d0") true
    asJ (fun _ h => by cases h) zw5 (fun _ h => by cases h) evalCalls_row_tie rfl ⟨rfl, rfl⟩ zm rfl
    (fun f fn hf hfn => by
      obtain rfl : f = 5 := (Option.some.inj (zf5.symm.trans hf)).symm
      obtain rfl : fn = Tryz.f5 := (Option.some.inj (Tryz.func5.symm.trans hfn)).symm
      exact ⟨zl, fun j t ht => by
        rw [Tryz.params5] at ht
        rcases j with _ | _ | j
        · exact Option.some.inj ht ▸ zs25
        · exact Option.some.inj ht ▸ zs51
        · simp at ht⟩)
    zg5
#print axioms evalCallsCard_holds
end Go.Proofs.YtgfggdcbhjhegaaGreatDoor

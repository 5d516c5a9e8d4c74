/-
  The given statement CoreEvalsCardSaid: the card.
-/
import Derived.Test.YtpcgfeckokgbfaaGreatDoorZh3
import Derived.Test.YtpcgfeckokgbfaaGreatDoorTie
import Derived.Test.YtpcgfeckokgbfaaGreatDoorCards
import Derived.SevenTiedAt
set_option linter.all false
namespace Go.Proofs.YtpcgfeckokgbfaaGreatDoor
open Go
theorem coreEvalsCard_holds : Rows.CoreEvalsCardSaid :=
  Claim7.holds_tied_plain_at .later [] [.data, .data, .data, .sentinel, .sentinel, .listed, .data] true (true, "27f22032732088cd4c7471b96cb5312615fdbc6e9ba6ded89f6f43d55d78fd14") true
    coreEvals_holds (fun _ h => by cases h) (by kernel_rfl) (fun _ h => by cases h) coreEvals_row_tie rfl ⟨rfl, rfl⟩ (by kernel_rfl) rfl
    (fun f fn hf hfn => by
      obtain rfl : f = 3 := Option.some.inj ((show Tryz.prog.funcNamed "mist/mistlaw11.CoreEvals" = some 3 by kernel_rfl).symm.trans hf) |>.symm
      obtain rfl : fn = Tryz.f3 := (Option.some.inj (Tryz.func3.symm.trans hfn)).symm
      exact ⟨by kernel_rfl, fun j t ht => by
        rw [Tryz.params3] at ht
        have e0 : Tryz.pinned.checked.prog.wantsStandIn 26 = false := by kernel_rfl
        have e1 : Tryz.pinned.checked.prog.wantsStandIn 24 = false := by kernel_rfl
        rcases j with _ | _ | j
        · exact Option.some.inj ht ▸ e0
        · exact Option.some.inj ht ▸ e1
        · simp at ht⟩)
    (by kernel_rfl)
#print axioms coreEvalsCard_holds
end Go.Proofs.YtpcgfeckokgbfaaGreatDoor

/-
  The given statement CoreEarlierCardSaid: the card.
-/
import Derived.Test.YtpcgfeckokgbfaaGreatDoorZh5
import Derived.Test.YtpcgfeckokgbfaaGreatDoorTie
import Derived.Test.YtpcgfeckokgbfaaGreatDoorCards
import Derived.SevenTiedAt
set_option linter.all false
namespace Go.Proofs.YtpcgfeckokgbfaaGreatDoor
open Go
theorem coreEarlierCard_holds : Rows.CoreEarlierCardSaid :=
  Claim7.holds_tied_plain_at .later [] [.data, .data, .data, .sentinel, .sentinel, .listed, .data] true (true, "27f22032732088cd4c7471b96cb5312615fdbc6e9ba6ded89f6f43d55d78fd14") true
    coreEarlier_holds (fun _ h => by cases h) (by kernel_rfl) (fun _ h => by cases h) coreEarlier_row_tie rfl ⟨rfl, rfl⟩ (by kernel_rfl) rfl
    (fun f fn hf hfn => by
      obtain rfl : f = 5 := Option.some.inj ((show Tryz.prog.funcNamed "mist/mistlaw11.CoreEarlier" = some 5 by kernel_rfl).symm.trans hf) |>.symm
      obtain rfl : fn = Tryz.f5 := (Option.some.inj (Tryz.func5.symm.trans hfn)).symm
      exact ⟨by kernel_rfl, fun j t ht => by
        rw [Tryz.params5] at ht
        have e0 : Tryz.pinned.checked.prog.wantsStandIn 50 = false := by kernel_rfl
        have e1 : Tryz.pinned.checked.prog.wantsStandIn 51 = false := by kernel_rfl
        rcases j with _ | _ | j
        · exact Option.some.inj ht ▸ e0
        · exact Option.some.inj ht ▸ e1
        · simp at ht⟩)
    (by kernel_rfl)
#print axioms coreEarlierCard_holds
end Go.Proofs.YtpcgfeckokgbfaaGreatDoor

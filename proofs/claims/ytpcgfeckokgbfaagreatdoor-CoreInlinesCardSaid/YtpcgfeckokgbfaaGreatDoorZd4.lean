/-
  The given statement CoreInlinesCardSaid: the card.
-/
import Derived.Test.YtpcgfeckokgbfaaGreatDoorZh4
import Derived.Test.YtpcgfeckokgbfaaGreatDoorTie
import Derived.Test.YtpcgfeckokgbfaaGreatDoorCards
import Derived.SevenTiedAt
set_option linter.all false
namespace Go.Proofs.YtpcgfeckokgbfaaGreatDoor
open Go
theorem coreInlinesCard_holds : Rows.CoreInlinesCardSaid :=
  Claim7.holds_tied_plain_at .later [] [.data, .data, .data, .sentinel, .sentinel, .listed, .data] true (true, "27f22032732088cd4c7471b96cb5312615fdbc6e9ba6ded89f6f43d55d78fd14") true
    coreInlines_holds (fun _ h => by cases h) (by kernel_rfl) (fun _ h => by cases h) coreInlines_row_tie rfl ⟨rfl, rfl⟩ (by kernel_rfl) rfl
    (fun f fn hf hfn => by
      obtain rfl : f = 4 := Option.some.inj ((show Tryz.prog.funcNamed "mist/mistlaw11.CoreInlines" = some 4 by kernel_rfl).symm.trans hf) |>.symm
      obtain rfl : fn = Tryz.f4 := (Option.some.inj (Tryz.func4.symm.trans hfn)).symm
      exact ⟨by kernel_rfl, fun j t ht => by
        rw [Tryz.params4] at ht
        have e0 : Tryz.pinned.checked.prog.wantsStandIn 26 = false := by kernel_rfl
        have e2 : Tryz.pinned.checked.prog.wantsStandIn 42 = false := by kernel_rfl
        have e1 : Tryz.pinned.checked.prog.wantsStandIn 24 = false := by kernel_rfl
        rcases j with _ | _ | _ | j
        · exact Option.some.inj ht ▸ e0
        · exact Option.some.inj ht ▸ e2
        · exact Option.some.inj ht ▸ e1
        · simp at ht⟩)
    (by kernel_rfl)
#print axioms coreInlinesCard_holds
end Go.Proofs.YtpcgfeckokgbfaaGreatDoor

/-
  The given statement Eval..CardSaid: facts of the program that the cards ask for. No conditions.
-/
import Derived.Test.YtgfggdcbhjhegaaGreatDoorRows
import Derived.SevenTiedAt
import Derived.KernelRfl
import Derived.ProofKit
namespace Go.Proofs.YtgfggdcbhjhegaaGreatDoor
open Go
theorem zm : Tryz.pinned.checked.prog.mainIs = some (true, "182cb0c81080dcd44fe323691287f58f5acd84f730c405a3d6366d6a040066d0".toList) := by kernel_rfl
theorem zl : true = Tryz.pinned.checked.prog.looks [] := by kernel_rfl
theorem zs3 : Tryz.pinned.checked.prog.wantsStandIn 3 = false := by kernel_rfl
theorem zs23 : Tryz.pinned.checked.prog.wantsStandIn 23 = false := by kernel_rfl
theorem zs25 : Tryz.pinned.checked.prog.wantsStandIn 25 = false := by kernel_rfl
end Go.Proofs.YtgfggdcbhjhegaaGreatDoor

/-
  The given statement EvalItemsCardSaid: facts that the card asks for. No conditions.
-/
import Derived.Test.YtgfggdcbhjhegaaGreatDoorZe0
namespace Go.Proofs.YtgfggdcbhjhegaaGreatDoor
open Go
theorem zw3 : Rows.evalItemsRow.wfByText (OpenSpec.ofChange Rows.evalItemsSpec) = true := by kernel_rfl
theorem zg3 : false = Rows.evalItemsRow.goesBy Tryz.pinned.checked.prog := by kernel_rfl
theorem zf3 : Tryz.prog.funcNamed "mist/mistlaw08.EvalItems" = some 3 := by kernel_rfl
end Go.Proofs.YtgfggdcbhjhegaaGreatDoor

/-
  The given statement EvalStepsCardSaid: facts that the card asks for. No conditions.
-/
import Derived.Test.YtgfggdcbhjhegaaGreatDoorZe0
namespace Go.Proofs.YtgfggdcbhjhegaaGreatDoor
open Go
theorem zw6 : Rows.evalStepsRow.wfByText (OpenSpec.ofChange Rows.evalStepsSpec) = true := by kernel_rfl
theorem zg6 : false = Rows.evalStepsRow.goesBy Tryz.pinned.checked.prog := by kernel_rfl
theorem zf6 : Tryz.prog.funcNamed "mist/mistlaw08.EvalSteps" = some 6 := by kernel_rfl
end Go.Proofs.YtgfggdcbhjhegaaGreatDoor

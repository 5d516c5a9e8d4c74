/-
  The given statement EvalExprsCardSaid: facts that the card asks for. No conditions.
-/
import Derived.Test.YtgfggdcbhjhegaaGreatDoorZe0
namespace Go.Proofs.YtgfggdcbhjhegaaGreatDoor
open Go
theorem zw7 : Rows.evalExprsRow.wfByText (OpenSpec.ofChange Rows.evalExprsSpec) = true := by kernel_rfl
theorem zg7 : false = Rows.evalExprsRow.goesBy Tryz.pinned.checked.prog := by kernel_rfl
theorem zf7 : Tryz.prog.funcNamed "mist/mistlaw08.EvalExprs" = some 7 := by kernel_rfl
end Go.Proofs.YtgfggdcbhjhegaaGreatDoor

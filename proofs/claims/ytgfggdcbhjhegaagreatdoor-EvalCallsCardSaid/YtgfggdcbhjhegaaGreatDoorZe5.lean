/-
  The given statement EvalCallsCardSaid: facts that the card asks for. No conditions.
-/
import Derived.Test.YtgfggdcbhjhegaaGreatDoorZe0
namespace Go.Proofs.YtgfggdcbhjhegaaGreatDoor
open Go
theorem zw5 : Rows.evalCallsRow.wfByText (OpenSpec.ofChange Rows.evalCallsSpec) = true := by kernel_rfl
theorem zg5 : false = Rows.evalCallsRow.goesBy Tryz.pinned.checked.prog := by kernel_rfl
theorem zf5 : Tryz.prog.funcNamed "mist/mistlaw08.EvalCalls" = some 5 := by kernel_rfl
theorem zs51 : Tryz.pinned.checked.prog.wantsStandIn 51 = false := by kernel_rfl
end Go.Proofs.YtgfggdcbhjhegaaGreatDoor

/-
  The given statement EvalProgramsCardSaid: facts that the card asks for. No conditions.
-/
import Derived.Test.YtgfggdcbhjhegaaGreatDoorZe0
namespace Go.Proofs.YtgfggdcbhjhegaaGreatDoor
open Go
theorem zw4 : Rows.evalProgramsRow.wfByText (OpenSpec.ofChange Rows.evalProgramsSpec) = true := by kernel_rfl
theorem zg4 : false = Rows.evalProgramsRow.goesBy Tryz.pinned.checked.prog := by kernel_rfl
theorem zf4 : Tryz.prog.funcNamed "mist/mistlaw08.EvalPrograms" = some 4 := by kernel_rfl
end Go.Proofs.YtgfggdcbhjhegaaGreatDoor

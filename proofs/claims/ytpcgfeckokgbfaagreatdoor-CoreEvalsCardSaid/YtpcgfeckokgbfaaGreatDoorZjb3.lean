/-
  The given statement CoreEvalsCardSaid: what the call reaches (2)
-/
import Derived.Test.YtpcgfeckokgbfaaGreatDoorRows
import Derived.JoinedOf
import Derived.KernelRfl
import Derived.ProofKit
set_option linter.all false
namespace Go.Proofs.YtpcgfeckokgbfaaGreatDoor
open Go Go.ChangeShapes Go.WideShapes Go.ChangeAt Go.WideMaps Go.WideElems Go.RowKit
theorem jf3_11 : ((Rows.coreEvalsRow.recurses == Tryz.prog.recurses 3)) = true := by kernel_rfl
theorem jf3_12 : ((Rows.coreEvalsRow.named == Tryz.prog.varsNamed 3)) = true := by kernel_rfl
end Go.Proofs.YtpcgfeckokgbfaaGreatDoor

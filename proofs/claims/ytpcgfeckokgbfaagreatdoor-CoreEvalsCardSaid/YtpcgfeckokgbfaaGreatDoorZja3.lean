/-
  The given statement CoreEvalsCardSaid: what the call reaches (1)
-/
import Derived.Test.YtpcgfeckokgbfaaGreatDoorRows
import Derived.JoinedOf
import Derived.KernelRfl
import Derived.ProofKit
set_option linter.all false
namespace Go.Proofs.YtpcgfeckokgbfaaGreatDoor
open Go Go.ChangeShapes Go.WideShapes Go.ChangeAt Go.WideMaps Go.WideElems Go.RowKit
theorem jf3_9 : ((Rows.coreEvalsRow.inPlace == Tryz.prog.inPlace 3)) = true := by kernel_rfl
theorem jf3_10 : ((Rows.coreEvalsRow.unfollowed == Tryz.prog.unfollowed 3)) = true := by kernel_rfl
end Go.Proofs.YtpcgfeckokgbfaaGreatDoor

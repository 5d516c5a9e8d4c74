/-
  The given statement CoreInlinesCardSaid: what the call reaches (1)
-/
import Derived.Test.YtpcgfeckokgbfaaGreatDoorRows
import Derived.JoinedOf
import Derived.KernelRfl
import Derived.ProofKit
set_option linter.all false
namespace Go.Proofs.YtpcgfeckokgbfaaGreatDoor
open Go Go.ChangeShapes Go.WideShapes Go.ChangeAt Go.WideMaps Go.WideElems Go.RowKit
theorem jf4_9 : ((Rows.coreInlinesRow.inPlace == Tryz.prog.inPlace 4)) = true := by kernel_rfl
theorem jf4_10 : ((Rows.coreInlinesRow.unfollowed == Tryz.prog.unfollowed 4)) = true := by kernel_rfl
end Go.Proofs.YtpcgfeckokgbfaaGreatDoor

/-
  The given statement CoreEarlierCardSaid: what the call reaches (1)
-/
import Derived.Test.YtpcgfeckokgbfaaGreatDoorRows
import Derived.JoinedOf
import Derived.KernelRfl
import Derived.ProofKit
set_option linter.all false
namespace Go.Proofs.YtpcgfeckokgbfaaGreatDoor
open Go Go.ChangeShapes Go.WideShapes Go.ChangeAt Go.WideMaps Go.WideElems Go.RowKit
theorem jf5_9 : ((Rows.coreEarlierRow.inPlace == Tryz.prog.inPlace 5)) = true := by kernel_rfl
theorem jf5_10 : ((Rows.coreEarlierRow.unfollowed == Tryz.prog.unfollowed 5)) = true := by kernel_rfl
end Go.Proofs.YtpcgfeckokgbfaaGreatDoor

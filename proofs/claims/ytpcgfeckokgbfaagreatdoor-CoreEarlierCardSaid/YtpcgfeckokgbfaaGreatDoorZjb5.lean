/-
  The given statement CoreEarlierCardSaid: what the call reaches (2)
-/
import Derived.Test.YtpcgfeckokgbfaaGreatDoorRows
import Derived.JoinedOf
import Derived.KernelRfl
import Derived.ProofKit
set_option linter.all false
namespace Go.Proofs.YtpcgfeckokgbfaaGreatDoor
open Go Go.ChangeShapes Go.WideShapes Go.ChangeAt Go.WideMaps Go.WideElems Go.RowKit
theorem jf5_11 : ((Rows.coreEarlierRow.recurses == Tryz.prog.recurses 5)) = true := by kernel_rfl
theorem jf5_12 : ((Rows.coreEarlierRow.named == Tryz.prog.varsNamed 5)) = true := by kernel_rfl
end Go.Proofs.YtpcgfeckokgbfaaGreatDoor

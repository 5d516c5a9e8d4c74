/-
  The given statement CoreInlinesCardSaid: what the call reaches (2)
-/
import Derived.Test.YtpcgfeckokgbfaaGreatDoorRows
import Derived.JoinedOf
import Derived.KernelRfl
import Derived.ProofKit
set_option linter.all false
namespace Go.Proofs.YtpcgfeckokgbfaaGreatDoor
open Go Go.ChangeShapes Go.WideShapes Go.ChangeAt Go.WideMaps Go.WideElems Go.RowKit
theorem jf4_11 : ((Rows.coreInlinesRow.recurses == Tryz.prog.recurses 4)) = true := by kernel_rfl
theorem jf4_12 : ((Rows.coreInlinesRow.named == Tryz.prog.varsNamed 4)) = true := by kernel_rfl
end Go.Proofs.YtpcgfeckokgbfaaGreatDoor

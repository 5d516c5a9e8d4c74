/-
  The given statement EvalItemsCardSaid: what the call reaches (2)
-/
import Derived.Test.YtgfggdcbhjhegaaGreatDoorRows
import Derived.JoinedOf
import Derived.KernelRfl
import Derived.ProofKit
set_option linter.all false
namespace Go.Proofs.YtgfggdcbhjhegaaGreatDoor
open Go Go.ChangeShapes Go.WideShapes Go.ChangeAt Go.WideMaps Go.WideElems Go.RowKit
theorem arj:((Rows.evalItemsRow.recurses==Tryz.prog.recurses 3))=true:=by kernel_rfl
theorem ark:((Rows.evalItemsRow.named==Tryz.prog.varsNamed 3))=true:=by kernel_rfl
end Go.Proofs.YtgfggdcbhjhegaaGreatDoor

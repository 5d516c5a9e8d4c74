/-
  The given statement EvalItemsCardSaid: what the call reaches (1)
-/
import Derived.Test.YtgfggdcbhjhegaaGreatDoorRows
import Derived.JoinedOf
import Derived.KernelRfl
import Derived.ProofKit
set_option linter.all false
namespace Go.Proofs.YtgfggdcbhjhegaaGreatDoor
open Go Go.ChangeShapes Go.WideShapes Go.ChangeAt Go.WideMaps Go.WideElems Go.RowKit
theorem arh:((Rows.evalItemsRow.inPlace==Tryz.prog.inPlace 3))=true:=by kernel_rfl
theorem ari:((Rows.evalItemsRow.unfollowed==Tryz.prog.unfollowed 3))=true:=by kernel_rfl
end Go.Proofs.YtgfggdcbhjhegaaGreatDoor

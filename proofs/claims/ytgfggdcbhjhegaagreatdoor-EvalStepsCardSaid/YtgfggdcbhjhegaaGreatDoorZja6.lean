/-
  The given statement EvalStepsCardSaid: what the call reaches (1)
-/
import Derived.Test.YtgfggdcbhjhegaaGreatDoorRows
import Derived.JoinedOf
import Derived.KernelRfl
import Derived.ProofKit
set_option linter.all false
namespace Go.Proofs.YtgfggdcbhjhegaaGreatDoor
open Go Go.ChangeShapes Go.WideShapes Go.ChangeAt Go.WideMaps Go.WideElems Go.RowKit
theorem asK:((Rows.evalStepsRow.inPlace==Tryz.prog.inPlace 6))=true:=by kernel_rfl
theorem asL:((Rows.evalStepsRow.unfollowed==Tryz.prog.unfollowed 6))=true:=by kernel_rfl
end Go.Proofs.YtgfggdcbhjhegaaGreatDoor

/-
  The given statement EvalStepsCardSaid: what the call reaches (2)
-/
import Derived.Test.YtgfggdcbhjhegaaGreatDoorRows
import Derived.JoinedOf
import Derived.KernelRfl
import Derived.ProofKit
set_option linter.all false
namespace Go.Proofs.YtgfggdcbhjhegaaGreatDoor
open Go Go.ChangeShapes Go.WideShapes Go.ChangeAt Go.WideMaps Go.WideElems Go.RowKit
theorem asM:((Rows.evalStepsRow.recurses==Tryz.prog.recurses 6))=true:=by kernel_rfl
theorem asN:((Rows.evalStepsRow.named==Tryz.prog.varsNamed 6))=true:=by kernel_rfl
end Go.Proofs.YtgfggdcbhjhegaaGreatDoor

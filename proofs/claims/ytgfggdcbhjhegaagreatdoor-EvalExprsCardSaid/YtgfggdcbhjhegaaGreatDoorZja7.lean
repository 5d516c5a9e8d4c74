/-
  The given statement EvalExprsCardSaid: what the call reaches (1)
-/
import Derived.Test.YtgfggdcbhjhegaaGreatDoorRows
import Derived.JoinedOf
import Derived.KernelRfl
import Derived.ProofKit
set_option linter.all false
namespace Go.Proofs.YtgfggdcbhjhegaaGreatDoor
open Go Go.ChangeShapes Go.WideShapes Go.ChangeAt Go.WideMaps Go.WideElems Go.RowKit
theorem ate:((Rows.evalExprsRow.inPlace==Tryz.prog.inPlace 7))=true:=by kernel_rfl
theorem atf:((Rows.evalExprsRow.unfollowed==Tryz.prog.unfollowed 7))=true:=by kernel_rfl
end Go.Proofs.YtgfggdcbhjhegaaGreatDoor

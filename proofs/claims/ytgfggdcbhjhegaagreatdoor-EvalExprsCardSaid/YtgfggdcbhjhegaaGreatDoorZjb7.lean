/-
  The given statement EvalExprsCardSaid: what the call reaches (2)
-/
import Derived.Test.YtgfggdcbhjhegaaGreatDoorRows
import Derived.JoinedOf
import Derived.KernelRfl
import Derived.ProofKit
set_option linter.all false
namespace Go.Proofs.YtgfggdcbhjhegaaGreatDoor
open Go Go.ChangeShapes Go.WideShapes Go.ChangeAt Go.WideMaps Go.WideElems Go.RowKit
theorem atg:((Rows.evalExprsRow.recurses==Tryz.prog.recurses 7))=true:=by kernel_rfl
theorem ath:((Rows.evalExprsRow.named==Tryz.prog.varsNamed 7))=true:=by kernel_rfl
end Go.Proofs.YtgfggdcbhjhegaaGreatDoor

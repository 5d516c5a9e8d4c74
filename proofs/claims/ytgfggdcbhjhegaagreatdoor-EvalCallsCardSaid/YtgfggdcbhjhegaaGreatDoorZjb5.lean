/-
  The given statement EvalCallsCardSaid: what the call reaches (2)
-/
import Derived.Test.YtgfggdcbhjhegaaGreatDoorRows
import Derived.JoinedOf
import Derived.KernelRfl
import Derived.ProofKit
set_option linter.all false
namespace Go.Proofs.YtgfggdcbhjhegaaGreatDoor
open Go Go.ChangeShapes Go.WideShapes Go.ChangeAt Go.WideMaps Go.WideElems Go.RowKit
theorem ash:((Rows.evalCallsRow.recurses==Tryz.prog.recurses 5))=true:=by kernel_rfl
theorem asi:((Rows.evalCallsRow.named==Tryz.prog.varsNamed 5))=true:=by kernel_rfl
end Go.Proofs.YtgfggdcbhjhegaaGreatDoor

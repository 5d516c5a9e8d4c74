/-
  The given statement EvalCallsCardSaid: what the call reaches (1)
-/
import Derived.Test.YtgfggdcbhjhegaaGreatDoorRows
import Derived.JoinedOf
import Derived.KernelRfl
import Derived.ProofKit
set_option linter.all false
namespace Go.Proofs.YtgfggdcbhjhegaaGreatDoor
open Go Go.ChangeShapes Go.WideShapes Go.ChangeAt Go.WideMaps Go.WideElems Go.RowKit
theorem asf:((Rows.evalCallsRow.inPlace==Tryz.prog.inPlace 5))=true:=by kernel_rfl
theorem asg:((Rows.evalCallsRow.unfollowed==Tryz.prog.unfollowed 5))=true:=by kernel_rfl
end Go.Proofs.YtgfggdcbhjhegaaGreatDoor

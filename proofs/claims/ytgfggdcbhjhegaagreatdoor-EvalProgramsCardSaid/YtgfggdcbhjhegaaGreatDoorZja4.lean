/-
  The given statement EvalProgramsCardSaid: what the call reaches (1)
-/
import Derived.Test.YtgfggdcbhjhegaaGreatDoorRows
import Derived.JoinedOf
import Derived.KernelRfl
import Derived.ProofKit
set_option linter.all false
namespace Go.Proofs.YtgfggdcbhjhegaaGreatDoor
open Go Go.ChangeShapes Go.WideShapes Go.ChangeAt Go.WideMaps Go.WideElems Go.RowKit
theorem arL:((Rows.evalProgramsRow.inPlace==Tryz.prog.inPlace 4))=true:=by kernel_rfl
theorem arM:((Rows.evalProgramsRow.unfollowed==Tryz.prog.unfollowed 4))=true:=by kernel_rfl
end Go.Proofs.YtgfggdcbhjhegaaGreatDoor

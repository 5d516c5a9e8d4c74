/-
  The given statement EvalProgramsCardSaid: what the call reaches (2)
-/
import Derived.Test.YtgfggdcbhjhegaaGreatDoorRows
import Derived.JoinedOf
import Derived.KernelRfl
import Derived.ProofKit
set_option linter.all false
namespace Go.Proofs.YtgfggdcbhjhegaaGreatDoor
open Go Go.ChangeShapes Go.WideShapes Go.ChangeAt Go.WideMaps Go.WideElems Go.RowKit
theorem arN:((Rows.evalProgramsRow.recurses==Tryz.prog.recurses 4))=true:=by kernel_rfl
theorem arO:((Rows.evalProgramsRow.named==Tryz.prog.varsNamed 4))=true:=by kernel_rfl
end Go.Proofs.YtgfggdcbhjhegaaGreatDoor

/- What the call reaches. -/
import Derived.Test.YtjfgooffdmnnkaaGreatDoorRows
import Derived.JoinedOf
import Derived.KernelRfl
import Derived.ProofKit
set_option linter.all false
namespace Go.Proofs.YtjfgooffdmnnkaaGreatDoor
open Go Go.ChangeShapes Go.WideShapes Go.ChangeAt Go.WideMaps Go.WideElems Go.RowKit
theorem ay0:((Rows.worldOddRow.recurses==Tryz.prog.recurses 8))=true:=by kernel_rfl
theorem ay1:((Rows.worldOddRow.named==Tryz.prog.varsNamed 8))=true:=by kernel_rfl
end Go.Proofs.YtjfgooffdmnnkaaGreatDoor

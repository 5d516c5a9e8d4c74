/- What the call reaches. -/
import Derived.Test.YtjfgooffdmnnkaaGreatDoorRows
import Derived.JoinedOf
import Derived.KernelRfl
import Derived.ProofKit
set_option linter.all false
namespace Go.Proofs.YtjfgooffdmnnkaaGreatDoor
open Go Go.ChangeShapes Go.WideShapes Go.ChangeAt Go.WideMaps Go.WideElems Go.RowKit
theorem awL:((Rows.worldChoicesRow.recurses==Tryz.prog.recurses 4))=true:=by kernel_rfl
theorem awM:((Rows.worldChoicesRow.named==Tryz.prog.varsNamed 4))=true:=by kernel_rfl
end Go.Proofs.YtjfgooffdmnnkaaGreatDoor

/- What the call reaches. -/
import Derived.Test.YtjfgooffdmnnkaaGreatDoorRows
import Derived.JoinedOf
import Derived.KernelRfl
import Derived.ProofKit
set_option linter.all false
namespace Go.Proofs.YtjfgooffdmnnkaaGreatDoor
open Go Go.ChangeShapes Go.WideShapes Go.ChangeAt Go.WideMaps Go.WideElems Go.RowKit
theorem awJ:((Rows.worldChoicesRow.inPlace==Tryz.prog.inPlace 4))=true:=by kernel_rfl
theorem awK:((Rows.worldChoicesRow.unfollowed==Tryz.prog.unfollowed 4))=true:=by kernel_rfl
end Go.Proofs.YtjfgooffdmnnkaaGreatDoor

/- What the call reaches. -/
import Derived.Test.YtjfgooffdmnnkaaGreatDoorRows
import Derived.JoinedOf
import Derived.KernelRfl
import Derived.ProofKit
set_option linter.all false
namespace Go.Proofs.YtjfgooffdmnnkaaGreatDoor
open Go Go.ChangeShapes Go.WideShapes Go.ChangeAt Go.WideMaps Go.WideElems Go.RowKit
theorem ayY:((Rows.worldOddRow.inPlace==Tryz.prog.inPlace 8))=true:=by kernel_rfl
theorem ayZ:((Rows.worldOddRow.unfollowed==Tryz.prog.unfollowed 8))=true:=by kernel_rfl
end Go.Proofs.YtjfgooffdmnnkaaGreatDoor

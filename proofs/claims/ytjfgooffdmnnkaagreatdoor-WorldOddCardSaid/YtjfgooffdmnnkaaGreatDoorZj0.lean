/- What the call reaches. -/
import Derived.Test.YtjfgooffdmnnkaaGreatDoorRows
import Derived.JoinedOf
import Derived.KernelRfl
import Derived.ProofKit
set_option linter.all false
namespace Go.Proofs.YtjfgooffdmnnkaaGreatDoor
open Go Go.ChangeShapes Go.WideShapes Go.ChangeAt Go.WideMaps Go.WideElems Go.RowKit
theorem Iy:(laidOutB Tryz.prog)=true:=by kernel_rfl
theorem Iz:(mapsRowed Tryz.prog)=true:=by kernel_rfl
theorem IA:(Tryz.prog.stopsHeard)=true:=by kernel_rfl
theorem IB:(Tryz.prog.mayEnter)=true:=by kernel_rfl
end Go.Proofs.YtjfgooffdmnnkaaGreatDoor

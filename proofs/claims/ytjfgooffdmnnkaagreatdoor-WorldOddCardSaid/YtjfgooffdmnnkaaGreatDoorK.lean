/- The closed call of the law answers true: worked out by the kernel over the models. -/
import Derived.Test.YtjfgooffdmnnkaaGreatDoorUD
import Derived.KernelRfl
set_option linter.all false
set_option maxRecDepth 100000
namespace Go.Proofs.YtjfgooffdmnnkaaGreatDoor
open Go Go.Mi Go.RowKit Go.Dp
def aoW:af5 (U7 300)=some true:=by kernel_rfl
end Go.Proofs.YtjfgooffdmnnkaaGreatDoor

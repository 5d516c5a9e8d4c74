/- The closed law's own value, by the kernel. -/
import Derived.Test.YtgfggdcbhjhegaaGreatDoorUD
import Derived.KernelRfl
set_option linter.all false
set_option maxRecDepth 100000
namespace Go.Proofs.YtgfggdcbhjhegaaGreatDoor
open Go Go.Mi Go.RowKit Go.Dp
theorem akI:aaT (Qe 300)=some true:=by kernel_rfl
end Go.Proofs.YtgfggdcbhjhegaaGreatDoor

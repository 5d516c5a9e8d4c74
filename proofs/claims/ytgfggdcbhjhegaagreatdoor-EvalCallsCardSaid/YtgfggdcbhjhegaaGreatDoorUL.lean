/- All contracts. -/
import Derived.Test.YtgfggdcbhjhegaaGreatDoorPda
set_option linter.all false
set_option maxRecDepth 100000
set_option maxHeartbeats 4000000
namespace Go.Proofs.YtgfggdcbhjhegaaGreatDoor
open Go Go.Mi Go.RowKit Go.Dp Tryz Go.Proofs.Tryz
noncomputable section
attribute [local irreducible] bI cW co bZ
end
end Go.Proofs.YtgfggdcbhjhegaaGreatDoor

/- All. -/
import Derived.Test.YtjfgooffdmnnkaaGreatDoorPda
set_option linter.all false
set_option maxRecDepth 100000
set_option maxHeartbeats 4000000
namespace Go.Proofs.YtjfgooffdmnnkaaGreatDoor
open Go Go.Mi Go.RowKit Go.Dp Tryz Go.Proofs.Tryz
noncomputable section
attribute [local irreducible] bS dl cv b7
end
end Go.Proofs.YtjfgooffdmnnkaaGreatDoor

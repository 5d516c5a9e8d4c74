/-
  The given statement EvalExprsCardSaid: the heap that the door's own run leaves meets the condition of the row.
-/
import Derived.Test.YtgfggdcbhjhegaaGreatDoorProg
import Derived.Test.YtgfggdcbhjhegaaGreatDoorRows
import Derived.ProofKit
import Derived.LaidMore
import Derived.OpenShut
import Derived.Stop.Joined
set_option linter.all false
namespace Go.Proofs.YtgfggdcbhjhegaaGreatDoor
open Go Go.ChangeShapes Go.WideShapes Go.ChangeAt Go.WideMaps Go.WideElems Go.RowKit
theorem HK(os:Os)(args:Array Value):laidMetH Tryz.prog Rows.evalExprsRow.laid ((World.doorLaid Tryz.prog 400 os).forCall (λ_ _=>0) ⟨#[],args,[]⟩).memory:=
 laidMetH_of_parts3 (fuel:=8) (laidMet_of_run' 8 (by kernel_rfl) (by kernel_rfl)) (by kernel_rfl) (by kernel_rfl)
end Go.Proofs.YtgfggdcbhjhegaaGreatDoor

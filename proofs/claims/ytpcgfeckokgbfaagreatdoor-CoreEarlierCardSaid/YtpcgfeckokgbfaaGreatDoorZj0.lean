/-
  The given statement CoreEvalsCardSaid: facts of the program
-/
import Derived.Test.YtpcgfeckokgbfaaGreatDoorRows
import Derived.JoinedOf
import Derived.KernelRfl
import Derived.ProofKit
set_option linter.all false
namespace Go.Proofs.YtpcgfeckokgbfaaGreatDoor
open Go Go.ChangeShapes Go.WideShapes Go.ChangeAt Go.WideMaps Go.WideElems Go.RowKit
theorem jf0_1 : (laidOutB Tryz.prog) = true := by kernel_rfl
theorem jf0_2 : (mapsRowed Tryz.prog) = true := by kernel_rfl
theorem jf0_24 : (Tryz.prog.stopsHeard) = true := by kernel_rfl
theorem jf0_25 : (Tryz.prog.mayEnter) = true := by kernel_rfl
end Go.Proofs.YtpcgfeckokgbfaaGreatDoor

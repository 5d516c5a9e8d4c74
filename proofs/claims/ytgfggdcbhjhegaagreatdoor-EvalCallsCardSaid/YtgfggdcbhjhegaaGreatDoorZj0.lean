/-
  The given statement EvalExprsCardSaid: facts of the program
-/
import Derived.Test.YtgfggdcbhjhegaaGreatDoorRows
import Derived.JoinedOf
import Derived.KernelRfl
import Derived.ProofKit
set_option linter.all false
namespace Go.Proofs.YtgfggdcbhjhegaaGreatDoor
open Go Go.ChangeShapes Go.WideShapes Go.ChangeAt Go.WideMaps Go.WideElems Go.RowKit
theorem HL:(laidOutB Tryz.prog)=true:=by kernel_rfl
theorem HM:(mapsRowed Tryz.prog)=true:=by kernel_rfl
theorem HN:(Tryz.prog.stopsHeard)=true:=by kernel_rfl
theorem HO:(Tryz.prog.mayEnter)=true:=by kernel_rfl
end Go.Proofs.YtgfggdcbhjhegaaGreatDoor

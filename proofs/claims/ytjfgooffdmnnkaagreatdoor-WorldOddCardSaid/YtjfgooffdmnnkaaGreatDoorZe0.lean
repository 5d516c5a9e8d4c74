/- What the call reaches. -/
import Derived.Test.YtjfgooffdmnnkaaGreatDoorRows
import Derived.SevenTiedAt
import Derived.KernelRfl
import Derived.ProofKit
set_option linter.all false
namespace Go.Proofs.YtjfgooffdmnnkaaGreatDoor
open Go
theorem IC:Tryz.pinned.checked.prog.mainIs=some (true, "a1147731839a5651cb5ab021a3122828065f7f31ee10eb60cedd5ed00c38fd61".toList):=by kernel_rfl
theorem ID:true=Tryz.pinned.checked.prog.looks []:=by kernel_rfl
theorem IE:Tryz.pinned.checked.prog.wantsStandIn 3=false:=by kernel_rfl
theorem Mv:Tryz.pinned.checked.prog.wantsStandIn 9=false:=by kernel_rfl
end Go.Proofs.YtjfgooffdmnnkaaGreatDoor

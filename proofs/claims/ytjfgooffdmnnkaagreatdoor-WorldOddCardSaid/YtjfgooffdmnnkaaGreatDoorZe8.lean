/- What the call reaches. -/
import Derived.Test.YtjfgooffdmnnkaaGreatDoorZe0
set_option linter.all false
namespace Go.Proofs.YtjfgooffdmnnkaaGreatDoor
open Go
theorem azs:Rows.worldOddRow.wfByText (OpenSpec.ofChange Rows.worldOddSpec)=true:=by kernel_rfl
theorem azt:false=Rows.worldOddRow.goesBy Tryz.pinned.checked.prog:=by kernel_rfl
theorem azu:Tryz.prog.funcNamed "mist/mistlaw09.WorldOdd" =some 8:=by kernel_rfl
theorem azv:Tryz.pinned.checked.prog.wantsStandIn 25=false:=by kernel_rfl
end Go.Proofs.YtjfgooffdmnnkaaGreatDoor

/- What the call reaches. -/
import Derived.Test.YtjfgooffdmnnkaaGreatDoorZe0
set_option linter.all false
namespace Go.Proofs.YtjfgooffdmnnkaaGreatDoor
open Go
theorem axd:Rows.worldChoicesRow.wfByText (OpenSpec.ofChange Rows.worldChoicesSpec)=true:=by kernel_rfl
theorem axe:false=Rows.worldChoicesRow.goesBy Tryz.pinned.checked.prog:=by kernel_rfl
theorem axf:Tryz.prog.funcNamed "mist/mistlaw09.WorldChoices" =some 4:=by kernel_rfl
end Go.Proofs.YtjfgooffdmnnkaaGreatDoor

/- Calls that are known, worked out piece by piece. -/
import Derived.Test.YtpcgfeckokgbfaaGreatDoorK4
import Derived.KernelRfl
set_option linter.all false
namespace Go.Proofs.YtpcgfeckokgbfaaGreatDoor
open Go Go.Dp
set_option maxRecDepth 100000
def mem34 : Memo := ⟨7,[],.p (.v (.bool true)),[]⟩
theorem kn34 : MemoOk Tryz.prog mem34 := pgOk.memo (k := 166153499783430630435306008817435136) (gm := 0) (l := [mem3,mem4,mem5,mem6,mem7,mem8,mem9,mem10,mem14,mem20,mem18,mem29,mem28,mem32,mem31,mem33]) ⟨kn3, kn4, kn5, kn6, kn7, kn8, kn9, kn10, kn14, kn20, kn18, kn29, kn28, kn32, kn31, kn33, trivial⟩ 100000 (by kernel_rfl) (by kernel_rfl)
end Go.Proofs.YtpcgfeckokgbfaaGreatDoor

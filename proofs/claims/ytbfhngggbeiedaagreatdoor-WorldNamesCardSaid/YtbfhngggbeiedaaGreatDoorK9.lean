/- Calls that are known, worked out piece by piece. -/
import Derived.Test.YtbfhngggbeiedaaGreatDoorK8
import Derived.KernelRfl
set_option linter.all false
namespace Go.Proofs.YtbfhngggbeiedaaGreatDoor
open Go Go.Dp
set_option maxRecDepth 100000
def mem67 : Memo := ⟨3,[],.p (.v (.bool true)),[]⟩
theorem kn67 : MemoOk Tryz.prog mem67 := pgOk.memo (k := 509258994083621521567111422102344540262867098416484062659035112339804250760589543209238912) (gm := 1090519040) (l := [mem27,mem43,mem59,mem60,mem46,mem47,mem28,mem65,mem66]) ⟨kn27, kn43, kn59, kn60, kn46, kn47, kn28, kn65, kn66, trivial⟩ 100000 (by kernel_rfl) (by kernel_rfl)
end Go.Proofs.YtbfhngggbeiedaaGreatDoor

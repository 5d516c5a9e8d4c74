/- The given statement WorldChoicesCardSaid holds. No conditions. -/
import Derived.Test.YtjfgooffdmnnkaaGreatDoorZh4
import Derived.Test.YtjfgooffdmnnkaaGreatDoorZe4
import Derived.Test.YtjfgooffdmnnkaaGreatDoorTie
import Derived.Test.YtjfgooffdmnnkaaGreatDoorCards
import Derived.SevenTiedAt
set_option linter.all false
namespace Go.Proofs.YtjfgooffdmnnkaaGreatDoor
open Go
theorem worldChoicesCard_holds:Rows.WorldChoicesCardSaid:=
 Claim7.holds_tied_plain_at .later [] [.data,.data,.data,.sentinel,.sentinel,.listed,.data] true (true, "a1147731839a5651cb5ab021a3122828065f7f31ee10eb60cedd5ed00c38fd61") true
  axc (λ_ h=>by cases h) axd (λ_ h=>by cases h) worldChoices_row_tie rfl ⟨rfl,rfl⟩ IC rfl
  (λf fn bg xv=>by
   obtain rfl:f=4:=(Option.some.inj (axf.symm.trans bg)).symm;obtain rfl:fn=Tryz.f4:=(Option.some.inj (Tryz.func4.symm.trans xv)).symm;exact⟨ID,λj t aj=>by
    rw[Tryz.params4]at aj;rcases j with _|_|_|j
    ·exact Option.some.inj aj▸Mv
    ·exact Option.some.inj aj▸IE
    ·exact Option.some.inj aj▸IE
    ·simp at aj⟩)
  axe
#print axioms worldChoicesCard_holds
end Go.Proofs.YtjfgooffdmnnkaaGreatDoor

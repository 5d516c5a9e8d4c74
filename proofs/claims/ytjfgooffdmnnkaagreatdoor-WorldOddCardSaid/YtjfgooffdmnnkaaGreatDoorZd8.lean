/- The given statement WorldOddCardSaid holds. No conditions. -/
import Derived.Test.YtjfgooffdmnnkaaGreatDoorZh8
import Derived.Test.YtjfgooffdmnnkaaGreatDoorZe8
import Derived.Test.YtjfgooffdmnnkaaGreatDoorTie
import Derived.Test.YtjfgooffdmnnkaaGreatDoorCards
import Derived.SevenTiedAt
set_option linter.all false
namespace Go.Proofs.YtjfgooffdmnnkaaGreatDoor
open Go
theorem worldOddCard_holds:Rows.WorldOddCardSaid:=
 Claim7.holds_tied_plain_at .later [] [.data,.data,.data,.sentinel,.sentinel,.listed,.data] true (true, "a1147731839a5651cb5ab021a3122828065f7f31ee10eb60cedd5ed00c38fd61") true
  azr (λ_ h=>by cases h) azs (λ_ h=>by cases h) worldOdd_row_tie rfl ⟨rfl,rfl⟩ IC rfl
  (λf fn bg xv=>by
   obtain rfl:f=8:=(Option.some.inj (azu.symm.trans bg)).symm;obtain rfl:fn=Tryz.f8:=(Option.some.inj (Tryz.func8.symm.trans xv)).symm;exact⟨ID,λj t aj=>by
    rw[Tryz.params8]at aj;rcases j with _|_|j
    ·exact Option.some.inj aj▸azv
    ·exact Option.some.inj aj▸IE
    ·simp at aj⟩)
  azt
#print axioms worldOddCard_holds
end Go.Proofs.YtjfgooffdmnnkaaGreatDoor

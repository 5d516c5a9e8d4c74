/- The functions of the program compute what their models say. -/
import Derived.Test.YtjfgooffdmnnkaaGreatDoorPba
import Derived.Test.YtjfgooffdmnnkaaGreatDoorPbb
import Derived.Test.YtjfgooffdmnnkaaGreatDoorPbc
set_option linter.all false
set_option maxRecDepth 100000
set_option maxHeartbeats 4000000
namespace Go.Proofs.YtjfgooffdmnnkaaGreatDoor
open Go Go.Mi Go.RowKit Go.Dp Tryz Go.Proofs.Tryz
noncomputable section
attribute [local irreducible] bS dl cv b7
instance aHE{J:aA}{ab al}:ck (iE J ab al) 40 [.agg ((dY ab).map .p),aL al] [] 2 (Sum.elim (λr=>.cx [.p (.v (.pointer none)),aL r]) (λr=>.cx [.aV 0 0,aL r.1])) (Sum.elim (λ_=>[]) (λr=>[hj r.2.1 r.2.2.1 1,gJ r.2.2.2])):=.aX 2 func40 rfl ntmps40 a0
instance aHF{J:aA}{Z an}:bQ (vC J Z an) 19 [.agg ((dY Z).map .p),aL an] (λr=>.cx [bM 3 l5 r.1,aL r.2]):=.aX 2 func19 rfl ntmps19<|by
 intro _ _ _;refine oU (λaa=>?_) (λai=>?_)
 ·refine cy ?_;exact .bt
 ·exact a0
instance aHG{J:aA}{Z an a'}:bQ (o3 J Z an a') 21 [.agg ((dY Z).map .p),aL an,aL a'] (λr=>.cx [bM 1 ch r.1,aL r.2]):=.aX 2 func21 rfl ntmps21<|by
 intro _ _ _;refine oU (λaa=>?_) (λai=>?_)
 ·refine cy ?_;exact .bt
 ·exact a0
instance aHH{J:aA}{Z an a'}:bQ (sh J Z an a') 26 [.agg ((dY Z).map .p),aL an,bM 1 ch a'] (λr=>.cx [aL r.1,aL r.2]):=.aX 2 func26 rfl ntmps26<|by
 intro _ _ _;refine oU (λaa=>?_) (λai=>?_)
 ·refine cy ?_;exact .bt
 ·exact a0
instance aHI{J:aA}{Z an a'}:bQ (wX J Z an a') 28 [.agg ((dY Z).map .p),aL an,bM 1 ch a'] (λr=>.cx [bM 1 ch r.1,aL r.2]):=.aX 0 func28 rfl ntmps28 a0
instance aHJ{J:aA}{Z an}:bQ (vH J Z an) 11 [.agg ((dY Z).map .p),aL an] (λr=>.cx [bM 1 fd r.1,aL r.2]):=.aX 3 func11 rfl ntmps11<|by
 intro _ _ _;refine oU (λaa=>?_) (λai=>?_)
 ·refine cy ?_;exact .bt
 ·refine cy ?_;refine ba λaE=>?_;refine g3 ?_;refine .nil<|.gH<|.iq<|.sV fd 9 1 2 8 rfl rfl<|?_;refine l4 (α:=Bi) (λs=>[(8,cZ 1 fd s.1.1 2 s.2),(24,aL s.1.2)]) (λH s=>H.set 2 (.bs 9 1 s.2)) [6,22,23] (([],0),0) ?_;rintro⟨⟨b2,Qt⟩,BS⟩ n;refine fg ?_;refine ba λaW=>?_;refine ba λa_=>?_;refine .akm Gp rfl rfl rfl<|?_;exact a0
instance aHx{J:aA}{hY} [HI:Bl hY]{ab al am ao ah aq av aT bd bf bo bC bW cB dj}:ck (QQ J hY ab al am ao ah aq av aT bd bf bo bC bW cB dj) 181 [.aV 0 0,.aV 1 0,aL ab] [fK al am ao ah aq av aT 2 3 4 5,mp bd bf 6,gr bo,eG bC,dO bW,gi cB,eG dj] 0 (λr=>bM 2 cM r.1) (λr=>[fK al am r.2.1 r.2.2.1 r.2.2.2.1 av aT 2 3 4 5,mp bd bf 6,gr bo,eG r.2.2.2.2.1,dO r.2.2.2.2.2.1,gi r.2.2.2.2.2.2.1,eG r.2.2.2.2.2.2.2]):=.aX 2 func181 rfl ntmps181 a0
instance aHK{J:aA}{Z an}:bQ (wZ J Z an) 20 [.agg ((dY Z).map .p),aL an] (λr=>.cx [aL r.1,aL r.2]):=.aX 2 func20 rfl ntmps20<|by
 intro _ _ _;refine oU (λaa=>?_) (λai=>?_)
 ·refine cy ?_;exact .bt
 ·exact a0
end
end Go.Proofs.YtjfgooffdmnnkaaGreatDoor

/- The functions of the program compute what their models say. -/
import Derived.Test.YtjfgooffdmnnkaaGreatDoorPba
import Derived.Test.YtjfgooffdmnnkaaGreatDoorPbb
import Derived.Test.YtjfgooffdmnnkaaGreatDoorPbc
set_option linter.all false
set_option maxRecDepth 100000
set_option maxHeartbeats 4000000
namespace Go.Proofs.YtjfgooffdmnnkaaGreatDoor
open Go Go.Mi Go.RowKit Go.Dp Tryz Go.Proofs.Tryz
noncomputable section
attribute [local irreducible] bS dl cv b7
instance aHM{J:aA}{ab}:ck (Qu J ab) 118 [.agg ((dY ab).map .p)] [] 5 (Sum.elim (λr=>.cx [.p (.v (.pointer none)),aL r]) (λr=>.cx [.aV 0 0,aL r.1])) (Sum.elim (λ_=>[]) (λr=>[fK r.2.1 r.2.2.1 r.2.2.2.1 r.2.2.2.2.1 r.2.2.2.2.2.1 r.2.2.2.2.2.2.1 r.2.2.2.2.2.2.2.1 1 2 3 4,gr r.2.2.2.2.2.2.2.2.1,eG r.2.2.2.2.2.2.2.2.2.1,dO r.2.2.2.2.2.2.2.2.2.2.1,gi r.2.2.2.2.2.2.2.2.2.2.2])):=.aX 7 func118 rfl ntmps118<|by intro _ _ _;refine ba λaa=>?_;refine cy ?_;refine ba λai=>?_;refine ba λaE=>?_;refine cg ?_;refine .ar (aog (i:=2)) (fa rfl) rfl<|.ar (Vm (i:=3)) (fa rfl) rfl<|.ar (adL (i:=4)) (fa rfl) rfl<|.ar (aol (i:=5)) (fa rfl) rfl<|?_;refine g0 ?_;exact a0
instance aHN{J:aA}{ab al am ao}:ck (Ht J ab al am ao) 89 [.agg ((dY ab).map .p),aL al,bM 1 ch am,bM 1 mm ao] [] 5 (Sum.elim (λr=>.cx [.p (.v (.pointer none)),aL r]) (λr=>.cx [.aV 0 0,aL r.1])) (Sum.elim (λ_=>[]) (λr=>[fK r.2.1 r.2.2.1 r.2.2.2.1 r.2.2.2.2.1 r.2.2.2.2.2.1 r.2.2.2.2.2.2.1 r.2.2.2.2.2.2.2.1 1 2 3 4,gr r.2.2.2.2.2.2.2.2.1,eG r.2.2.2.2.2.2.2.2.2.1,dO r.2.2.2.2.2.2.2.2.2.2.1,gi r.2.2.2.2.2.2.2.2.2.2.2])):=.aX 5 func89 rfl ntmps89<|by
 intro _ _ _;refine oU (λaa=>?_) (λai=>?_)
 ·refine cy ?_;refine .gg (β:=Bool) (λs=>[(21,bD s)]) (λH _=>H) [1,2,10] (Qw) ?_ ?_
  ·rintro wU;refine cy ?_;exact .bt
  ·intro j;exact a0
 ·refine cy ?_;refine .gg (β:=Bool) (λs=>[(21,bD s)]) (λH _=>H) [1,2,10] (Eg J al am ai) ?_ ?_
  ·rintro BL;exact a0
  ·intro j;exact a0
instance aHO{J:aA}{Z an a'}:bQ (QY J Z an a') 221 [.agg ((dY Z).map .p),cE an,cE a'] (λr=>.cx [aL r.1,aL r.2.1,aL r.2.2]):=.aX 3 func221 rfl ntmps221<|by
 intro _ _ _;refine oU (λaa=>?_) (λai=>?_)
 ·refine cy ?_;refine cI (α:=(Int×Int)) (λs=>[(6,aL s.1),(27,aL s.2)]) (λH _=>H) [2,9,25,26] ?_;rintro⟨dR,afX⟩ n;refine fg ?_;exact .bt
 ·refine cy ?_;refine cI (α:=(Int×Int)) (λs=>[(6,aL s.1),(27,aL s.2)]) (λH _=>H) [2,9,25,26] ?_;rintro⟨kC,QX⟩ n;exact a0
instance aHP{J:aA}{hY} [HI:Bl hY]{ab al am ao ah aq av aT bd bf bo bC bW cB dj}:ck (QZ J hY ab al am ao ah aq av aT bd bf bo bC bW cB dj) 183 [.aV 0 0,.aV 1 0,aL ab] [fK al am ao ah aq av aT 2 3 4 5,mp bd bf 6,gr bo,eG bC,dO bW,gi cB,eG dj] 0 (λr=>bM 2 cM r.1) (λr=>[fK al am r.2.1 r.2.2.1 r.2.2.2.1 av aT 2 3 4 5,mp bd bf 6,gr bo,eG r.2.2.2.2.1,dO r.2.2.2.2.2.1,gi r.2.2.2.2.2.2.1,eG r.2.2.2.2.2.2.2]):=.aX 2 func183 rfl ntmps183<|by
 intro _ _ _;refine ba λaa=>?_;refine cg ?_;refine .ar (aom (k:=ab) rfl rfl rfl) (fa rfl) rfl<|?_;refine fO ?_;refine .gg (β:=(List jn×Int×Int×Int)) (λ_=>[]) (λH s=>((H.set 5 (gi s.1)).set 7 (fY s.2.1 aa.text aa.n aa.a8 aa.at_)).set 8 (.cells 276 [aL s.2.2.1,aL s.2.2.2])) [0,1,7,8] (KZ aa hY al am ao ah aq av aT bd bf bo bC bW dj) ?_ ?_
 ·rintro⟨afZ,aoS,af0,Xd⟩;exact a0
 ·intro j;refine fg ?_;refine ba λbq=>?_;refine ba λbR=>?_;refine ba λbJ=>?_;refine cg ?_;refine .ar (aon (k:=ab) (a:=(⟨bJ.1,bJ.2.1⟩:qt)) rfl rfl rfl rfl .lB) (fa rfl) .n<|?_;exact a0
end
end Go.Proofs.YtjfgooffdmnnkaaGreatDoor

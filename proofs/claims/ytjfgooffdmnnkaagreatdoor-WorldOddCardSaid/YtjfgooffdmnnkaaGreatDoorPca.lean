/- The functions of the program compute what their models say. -/
import Derived.Test.YtjfgooffdmnnkaaGreatDoorPba
import Derived.Test.YtjfgooffdmnnkaaGreatDoorPbb
import Derived.Test.YtjfgooffdmnnkaaGreatDoorPbc
set_option linter.all false
set_option maxRecDepth 100000
set_option maxHeartbeats 4000000
namespace Go.Proofs.YtjfgooffdmnnkaaGreatDoor
open Go Go.Mi Go.RowKit Go.Dp Tryz Go.Proofs.Tryz
noncomputable section
attribute [local irreducible] bS dl cv b7
instance aHy{J:aA}{ab al am ao ah aq av aT bd bf bo bC bW cB dj kE}:ck (QW J ab al am ao ah aq av aT bd bf bo bC bW cB dj kE) 302 [.gV 0,.aV 1 0,.bG [bI ab]] [J1 .ready none [(7,.aV 2 0),(9,.aV 3 0)] 4,pM 5,Gs al,.cells 181 [.aV 6 0],.cD true,fK am ao ah aq av aT bd 7 8 9 10,mp bf bo 11,gr bC,eG bW,dO cB,gi dj,eG kE] 0 (λr=>.cx []) (λr=>[J1 .ready none [(7,.aV 2 0),(9,.aV 3 0)] 4,pM 5,Gs r.1,.cells 181 [.aV 6 0],.cD true,fK am ao ah aq av aT bd 7 8 9 10,mp bf bo 11,gr bC,eG bW,dO r.2.2,gi dj,eG r.2.1]):=.aX 0 func302 rfl ntmps302<|by intro _ _ _;refine ba λaa=>?_;refine ba λai=>?_;refine cI (α:=(Int×dh×List e2×mP)) (λs=>[(22,aL s.1)]) (λH s=>((H.set 2 (Gs s.2.1)).set 9 (dO s.2.2.1)).set 11 (eG s.2.2.2)) [0,1,20,21] ?_;rintro⟨QU,mT,QV,W'⟩ n;exact a0
instance aHz{J:aA}{hY} [HI:Bl hY]{ab al am ao ah aq av aT bd bf bo bC bW cB}:ck (Hy J hY ab al am ao ah aq av aT bd bf bo bC bW cB) 220 [.aV 0 0,aL ab,aL al,bM 2 cM am] [fK ao ah aq av aT bd bf 1 2 3 4,gr bo,eG bC,dO bW,gi cB] 0 (λr=>bM 2 cM r.1) (λr=>[fK ao ah r.2.1 r.2.2.1 r.2.2.2.1 bd bf 1 2 3 4,gr bo,eG r.2.2.2.2.1,dO r.2.2.2.2.2.1,gi r.2.2.2.2.2.2]):=.sU 8 func220 rfl ntmps220<|by
 intro _ _ _;refine g0 ?_;refine cg ?_;refine .ar (Vm (i:=6)) (fa rfl) rfl<|?_;refine g0 ?_;refine ba λaa=>?_;refine cg ?_;refine .range (H2:=λai=>[fK ao ah aq av aT bd bf 1 2 3 4,gr bo,eG bC,dO ai.2.2,gi cB,Gs ai.1,eG ai.2.1,mp ab al 6,.cells 181 [.aV 7 0],pM 0,J1 .ready none [(7,.aV 5 0),(9,.aV 8 0)] 11,.cD true,.cc]) 10 11 12 [10,9,5,8,11,0,7,1,2,3,4,6] [] rfl rfl rfl rfl (.s rfl (.s rfl .n)) (λ_ _=>rfl) .fn rfl (λz h=>⟨gB.h h,.mH rfl,rfl,rfl⟩) (bU rfl (bU rfl (bU rfl (bU rfl (bU rfl (bU rfl (bU rfl (bU rfl (bU rfl (bU rfl (bU rfl (bU rfl fy)))))))))))) (λ_=>.mk rfl (by decide) rfl) (λ_=>rfl) (λ_=>rfl) (λ_=>rfl) (λai aHA=>?_)
 ·refine ba λaW=>?_;refine cg ?_;refine .U4 10 rfl (.s rfl .n) rfl λaHB=>?_;refine ba λbq=>?_;refine ba λbR=>?_;refine ba λbJ=>?_;refine cg ?_;refine .amE 10 [0,1,2,3,4] [] rfl rfl (λ_ _=>rfl) (λz h=>⟨apO h,.mH rfl,rfl⟩) rfl (bU rfl (bU rfl (bU rfl (bU rfl (bU rfl fy))))) λcG=>.nQ 12 rfl rfl rfl<|.mM rfl<|?_;exact a0
end
end Go.Proofs.YtjfgooffdmnnkaaGreatDoor

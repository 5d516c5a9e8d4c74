/- The functions of the program compute what their models say. -/
import Derived.Test.YtjfgooffdmnnkaaGreatDoorPaa
import Derived.Test.YtjfgooffdmnnkaaGreatDoorPab
import Derived.Test.YtjfgooffdmnnkaaGreatDoorPac
set_option linter.all false
set_option maxRecDepth 100000
set_option maxHeartbeats 4000000
namespace Go.Proofs.YtjfgooffdmnnkaaGreatDoor
open Go Go.Mi Go.RowKit Go.Dp Tryz Go.Proofs.Tryz
noncomputable section
attribute [local irreducible] bS dl cv b7
instance aGB{J:aA}{ab al am ao ah aq av aT bd bf bo bC bW}:ck (Qv J ab al am ao ah aq av aT bd bf bo bC bW) 120 [.aV 0 0,aL ab,bM 1 ch al] [fK am ao ah aq av aT bd 1 2 3 4,gr bf,eG bo,dO bC,gi bW] 0 (λr=>bD r.1) (λr=>[fK am ao ah aq av aT bd 1 2 3 4,gr r.2,eG bo,dO bC,gi bW]):=.sU 7 func120 rfl ntmps120<|by
 intro _ _ _;refine g0 ?_;refine ba λaa=>?_;refine cg ?_;refine .acy (H2:=λai=>[fK am ao ah aq av aT bd 1 2 3 4,gr ai.2.2,eG bo,dO bC,gi bW,pM 0,pN ai.1,ep ai.2.1,pM 0,Bc .done (some .ret) [(3,.aV 5 0),(5,.bG [sl 1 ch al]),(6,.aV 6 0),(7,.aV 7 0)] 10,.cD true,.cc]) (nu:=λaE=>[fK am ao ah aq av aT bd 1 2 3 4,gr aE.2.2,eG bo,dO bC,gi bW,pM 0,pN aE.1,ep aE.2.1,pM 0,Bc .ready none [(3,.aV 5 0),(5,.bG [sl 1 ch al]),(6,.aV 6 0),(7,.aV 7 0)] 10,.cD true,.cc]) 9 10 11 [9,8,5,6,7,10,0,1,2,3,4] [] [] rfl rfl rfl rfl (.s rfl (.s rfl (.s rfl (.s rfl .n)))) (λ_ _=>rfl) .fn rfl (λz h=>⟨gB.h h,.mH rfl,rfl,rfl⟩) (λz h=>⟨gB.h h,.mH rfl,rfl,rfl⟩) (bU rfl (bU rfl (bU rfl (bU rfl (bU rfl (bU rfl (bU rfl (bU rfl (bU rfl (bU rfl (bU rfl fy))))))))))) (bU rfl (bU rfl (bU rfl (bU rfl (bU rfl (bU rfl (bU rfl (bU rfl (bU rfl (bU rfl (bU rfl fy))))))))))) (λ_=>.mk rfl (by decide) rfl) (λ_=>.mk rfl (by decide) rfl) (λ_=>rfl) (λ_=>rfl) (λ_=>rfl) (λ_=>rfl) (λ_=>rfl) (λ_=>rfl) (λai XA=>?_) (λaE agr=>?_)
 ·refine cg ?_;refine .nQ 11 rfl rfl rfl<|.mM rfl<|?_;exact a0
 ·refine cg ?_;refine .nQ 11 rfl rfl rfl<|.mM rfl<|?_;exact a0
instance aDZ{J:aA}{Z an a'}:bQ (Q2 J Z an a') 184 [bM 2 cM Z,aL an,.agg ((cM a').map .p)] (λr=>.cx [bM 2 cM r.1,aL r.2]):=.sU 10 func184 rfl ntmps184<|by
 intro _ _ _;refine ba λaa=>?_;refine pF ?_ ?_
 ·refine cg ?_;refine .mM rfl<|?_;exact a0
 ·refine ba λai=>?_;refine pF ?_ ?_
  ·refine cg ?_;refine .mM rfl<|?_;exact a0
  ·refine ba λaE=>?_;refine ha ?_ ?_
   ·refine cg ?_;refine .mM rfl<|?_;exact a0
   ·refine kt ?_;refine ba λaW=>?_;refine pF ?_ ?_
    ·refine cg ?_;refine .mM rfl<|?_;exact a0
    ·refine ba λa_=>?_;refine ha ?_ ?_
     ·refine cg ?_;refine .mM rfl<|?_;exact a0
     ·refine ba λbq=>?_;refine kt ?_;refine ba λbR=>?_;refine kt ?_;refine ba λbJ=>?_;refine ha ?_ ?_
      ·refine kt ?_;refine ba λcG=>?_;refine cg ?_;refine .mM rfl<|.JN (l':=[(6,.ek 7 0 cG.1 cG.1),(7,aL 0)]) [0,1,3,4,5,6,2] (.s rfl (.s rfl .n)) rfl<|.zf (l':=[(7,aL 0)]) (x:=λ_=>.ek 7 0 cG.1 cG.1) (y:=λz=>bM 2 cM z) 6 cM (λxs=>xs.flatMap cM) wK (λ_=>rfl) rfl rfl (λz h=>.a) (.s rfl .n) rfl rfl rfl λc1=>?_;exact a0
      ·refine ba λcJ=>?_;refine cg ?_;refine .range (H2:=λdP=>[.bs 124 2 0,.bs 124 2 0,.bA 124 (dP.2.flatMap cM),.cells 125 [.ek 2 0 bR.1 bR.1],.bs 124 2 0,.cells 124 [gh bJ.1.cU,aL bJ.1.n],ep dP.1,J2 .ready none [(5,.bG (cM a')),(8,.aV 3 0),(11,.aV 6 0)] 8,.cD true,.cc]) 7 8 9 [7,3,6,8,2] [] rfl rfl rfl rfl (.s rfl (.s rfl (.s rfl .n))) (λ_ _=>rfl) .fn rfl (λz h=>⟨gB.h h,.mH rfl,rfl,rfl⟩) (bU rfl (bU rfl (bU rfl (bU rfl (bU rfl fy))))) (λ_=>.mk rfl (by decide) rfl) (λ_=>rfl) (λ_=>rfl) (λ_=>rfl) (λdP apd=>?_)
       ·refine cg ?_;refine .nQ 9 rfl rfl rfl<|.mM rfl<|.JN (l':=[(6,.ek 2 0 bR.1 bR.1),(7,aL 0)]) [0,1,3,4,5,6] (.s rfl (.s rfl .n)) rfl<|.zf (l':=[(7,aL 0)]) (x:=λ_=>.ek 2 0 bR.1 bR.1) (y:=λz=>bM 2 cM z) 6 cM (λxs=>xs.flatMap cM) wK (λ_=>rfl) rfl rfl (λz h=>.a) (.s rfl .n) rfl rfl rfl λet=>?_;exact a0
instance aGZ{J:aA}{ab al am ao ah}:ck (zF J ab al am ao ah) 55 [.aV 0 0,aL ab,bM 1 fd al] [hj am ao 1,gJ ah] 0 (λr=>.cx [bM 1 ch r.1,bD r.2]) (λ_=>[hj am ao 1,gJ ah]):=.aX 3 func55 rfl ntmps55<|by intro _ _ _;refine g0 ?_;refine ba λaa=>?_;refine g3 ?_;refine .nil<|.gH<|.seq<|.seq<|.region<|?_;refine g3 ?_;refine .nil<|.gH<|.iq<|.sV ch 3 1 3 6 rfl rfl<|?_;refine l4 (α:=(k5×Nat)) (λs=>[(6,cZ 1 ch s.1.1 3 s.2),(17,aL s.1.2)]) (λH s=>H.set 3 (.bs 3 1 s.2)) [3,8,15,16] (([],0),0) ?_;rintro⟨⟨dR,wV⟩,k6⟩ n;refine fg ?_;refine ba λai=>?_;refine ba λaE=>?_;refine cy ?_;refine ba λaW=>?_;refine ba λa_=>?_;refine cg ?_;exact .iS [4] ((a_,(az (wV+1))),k6+1)
end
end Go.Proofs.YtjfgooffdmnnkaaGreatDoor

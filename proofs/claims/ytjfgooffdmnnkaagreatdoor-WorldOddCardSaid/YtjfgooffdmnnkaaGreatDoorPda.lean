/- The functions of the program compute what their models say. -/
import Derived.Test.YtjfgooffdmnnkaaGreatDoorPca
import Derived.Test.YtjfgooffdmnnkaaGreatDoorPcb
import Derived.Test.YtjfgooffdmnnkaaGreatDoorPcc
import Derived.Test.YtjfgooffdmnnkaaGreatDoorK
set_option linter.all false
set_option maxRecDepth 100000
set_option maxHeartbeats 4000000
namespace Go.Proofs.YtjfgooffdmnnkaaGreatDoor
open Go Go.Mi Go.RowKit Go.Dp Tryz Go.Proofs.Tryz
noncomputable section
attribute [local irreducible] bS dl cv b7
instance aHC{J:aA}{hY} [HI:Bl hY]{j5} [HH:Bm j5]{ab al am ao ah aq av aT bd bf bo bC bW cB dj}:ck (Xb J hY j5 ab al am ao ah aq av aT bd bf bo bC bW cB dj) 182 [.aV 0 0,.aV 1 0,aL ab] [fK al am ao ah aq av aT 2 3 4 5,mp bd bf 6,gr bo,eG bC,dO bW,gi cB,eG dj] 0 (λr=>bM 2 cM r.1) (λr=>[fK al am r.2.1 r.2.2.1 r.2.2.2.1 av aT 2 3 4 5,mp bd bf 6,gr bo,eG r.2.2.2.2.1,dO r.2.2.2.2.2.1,gi r.2.2.2.2.2.2.1,eG r.2.2.2.2.2.2.2]):=.aX 0 func182 rfl ntmps182<|by
 intro _ _ _;refine .seq<|.region<|.d' rfl rfl<|.nil<|.gH<|.seq<|.ac8 [(0,5,bM 1 ch av)] adP ⟨rfl,trivial⟩<|.gT rfl .n<|.gT rfl .n<|.gT rfl .n<|.dF rfl .n<|.U9 an2.h rfl .n<|.U9 an4.h rfl .n<|?_;refine .amT isAgg22 rfl rfl rfl .n<|.gT rfl .n<|.aH runUnderlying22 sizeOf76 rfl rfl sR aoC .n λaa=>.amU an5.h rfl rfl .n<|.ac9 isAgg23 rfl rfl .n<|.amS (H2:=λai=>[fK al am ai.2.1 ai.2.2.1 ai.2.2.2.1 av aT 2 3 4 5,mp bd bf 6,gr bo,eG ai.2.2.2.2.1,dO ai.2.2.2.2.2.1,gi ai.2.2.2.2.2.2.1,eG ai.2.2.2.2.2.2.2]) [0,1,2,3,4,5,6] [] [0,3,4,5,6] (λz h=>⟨gB.h h,.mH rfl,rfl,rfl⟩) (λ_ _=>rfl) (.s rfl (.s rfl (.s rfl .n))) (bU rfl (bU rfl (bU rfl (bU rfl (bU rfl (bU rfl (bU rfl fy))))))) (λ_=>⟨.inl rfl,.inr rfl,.inr rfl,.inl rfl,.inl rfl,.inl rfl,.inl rfl,trivial⟩) (λ_=>rfl) (λ_=>⟨⟨rfl,trivial,trivial,trivial,trivial,trivial⟩,trivial⟩) .n λai=>?_;refine .gT rfl .n<|.dF rfl .n<|.U9 an3.h rfl .n<|.amR 0 isAgg23 rfl rfl<|.gT rfl .n<|.aH runUnderlying23 sizeOf3 rfl rfl sR (λ_=>rfl) .n λaE=>.ac9 isAgg3 rfl rfl .n<|?_;refine .d' rfl .n<|.d' rfl .n<|.d' rfl .n<|.nil (by kernel_rfl)<|?_;refine fO ?_;refine .gg (β:=Int) (λs=>[(9,aL s)]) (λH _=>H) [0,2,7,8] (KY al aE J ab am ai av aT bo hY) ?_ ?_
 ·rintro ff;exact a0
 ·intro j;exact a0
variable {J:aA}
theorem apW{hY} [HI:Bl hY]{j5} [HH:Bm j5]{ab al am ao ah aq av aT bd bf bo bC bW cB dj}:ck (Q3 J hY j5 ab al am ao ah aq av aT bd bf bo bC bW cB dj) 156 [.aV 0 0,.aV 1 0,aL ab] [fK al am ao ah aq av aT 2 3 4 5,mp bd bf 6,gr bo,eG bC,dO bW,gi cB,eG dj] 0 (λr=>bM 2 cM r.1) (λr=>[fK al am r.2.1 r.2.2.1 r.2.2.2.1 av aT 2 3 4 5,mp bd bf 6,gr bo,eG r.2.2.2.2.1,dO r.2.2.2.2.2.1,gi r.2.2.2.2.2.2.1,eG r.2.2.2.2.2.2.2]):=.aX 1 func156 rfl ntmps156<|by intro _ _ _;refine ba λaa=>?_;refine ba λai=>?_;refine cy ?_;refine zl ?_;refine cy ?_;refine cy ?_;refine zl ?_;refine cy ?_;refine fg ?_;refine ba λbR=>?_;refine ba λbJ=>?_;refine .ar (aok (k:=ab) (a:=bJ.1) rfl rfl rfl rfl .lB) (fa rfl) .n<|?_;exact a0
theorem apX{j5} [HH:Bm j5](k:Nat):Bl (Q4 J j5 k):=by
  induction k with
  |zero=>(repeat intro _);exact .bt rfl
  |succ k bx=>(repeat intro _);exact apW (HI:=bx)
instance aHQ{J:aA}{j5} [HH:Bm j5]:Bl (Xg J j5):=apX J.n
theorem apY{j5} [HH:Bm j5]{ab al am ao ah aq av aT bd bf bo bC bW cB dj}:ck (HA J j5 ab al am ao ah aq av aT bd bf bo bC bW cB dj) 123 [.aV 0 0,.aV 1 0,bM 1 ch ab] [fK al am ao ah aq av aT 2 3 4 5,mp bd bf 6,gr bo,eG bC,dO bW,gi cB,eG dj] 0 (λr=>bM 2 cM r.1) (λr=>[fK al am r.2.1 r.2.2.1 r.2.2.2.1 av aT 2 3 4 5,mp bd bf 6,gr bo,eG r.2.2.2.2.1,dO r.2.2.2.2.2.1,gi r.2.2.2.2.2.2.1,eG r.2.2.2.2.2.2.2]):=.aX 1 func123 rfl ntmps123<|by intro _ _ _;refine .seq<|.region<|?_;refine g3 ?_;refine .nil<|.gH<|.seq<|.seq<|.region<|?_;refine g3 ?_;refine .nil<|.gH<|.iq<|.sV cM 124 2 7 6 rfl rfl<|?_;refine l4 (α:=((dh×Int×Int×Int×Int×mP×List e2×List jn×mP)×Nat)) (λs=>[(6,cZ 2 cM s.1.1 7 s.2),(11,aL s.1.2.1)]) (λH s=>(((((H.set 0 (fK al am s.1.2.2.1 s.1.2.2.2.1 s.1.2.2.2.2.1 av aT 2 3 4 5)).set 3 (eG s.1.2.2.2.2.2.1)).set 4 (dO s.1.2.2.2.2.2.2.1)).set 5 (gi s.1.2.2.2.2.2.2.2.1)).set 6 (eG s.1.2.2.2.2.2.2.2.2)).set 7 (.bs 124 2 s.2)) [0,1,9,10] (([],0,ao,ah,aq,bC,bW,cB,dj),0) ?_;rintro⟨⟨dR,nW,fU,yi,fk,pU,sg,Xh,Ek⟩,aHR⟩ n;exact a0
theorem apZ(k:Nat):Bm (HB J k):=by
  induction k with
  |zero=>(repeat intro _);exact .bt rfl
  |succ k bx=>(repeat intro _);exact apY (HH:=bx)
instance aHS{J:aA}:Bm (Xi J):=apZ J.n
instance aHT{J:aA}{ab al am ao ah aq av aT bd bf bo bC}:ck (Q5 J ab al am ao ah aq av aT bd bf bo bC) 91 [.aV 0 0,aL ab] [fK al am ao ah aq av aT 1 2 3 4,gr bd,eG bf,dO bo,gi bC] 0 (λr=>bM 2 cM r.1) (λr=>[fK al am r.2.1 r.2.2.1 r.2.2.2.1 av aT 1 2 3 4,gr bd,eG r.2.2.2.2.1,dO r.2.2.2.2.2.1,gi r.2.2.2.2.2.2]):=.aX 3 func91 rfl ntmps91<|by intro _ _ _;refine ba λaa=>?_;refine fg ?_;refine cg ?_;refine .ar (adH (k:=ab) rfl rfl rfl) (fa rfl) rfl<|?_;exact a0
instance aHU{J:aA}{Z an a'}:bQ (qx J Z an a') 72 [.agg ((dY Z).map .p),aL an,bM 1 ch a'] (λr=>.cx [bD r.1,aL r.2]):=.aX 5 func72 rfl ntmps72<|by
 intro _ _ _;refine oU (λaa=>?_) (λai=>?_)
 ·refine cy ?_;exact .bt
 ·exact a0
instance aHV{J:aA}{ab al am ao ah}:ck (tg J ab al am ao ah) 54 [.aV 0 0,aL ab,bM 1 ch al] [hj am ao 1,gJ ah] 0 (λr=>bD r.1) (λr=>[hj am ao 1,gJ r.2]):=.aX 2 func54 rfl ntmps54<|by intro _ _ _;refine ba λaa=>?_;refine ba λai=>?_;refine ba λaE=>?_;refine cg ?_;refine .ar (aoe (k:=(⟨ab,aE⟩:gq)) rfl rfl rfl) (fa rfl) .n<|?_;refine cg ?_;refine .q (ab9 (an0 (⟨((eE ah (⟨ab,aE⟩:gq)).getD (⟨false,false⟩:fT)).qk,((eE ah (⟨ab,aE⟩:gq)).getD (⟨false,false⟩:fT)).jK⟩:fT) (⟨false,false⟩:fT)) anZ rfl rfl) rfl<|?_;refine fg ?_;refine ba λaW=>?_;refine ba λa_=>?_;refine cg ?_;refine .ar (aof (k:=(⟨ab,aE⟩:gq)) (a:=(⟨true,a_.1⟩:fT)) rfl rfl rfl rfl .lB) (fa rfl) .n<|?_;exact a0
instance aHW{J:aA}{ab al am ao ah}:ck (K0 J ab al am ao ah) 65 [aL ab,.aV 0 0,.aV 1 0] [jL 2,yb al,hj am ao 3,gJ ah] 0 (λr=>bD r.1) (λr=>[jL 2,yb al,hj am ao 3,gJ r.2]):=.aX 0 func65 rfl ntmps65 a0
instance aHX{J:aA}{ab al am ao ah}:ck (K1 J ab al am ao ah) 71 [aL ab,.aV 0 0] [Gr,jL 3,yb al,hj am ao 4,gJ ah] 0 (λr=>bD r.1) (λr=>[Gr,jL 3,yb al,hj am ao 4,gJ r.2]):=.aX 0 func71 rfl ntmps71 a0
instance aHY{J:aA}{ab al am ao ah}:ck (K2 J ab al am ao ah) 74 [bM 1 ch ab,.fn (.func 71) [] [.aV 0 0]] [Gr,jL 3,yb al,hj am ao 4,gJ ah] 0 (λr=>aL r.1) (λr=>[Gr,jL 3,yb al,hj am ao 4,gJ r.2]):=.aX 0 func74 rfl ntmps74<|by intro _ _ _;refine cI (α:=Bj) (λs=>[(8,aL s.1)]) (λH s=>H.set 4 (gJ s.2)) [0,1,7] ?_;rintro⟨b2,sg⟩ n;exact a0
instance aHZ{J:aA}{ab al am ao ah}:ck (K3 J ab al am ao ah) 70 [bM 1 ch ab,.fn (.func 71) [] [.aV 0 0]] [Gr,jL 3,yb al,hj am ao 4,gJ ah] 0 (λr=>bD r.1) (λr=>[Gr,jL 3,yb al,hj am ao 4,gJ r.2]):=.aX 0 func70 rfl ntmps70 a0
instance aH0{J:aA}{ab al am ao ah}:ck (BP J ab al am ao ah) 52 [bM 1 ch ab,.fn (.func 65) [] [.aV 0 0,.aV 1 0]] [jL 2,yb al,hj am ao 3,gJ ah] 0 (λr=>bD r.1) (λr=>[jL 2,yb al,hj am ao 3,gJ r.2]):=.aX 1 func52 rfl ntmps52<|by intro _ _ _;refine g0 ?_;exact a0
instance aH1{J:aA}{ab al am ao ah aq av aT}:yc (K4 J ab al am ao ah aq av aT) [aL ab,bM 1 ch al] [J0 .ready none [(3,.aV 1 0),(5,.bG [sl 1 ch am]),(6,.aV 2 0)] 3,jL 4,Gt ah 5 ao,.cD true,hj aq av 6,.bs 23 1 ao,gJ aT] (λr=>bD true) (λr=>[J0 .ready none [(3,.aV 1 0),(5,.bG [sl 1 ch am]),(6,.aV 2 0)] 3,jL 4,Gt r.1 5 r.2.2,.cD true,hj aq av 6,.bs 23 1 r.2.2,gJ r.2.1]):=.aX 2<|by intro _ _ _;refine ba λaa=>?_;refine fg ?_;refine kt ?_;exact a0
instance aH2{J:aA}{ab al am ao ah aq av}:ck (K5 J ab al am ao ah aq av) 84 [.gV 0,.bG [sl 3 l5 ab]] [J0 .ready none [(3,.aV 1 0),(5,.bG [sl 1 ch al]),(6,.aV 2 0)] 3,jL 4,Gt ao 5 am,.cD true,hj ah aq 6,.bs 23 1 am,gJ av] 0 (λr=>.cx []) (λr=>[J0 .ready none [(3,.aV 1 0),(5,.bG [sl 1 ch al]),(6,.aV 2 0)] 3,jL 4,Gt r.1 5 r.2.2,.cD true,hj ah aq 6,.bs 23 1 r.2.2,gJ r.2.1]):=.aX 0 func84 rfl ntmps84<|by intro _ _ _;refine ba λaa=>?_;refine cI (α:=(Int×pL×Nat×List h8)) (λs=>[(6,aL s.1)]) (λH s=>((H.set 2 (Gt s.2.1 5 s.2.2.1)).set 5 (.bs 23 1 s.2.2.1)).set 6 (gJ s.2.2.2)) [0,1,5] ?_;rintro⟨dR,mT,Xj,Ek⟩ n;exact a0
instance aH3{J:aA}{ab al am ao ah}:ck (ys J ab al am ao ah) 43 [.aV 0 0,aL ab,bM 1 ch al] [hj am ao 1,gJ ah] 0 (λr=>bM 1 (lk 1 ch) r.1) (λr=>[hj am ao 1,gJ r.2]):=.sU 6 func43 rfl ntmps43<|by
 intro _ _ _;refine g0 ?_;refine g3 ?_;refine .nil<|.gH<|.seq<|.seq<|.xY (lk 1 ch) 23 1 3 0 4 rfl rfl rfl<|?_;refine ba λaa=>?_;refine ba λai=>?_;refine cg ?_;refine .range (H2:=λaE=>[hj am ao 1,gJ aE.2.1,jL 0,Gt aE.1 4 aE.2.2,.bs 23 1 aE.2.2,J0 .ready none [(3,.aV 2 0),(5,.bG [sl 1 ch al]),(6,.aV 3 0)] 6,.cD true,.cc]) 5 6 7 [5,2,3,6,0,4,1] [] rfl rfl rfl rfl (.s rfl (.s rfl (.s rfl .n))) (λ_ _=>rfl) .fn rfl (λz h=>⟨gB.h h,.mH rfl,rfl,rfl⟩) (bU rfl (bU rfl (bU rfl (bU rfl (bU rfl (bU rfl (bU rfl fy))))))) (λ_=>.mk rfl (by decide) rfl) (λ_=>rfl) (λ_=>rfl) (λ_=>rfl) (λaE XA=>?_)
 ·refine cg ?_;refine .nQ 7 rfl rfl rfl<|.mM rfl<|?_;exact a0
instance aH4{J:aA}{Z an}:bQ (vI J Z an) 32 [.agg ((dY Z).map .p),aL an] (λr=>.cx [bM 1 (lk 1 ch) r.1,aL r.2]):=.aX 2 func32 rfl ntmps32<|by
 intro _ _ _;refine oU (λaa=>?_) (λai=>?_)
 ·refine cy ?_;exact .bt
 ·exact a0
instance aH5{J:aA}{Z an}:bQ (vJ J Z an) 13 [.agg ((dY Z).map .p),aL an] (λr=>.cx [bM 1 ch r.1,aL r.2]):=.aX 3 func13 rfl ntmps13<|by
 intro _ _ _;refine oU (λaa=>?_) (λai=>?_)
 ·refine cy ?_;refine .skip<|.gH<|.seq<|.region<|?_;refine g3 ?_;refine .nil<|.gH<|.seq<|.seq<|.region<|?_;refine g3 ?_;refine .nil<|.gH<|.iq<|.sV ch 3 1 0 8 rfl rfl<|?_;refine l4 (α:=(k5×Nat)) (λs=>[(8,cZ 1 ch s.1.1 0 s.2),(21,aL s.1.2)]) (λH s=>H.set 0 (.bs 3 1 s.2)) [6,20] (([],0),0) ?_;rintro⟨⟨b2,wU⟩,mU⟩ n;refine fg ?_;exact .bt
 ·refine cy ?_;refine .skip<|.gH<|.seq<|.region<|?_;refine g3 ?_;refine .nil<|.gH<|.seq<|.seq<|.region<|?_;refine g3 ?_;refine .nil<|.gH<|.iq<|.sV ch 3 1 2 8 rfl rfl<|?_;refine l4 (α:=((List Int×Int×List h8)×Nat)) (λs=>[(8,cZ 1 ch s.1.1 2 s.2),(21,aL s.1.2.1)]) (λH s=>(H.set 1 (gJ s.1.2.2)).set 2 (.bs 3 1 s.2)) [6,20] (([],0,ai.2.2.2),0) ?_;rintro⟨⟨tc,BL,zy⟩,rg⟩ n;exact a0
instance aH6{J:aA}:ck (af5 J) 10 [] [] 0 bD (λ_=>[]):=.aX 0 func10 rfl ntmps10<|by intro _ _ _;refine ba λaa=>?_;refine ba λai=>?_;refine ba λaE=>?_;refine ba λaW=>?_;refine ba λa_=>?_;refine ba λbq=>?_;refine ba λbR=>?_;refine ba λbJ=>?_;refine ba λcG=>?_;refine ba λc1=>?_;refine ba λcJ=>?_;refine ba λdP=>?_;refine ba λef=>?_;refine ba λet=>?_;refine wx ?_;refine JX ?_ ?_;exact a0;refine ba λgc=>?_;refine cg ?_;refine .q (ab9 (adE gc (⟨(⟨#[101]⟩:ByteArray),0,1⟩:ct)) adD rfl rfl) rfl<|?_;exact a0
instance aGP:bQ kF 10 [] bD:=⟨λr h=>by cases h;exact(gB.h (aw:=prog) aoW:)⟩
instance aH7{J:aA}{ab al am ao ah}:ck (Xu J ab al am ao ah) 53 [aL ab,.aV 0 0,.bG [sl 1 ch al]] [jL 1,hj am ao 2,gJ ah] 0 (λr=>bD r.1) (λr=>[jL 1,hj am ao 2,gJ r.2]):=.aX 0 func53 rfl ntmps53 a0
instance aH8{J:aA}{ab al am ao ah}:ck (Xv J ab al am ao ah) 71 [aL ab,.aV 0 0] [.cells 93 [.fn (.func 53) [] [.aV 1 0,.bG [sl 1 ch al]]],jL 2,hj am ao 3,gJ ah] 0 (λr=>bD r.1) (λr=>[.cells 93 [.fn (.func 53) [] [.aV 1 0,.bG [sl 1 ch al]]],jL 2,hj am ao 3,gJ r.2]):=.aX 0 func71 rfl ntmps71 a0
instance aH9{J:aA}{ab al am ao ah}:ck (Xw J ab al am ao ah) 74 [bM 1 ch ab,.fn (.func 71) [] [.aV 0 0]] [.cells 93 [.fn (.func 53) [] [.aV 1 0,.bG [sl 1 ch al]]],jL 2,hj am ao 3,gJ ah] 0 (λr=>aL r.1) (λr=>[.cells 93 [.fn (.func 53) [] [.aV 1 0,.bG [sl 1 ch al]]],jL 2,hj am ao 3,gJ r.2]):=.aX 0 func74 rfl ntmps74<|by intro _ _ _;refine cI (α:=Bj) (λs=>[(8,aL s.1)]) (λH s=>H.set 3 (gJ s.2)) [0,1,7] ?_;rintro⟨b2,pU⟩ n;exact a0
instance aIa{J:aA}{ab al am ao ah}:ck (Xx J ab al am ao ah) 70 [bM 1 ch ab,.fn (.func 71) [] [.aV 0 0]] [.cells 93 [.fn (.func 53) [] [.aV 1 0,.bG [sl 1 ch al]]],jL 2,hj am ao 3,gJ ah] 0 (λr=>bD r.1) (λr=>[.cells 93 [.fn (.func 53) [] [.aV 1 0,.bG [sl 1 ch al]]],jL 2,hj am ao 3,gJ r.2]):=.aX 0 func70 rfl ntmps70 a0
instance aIb{J:aA}{ab al am ao ah}:ck (RA J ab al am ao ah) 52 [bM 1 ch ab,.fn (.func 53) [] [.aV 0 0,.bG [sl 1 ch al]]] [jL 1,hj am ao 2,gJ ah] 0 (λr=>bD r.1) (λr=>[jL 1,hj am ao 2,gJ r.2]):=.aX 1 func52 rfl ntmps52<|by intro _ _ _;refine g0 ?_;exact a0
instance aIc{J:aA}{Z an a'}:bQ (zE J Z an a') 29 [.agg ((dY Z).map .p),aL an,bM 1 ch a'] (λr=>.cx [bD r.1,aL r.2]):=.aX 3 func29 rfl ntmps29<|by
 intro _ _ _;refine oU (λaa=>?_) (λai=>?_)
 ·refine cy ?_;exact .bt
 ·exact a0
instance aId{J:aA}{Z an a'}:bQ (ux J Z an a') 33 [.agg ((dY Z).map .p),aL an,bM 1 fd a'] (λr=>.cx [bM 1 (lk 1 ch) r.1,aL r.2]):=.aX 2 func33 rfl ntmps33<|by
 intro _ _ _;refine oU (λaa=>?_) (λai=>?_)
 ·refine cy ?_;exact .bt
 ·exact a0
instance aIe{J:aA}{Z an a' dr}:bQ (sj J Z an a' dr) 36 [.agg ((dY Z).map .p),aL an,cE a',bM 1 ch dr] (λr=>.cx [bD r.1,aL r.2]):=.aX 2 func36 rfl ntmps36<|by
 intro _ _ _;refine oU (λaa=>?_) (λai=>?_)
 ·refine cy ?_;exact .bt
 ·exact a0
end
end Go.Proofs.YtjfgooffdmnnkaaGreatDoor

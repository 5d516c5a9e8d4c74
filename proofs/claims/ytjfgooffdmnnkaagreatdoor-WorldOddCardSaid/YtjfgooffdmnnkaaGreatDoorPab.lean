/- The functions of the program compute what their models say. -/
import Derived.Test.YtjfgooffdmnnkaaGreatDoorUD
set_option linter.all false
set_option maxRecDepth 100000
set_option maxHeartbeats 4000000
namespace Go.Proofs.YtjfgooffdmnnkaaGreatDoor
open Go Go.Mi Go.RowKit Go.Dp Tryz Go.Proofs.Tryz
noncomputable section
attribute [local irreducible] bS dl cv b7
instance aEw{J:aA}{Z}:bQ (GJ J Z) 82 [.agg ((dY Z).map .p)] (bM 1 ch):=.aX 1 func82 rfl ntmps82<|by
 intro _ _ _;refine cg ?_;refine .mk 0 bI (0:Int) Ds Dr rfl rfl rfl (λ_ _=>.v) rfl rfl λaa=>?_;refine cI (α:=na) (λs=>[(4,aL s.1)]) (λH s=>H.set 0 (.bA 3 (s.2.map bI))) [1,3] ?_;rintro⟨dv,jN⟩ n;refine ha ?_ ?_
 ·refine ba λai=>?_;refine ba λaE=>?_;refine cI (α:=na) (λs=>[(5,aL s.1)]) (λH s=>H.set 0 (.bA 3 (s.2.map bI))) [1,3,4] ?_;rintro⟨kB,sd⟩ n;exact a0
 ·refine cg ?_;refine .zf (l':=[]) (x:=λ_=>.ek 0 0 aa.length aa.length) (y:=λz=>bM 1 ch z) 2 ch (λxs=>xs.map bI) (λ_=>rfl) (λxs=>(r3 (λ_=>rfl) xs).symm) rfl rfl (λz h=>.a) .n rfl rfl rfl λcG=>?_;exact a0
instance aEx{J:aA}{Z}:bQ (Bu J Z) 59 [.agg ((dY Z).map .p)] aL:=.aX 0 func59 rfl ntmps59<|by intro _ _ _;refine ba λaa=>?_;refine cI (α:=(Int×Int)) (λs=>[(3,aL s.1),(5,aL s.2)]) (λH _=>H) [4] ?_;rintro⟨eQ,cY⟩ n;exact a0
instance aEL{J:aA}{Z an}:bQ (GN J Z an) 172 [bM 1 ch Z,aL an] bD:=.aX 0 func172 rfl ntmps172<|by intro _ _ _;refine cI (α:=Int) (λs=>[(5,aL s)]) (λH _=>H) [0,1] ?_;rintro cY n;exact a0
instance aEM{J:aA}{Z an}:bQ (VU J Z an) 143 [.agg ((dY Z).map .p),aL an] bD:=.aX 0 func143 rfl ntmps143 a0
instance aEN{J:aA}{Z an}:bQ (Bv J Z an) 145 [.agg ((dY Z).map .p),aL an] aL:=.aX 0 func145 rfl ntmps145<|by intro _ _ _;refine cI (α:=Int) (λs=>[(5,aL s)]) (λH _=>H) [1,2] ?_;rintro cY n;exact a0
instance aEO{J:aA}{Z an}:bQ (GO J Z an) 144 [.agg ((dY Z).map .p),aL an] bD:=.aX 0 func144 rfl ntmps144 a0
instance aEP{Z an}:bQ (Kr Z an) 146 [.agg ((dY Z).map .p),aL an] bD:=.aX 0 func146 rfl ntmps146 a0
instance aEQ{J:aA}{Z an}:bQ (O9 J Z an) 173 [.agg ((dY Z).map .p),aL an] (bM 1 ch):=.aX 1 func173 rfl ntmps173<|by
 intro _ _ _;refine cQ ?_;refine kt ?_;refine fO ?_;refine .gg (β:=(k5×Nat)) (λs=>[(5,cZ 1 ch s.1.1 0 s.2),(6,aL s.1.2)]) (λH s=>H.set 0 (.bs 3 1 s.2)) [2] ((λ((cY,dR),mU)=>VV Z J (cY,dR))) ?_ ?_
 ·rintro⟨⟨cY,dR⟩,mU⟩;refine l4 (α:=(k5×Nat)) (λs=>[(5,cZ 1 ch s.1.1 0 s.2),(9,aL s.1.2)]) (λH s=>H.set 0 (.bs 3 1 s.2)) [2,6] ((cY,0),mU) ?_;rintro⟨⟨kB,up⟩,RE⟩ n;exact a0
 ·intro j;refine ba λbq=>?_;refine l4 (α:=((List Int×Int×Int)×Nat)) (λs=>[(5,cZ 1 ch s.1.1 0 s.2),(6,aL s.1.2.1),(7,aL s.1.2.2)]) (λH s=>H.set 0 (.bs 3 1 s.2)) [2] ((([]:List Int),an,bq),0) ?_;rintro⟨⟨kA,mQ,mR⟩,RF⟩ n;refine ha ?_ ?_
  ·refine ba λbR=>?_;refine fO ?_;refine .gg (β:=(List Int×Nat)) (λs=>[(5,cZ 1 ch s.1 0 s.2)]) (λH s=>H.set 0 (.bs 3 1 s.2)) [2,6,7,8] ((λ(sa,HJ)=>DO Z mR bR mQ J sa)) ?_ ?_
   ·rintro⟨sa,HJ⟩;refine .gg (β:=(List Int×Nat)) (λs=>[(5,cZ 1 ch s.1 0 s.2)]) (λH s=>H.set 0 (.bs 3 1 s.2)) [2,7] ((λ(O8,apo)=>GP J Z mR O8)) ?_ ?_
    ·rintro⟨O8,apo⟩;exact a0
    ·intro j;refine ba λcG=>?_;refine pF ?_ ?_
     ·refine ba λc1=>?_;refine ha ?_ ?_
      ·refine ba λcJ=>?_;refine ba λdP=>?_;refine ba λef=>?_;refine g3 ?_;exact .nil<|.r9 j [] (ef,HJ+1+1)
      ·exact .skip<|.r9 j [] (sa,HJ)
     ·refine g3 ?_;exact .nil<|.gH<|.CM rfl<|.skip<|.r9 j [] (sa,HJ)
   ·intro j;refine ba λet=>?_;refine pF ?_ ?_
    ·refine ba λgc=>?_;refine ha ?_ ?_
     ·refine ba λgK=>?_;refine g3 ?_;exact .nil<|.r9 j [] (gK,RF+1)
     ·exact .skip<|.r9 j [] (kA,RF)
    ·refine g3 ?_;exact .nil<|.gH<|.CM rfl<|.skip<|.r9 j [] (kA,RF)
  ·exact .exit<|.t'<|.ua<|.rU<|.r9 j [] ((kA,mQ),RF)
instance aER{J:aA}{Z an a'}:bQ (O_ J Z an a') 148 [.agg ((dY Z).map .p),aL an,cE a'] aL:=.aX 0 func148 rfl ntmps148<|by intro _ _ _;refine ba λaa=>?_;refine cI (α:=Int) (λs=>[(8,aL s)]) (λH _=>H) [2,3,7] ?_;rintro b2 n;exact a0
instance aES{Z an}:bQ (Pa Z an) 149 [gh Z,gh an] bD:=.aX 0 func149 rfl ntmps149 a0
instance aET{J:aA}{Z an}:bQ (Bw J Z an) 116 [.agg ((dY Z).map .p),aL an] aL:=.aX 0 func116 rfl ntmps116 a0
instance aEU{J:aA}{Z an a'}:bQ (Pb J Z an a') 147 [.agg ((dY Z).map .p),aL an,aL a'] bD:=.aX 0 func147 rfl ntmps147<|by intro _ _ _;refine cI (α:=Int) (λs=>[(7,aL s)]) (λH _=>H) [2,3] ?_;rintro hc n;exact a0
instance aEX{Z an}:bQ (GR Z an) 111 [.agg ((dY Z).map .p),aL an] bD:=.aX 0 func111 rfl ntmps111 a0
instance aEY{Z}:bQ (pQ Z) 135 [gh Z] (λr=>.cx [bM 1 fd r.1,cE r.2.1,bD r.2.2]):=.aX 0 func135 rfl ntmps135 a0
instance aFH{Z an}:bQ (o1 Z an) 45 [.agg ((dY Z).map .p),aL an] (λr=>.agg ((kz r).map .p)):=.aX 1 func45 rfl ntmps45 a0
instance aFI{J:aA}{Z an}:bQ (nc J Z an) 22 [.agg ((dY Z).map .p),aL an] (bM 3 l5):=.aX 2 func22 rfl ntmps22<|by
 intro _ _ _;refine .seq<|.region<|?_;refine g3 ?_;refine .nil<|.gH<|.seq<|.region<|?_;refine g3 ?_;refine .nil<|.gH<|.seq<|.seq<|.region<|?_;refine g3 ?_;refine .nil<|.gH<|.iq<|.sV l5 52 3 0 5 rfl rfl<|?_;refine l4 (α:=((qu×Int)×Nat)) (λs=>[(5,cZ 3 l5 s.1.1 0 s.2),(6,aL s.1.2)]) (λH s=>H.set 0 (.bs 52 3 s.2)) [1,2] (([],0),0) ?_;rintro⟨⟨cY,dR⟩,mU⟩ n;refine fg ?_;refine ba λaa=>?_;refine ha ?_ ?_
 ·refine ba λai=>?_;refine ba λaE=>?_;refine ba λaW=>?_;refine ba λa_=>?_;refine cg ?_;refine .bT ([⟨aa.text,aE.n,a_.n⟩]:List ct) l5 runUnderlying43 sizeOf52 zeroValue52 rfl rfl rfl rfl rfl rfl rfl .n<|?_;refine ba λbq=>?_;refine cg ?_;exact .iS [1] ((bq,(az (dR+1))),mU+1)
 ·refine cg ?_;exact .iS [1] ((cY,(az (dR+1))),mU)
instance aBz{Z}:bQ (V2 Z) 277 [.agg ((dY Z).map .p)] bD:=.aX 0 func277 rfl ntmps277 a0
instance aCe{J:aA}{Z}:bQ (KE J Z) 321 [.agg ((dY Z).map .p)] (bM 1 ch):=.aX 1 func321 rfl ntmps321<|by
 intro _ _ _;refine cg ?_;refine .mk 0 bI (0:Int) Ds Dr rfl rfl rfl (λ_ _=>.v) rfl rfl λaa=>?_;refine cI (α:=na) (λs=>[(4,aL s.1)]) (λH s=>H.set 0 (.bA 3 (s.2.map bI))) [1,3] ?_;rintro⟨dv,jN⟩ n;refine ha ?_ ?_
 ·refine .skip<|?_;refine fO ?_;refine .seq<|.iq<|.gg (β:=(List Int)) (λ_=>[]) (λH s=>H.set 0 (.bA 3 (s.map bI))) [1,3,4] (KD Z dv J aa) ?_ ?_
  ·rintro jN;refine ba λai=>?_;refine cI (α:=na) (λs=>[(34,aL s.1)]) (λH s=>H.set 0 (.bA 3 (s.2.map bI))) [1,3,4,32,33] ?_;rintro⟨PN,zx⟩ n;exact a0
  ·intro j;exact a0
 ·refine cg ?_;refine .zf (l':=[]) (x:=λ_=>.ek 0 0 aa.length aa.length) (y:=λz=>bM 1 ch z) 2 ch (λxs=>xs.map bI) (λ_=>rfl) (λxs=>(r3 (λ_=>rfl) xs).symm) rfl rfl (λz h=>.a) .n rfl rfl rfl λbJ=>?_;exact a0
instance aCf{J:aA}{Z}:bQ (PO J Z) 320 [bM 1 ch Z] aL:=.aX 0 func320 rfl ntmps320<|by
 intro _ _ _;refine ha ?_ ?_
 ·exact .bt
 ·refine ba λaa=>?_;refine cI (α:=(Int×Int)) (λs=>[(3,aL s.1),(4,aL s.2)]) (λH _=>H) [0] ?_;rintro⟨eQ,dv⟩ n;exact a0
instance aCg{J:aA}{Z}:bQ (G6 J Z) 281 [.agg ((dY Z).map .p)] aL:=.aX 0 func281 rfl ntmps281 a0
instance aCs{Z}:bQ (td Z) 175 [gh Z] bD:=.aX 0 func175 rfl ntmps175 a0
instance aCt{J:aA}{ab al am ao ah aq av}:ck (G' J ab al am ao ah aq av) 201 [.aV 0 0,bM 1 ch ab] [ih al am ao 1 2 ah ah,dO aq,.bA 9 (av.map fA)] 0 (bM 1 fd) (λ_=>[ih al am ao 1 2 ah ah,dO aq,.bA 9 (av.map fA)]):=.aX 1 func201 rfl ntmps201<|by intro _ _ _;refine .seq<|.region<|?_;refine g3 ?_;refine .nil<|.gH<|.seq<|.seq<|.region<|?_;refine g3 ?_;refine .nil<|.gH<|.iq<|.sV fd 9 1 3 4 rfl rfl<|?_;refine l4 (α:=Bi) (λs=>[(4,cZ 1 fd s.1.1 3 s.2),(9,aL s.1.2)]) (λH s=>H.set 3 (.bs 9 1 s.2)) [0,7,8] (([],0),0) ?_;rintro⟨⟨dv,ff⟩,k6⟩ n;exact a0
instance aCu{ab al am ao ah aq av}:ck (Ha ab al am ao ah aq av) 235 [.aV 0 0,aL ab] [ih al am ao 1 2 ah ah,dO aq,.bA 9 (av.map fA)] 0 cE (λ_=>[ih al am ao 1 2 ah ah,dO aq,.bA 9 (av.map fA)]):=.aX 1 func235 rfl ntmps235 a0
instance aCz{J:aA}{ab al am ao ah aq av}:ck (P5 J ab al am ao ah aq av) 269 [.aV 0 0,aL ab] [ih al am ao 1 2 ah ah,dO aq,.bA 9 (av.map fA)] 0 (λr=>.cx [bM 1 fd r.1,cE r.2]) (λ_=>[ih al am ao 1 2 ah ah,dO aq,.bA 9 (av.map fA)]):=.aX 0 func269 rfl ntmps269 a0
instance aCB{J:aA}{ab al am ao ah aq av aT}:ck (WD J ab al am ao ah aq av aT) 271 [.aV 0 0,cE ab,cE al] [ih am ao ah 1 2 aq aq,dO av,.bA 9 (aT.map fA)] 0 cE (λ_=>[ih am ao ah 1 2 aq aq,dO av,.bA 9 (aT.map fA)]):=.aX 0 func271 rfl ntmps271<|by intro _ _ _;refine cg ?_;refine .ar (Om (k:=ab) rfl rfl rfl) (fa rfl) rfl<|?_;refine cy ?_;refine ba λaa=>?_;refine cI (α:=Int) (λs=>[(32,aL s)]) (λH _=>H) [0,2,30,31] ?_;rintro P6 n;exact a0
instance aF9{ab al am ao ah aq}:ck (WM ab al am ao ah aq) 131 [.aV 0 0] [ih ab al am 1 2 ao ao,dO ah,.bA 9 (aq.map fA)] 1 (λr=>.agg [.aV 0 0,.map 3]) (λr=>[ih ab al am 1 2 ao ao,dO ah,.bA 9 (aq.map fA),oV r]):=.aX 2 func131 rfl ntmps131<|by intro _ _ _;refine cg ?_;refine .ar (aoo (i:=4)) (fa rfl) rfl<|?_;exact a0
instance aGg{ab al am ao}:ck (qw ab al am ao) 42 [.aV 0 0,aL ab] [hj al am 1,gJ ao] 0 (λr=>.agg ((kz r).map .p)) (λ_=>[hj al am 1,gJ ao]):=.aX 1 func42 rfl ntmps42 a0
instance aGh{J:aA}{ab al am ao}:ck (nX J ab al am ao) 47 [.aV 0 0,aL ab] [hj al am 1,gJ ao] 0 (bM 3 l5) (λ_=>[hj al am 1,gJ ao]):=.aX 2 func47 rfl ntmps47<|by
 intro _ _ _;refine .seq<|.region<|?_;refine g3 ?_;refine .nil<|.gH<|.seq<|.seq<|.region<|?_;refine g3 ?_;refine .nil<|.gH<|.iq<|.sV l5 52 3 2 4 rfl rfl<|?_;refine l4 (α:=((qu×Int)×Nat)) (λs=>[(4,cZ 3 l5 s.1.1 2 s.2),(8,aL s.1.2)]) (λH s=>H.set 2 (.bs 52 3 s.2)) [0,7] (([],0),0) ?_;rintro⟨⟨dv,b2⟩,BS⟩ n;refine fg ?_;refine ba λaa=>?_;refine ha ?_ ?_
 ·refine ba λai=>?_;refine ba λaE=>?_;refine ba λaW=>?_;refine ba λa_=>?_;refine cg ?_;refine .bT ([⟨aa.text,aE.n,a_.n⟩]:List ct) l5 runUnderlying43 sizeOf52 zeroValue52 rfl rfl rfl rfl rfl rfl rfl .n<|?_;refine ba λbq=>?_;refine cg ?_;exact .iS [3] ((bq,(az (b2+1))),BS+1)
 ·refine cg ?_;exact .iS [3] ((dv,(az (b2+1))),BS)
instance aGp{J:aA}{Z an}:bQ (yr J Z an) 50 [bM 3 l5 Z,bM 1 ch an] bD:=.aX 1 func50 rfl ntmps50<|by intro _ _ _;refine cy ?_;refine cI (α:=Int) (λs=>[(14,aL s)]) (λH _=>H) [1,12,13] ?_;rintro k8 n;refine fg ?_;refine ba λaa=>?_;refine ba λai=>?_;refine qq ?_;refine ba λaE=>?_;refine cy ?_;refine cg ?_;exact .iS [0] (az (k8+1))
instance aGr{ab al am ao}:ck (vE ab al am ao) 42 [.aV 0 0,aL ab] [hj al am 1,gJ ao] 0 (λr=>.agg [gh r.1,cE r.2.1,aL r.2.2.1,bM 1 ch r.2.2.2.1,aL r.2.2.2.2]) (λ_=>[hj al am 1,gJ ao]):=.aX 1 func42 rfl ntmps42 a0
instance aGs{ab al am ao ah aq av aT bd}:ck (pV ab al am ao ah aq av aT bd) 63 [aL ab,.aV 0 0,.aV 1 0] [jL 2,fY al am ao ah aq,hj av aT 3,gJ bd] 0 bD (λ_=>[jL 2,fY al am ao ah aq,hj av aT 3,gJ bd]):=.aX 0 func63 rfl ntmps63<|by intro _ _ _;refine ba λaa=>?_;refine .o ⟨CP Gp rfl rfl,fy⟩ .n<|?_;exact a0
instance aGt{J:aA}{ab al am ao ah aq av aT bd bf}:ck (vF J ab al am ao ah aq av aT bd bf) 74 [gs ab.length 0 al,.fn (.func 63) [] [.aV 1 0,.aV 2 0]] [.fq 3 1 al (ab.map bI),jL 3,fY am ao ah aq av,hj aT bd 4,gJ bf] 0 aL (λ_=>[.fq 3 1 al (ab.map bI),jL 3,fY am ao ah aq av,hj aT bd 4,gJ bf]):=.aX 0 func74 rfl ntmps74<|by intro _ _ _;refine cg ?_;refine .adc runUnderlying23 rfl rfl rfl<|?_;refine cI (α:=Int) (λs=>[(8,aL s)]) (λH _=>H) [0,1,7] ?_;rintro b2 n;refine fg ?_;refine cg ?_;refine .N1 ab runUnderlying23 sizeOf3 rfl rfl rfl rfl λaa=>.adb bI aa isAgg3 rfl rfl rfl<|?_;exact a0
instance aGu{J:aA}{ab al am ao ah aq av aT bd bf}:ck (vG J ab al am ao ah aq av aT bd bf) 62 [gs ab.length 0 al,.fn (.func 63) [] [.aV 1 0,.aV 2 0]] [.fq 3 1 al (ab.map bI),jL 3,fY am ao ah aq av,hj aT bd 4,gJ bf] 0 (λr=>gs r.1.length 0 r.2) (λr=>[.fq 3 1 r.2 (r.1.map bI),jL 3,fY am ao ah aq av,hj aT bd 4,gJ bf]):=.aX 0 func62 rfl ntmps62<|by
 intro _ _ _;refine ba λaa=>?_;refine cy ?_;refine cI (α:=(List Int×Int×Int×Nat)) (λs=>[(0,gs s.1.length 0 s.2.2.2),(5,aL s.2.1),(6,aL s.2.2.1)]) (λH s=>H.set 0 (.fq 3 1 s.2.2.2 (s.1.map bI))) [1] ?_;rintro⟨jx,cY,dR,mU⟩ n;refine cg ?_;refine .adc runUnderlying23 rfl rfl rfl<|?_;refine ha ?_ ?_
 ·refine cg ?_;refine .N1 jx runUnderlying23 sizeOf3 rfl rfl rfl rfl λai=>.adb bI ai isAgg3 rfl rfl rfl<|?_;refine ba λaE=>?_;refine fg ?_;refine cg ?_;refine .N1 jx runUnderlying23 sizeOf3 rfl rfl rfl rfl λaW=>.ac2 ai.1.2 aW sizeOf3 rfl rfl rfl rfl<|.x7 0 (jx.set aW.1.1 ai.1.2).length rfl (by simp)<|.x7 17 (jx.set aW.1.1 ai.1.2).length rfl (by simp)<|?_;refine .x7 22 (jx.set aW.1.1 ai.1.2).length rfl (by simp)<|.x7 30 (jx.set aW.1.1 ai.1.2).length rfl (by simp)<|?_;exact a0
 ·refine cg ?_;refine .amV runUnderlying23 sizeOf3 rfl rfl rfl rfl λa_=>.amX bI 0 runUnderlying23 zeroValue3 rfl rfl rfl (by simp;omega) rfl rfl<|?_;refine cg ?_;refine .amW runUnderlying23 sizeOf3 rfl rfl rfl rfl λbq=>?_;refine g3 ?_;refine .nil<|.gH<|.ret<|.U_ 4 bI (jx.take a_.1++List.replicate (jx.length-a_.1) 0) rfl rfl (by have:=bq.2;simp at*;omega)<|.x7 4 ((jx.take a_.1++List.replicate (jx.length-a_.1) 0).take bq.1).length rfl (by have:=bq.2;simp at*;omega)<|?_;exact a0
instance aGv{J:aA}{ab al am ao}:ck (rl J ab al am ao) 41 [.aV 0 0,aL ab] [hj al am 1,gJ ao] 0 (bM 1 ch) (λ_=>[hj al am 1,gJ ao]):=.aX 4 func41 rfl ntmps41<|by
 intro _ _ _;refine g0 ?_;refine g3 ?_;refine .nil<|.gH<|.seq<|.seq<|.region<|?_;refine g3 ?_;refine .nil<|.gH<|.iq<|.amN 3 3 4 rfl rfl<|?_;refine cI (α:=(List Int×Int×Nat)) (λs=>[(4,gs s.1.length 3 s.2.2),(8,aL s.2.1)]) (λH s=>H.set 3 (.fq 3 1 s.2.2 (s.1.map bI))) [2,7] ?_;rintro⟨dv,b2,k6⟩ n;refine ha ?_ ?_
 ·refine ba λaa=>?_;refine ha ?_ ?_
  ·refine kt ?_;refine .ac1 bI Ds Dr rfl rfl (by rfl) rfl rfl (λ_=>rfl) rfl rfl rfl rfl λai=>?_;refine cg ?_;exact .iS [4,5] (ai,(az (b2+1)),k6+1)
  ·refine ha ?_ ?_
   ·refine ba λaE=>?_;refine cg ?_;exact .iS [4] (aE.1,(az (b2+1)),aE.2)
   ·refine cg ?_;exact .iS [4] (dv,(az (b2+1)),k6)
 ·refine .exit<|.t'<|.ua<|.rU<|.gH<|.seq<|.region<|?_;refine g3 ?_;refine .nil<|.gH<|.ret<|.FZ 4 ch dv rfl (r3 (λ_=>rfl) _).symm rfl rfl (by simp)<|?_;exact a0
instance aGy{ab al am ao ah aq av aT bd bf bo bC}:ck (afH ab al am ao ah aq av aT bd bf bo bC) 153 [.aV 0 0,aL ab] [fK al am ao ah aq av aT 1 2 3 4,gr bd,eG bf,dO bo,gi bC] 1 (λr=>.fn (.func 176) [] [.aV 5 0,.bG [bI r]]) (λ_=>[fK al am ao ah aq av aT 1 2 3 4,gr bd,eG bf,dO bo,gi bC,pM 0]):=.aX 1 func153 rfl ntmps153<|by intro _ _ _;refine g0 ?_;exact a0
instance aC7{ab al am}:ck (KR ab al am) 177 [aL ab,.bG [bI al],.bG [bI am]] [] 0 bD (λ_=>[]):=.aX 0 func177 rfl ntmps177 a0
instance aC8{J:aA}{ab al am}:ck (Qx J ab al am) 74 [bM 1 ch ab,.fn (.func 177) [] [.bG [bI al],.bG [bI am]]] [] 0 aL (λ_=>[]):=.aX 0 func74 rfl ntmps74<|by intro _ _ _;refine cI (α:=Int) (λs=>[(8,aL s)]) (λH _=>H) [0,1,7] ?_;rintro b2 n;exact a0
instance aC9{J:aA}{ab al am}:ck (Qy J ab al am) 70 [bM 1 ch ab,.fn (.func 177) [] [.bG [bI al],.bG [bI am]]] [] 0 bD (λ_=>[]):=.aX 0 func70 rfl ntmps70 a0
instance aDa{J:aA}{Z an a'}:bQ (BM J Z an a') 154 [aL Z,aL an,bM 1 ch a'] bD:=.aX 0 func154 rfl ntmps154 a0
instance aDb{Z}:bQ (KS Z) 155 [gh Z] (λr=>.agg ((cM r).map .p)):=.aX 1 func155 rfl ntmps155 a0
instance aDc{J:aA}{Z}:bQ (nY J Z) 121 [aL Z] (λr=>.agg ((cM r).map .p)):=.aX 1 func121 rfl ntmps121 a0
instance aDd:ck (KT) 124 [] [] 2 (λr=>.aV 0 0) (λr=>[mp r.1 r.2.1 1,eG r.2.2]):=.aX 2 func124 rfl ntmps124<|by intro _ _ _;refine cg ?_;refine .ar (Vm (i:=0)) (fa rfl) rfl<|?_;refine g0 ?_;exact a0
instance aDe{Z}:bQ (WU Z) 248 [gh Z] wJ:=.aX 0 func248 rfl ntmps248 a0
instance aDf{J:aA}{Z}:bQ (KU J Z) 249 [.agg ((cM Z).map .p)] bD:=.aX 0 func249 rfl ntmps249 a0
instance aDg{Z}:bQ (Qz Z) 260 [.agg ((cM Z).map .p)] bD:=.aX 0 func260 rfl ntmps260 a0
instance aDh{J:aA}{ab}:ck (QA J ab) 259 [bM 2 cM ab,.p (.v (.func (.func 260) #[] #[]))] [] 0 aL (λ_=>[]):=.aX 0 func259 rfl ntmps259<|by intro _ _ _;refine cI (α:=Int) (λs=>[(8,aL s)]) (λH _=>H) [0,1,7] ?_;rintro b2 n;exact a0
instance aDi{J:aA}{Z}:bQ (BN J Z) 224 [bM 2 cM Z] (λr=>.cx [.agg ((cM r.1).map .p),bD r.2]):=.aX 1 func224 rfl ntmps224 a0
instance aDj{J:aA}{Z}:bQ (WW J Z) 289 [aL Z] (λr=>.agg ((cM r).map .p)):=.aX 1 func289 rfl ntmps289 a0
instance aDk{J:aA}{Z}:bQ (BO J Z) 291 [bD Z] (λr=>.agg ((cM r).map .p)):=.aX 1 func291 rfl ntmps291 a0
instance aDl{J:aA}{Z}:bQ (WX J Z) 290 [aL Z] (λr=>.agg ((cM r).map .p)):=.aX 1 func290 rfl ntmps290 a0
variable {Z:Int}{J:aA}{r:b6}{z:Nat}
theorem ao7(h:Eh J z Z=some r):zb prog (wJ z) [aL Z] (.agg ((cM r).map .p)):=by
  unfold Eh at h;by_cases e:z=1
  · subst e;rw[if_pos rfl]at h;exact .fS (gB.p (aw:=prog) h:) (λ_ _=>rfl) rfl rfl rfl
  rw[if_neg e]at h;by_cases e:z=2
  · subst e;rw[if_pos rfl]at h;exact .fS (gB.p (aw:=prog) h:) (λ_ _=>rfl) rfl rfl rfl
  rw[if_neg e]at h;cases h
instance aDm{J:aA}{Z an}:bQ (Hw J Z an) 217 [gh Z,.agg ((cM an).map .p)] (λr=>.cx [.agg ((cM r.1).map .p),aL r.2]):=.aX 2 func217 rfl ntmps217<|by intro _ _ _;refine ba λaa=>?_;refine cg ?_;refine .q (acb runUnderlying298 rfl rfl (anU _)) rfl<|?_;refine qq ?_;refine ba λai=>?_;refine cy ?_;refine ba λaE=>?_;refine cy ?_;refine cg ?_;refine .kh rfl (λ_ h=>ao7 h) (.s rfl .n) rfl λaW=>?_;exact a0
instance aDn{J:aA}{Z}:bQ (QB J Z) 257 [.agg ((cM Z).map .p)] bD:=.aX 0 func257 rfl ntmps257 a0
instance aDo{J:aA}{ab}:ck (WY J ab) 259 [bM 2 cM ab,.p (.v (.func (.func 257) #[] #[]))] [] 0 aL (λ_=>[]):=.aX 0 func259 rfl ntmps259<|by intro _ _ _;refine cI (α:=Int) (λs=>[(8,aL s)]) (λH _=>H) [0,1,7] ?_;rintro b2 n;exact a0
instance aDp{J:aA}{ab}:ck (WZ J ab) 256 [bM 2 cM ab,.p (.v (.func (.func 257) #[] #[]))] [] 0 bD (λ_=>[]):=.aX 0 func256 rfl ntmps256 a0
instance aDq{J:aA}{Z}:bQ (Ei J Z) 222 [bM 2 cM Z] bD:=.aX 0 func222 rfl ntmps222 a0
instance aDr{J:aA}{Z an a'}:bQ (W0 J Z an a') 250 [.agg ((cM Z).map .p),.agg ((cM an).map .p),.agg ((cM a').map .p)] (λr=>.cx [.agg ((cM r.1).map .p),aL r.2]):=.aX 1 func250 rfl ntmps250 a0
instance aDs:ck (afK) 295 [.p (.v (.func (.func 296) #[] #[]))] [] 0 rd (λ_=>[]):=.aX 0 func295 rfl ntmps295 a0
instance aDt:ck (afL) 295 [.p (.v (.func (.func 297) #[] #[]))] [] 0 rd (λ_=>[]):=.aX 0 func295 rfl ntmps295 a0
instance aDu:ck (afM) 298 [.p (.v (.func (.func 299) #[] #[]))] [] 0 rd (λ_=>[]):=.aX 0 func298 rfl ntmps298 a0
instance aDv:ck (afN) 298 [.p (.v (.func (.func 300) #[] #[]))] [] 0 rd (λ_=>[]):=.aX 0 func298 rfl ntmps298 a0
instance aDw:ck (afO) 298 [.p (.v (.func (.func 301) #[] #[]))] [] 0 rd (λ_=>[]):=.aX 0 func298 rfl ntmps298 a0
instance aDx{Z}:bQ (W1 Z) 251 [gh Z] rd:=.aX 0 func251 rfl ntmps251 a0
instance aDy{J:aA}{Z an}:bQ (afP J Z an) 292 [aL Z,aL an] (λr=>.agg ((cM r).map .p)):=.aX 1 func292 rfl ntmps292 a0
instance aDz{J:aA}{Z an}:bQ (afQ J Z an) 293 [aL Z,aL an] (λr=>.agg ((cM r).map .p)):=.aX 1 func293 rfl ntmps293 a0
instance aDA{J:aA}{Z an}:bQ (afR J Z an) 294 [aL Z,aL an] (λr=>.agg ((cM r).map .p)):=.aX 1 func294 rfl ntmps294 a0
instance aDB{Z an}:bQ (KV Z an) 331 [aL Z,aL an] (λr=>.cx [aL r.1,aL r.2]):=.aX 0 func331 rfl ntmps331<|by
 intro _ _ _;refine ba λaa=>?_;refine ba λai=>?_;refine cg ?_;refine .and (r:=(!((decide (ai< 0))==(decide (an< 0))))) 6 20 14 rfl (λc=>?_) (λc=>?_) ?_
 ·refine cg ?_;refine .q (NJ runUnderlying4 rfl rfl) rfl<|?_;exact a0
 ·exact a0
 ·exact a0
instance aDC{Z an}:bQ (W2 Z an) 296 [aL Z,aL an] aL:=.aX 0 func296 rfl ntmps296 a0
instance aDD{J:aA}{ab al}:ck (QC J ab al) 330 [aL ab,aL al,.bG [.v (.func (.func 296) #[] #[])]] [] 0 (λr=>.agg ((cM r).map .p)) (λ_=>[]):=.aX 1 func330 rfl ntmps330 a0
instance aDE{Z an}:bQ (W3 Z an) 297 [aL Z,aL an] aL:=.aX 0 func297 rfl ntmps297 a0
instance aDF{J:aA}{ab al}:ck (QD J ab al) 330 [aL ab,aL al,.bG [.v (.func (.func 297) #[] #[])]] [] 0 (λr=>.agg ((cM r).map .p)) (λ_=>[]):=.aX 1 func330 rfl ntmps330 a0
instance aDG{Z}:bQ (QE Z) 360 [aL Z] bD:=.aX 0 func360 rfl ntmps360 a0
instance aDH{Z an}:bQ (Hx Z an) 333 [aL Z,aL an] aL:=.aX 0 func333 rfl ntmps333 a0
instance aDI{Z}:bQ (W4 Z) 299 [aL Z] bD:=.aX 0 func299 rfl ntmps299 a0
instance aDJ{J:aA}{ab al}:ck (QF J ab al) 332 [aL ab,aL al,.bG [.v (.func (.func 299) #[] #[])]] [] 0 (λr=>.agg ((cM r).map .p)) (λ_=>[]):=.aX 1 func332 rfl ntmps332 a0
instance aDK{Z}:bQ (W5 Z) 300 [aL Z] bD:=.aX 0 func300 rfl ntmps300 a0
instance aDL{J:aA}{ab al}:ck (QG J ab al) 332 [aL ab,aL al,.bG [.v (.func (.func 300) #[] #[])]] [] 0 (λr=>.agg ((cM r).map .p)) (λ_=>[]):=.aX 1 func332 rfl ntmps332 a0
instance aDM{Z}:bQ (W6 Z) 301 [aL Z] bD:=.aX 0 func301 rfl ntmps301 a0
instance aDN{J:aA}{ab al}:ck (QH J ab al) 332 [aL ab,aL al,.bG [.v (.func (.func 301) #[] #[])]] [] 0 (λr=>.agg ((cM r).map .p)) (λ_=>[]):=.aX 1 func332 rfl ntmps332 a0
theorem ao8{an:Int}(h:QI J z Z an=some r):zb prog (rd z) [aL Z,aL an] (.agg ((cM r).map .p)):=by
  unfold QI at h;by_cases e:z=1
  · subst e;rw[if_pos rfl]at h;exact .fS (gB.p (aw:=prog) h:) (λ_ _=>rfl) rfl rfl rfl
  rw[if_neg e]at h;by_cases e:z=2
  · subst e;rw[if_pos rfl]at h;exact .fS (gB.p (aw:=prog) h:) (λ_ _=>rfl) rfl rfl rfl
  rw[if_neg e]at h;by_cases e:z=3
  · subst e;rw[if_pos rfl]at h;exact .fS (gB.p (aw:=prog) h:) (λ_ _=>rfl) rfl rfl rfl
  rw[if_neg e]at h;by_cases e:z=4
  · subst e;rw[if_pos rfl]at h;exact .ug (gB.p (aw:=prog) h:) (λ_ _=>rfl) rfl rfl rfl
  rw[if_neg e]at h;by_cases e:z=5
  · subst e;rw[if_pos rfl]at h;exact .ug (gB.p (aw:=prog) h:) (λ_ _=>rfl) rfl rfl rfl
  rw[if_neg e]at h;by_cases e:z=6
  · subst e;rw[if_pos rfl]at h;exact .ug (gB.p (aw:=prog) h:) (λ_ _=>rfl) rfl rfl rfl
  rw[if_neg e]at h;by_cases e:z=7
  · subst e;rw[if_pos rfl]at h;exact .ug (gB.p (aw:=prog) h:) (λ_ _=>rfl) rfl rfl rfl
  rw[if_neg e]at h;by_cases e:z=8
  · subst e;rw[if_pos rfl]at h;exact .ug (gB.p (aw:=prog) h:) (λ_ _=>rfl) rfl rfl rfl
  rw[if_neg e]at h;cases h
instance aDO{J:aA}{Z an a'}:bQ (QJ J Z an a') 218 [gh Z,.agg ((cM an).map .p),.agg ((cM a').map .p)] (λr=>.cx [.agg ((cM r.1).map .p),aL r.2]):=.aX 2 func218 rfl ntmps218<|by intro _ _ _;refine cy ?_;refine cy ?_;refine ba λa_=>?_;refine cg ?_;refine .q (acb runUnderlying302 rfl rfl (anX _)) rfl<|?_;refine qq ?_;refine ba λbq=>?_;refine cy ?_;refine ba λbR=>?_;refine cy ?_;refine cg ?_;refine .kh rfl (λ_ h=>ao8 h) (.s rfl (.s rfl .n)) rfl λbJ=>?_;exact a0
instance aDP{J:aA}{j5} [HH:Bm j5]{ab al am ao ah aq av aT bd bf bo bC bW cB dj kE QL}:ck (QK J j5 ab al am ao ah aq av aT bd bf bo bC bW cB dj kE QL) 179 [.aV 0 0,.aV 1 0,aL ab,gh al,bD am] [fK ao ah aq av aT bd bf 2 3 4 5,mp bo bC 6,gr bW,eG cB,dO dj,gi kE,eG QL] 0 (λr=>bM 2 cM r.1) (λr=>[fK ao ah r.2.1 r.2.2.1 r.2.2.2.1 bd bf 2 3 4 5,mp bo bC 6,gr bW,eG r.2.2.2.2.1,dO r.2.2.2.2.2.1,gi r.2.2.2.2.2.2.1,eG r.2.2.2.2.2.2.2]):=.aX 1 func179 rfl ntmps179 a0
instance aDQ{J:aA}{hY} [HI:Bl hY]{ab al am ao ah aq av aT bd bf bo bC bW cB dj}:ck (QM J hY ab al am ao ah aq av aT bd bf bo bC bW cB dj) 180 [.aV 0 0,.aV 1 0,aL ab] [fK al am ao ah aq av aT 2 3 4 5,mp bd bf 6,gr bo,eG bC,dO bW,gi cB,eG dj] 0 (λr=>bM 2 cM r.1) (λr=>[fK al am ao ah aq av aT 2 3 4 5,mp bd bf 6,gr bo,eG r.2.1,dO r.2.2.1,gi r.2.2.2,eG dj]):=.aX 4 func180 rfl ntmps180<|by
 intro _ _ _;refine ba λaa=>?_;refine ba λai=>?_;refine ha ?_ ?_
 ·refine cg ?_;refine .ar (adH (k:=aa) rfl rfl rfl) (fa rfl) rfl<|?_;exact a0
 ·refine ha ?_ ?_
  ·refine cg ?_;refine .ar (aoj (k:=aa) rfl rfl rfl) (fa rfl) rfl<|?_;refine fg ?_;refine ba λaW=>?_;refine ba λa_=>?_;refine ba λbq=>?_;refine g3 ?_;refine .nil (by kernel_rfl)<|.gH<|.open 3 rfl λaDR aDS ago ao9=>?_;refine cg ?_;refine .ar (adI (k:=aa) rfl rfl rfl) (fa rfl) .n<|?_;refine cg ?_;refine .ar (adJ (k:=aa) (a:=bq.1) ago ao9 rfl rfl rfl .lB) (fa rfl) .n<|.nil (by kernel_rfl)<|.acW 3 (U1 ago) (λ_=>.inr ⟨_,rfl⟩) rfl<|?_;exact a0
  ·refine cg ?_;refine .ar (aoi (k:=aa) rfl rfl rfl) (fa rfl) rfl<|?_;exact a0
instance aGL{ab al am ao ah aq av aT bd bf bo}:ck (Xa ab al am ao ah aq av aT bd bf bo) 254 [.aV 0 2] [fK ab al am ao ah aq av 1 2 3 4,gr aT,eG bd,dO bf,gi bo] 0 (λr=>.cx []) (λr=>[fK ab al am r ah aq av 1 2 3 4,gr aT,eG bd,dO bf,gi bo]):=.aX 0 func254 rfl ntmps254 a0
theorem apO{ab al am ao ah aq av aT bd bf bo}:aoD (Xa ab al am ao ah aq av aT bd bf bo) 254 [.aV 0 2] [fK ab al am ao ah aq av 1 2 3 4,gr aT,eG bd,dO bf,gi bo] 0 (λr=>.cx []) (λr=>[fK ab al am r ah aq av 1 2 3 4,gr aT,eG bd,dO bf,gi bo]):=Oe.aX 0 func254 rfl ntmps254 a0
instance aDX{ab al am ao ah}:yc (Xf ab al am ao ah) [bM 2 cM ab] [J2 .ready none [(5,.bG (cM al)),(8,.aV 1 0),(11,.aV 2 0)] 3,.cells 125 [.ek 4 0 am am],ep ao,.cD true,.bA 124 (ah.flatMap cM)] (λr=>bD true) (λr=>[J2 .ready none [(5,.bG (cM al)),(8,.aV 1 0),(11,.aV 2 0)] 3,.cells 125 [.ek 4 0 am am],ep r.1,.cD true,.bA 124 (r.2.flatMap cM)]):=.aX 0<|by intro _ _ _;refine fg ?_;refine cg ?_;refine .q8 (λz h=>NT (f:=(λxs=>xs.flatMap cM)) (e:=cM) 0 runUnderlying125 sizeOf124 wK J7 (λ_=>rfl) rfl rfl sR h) (λ_=>fa rfl) rfl λaa=>?_;exact a0
instance aDY{J:aA}{ab al am ao ah aq}:ck (Q1 J ab al am ao ah aq) 261 [.gV 0,.bG [sl 2 cM ab],.bG [bI al]] [J2 .ready none [(5,.bG (cM am)),(8,.aV 1 0),(11,.aV 2 0)] 3,.cells 125 [.ek 4 0 ao ao],ep ah,.cD true,.bA 124 (aq.flatMap cM)] 0 (λr=>.cx []) (λr=>[J2 .ready none [(5,.bG (cM am)),(8,.aV 1 0),(11,.aV 2 0)] 3,.cells 125 [.ek 4 0 ao ao],ep r.1,.cD true,.bA 124 (r.2.flatMap cM)]):=.aX 0 func261 rfl ntmps261<|by intro _ _ _;refine cI (α:=(Int×Int×dh)) (λs=>[(4,aL s.1)]) (λH s=>(H.set 2 (ep s.2.1)).set 4 (.bA 124 (s.2.2.flatMap cM))) [0,1,2] ?_;rintro⟨dv,mT,sg⟩ n;refine fg ?_;refine ba λaa=>?_;refine cg ?_;refine .akz runUnderlying125 sizeOf124 rfl sR wK rfl rfl rfl rfl λai=>?_;exact a0
instance aGN{J:aA}{Z an}:bQ (K6 J Z an) 15 [bM 1 fd Z,bM 1 fd an] bD:=.aX 0 func15 rfl ntmps15<|by intro _ _ _;refine cy ?_;refine cI (α:=Int) (λs=>[(5,aL s)]) (λH _=>H) [0,1] ?_;rintro cY n;exact a0
instance aGS{J:aA}{Z an a' dr}:bQ (yt J Z an a' dr) 46 [.agg ((dY Z).map .p),cE an,aL a',aL dr] bD:=.aX 1 func46 rfl ntmps46<|by intro _ _ _;refine cI (α:=Int) (λs=>[(9,aL s)]) (λH _=>H) [1,3,4] ?_;rintro ff n;refine fg ?_;refine ba λaa=>?_;refine cy ?_;refine cg ?_;exact .iS [0] (az (ff+1))
instance aGT{J:aA}{Z an}:bQ (si J Z an) 17 [.agg ((dY Z).map .p),aL an] (bM 1 ch):=.aX 1 func17 rfl ntmps17<|by intro _ _ _;refine .seq<|.region<|?_;refine g3 ?_;refine .nil<|.gH<|.seq<|.region<|?_;refine g3 ?_;refine .nil<|.gH<|.seq<|.seq<|.region<|?_;refine g3 ?_;refine .nil<|.gH<|.iq<|.sV ch 3 1 0 5 rfl rfl<|?_;refine l4 (α:=(k5×Nat)) (λs=>[(5,cZ 1 ch s.1.1 0 s.2),(6,aL s.1.2)]) (λH s=>H.set 0 (.bs 3 1 s.2)) [1,2] (([],0),0) ?_;rintro⟨⟨cY,dR⟩,mU⟩ n;refine fg ?_;refine ba λaa=>?_;refine .o ⟨CP an6 rfl rfl,fy⟩ .n<|?_;refine JX ?_ ?_;exact a0;refine ba λai=>?_;refine .o ⟨CP Gp rfl rfl,fy⟩ (.y rfl rfl)<|?_;exact a0
instance aGU{J:aA}{Z an}:bQ (Q9 J Z an) 16 [.agg ((dY Z).map .p),bM 1 ch an] (bM 1 fd):=.aX 1 func16 rfl ntmps16<|by intro _ _ _;refine .seq<|.region<|?_;refine g3 ?_;refine .nil<|.gH<|.seq<|.region<|?_;refine g3 ?_;refine .nil<|.gH<|.seq<|.seq<|.region<|?_;refine g3 ?_;refine .nil<|.gH<|.iq<|.sV fd 9 1 0 5 rfl rfl<|?_;refine l4 (α:=Bi) (λs=>[(5,cZ 1 fd s.1.1 0 s.2),(6,aL s.1.2)]) (λH s=>H.set 0 (.bs 9 1 s.2)) [1,2] (([],0),0) ?_;rintro⟨⟨cY,dR⟩,mU⟩ n;refine fg ?_;refine ba λaa=>?_;refine ba λai=>?_;refine .o ⟨CP Gp rfl rfl,fy⟩ .n<|?_;exact a0
instance aFn{Z}:bQ (vL Z) 159 [aL Z] (λr=>.agg ((cM r).map .p)):=.aX 1 func159 rfl ntmps159 a0
instance aFo{J:aA}{Z an}:bQ (zD J Z an) 188 [.agg ((cM Z).map .p),aL an] (bM 2 cM):=.aX 1 func188 rfl ntmps188<|by intro _ _ _;refine cQ ?_;refine kt ?_;refine l4 (α:=((dh×Int)×Nat)) (λs=>[(5,cZ 2 cM s.1.1 0 s.2),(6,aL s.1.2)]) (λH s=>H.set 0 (.bs 124 2 s.2)) [1,2] ((([]:List b6),0),0) ?_;rintro⟨⟨cY,dR⟩,mU⟩ n;exact a0
instance aFp{J:aA}{Z an}:bQ (Q' J Z an) 228 [.agg ((Be Z).map .p),aL an] (bM 2 cM):=.aX 0 func228 rfl ntmps228<|by intro _ _ _;refine cI (α:=(dh×Int)) (λs=>[(5,bM 2 cM s.1),(6,aL s.2)]) (λH _=>H) [1,2] ?_;rintro⟨cY,dR⟩ n;exact a0
instance aFq{J:aA}{ab al am ao ah aq av aT bd bf bo bC bW}:ck (Ra J ab al am ao ah aq av aT bd bf bo bC bW) 189 [.aV 0 0,aL ab,.agg ((Be al).map .p)] [nv am ao ah aq av aT bf 1 bd bo bC bW,.bs 125 1 bd] 0 (bM 2 cM) (λ_=>[nv am ao ah aq av aT bf 1 bd bo bC bW,.bs 125 1 bd]):=.aX 0 func189 rfl ntmps189<|by intro _ _ _;refine ba λaa=>?_;refine cI (α:=Int) (λs=>[(8,aL s)]) (λH _=>H) [0,5,7] ?_;rintro b2 n;exact a0
instance aFr{Z}:bQ (Xl Z) 229 [gh Z] (λr=>.cx [gh r.1,bD r.2]):=.aX 0 func229 rfl ntmps229 a0
instance aFs{Z}:bQ (HC Z) 232 [gh Z] (λr=>.agg ((cM r).map .p)):=.aX 1 func232 rfl ntmps232 a0
instance aFt{Z}:bQ (HD Z) 264 [aL Z] (λr=>.agg ((cM r).map .p)):=.aX 1 func264 rfl ntmps264 a0
instance aFu{Z}:bQ (HE Z) 231 [bD Z] (λr=>.agg ((cM r).map .p)):=.aX 1 func231 rfl ntmps231 a0
instance aFv{J:aA}{Z an}:bQ (Rb J Z an) 265 [aL Z,aL an] aL:=.aX 0 func265 rfl ntmps265<|by
 intro _ _ _;refine .seq<|.region<|?_;refine fO ?_;refine .gg (β:=(Int×Int)) (λs=>[(0,aL s.1),(1,aL s.2)]) (λH _=>H) [] (K' J) ?_ ?_
 ·rintro⟨jx,jw⟩;refine cI (α:=Int) (λs=>[(5,aL s)]) (λH _=>H) [0,1] ?_;rintro kB n;refine cy ?_;refine cI (α:=Int) (λs=>[(5,aL s)]) (λH _=>H) [0,1] ?_;rintro kA n;exact a0
 ·intro j;exact a0
instance aFw{J:aA}{Z an a'}:bQ (rm J Z an a') 230 [gh Z,.agg ((cM an).map .p),.agg ((cM a').map .p)] (λr=>.agg ((cM r).map .p)):=.aX 1 func230 rfl ntmps230 a0
instance aFx{Z an}:bQ (HF Z an) 193 [gh Z,.agg ((cM an).map .p)] (λr=>.agg ((cM r).map .p)):=.aX 1 func193 rfl ntmps193 a0
instance aFy{J:aA}{ii} [RG:Gx ii]{ab al am ao ah aq av aT bd bf bo bC bW cB dj}:ck (Rc J ii ab al am ao ah aq av aT bd bf bo bC bW cB dj) 190 [.aV 0 0,.agg ((kz ab).map .p),.agg ((Be al).map .p),aL am,aL ao] [nv ah aq av aT bd bf bC 1 bo bW cB dj,.bs 125 1 bo] 0 (λr=>.agg ((cM r.1).map .p)) (λr=>[nv ah aq av aT bd bf bC 1 bo r.2.1 r.2.2.1 r.2.2.2,.bs 125 1 bo]):=.aX 3 func190 rfl ntmps190<|by
 intro _ _ _;refine ba λaa=>?_;refine ba λai=>?_;refine ba λaE=>?_;refine ba λaW=>?_;refine fO ?_;refine .gg (β:=Unit) (λ_=>[]) (λH _=>H) [0,3,4,6,7,10,11,12,13] (BR ab ii al am ao ah aq av aT bd bf bo bC aE J aa aW) ?_ ?_
 ·rintro⟨⟩;exact a0
 ·intro j;exact a0
instance aFz{J:aA}{ii} [RG:Gx ii]{ab al am ao ah aq av aT bd bf bo bC bW cB dj kE}:ck (Rd J ii ab al am ao ah aq av aT bd bf bo bC bW cB dj kE) 191 [.aV 0 0,.agg ((kz ab).map .p),aL al,.agg ((Be am).map .p),aL ao,aL ah] [nv aq av aT bd bf bo bW 1 bC cB dj kE,.bs 125 1 bC] 0 (λr=>bM 2 cM r.1) (λr=>[nv aq av aT bd bf bo bW 1 bC r.2.1 r.2.2.1 r.2.2.2,.bs 125 1 bC]):=.aX 1 func191 rfl ntmps191 a0
instance aFA{Z an a'}:bQ (La Z an a') 192 [.agg ((Be Z).map .p),aL an,bM 2 cM a'] (λr=>.agg ((Be r).map .p)):=.aX 3 func192 rfl ntmps192<|by intro _ _ _;refine cQ ?_;refine kt ?_;refine ba λaa=>?_;refine ba λai=>?_;refine kt ?_;exact a0
instance aFC{J:aA}{Z an a'}:bQ (Rf J Z an a') 195 [bM 2 cM Z,aL an,.agg ((cM a').map .p)] (bM 2 cM):=.aX 1 func195 rfl ntmps195<|by intro _ _ _;refine cQ ?_;refine kt ?_;refine l4 (α:=((dh×Int)×Nat)) (λs=>[(7,cZ 2 cM s.1.1 0 s.2),(8,aL s.1.2)]) (λH s=>H.set 0 (.bs 124 2 s.2)) [0,1,5] ((([]:List b6),0),0) ?_;rintro⟨⟨hc,b2⟩,mU⟩ n;exact a0
instance aFD{J:aA}{ii} [RG:Gx ii]{ab al am ao ah aq av aT bd bf bo bC bW cB dj kE}:ck (Rg J ii ab al am ao ah aq av aT bd bf bo bC bW cB dj kE) 196 [.aV 0 0,aL ab,bM 1 (lk 2 cM) al,aL am,aL ao,aL ah] [nv aq av aT bd bf bo bW 1 bC cB dj kE,.bs 125 1 bC] 0 (λr=>bM 2 cM r.1) (λr=>[nv aq av aT bd bf bo bW 1 bC r.2.1 r.2.2.1 r.2.2.2,.bs 125 1 bC]):=.aX 2 func196 rfl ntmps196<|by
 intro _ _ _;refine ba λaa=>?_;refine fO ?_;refine .gg (β:=(Int×Int)) (λs=>[(15,aL s.1)]) (λH s=>H.set 2 (fY s.2 aa.text aa.n aa.a8 aa.at_)) [0,1,2,3,13,14] (Lb aa J am cB dj kE al ii ab aq av aT bd bf bo bC bW) ?_ ?_
 ·rintro⟨rn,aoU⟩;refine cy ?_;refine .skip<|.gH<|.seq<|.seq<|.region<|?_;refine g3 ?_;refine .nil<|.gH<|.iq<|.Di 3 0 (bM 1 ch ([]:List Int)) rfl rfl .nil<|.Di 3 1 (bM 1 (lk 2 cM) ([]:List dh)) rfl rfl .nil<|?_;refine cI (α:=(Int×List Int×List dh)) (λs=>[(16,aL s.1)]) (λH s=>H.set 3 (.cells 223 [bM 1 ch s.2.1,bM 1 (lk 2 cM) s.2.2])) [0,1,2,13,14,15] ?_;rintro⟨yu,Xo,Xp⟩ n;exact a0
 ·intro j;exact a0
instance aGV{J:aA}{Z an}:bQ (BT J Z an) 30 [bM 3 l5 Z,bM 1 ch an] bD:=.aX 0 func30 rfl ntmps30<|by intro _ _ _;refine cy ?_;refine cI (α:=Int) (λs=>[(5,aL s)]) (λH _=>H) [0,1] ?_;rintro cY n;exact a0
instance aGX{ab al am ao ah}:ck (BU ab al am ao ah) 75 [aL ab,.aV 0 0,.aV 1 0] [jL 2,.cells 9 [cE al],hj am ao 3,gJ ah] 0 bD (λ_=>[jL 2,.cells 9 [cE al],hj am ao 3,gJ ah]):=.aX 0 func75 rfl ntmps75<|by intro _ _ _;refine ba λaa=>?_;refine .o ⟨CP Gp rfl rfl,fy⟩ .n<|?_;exact a0
instance aGY{J:aA}{ab al am ao ah}:ck (BV J ab al am ao ah) 74 [bM 1 ch ab,.fn (.func 75) [] [.aV 0 0,.aV 1 0]] [jL 2,.cells 9 [cE al],hj am ao 3,gJ ah] 0 aL (λ_=>[jL 2,.cells 9 [cE al],hj am ao 3,gJ ah]):=.aX 0 func74 rfl ntmps74<|by intro _ _ _;refine cI (α:=Int) (λs=>[(8,aL s)]) (λH _=>H) [0,1,7] ?_;rintro b2 n;exact a0
instance aG0{J:aA}{Z an a'}:bQ (Em J Z an a') 35 [.agg ((dY Z).map .p),bM 1 ch an,cE a'] aL:=.aX 0 func35 rfl ntmps35<|by intro _ _ _;refine cI (α:=Int) (λs=>[(7,aL s)]) (λH _=>H) [1,2,3] ?_;rintro hc n;refine fg ?_;refine ba λaa=>?_;refine ba λai=>?_;refine .o ⟨CP Gp rfl rfl,fy⟩ .n<|?_;exact a0
end
end Go.Proofs.YtjfgooffdmnnkaaGreatDoor

/- The functions of the program compute what their models say. -/
import Derived.Test.YtgfggdcbhjhegaaGreatDoorPba
import Derived.Test.YtgfggdcbhjhegaaGreatDoorPbb
import Derived.Test.YtgfggdcbhjhegaaGreatDoorPbc
set_option linter.all false
set_option maxRecDepth 100000
set_option maxHeartbeats 4000000
namespace Go.Proofs.YtgfggdcbhjhegaaGreatDoor
open Go Go.Mi Go.RowKit Go.Dp Tryz Go.Proofs.Tryz
noncomputable section
attribute [local irreducible] bI cW co bZ
instance aBC{J:ax}{ab ag ak ap an al am}:ca (ZD J ab ag ak ap an al am) 145 [.aR 0 0] [dq ab ag ak an 1 ap am 2 al,.bl 40 5 ap,.bl 3 1 al] 0 (λr=>.cg []) (λr=>[dq ab ag r.1 r.2.1 1 r.2.2.2.1 r.2.2.1 2 r.2.2.2.2,.bl 40 5 r.2.2.2.1,.bl 3 1 r.2.2.2.2]):=.aY 3 func145 rfl ntmps145<|by
 intro _ _ _;refine a7 λZ=>?_;refine cJ (α:=JR) (λ_=>[]) (λH s=>((H.set 0 (dq ab ag s.1 s.2.1 1 s.2.2.2.1 s.2.2.1 2 s.2.2.2.2)).set 1 (.bl 40 5 s.2.2.2.1)).set 2 (.bl 3 1 s.2.2.2.2)) [0,2] ?_;rintro⟨jL,hq,ix,gQ,fi⟩ n;refine fm ?_;refine a7 λad=>?_;refine b4 ?_;refine .JF (k:=ad.bi) (c:=(⟨#[99,104,111,111,115,101]⟩:ByteArray)) (λh=>?_) (λh=>?_)
 ·refine .JG λe=>(λc9=>bI.aC (bE.val (JL (k:=(⟨#[99,104,111,111,115,101]⟩:ByteArray)) (kv:=Z) rfl rfl (by rw[<-h];rfl)) (by rw[e];rfl:_=.cg [.p (.v (.func (.func 248) #[] #[])),bs true])) (da rfl) rfl c9)<|?_;refine gL ?_ ?_
  ·exact .br
  ·refine a7 λaA=>?_;refine .nil<|.i7<|.seq<|.BV [(0,4,cT 1 cH ix 2 fi)] Cj ⟨rfl,trivial⟩<|.eJ rfl .n<|.eJ rfl .n<|.cF rfl .n<|.m1 xB.h rfl .n<|.m1 xC.h rfl .n<|.Fp 0 isAgg23 rfl rfl<|?_;refine .eJ rfl .n<|.eJ rfl .n<|.Jp isAgg203 sizeOf203 rfl rfl rfl .n<|?_;refine a7 λaN=>?_;refine .w (th (i:=5) (xs:=[aN.1]) (e:=cH)) .n ⟨⟨trivial,trivial⟩,trivial⟩ (by exact rf)<|?_;refine a7 λa0=>?_;refine .cF rfl .n<|.m1 xB.h rfl .n<|.m1 xC.h rfl .n<|.Jo (yT sizeOf23 rfl rfl rfl rfl rfl) (da rfl) (by kernel_rfl) (by kernel_rfl)<|?_;refine a7 λbe=>?_;refine b4 ?_;exact .hS [4,5] (be.2,aN.2.2.1,a0,aN.2.2.2,fi+1)
 ·refine .JF (k:=ad.bi) (c:=(⟨#[102,117,110]⟩:ByteArray)) (λh=>?_) (λh=>?_)
  ·refine .JG λe=>(λc9=>bI.aC (bE.val (JL (k:=(⟨#[102,117,110]⟩:ByteArray)) (kv:=Z) rfl rfl (by rw[<-h];rfl)) (by rw[e];rfl:_=.cg [.p (.v (.func (.func 250) #[] #[])),bs true])) (da rfl) rfl c9)<|?_;refine gL ?_ ?_
   ·exact .br
   ·refine a7 λbL=>?_;refine .nil<|.i7<|.seq<|.BV [(0,4,cT 1 cH ix 2 fi)] Cj ⟨rfl,trivial⟩<|.eJ rfl .n<|.eJ rfl .n<|.cF rfl .n<|.m1 xB.h rfl .n<|.m1 xC.h rfl .n<|.Fp 0 isAgg23 rfl rfl<|?_;refine .eJ rfl .n<|.eJ rfl .n<|.Jp isAgg203 sizeOf203 rfl rfl rfl .n<|?_;refine a7 λbJ=>?_;refine .w (th (i:=5) (xs:=[bJ.1]) (e:=cH)) .n ⟨⟨trivial,trivial⟩,trivial⟩ (by exact rf)<|?_;refine a7 λci=>?_;refine .cF rfl .n<|.m1 xB.h rfl .n<|.m1 xC.h rfl .n<|.Jo (yT sizeOf23 rfl rfl rfl rfl rfl) (da rfl) (by kernel_rfl) (by kernel_rfl)<|?_;refine a7 λcP=>?_;refine b4 ?_;exact .hS [4,5] (cP.2,bJ.2.2.1,ci,bJ.2.2.2,fi+1)
  ·refine .JF (k:=ad.bi) (c:=(⟨#[108,101,116]⟩:ByteArray)) (λh=>?_) (λh=>?_)
   ·refine .JG λe=>(λc9=>bI.aC (bE.val (JL (k:=(⟨#[108,101,116]⟩:ByteArray)) (kv:=Z) rfl rfl (by rw[<-h];rfl)) (by rw[e];rfl:_=.cg [.p (.v (.func (.func 251) #[] #[])),bs true])) (da rfl) rfl c9)<|?_;refine gL ?_ ?_
    ·exact .br
    ·refine a7 λdr=>?_;refine .nil<|.i7<|.seq<|.BV [(0,4,cT 1 cH ix 2 fi)] Cj ⟨rfl,trivial⟩<|.eJ rfl .n<|.eJ rfl .n<|.cF rfl .n<|.m1 xB.h rfl .n<|.m1 xC.h rfl .n<|.Fp 0 isAgg23 rfl rfl<|?_;refine .eJ rfl .n<|.eJ rfl .n<|.Jp isAgg203 sizeOf203 rfl rfl rfl .n<|?_;refine a7 λc5=>?_;refine .w (th (i:=5) (xs:=[c5.1]) (e:=cH)) .n ⟨⟨trivial,trivial⟩,trivial⟩ (by exact rf)<|?_;refine a7 λeC=>?_;refine .cF rfl .n<|.m1 xB.h rfl .n<|.m1 xC.h rfl .n<|.Jo (yT sizeOf23 rfl rfl rfl rfl rfl) (da rfl) (by kernel_rfl) (by kernel_rfl)<|?_;refine a7 λet=>?_;refine b4 ?_;exact .hS [4,5] (et.2,c5.2.2.1,eC,c5.2.2.2,fi+1)
   ·refine .JF (k:=ad.bi) (c:=(⟨#[111,98,115,101,114,118,101]⟩:ByteArray)) (λh=>?_) (λh=>?_)
    ·refine .JG λe=>(λc9=>bI.aC (bE.val (JL (k:=(⟨#[111,98,115,101,114,118,101]⟩:ByteArray)) (kv:=Z) rfl rfl (by rw[<-h];rfl)) (by rw[e];rfl:_=.cg [.p (.v (.func (.func 252) #[] #[])),bs true])) (da rfl) rfl c9)<|?_;refine gL ?_ ?_
     ·exact .br
     ·refine a7 λgk=>?_;refine .nil<|.i7<|.seq<|.BV [(0,4,cT 1 cH ix 2 fi)] Cj ⟨rfl,trivial⟩<|.eJ rfl .n<|.eJ rfl .n<|.cF rfl .n<|.m1 xB.h rfl .n<|.m1 xC.h rfl .n<|.Fp 0 isAgg23 rfl rfl<|?_;refine .eJ rfl .n<|.eJ rfl .n<|.Jp isAgg203 sizeOf203 rfl rfl rfl .n<|?_;refine a7 λfo=>?_;refine .w (th (i:=5) (xs:=[fo.1]) (e:=cH)) .n ⟨⟨trivial,trivial⟩,trivial⟩ (by exact rf)<|?_;refine a7 λiI=>?_;refine .cF rfl .n<|.m1 xB.h rfl .n<|.m1 xC.h rfl .n<|.Jo (yT sizeOf23 rfl rfl rfl rfl rfl) (da rfl) (by kernel_rfl) (by kernel_rfl)<|?_;refine a7 λh'=>?_;refine b4 ?_;exact .hS [4,5] (h'.2,fo.2.2.1,iI,fo.2.2.2,fi+1)
    ·exact .XH
instance aBD{J:ax}{U aj}:bG (ZE J U aj) 104 [bT 3 mG U,aI aj] (λr=>.cg [.agg ((du r.1).map .p),aI r.2.1,aI r.2.2]):=.qh 7 func104 rfl ntmps104<|by intro _ _ _;refine gc ?_;refine kJ ?_;refine .nil<|.i7<|.seq<|.xe jy 40 5 3 3 4 rfl rfl rfl<|.xe cH 3 1 3 4 5 rfl rfl rfl<|?_;refine b4 ?_;refine .defer 6 rfl rfl rfl λaBE=>?_;refine a7 λad=>?_;refine b4 ?_;refine .ajq aj5 rfl (λ_ _=>rfl)<|.kZ rfl<|?_;exact aW
instance aBF{J:ax}{U}:bG (ZK J U) 65 [cG U] (λr=>.cg [.agg ((du r.1).map .p),aI r.2.1,aI r.2.2]):=.aY 1 func65 rfl ntmps65 aW
instance aBG{J:ax}{U}:bG (ZL J U) 34 [cG U] (λr=>.cg [.agg ((du r.1).map .p),bs r.2]):=.aY 2 func34 rfl ntmps34 aW
instance aBH{J:ax}{U}:bG (vV J U) 72 [.agg ((du U).map .p)] aI:=.aY 0 func72 rfl ntmps72 aW
instance aBI{J:ax}{U}:bG (vW J U) 74 [.agg ((du U).map .p)] (λr=>.cg [.agg ((YM r.1).map .p),aI r.2.1,aI r.2.2]):=.aY 5 func74 rfl ntmps74<|by
 intro _ _ _;refine pQ (λZ=>?_) (λad=>?_)
 ·refine cp ?_;exact .br
 ·refine cp ?_;refine cJ (α:=(Int×dl)) (λs=>[(30,aI s.1)]) (λH s=>H.set 3 (.bu 9 (s.2.map eV))) [2,28,29] ?_;rintro⟨rq,oj⟩ n;refine gL ?_ ?_
  ·refine a7 λaA=>?_;refine a7 λaN=>?_;refine gL ?_ ?_
   ·refine a7 λa0=>?_;refine b4 ?_;exact .hS [4] ((aH (rq+1)),(oj.set a0.1.1 (⟨#[]⟩:ByteArray)))
   ·refine b4 ?_;exact .hS [4] ((aH (rq+1)),oj)
  ·refine b4 ?_;refine .Jd (l':=[(2,.aR 0 0),(3,aI 0),(4,aI 0)]) [1,2] (.s rfl (.s rfl (.s rfl .n))) rfl<|.X7 (l':=[(2,.aR 0 0),(3,aI 0),(4,aI 0)]) (us:=λ_=>[.dX 3 0 ad.2.2.2.2.2.1 ad.2.2.2.2.2.1]) (ds:=λz=>[bT 1 fk z]) 0 fk (λxs=>xs.map eV) (λ_=>rfl) (λxs=>(r3 (λ_=>rfl) xs).symm) rfl rfl rfl (λz h=>(.f .n)) (.s rfl (.s rfl (.s rfl .n))) rfl rfl rfl rfl λbe=>?_;exact aW
instance aBJ{J:ax}{ab}:ca (xT J ab) 44 [.agg ((du ab).map .p)] [] 5 (Sum.elim (λr=>.cg [.p (.v (.pointer none)),aI r]) (λr=>.cg [.aR 0 0,aI r.1])) (Sum.elim (λ_=>[]) (λr=>[eH r.2.1 r.2.2.1 r.2.2.2.1 r.2.2.2.2.1 r.2.2.2.2.2.1 r.2.2.2.2.2.2.1 r.2.2.2.2.2.2.2.1 1 2 3 4,e4 r.2.2.2.2.2.2.2.2.1,dH r.2.2.2.2.2.2.2.2.2.1,c3 r.2.2.2.2.2.2.2.2.2.2.1,eW r.2.2.2.2.2.2.2.2.2.2.2])):=.aY 7 func44 rfl ntmps44<|by intro _ _ _;refine a7 λZ=>?_;refine cp ?_;refine a7 λad=>?_;refine a7 λaA=>?_;refine b4 ?_;refine .aC (ajX (i:=2)) (da rfl) rfl<|.aC (Qy (i:=3)) (da rfl) rfl<|.aC (YY (i:=4)) (da rfl) rfl<|.aC (aj2 (i:=5)) (da rfl) rfl<|?_;refine gc ?_;exact aW
instance aBK{J:ax}{ab ag ak ap}:ca (o3 J ab ag ak ap) 37 [.agg ((du ab).map .p),aI ag,bT 1 cH ak,bT 1 jJ ap] [] 5 (Sum.elim (λr=>.cg [.p (.v (.pointer none)),aI r]) (λr=>.cg [.aR 0 0,aI r.1])) (Sum.elim (λ_=>[]) (λr=>[eH r.2.1 r.2.2.1 r.2.2.2.1 r.2.2.2.2.1 r.2.2.2.2.2.1 r.2.2.2.2.2.2.1 r.2.2.2.2.2.2.2.1 1 2 3 4,e4 r.2.2.2.2.2.2.2.2.1,dH r.2.2.2.2.2.2.2.2.2.1,c3 r.2.2.2.2.2.2.2.2.2.2.1,eW r.2.2.2.2.2.2.2.2.2.2.2])):=.aY 5 func37 rfl ntmps37<|by
 intro _ _ _;refine pQ (λZ=>?_) (λad=>?_)
 ·refine cp ?_;refine .fb (β:=Bool) (λs=>[(21,bs s)]) (λH _=>H) [1,2,10] (K5) ?_ ?_
  ·rintro xQ;refine cp ?_;exact .br
  ·intro j;exact aW
 ·refine cp ?_;refine .fb (β:=Bool) (λs=>[(21,bs s)]) (λH _=>H) [1,2,10] (zP J ag ak ad) ?_ ?_
  ·rintro aaw;exact aW
  ·intro j;exact aW
theorem alG{J:ax}(k:Nat):Cq (Mp J k):=by
  induction k with
  |zero=>(repeat intro _);exact .br rfl
  |succ k bB=>(repeat intro _);exact alm (ME:=bB)
instance aBL{J:ax}:Cq (Gw J):=alG J.n
instance aBM{J:ax}{ab ag ak ap an al am aD a2 bc ba}:ca (Gx J ab ag ak ap an al am aD a2 bc ba) 56 [.aR 0 0] [lO ab ag ak ap an al aD 1 am a2 bc ba,.bl 29 1 am] 0 (λr=>.cg []) (λr=>[lO ab ag ak ap an al r.1 1 r.2.2.2.2 r.2.1 r.2.2.1 r.2.2.2.1,.bl 29 1 r.2.2.2.2]):=.aY 3 func56 rfl ntmps56<|by
 intro _ _ _;refine a7 λZ=>?_;refine a7 λad=>?_;refine kt ?_;refine fl ?_;refine .fb (β:=(cd×Int×Int×Int×Nat×Int)) (λs=>[(3,cT 2 b7 s.1 2 s.2.2.2.2.1)]) (λH s=>((H.set 0 (lO ab ag ak ap an al aD 1 am s.2.1 s.2.2.1 s.2.2.2.1)).set 2 (.bl 64 2 s.2.2.2.2.1)).set 3 (fA s.2.2.2.2.2 ad.bi ad.n ad.a3 ad.dx)) [0] (Dh aD am) ?_ ?_
 ·rintro⟨eX,uW,uX,uY,Mq,sk⟩;refine b4 ?_;refine .Yg 96 (bT 2 b7 eX) rfl .IA<|?_;refine kt ?_;exact aW
 ·intro j;refine gL ?_ ?_
  ·refine .seq<|.region<|?_;refine fl ?_;refine .fb (β:=Int) (λs=>[(4,aI s)]) (λH _=>H) [0,3] (SR al a2 bc ba ad aD am) ?_ ?_
   ·rintro abE;exact aW
   ·intro j;refine cJ (α:=(Int×Int)) (λs=>[(4,aI s.1),(5,aI s.2)]) (λH _=>H) [0,3] ?_;rintro⟨ro,j7⟩ n;exact aW
  ·refine xv ?_;refine fm ?_;refine cJ (α:=(cd×Int×Int×Int×Int×Nat)) (λs=>[(3,cT 2 b7 s.1 2 s.2.2.2.2.2),(6,aI s.2.1)]) (λH s=>(H.set 0 (lO ab ag ak ap an al aD 1 am s.2.2.1 s.2.2.2.1 s.2.2.2.2.1)).set 2 (.bl 64 2 s.2.2.2.2.2)) [0,2] ?_;rintro⟨Mr,xK,Ms,Mt,Mu,Mv⟩ n;refine cp ?_;exact .exit<|.un<|.up<|.rV<|.iQ<|.re j [] (Mr,Ms,Mt,Mu,Mv,ad.kind)
instance aBN{J:ax}{ab ag ak ap an al am aD a2 bc ba bm}:ca (v7 J ab ag ak ap an al am aD a2 bc ba bm) 43 [.aR 0 0,aI ab] [lO ag ak ap an al am a2 1 aD bc ba bm,.bl 29 1 aD] 0 (λr=>.cg []) (λr=>[lO ag ak ap an al am r.1 1 r.2.2.2.2 r.2.1 r.2.2.1 r.2.2.2.1,.bl 29 1 r.2.2.2.2]):=.aY 0 func43 rfl ntmps43<|by intro _ _ _;refine cJ (α:=vN) (λ_=>[]) (λH s=>(H.set 0 (lO ag ak ap an al am s.1 1 s.2.2.2.2 s.2.1 s.2.2.1 s.2.2.2.1)).set 1 (.bl 29 1 s.2.2.2.2)) [0,1] ?_;rintro⟨Mw,SS,SU,SV,gQ⟩ n;exact aW
end
end Go.Proofs.YtgfggdcbhjhegaaGreatDoor

/- The functions of the program compute what their models say. -/
import Derived.Test.YtgfggdcbhjhegaaGreatDoorPaa
import Derived.Test.YtgfggdcbhjhegaaGreatDoorPab
import Derived.Test.YtgfggdcbhjhegaaGreatDoorPac
set_option linter.all false
set_option maxRecDepth 100000
set_option maxHeartbeats 4000000
namespace Go.Proofs.YtgfggdcbhjhegaaGreatDoor
open Go Go.Mi Go.RowKit Go.Dp Tryz Go.Proofs.Tryz
noncomputable section
attribute [local irreducible] bI cW co bZ
instance aAY{J:ax}{ab ag ak ap an al am}:ca (Q4 J ab ag ak ap an al am) 292 [.aR 0 0] [dq ab ag ak an 1 ap am 2 al,.bl 40 5 ap,.bl 3 1 al] 0 (λr=>aI r.1) (λr=>[dq ab ag r.2.1 r.2.2.1 1 r.2.2.2 am 2 al,.bl 40 5 r.2.2.2,.bl 3 1 al]):=.aY 1 func292 rfl ntmps292 aW
instance aAZ{J:ax}{ab ag ak ap an al am}:ca (Zl J ab ag ak ap an al am) 291 [.aR 0 0,.p (.v (.func (.func 292) #[] #[]))] [dq ab ag ak an 1 ap am 2 al,.bl 40 5 ap,.bl 3 1 al] 1 (λr=>cT 1 cH r.1 3 r.2.1) (λr=>[dq ab ag r.2.2.1 r.2.2.2.1 1 r.2.2.2.2 am 2 al,.bl 40 5 r.2.2.2.2,.bl 3 1 al,.bl 3 1 r.2.1]):=.aY 2 func291 rfl ntmps291<|by intro _ _ _;refine a7 λZ=>?_;refine kt ?_;refine cJ (α:=Ck) (λs=>[(5,cT 1 cH s.1 3 s.2.2.2.2)]) (λH s=>((H.set 0 (dq ab ag s.2.1 s.2.2.1 1 s.2.2.2.1 am 2 al)).set 1 (.bl 40 5 s.2.2.2.1)).set 3 (.bl 3 1 s.2.2.2.2)) [0,1] ?_;rintro⟨cb,jL,hq,gQ,nE⟩ n;refine a7 λad=>?_;refine fm ?_;refine a7 λaA=>?_;refine kt ?_;refine a7 λaN=>?_;refine b4 ?_;exact .hS [4] (aN,aA.2.1,aA.2.2.1,aA.2.2.2,nE+1)
instance aA0{J:ax}{cv} [lu:kL cv]{ab ag ak ap an al am}:ca (Zp J cv ab ag ak ap an al am) 382 [.aR 0 0] [dq ab ag ak an 1 ap am 2 al,.bl 40 5 ap,.bl 3 1 al] 0 (λr=>aI r.1) (λr=>[dq ab ag r.2.1 r.2.2.1 1 r.2.2.2 am 2 al,.bl 40 5 r.2.2.2,.bl 3 1 al]):=.aY 1 func382 rfl ntmps382<|by
 intro _ _ _;refine a7 λZ=>?_;refine cJ (α:=gD) (λs=>[(3,aI s.1)]) (λH s=>(H.set 0 (dq ab ag s.2.1 s.2.2.1 1 s.2.2.2 am 2 al)).set 1 (.bl 40 5 s.2.2.2)) [0] ?_;rintro⟨eX,jL,hq,gQ⟩ n;refine a7 λad=>?_;refine a7 λaA=>?_;refine gL ?_ ?_
 ·refine a7 λaN=>?_;refine .o ⟨OH Qv rfl rfl,e6⟩ .n<|?_;refine a7 λa0=>?_;refine b4 ?_;exact .hS [3] (a0.1,aN.2,a0.2.1,a0.2.2)
 ·refine a7 λbe=>?_;refine fm ?_;refine a7 λbL=>?_;refine a7 λbJ=>?_;refine a7 λci=>?_;refine b4 ?_;exact .hS [3] (ci.1,bJ.2,ci.2.1,ci.2.2)
variable {J:ax}
theorem alu{cv} [lu:kL cv]{Kd} [alv:QD Kd]{ab ag ak ap an al am}:ca (Zq J cv Kd ab ag ak ap an al am) 381 [.aR 0 0] [dq ab ag ak an 1 ap am 2 al,.bl 40 5 ap,.bl 3 1 al] 0 (λr=>aI r.1) (λr=>[dq ab ag r.2.1 r.2.2.1 1 r.2.2.2 am 2 al,.bl 40 5 r.2.2.2,.bl 3 1 al]):=.aY 1 func381 rfl ntmps381 aW
theorem alw{cv} [lu:kL cv](k:Nat):QD (Q9 J cv k):=by
  induction k with
  |zero=>(repeat intro _);exact .br rfl
  |succ k bB=>(repeat intro _);exact alu (alv:=bB)
instance aA1{J:ax}{cv} [lu:kL cv]:QD (Q_ J cv):=alw J.n
instance aA2{J:ax}{cv} [lu:kL cv]{ab ag ak ap an al am aD a2}:ca (Zr J cv ab ag ak ap an al am aD a2) 354 [.agg [.map 0,.p (.v (.func (.func 381) #[] #[])),bs ab],.aR 1 0] [qr ag,dq ak ap an am 2 al a2 3 aD,.bl 40 5 al,.bl 3 1 aD] 0 (λr=>aI r.1) (λr=>[qr ag,dq ak ap r.2.1 r.2.2.1 2 r.2.2.2 a2 3 aD,.bl 40 5 r.2.2.2,.bl 3 1 aD]):=.aY 2 func354 rfl ntmps354<|by intro _ _ _;refine gc ?_;refine a7 λZ=>?_;refine cJ (α:=gD) (λs=>[(5,aI s.1)]) (λH s=>(H.set 1 (dq ak ap s.2.1 s.2.2.1 2 s.2.2.2 a2 3 aD)).set 2 (.bl 40 5 s.2.2.2)) [1,2] ?_;rintro⟨cb,k3,jA,fi⟩ n;refine a7 λad=>?_;refine b4 ?_;refine .aC (FC (k:=ad.bi) rfl rfl rfl) (da rfl) rfl<|?_;refine cp ?_;refine a7 λaA=>?_;refine a7 λaN=>?_;refine a7 λa0=>?_;refine cp ?_;refine b4 ?_;exact .hS [5] (a0.1,aN.2.1,a0.2.1,a0.2.2)
instance aA3{J:ax}{cv} [lu:kL cv]{ab ag ak ap an al am}:ca (Q' J cv ab ag ak ap an al am) 380 [.aR 0 0] [dq ab ag ak an 1 ap am 2 al,.bl 40 5 ap,.bl 3 1 al] 0 (λr=>aI r.1) (λr=>[dq ab ag r.2.1 r.2.2.1 1 r.2.2.2 am 2 al,.bl 40 5 r.2.2.2,.bl 3 1 al]):=.aY 1 func380 rfl ntmps380<|by intro _ _ _;refine b4 ?_;refine .aC (FB (i:=3)) (da rfl) rfl<|.aC (rj (k:=(⟨#[42]⟩:ByteArray)) (a:=8) rfl rfl rfl rfl .gp) (da rfl) rfl<|.aC (rj (k:=(⟨#[47]⟩:ByteArray)) (a:=9) rfl rfl rfl rfl .gp) (da rfl) rfl<|?_;refine .aC (rj (k:=(⟨#[37]⟩:ByteArray)) (a:=10) rfl rfl rfl rfl .gp) (da rfl) rfl<|?_;exact aW
instance aA4{J:ax}{cv} [lu:kL cv]{ab ag ak ap an al am aD a2}:ca (Zs J cv ab ag ak ap an al am aD a2) 354 [.agg [.map 0,.p (.v (.func (.func 380) #[] #[])),bs ab],.aR 1 0] [qr ag,dq ak ap an am 2 al a2 3 aD,.bl 40 5 al,.bl 3 1 aD] 0 (λr=>aI r.1) (λr=>[qr ag,dq ak ap r.2.1 r.2.2.1 2 r.2.2.2 a2 3 aD,.bl 40 5 r.2.2.2,.bl 3 1 aD]):=.aY 2 func354 rfl ntmps354<|by intro _ _ _;refine gc ?_;refine a7 λZ=>?_;refine cJ (α:=gD) (λs=>[(5,aI s.1)]) (λH s=>(H.set 1 (dq ak ap s.2.1 s.2.2.1 2 s.2.2.2 a2 3 aD)).set 2 (.bl 40 5 s.2.2.2)) [1,2] ?_;rintro⟨cb,k3,jA,fi⟩ n;refine a7 λad=>?_;refine b4 ?_;refine .aC (FC (k:=ad.bi) rfl rfl rfl) (da rfl) rfl<|?_;refine cp ?_;refine a7 λaA=>?_;refine a7 λaN=>?_;refine a7 λa0=>?_;refine cp ?_;refine b4 ?_;exact .hS [5] (a0.1,aN.2.1,a0.2.1,a0.2.2)
instance aA5{J:ax}{cv} [lu:kL cv]{ab ag ak ap an al am}:ca (Ra J cv ab ag ak ap an al am) 379 [.aR 0 0] [dq ab ag ak an 1 ap am 2 al,.bl 40 5 ap,.bl 3 1 al] 0 (λr=>aI r.1) (λr=>[dq ab ag r.2.1 r.2.2.1 1 r.2.2.2 am 2 al,.bl 40 5 r.2.2.2,.bl 3 1 al]):=.aY 1 func379 rfl ntmps379<|by intro _ _ _;refine b4 ?_;refine .aC (FB (i:=3)) (da rfl) rfl<|.aC (rj (k:=(⟨#[43]⟩:ByteArray)) (a:=6) rfl rfl rfl rfl .gp) (da rfl) rfl<|.aC (rj (k:=(⟨#[45]⟩:ByteArray)) (a:=7) rfl rfl rfl rfl .gp) (da rfl) rfl<|?_;exact aW
instance aA6{J:ax}{cv} [lu:kL cv]{ab ag ak ap an al am aD a2}:ca (Zt J cv ab ag ak ap an al am aD a2) 354 [.agg [.map 0,.p (.v (.func (.func 379) #[] #[])),bs ab],.aR 1 0] [qr ag,dq ak ap an am 2 al a2 3 aD,.bl 40 5 al,.bl 3 1 aD] 0 (λr=>aI r.1) (λr=>[qr ag,dq ak ap r.2.1 r.2.2.1 2 r.2.2.2 a2 3 aD,.bl 40 5 r.2.2.2,.bl 3 1 aD]):=.aY 2 func354 rfl ntmps354<|by intro _ _ _;refine gc ?_;refine a7 λZ=>?_;refine cJ (α:=gD) (λs=>[(5,aI s.1)]) (λH s=>(H.set 1 (dq ak ap s.2.1 s.2.2.1 2 s.2.2.2 a2 3 aD)).set 2 (.bl 40 5 s.2.2.2)) [1,2] ?_;rintro⟨cb,k3,jA,fi⟩ n;refine a7 λad=>?_;refine b4 ?_;refine .aC (FC (k:=ad.bi) rfl rfl rfl) (da rfl) rfl<|?_;refine cp ?_;refine a7 λaA=>?_;refine a7 λaN=>?_;refine a7 λa0=>?_;refine cp ?_;refine b4 ?_;exact .hS [5] (a0.1,aN.2.1,a0.2.1,a0.2.2)
instance aA7{J:ax}{cv} [lu:kL cv]{ab ag ak ap an al am}:ca (Zu J cv ab ag ak ap an al am) 376 [.aR 0 0] [dq ab ag ak an 1 ap am 2 al,.bl 40 5 ap,.bl 3 1 al] 0 (λr=>aI r.1) (λr=>[dq ab ag r.2.1 r.2.2.1 1 r.2.2.2 am 2 al,.bl 40 5 r.2.2.2,.bl 3 1 al]):=.aY 1 func376 rfl ntmps376<|by intro _ _ _;refine b4 ?_;refine .aC (FB (i:=3)) (da rfl) rfl<|.aC (rj (k:=(⟨#[61,61]⟩:ByteArray)) (a:=11) rfl rfl rfl rfl .gp) (da rfl) rfl<|.aC (rj (k:=(⟨#[33,61]⟩:ByteArray)) (a:=12) rfl rfl rfl rfl .gp) (da rfl) rfl<|?_;refine .aC (rj (k:=(⟨#[60]⟩:ByteArray)) (a:=13) rfl rfl rfl rfl .gp) (da rfl) rfl<|.aC (rj (k:=(⟨#[60,61]⟩:ByteArray)) (a:=14) rfl rfl rfl rfl .gp) (da rfl) rfl<|.aC (rj (k:=(⟨#[62]⟩:ByteArray)) (a:=15) rfl rfl rfl rfl .gp) (da rfl) rfl<|?_;refine .aC (rj (k:=(⟨#[62,61]⟩:ByteArray)) (a:=16) rfl rfl rfl rfl .gp) (da rfl) rfl<|?_;exact aW
theorem alx{cv} [lu:kL cv]{Ke} [aly:QE Ke]{ab ag ak ap an al am}:ca (Zv J cv Ke ab ag ak ap an al am) 368 [.aR 0 0] [dq ab ag ak an 1 ap am 2 al,.bl 40 5 ap,.bl 3 1 al] 0 (λr=>aI r.1) (λr=>[dq ab ag r.2.1 r.2.2.1 1 r.2.2.2 am 2 al,.bl 40 5 r.2.2.2,.bl 3 1 al]):=.aY 1 func368 rfl ntmps368 aW
theorem alz{cv} [lu:kL cv](k:Nat):QE (Rb J cv k):=by
  induction k with
  |zero=>(repeat intro _);exact .br rfl
  |succ k bB=>(repeat intro _);exact alx (aly:=bB)
instance aA8{J:ax}{cv} [lu:kL cv]:QE (Rc J cv):=alz J.n
instance aA9{J:ax}{cv} [lu:kL cv]{ab ag ak ap an al am aD a2}:ca (Zw J cv ab ag ak ap an al am aD a2) 354 [.agg [.map 0,.p (.v (.func (.func 368) #[] #[])),bs ab],.aR 1 0] [qr ag,dq ak ap an am 2 al a2 3 aD,.bl 40 5 al,.bl 3 1 aD] 0 (λr=>aI r.1) (λr=>[qr ag,dq ak ap r.2.1 r.2.2.1 2 r.2.2.2 a2 3 aD,.bl 40 5 r.2.2.2,.bl 3 1 aD]):=.aY 2 func354 rfl ntmps354<|by intro _ _ _;refine gc ?_;refine a7 λZ=>?_;refine cJ (α:=gD) (λs=>[(5,aI s.1)]) (λH s=>(H.set 1 (dq ak ap s.2.1 s.2.2.1 2 s.2.2.2 a2 3 aD)).set 2 (.bl 40 5 s.2.2.2)) [1,2] ?_;rintro⟨cb,k3,jA,fi⟩ n;refine a7 λad=>?_;refine b4 ?_;refine .aC (FC (k:=ad.bi) rfl rfl rfl) (da rfl) rfl<|?_;refine cp ?_;refine a7 λaA=>?_;refine a7 λaN=>?_;refine a7 λa0=>?_;refine cp ?_;refine b4 ?_;exact .hS [5] (a0.1,aN.2.1,a0.2.1,a0.2.2)
instance aBa{J:ax}{cv} [lu:kL cv]{ab ag ak ap an al am}:ca (Rd J cv ab ag ak ap an al am) 353 [.aR 0 0] [dq ab ag ak an 1 ap am 2 al,.bl 40 5 ap,.bl 3 1 al] 0 (λr=>aI r.1) (λr=>[dq ab ag r.2.1 r.2.2.1 1 r.2.2.2 am 2 al,.bl 40 5 r.2.2.2,.bl 3 1 al]):=.aY 1 func353 rfl ntmps353<|by intro _ _ _;refine b4 ?_;refine .aC (FB (i:=3)) (da rfl) rfl<|.aC (rj (k:=(⟨#[97,110,100]⟩:ByteArray)) (a:=17) rfl rfl rfl rfl .gp) (da rfl) rfl<|?_;exact aW
instance aBb{J:ax}{cv} [lu:kL cv]{ab ag ak ap an al am aD a2}:ca (Zx J cv ab ag ak ap an al am aD a2) 354 [.agg [.map 0,.p (.v (.func (.func 353) #[] #[])),bs ab],.aR 1 0] [qr ag,dq ak ap an am 2 al a2 3 aD,.bl 40 5 al,.bl 3 1 aD] 0 (λr=>aI r.1) (λr=>[qr ag,dq ak ap r.2.1 r.2.2.1 2 r.2.2.2 a2 3 aD,.bl 40 5 r.2.2.2,.bl 3 1 aD]):=.aY 2 func354 rfl ntmps354<|by intro _ _ _;refine gc ?_;refine a7 λZ=>?_;refine cJ (α:=gD) (λs=>[(5,aI s.1)]) (λH s=>(H.set 1 (dq ak ap s.2.1 s.2.2.1 2 s.2.2.2 a2 3 aD)).set 2 (.bl 40 5 s.2.2.2)) [1,2] ?_;rintro⟨cb,k3,jA,fi⟩ n;refine a7 λad=>?_;refine b4 ?_;refine .aC (FC (k:=ad.bi) rfl rfl rfl) (da rfl) rfl<|?_;refine cp ?_;refine a7 λaA=>?_;refine a7 λaN=>?_;refine a7 λa0=>?_;refine cp ?_;refine b4 ?_;exact .hS [5] (a0.1,aN.2.1,a0.2.1,a0.2.2)
instance aBc{J:ax}{cv} [lu:kL cv]{ab ag ak ap an al am}:ca (Zy J cv ab ag ak ap an al am) 327 [.aR 0 0] [dq ab ag ak an 1 ap am 2 al,.bl 40 5 ap,.bl 3 1 al] 0 (λr=>aI r.1) (λr=>[dq ab ag r.2.1 r.2.2.1 1 r.2.2.2 am 2 al,.bl 40 5 r.2.2.2,.bl 3 1 al]):=.aY 1 func327 rfl ntmps327<|by intro _ _ _;refine b4 ?_;refine .aC (FB (i:=3)) (da rfl) rfl<|.aC (rj (k:=(⟨#[111,114]⟩:ByteArray)) (a:=18) rfl rfl rfl rfl .gp) (da rfl) rfl<|?_;exact aW
theorem alA{cv} [lu:kL cv]{ab ag ak ap an al am}:ca (Zz J cv ab ag ak ap an al am) 296 [.aR 0 0] [dq ab ag ak an 1 ap am 2 al,.bl 40 5 ap,.bl 3 1 al] 0 (λr=>aI r.1) (λr=>[dq ab ag r.2.1 r.2.2.1 1 r.2.2.2 am 2 al,.bl 40 5 r.2.2.2,.bl 3 1 al]):=.aY 2 func296 rfl ntmps296 aW
theorem alB(k:Nat):kL (Re J k):=by
  induction k with
  |zero=>(repeat intro _);exact .br rfl
  |succ k bB=>(repeat intro _);exact alA (lu:=bB)
instance aBd{J:ax}:kL (Kf J):=alB J.n
instance aBe{J:ax}{ab ag ak ap an al am aD}:ca (ZA J ab ag ak ap an al am aD) 250 [.aR 0 0,.agg ((mG ab).map .p)] [dq ag ak ap al 1 an aD 2 am,.bl 40 5 an,.bl 3 1 am] 0 (λr=>aI r.1) (λr=>[dq ag ak r.2.1 r.2.2.1 1 r.2.2.2 aD 2 am,.bl 40 5 r.2.2.2,.bl 3 1 am]):=.aY 4 func250 rfl ntmps250<|by
 intro _ _ _;refine a7 λZ=>?_;refine a7 λad=>?_;refine a7 λaA=>?_;refine gL ?_ ?_
 ·refine a7 λaN=>?_;refine a7 λa0=>?_;refine a7 λbe=>?_;refine a7 λbL=>?_;refine kt ?_;refine a7 λbJ=>?_;refine fl ?_;refine .fb (β:=sh) (λs=>[(6,aI s.1)]) (λH s=>(H.set 0 (dq ag ak s.2.1 bL.2.2.1 1 bL.2.2.2 aD 2 am)).set 3 (.cells 203 [fw s.2.2,cG Z.1.bi,aI Z.1.dx])) [0,3,5,7] (Rf J ag ak bL am aD bJ ab Z) ?_ ?_
  ·rintro⟨gt,xL,sk⟩;refine a7 λci=>?_;refine a7 λcP=>?_;refine kt ?_;exact aW
  ·intro j;refine a7 λeC=>?_;refine fm ?_;refine a7 λet=>?_;refine .Wx Qv rfl rfl rfl<|?_;refine fm ?_;exact .br
 ·exact .br
instance aBf{J:ax}{ab ag ak ap an al am aD}:ca (ZB J ab ag ak ap an al am aD) 251 [.aR 0 0,.agg ((mG ab).map .p)] [dq ag ak ap al 1 an aD 2 am,.bl 40 5 an,.bl 3 1 am] 0 (λr=>aI r.1) (λr=>[dq ag ak r.2.1 r.2.2.1 1 r.2.2.2 aD 2 am,.bl 40 5 r.2.2.2,.bl 3 1 am]):=.aY 1 func251 rfl ntmps251 aW
instance aBg{J:ax}{ab ag ak ap an al am aD}:ca (ZC J ab ag ak ap an al am aD) 252 [.aR 0 0,.agg ((mG ab).map .p)] [dq ag ak ap al 1 an aD 2 am,.bl 40 5 an,.bl 3 1 am] 0 (λr=>aI r.1) (λr=>[dq ag ak r.2.1 r.2.2.1 1 r.2.2.2 aD 2 am,.bl 40 5 r.2.2.2,.bl 3 1 am]):=.aY 1 func252 rfl ntmps252 aW
instance aBh{J:ax}{U aj}:bG (LM J U aj) 213 [.agg ((du U).map .p),aI aj] (bT 1 cH):=.aY 1 func213 rfl ntmps213<|by
 intro _ _ _;refine cu ?_;refine kt ?_;refine fl ?_;refine .fb (β:=(oZ×Nat)) (λs=>[(5,cT 1 cH s.1.1 0 s.2),(6,aI s.1.2)]) (λH s=>H.set 0 (.bl 3 1 s.2)) [2] ((λ((cb,gt),tA)=>Sz U J (cb,gt))) ?_ ?_
 ·rintro⟨⟨cb,gt⟩,tA⟩;refine nA (α:=(oZ×Nat)) (λs=>[(5,cT 1 cH s.1.1 0 s.2),(9,aI s.1.2)]) (λH s=>H.set 0 (.bl 3 1 s.2)) [2,6] ((cb,0),tA) ?_;rintro⟨⟨i_,rn⟩,MF⟩ n;exact aW
 ·intro j;refine a7 λbe=>?_;refine nA (α:=((List Int×Int×Int)×Nat)) (λs=>[(5,cT 1 cH s.1.1 0 s.2),(6,aI s.1.2.1),(7,aI s.1.2.2)]) (λH s=>H.set 0 (.bl 3 1 s.2)) [2] ((([]:List Int),aj,be),0) ?_;rintro⟨⟨j7,k2,k4⟩,MH⟩ n;refine gL ?_ ?_
  ·refine a7 λbL=>?_;refine fl ?_;refine .fb (β:=(List Int×Nat)) (λs=>[(5,cT 1 cH s.1 0 s.2)]) (λH s=>H.set 0 (.bl 3 1 s.2)) [2,6,7,8] ((λ(pV,Dn)=>z5 U k4 bL k2 J pV)) ?_ ?_
   ·rintro⟨pV,Dn⟩;refine .fb (β:=(List Int×Nat)) (λs=>[(5,cT 1 cH s.1 0 s.2)]) (λH s=>H.set 0 (.bl 3 1 s.2)) [2,7] ((λ(LL,alC)=>C3 J U k4 LL)) ?_ ?_
    ·rintro⟨LL,alC⟩;exact aW
    ·intro j;refine a7 λci=>?_;refine nu ?_ ?_
     ·refine a7 λcP=>?_;refine gL ?_ ?_
      ·refine a7 λdr=>?_;refine a7 λc5=>?_;refine a7 λeC=>?_;refine kJ ?_;exact .nil<|.re j [] (eC,Dn+1+1)
      ·exact .skip<|.re j [] (pV,Dn)
     ·refine kJ ?_;exact .nil<|.i7<|.Bh rfl<|.skip<|.re j [] (pV,Dn)
   ·intro j;refine a7 λet=>?_;refine nu ?_ ?_
    ·refine a7 λgk=>?_;refine gL ?_ ?_
     ·refine a7 λfo=>?_;refine kJ ?_;exact .nil<|.re j [] (fo,MH+1)
     ·exact .skip<|.re j [] (j7,MH)
    ·refine kJ ?_;exact .nil<|.i7<|.Bh rfl<|.skip<|.re j [] (j7,MH)
  ·exact .exit<|.un<|.up<|.rV<|.re j [] ((j7,k2),MH)
instance aBi{J:ax}{U aj a6}:bG (LN J U aj a6) 166 [.agg ((du U).map .p),aI aj,cG a6] aI:=.aY 0 func166 rfl ntmps166<|by intro _ _ _;refine a7 λZ=>?_;refine cJ (α:=Int) (λs=>[(8,aI s)]) (λH _=>H) [2,3,7] ?_;rintro b6 n;exact aW
instance aBj{J:ax}{U aj}:bG (x4 J U aj) 116 [.agg ((du U).map .p),aI aj] aI:=.aY 0 func116 rfl ntmps116 aW
instance aBk{J:ax}{U aj}:bG (LQ J U aj) 115 [.agg ((du U).map .p),aI aj] aI:=.aY 1 func115 rfl ntmps115<|by
 intro _ _ _;refine a7 λZ=>?_;refine fl ?_;refine .fb (β:=Int) (λ_=>[]) (λH s=>H.set 0 (fA s Z.bi Z.n Z.a3 Z.dx)) [1,2,5] (z8 J U aj Z) ?_ ?_
 ·rintro jd;refine .fb (β:=Int) (λ_=>[]) (λH s=>H.set 0 (fA s Z.bi Z.n Z.a3 Z.dx)) [1,2,5] (C4 U aj J) ?_ ?_
  ·rintro o1;refine a7 λad=>?_;refine cp ?_;refine a7 λaA=>?_;refine cp ?_;refine nu ?_ ?_
   ·refine a7 λaN=>?_;refine nu ?_ ?_
    ·refine a7 λa0=>?_;refine cp ?_;refine fm ?_;refine cJ (α:=Int) (λs=>[(10,aI s)]) (λH _=>H) [1,2,9] ?_;rintro uK n;exact aW
    ·refine fm ?_;refine cJ (α:=Int) (λs=>[(10,aI s)]) (λH _=>H) [1,2,9] ?_;rintro l9 n;exact aW
   ·refine fm ?_;refine cJ (α:=Int) (λs=>[(10,aI s)]) (λH _=>H) [1,2,9] ?_;rintro z6 n;exact aW
  ·intro j;refine fm ?_;refine a7 λlQ=>?_;refine a7 λo5=>?_;refine cJ (α:=Int) (λs=>[(8,aI s)]) (λH _=>H) [1,2,5,7] ?_;rintro z7 n;exact aW
 ·intro j;refine a7 λLR=>?_;refine YD ?_ ?_;exact aW;refine a7 λLS=>?_;refine fm ?_;refine cJ (α:=Int) (λs=>[(6,aI s)]) (λH _=>H) [1,2,5] ?_;rintro sj n;exact aW
end
end Go.Proofs.YtgfggdcbhjhegaaGreatDoor

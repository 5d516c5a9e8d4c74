/- The functions of the program compute what their models say. -/
import Derived.Test.YtgfggdcbhjhegaaGreatDoorPca
import Derived.Test.YtgfggdcbhjhegaaGreatDoorPcb
import Derived.Test.YtgfggdcbhjhegaaGreatDoorPcc
import Derived.Test.YtgfggdcbhjhegaaGreatDoorK
set_option linter.all false
set_option maxRecDepth 100000
set_option maxHeartbeats 4000000
namespace Go.Proofs.YtgfggdcbhjhegaaGreatDoor
open Go Go.Mi Go.RowKit Go.Dp Tryz Go.Proofs.Tryz
noncomputable section
attribute [local irreducible] bI cW co bZ
theorem alH{J:ax}{iL} [Dl:xG iL]{ab ag ak ap an al am aD a2 bc ba bm bF ch cS}:ca (CU J iL ab ag ak ap an al am aD a2 bc ba bm bF ch cS) 68 [.aR 0 0,.aR 1 0,bT 1 cH ab] [eH ag ak ap an al am aD 2 3 4 5,kK a2 bc 6,e4 ba,dH bm,c3 bF,eW ch,dH cS] 0 (λr=>bT 2 b7 r.1) (λr=>[eH ag ak r.2.1 r.2.2.1 r.2.2.2.1 am aD 2 3 4 5,kK a2 bc 6,e4 ba,dH r.2.2.2.2.1,c3 r.2.2.2.2.2.1,eW r.2.2.2.2.2.2.1,dH r.2.2.2.2.2.2.2]):=.aY 1 func68 rfl ntmps68<|by intro _ _ _;refine .seq<|.region<|?_;refine kJ ?_;refine .nil<|.i7<|.seq<|.seq<|.region<|?_;refine kJ ?_;refine .nil<|.i7<|.iQ<|.BB b7 64 2 7 6 rfl rfl<|?_;refine nA (α:=((cd×Int×Int×Int×Int×j6×List di×List hi×j6)×Nat)) (λs=>[(6,cT 2 b7 s.1.1 7 s.2),(11,aI s.1.2.1)]) (λH s=>(((((H.set 0 (eH ag ak s.1.2.2.1 s.1.2.2.2.1 s.1.2.2.2.2.1 am aD 2 3 4 5)).set 3 (dH s.1.2.2.2.2.2.1)).set 4 (c3 s.1.2.2.2.2.2.2.1)).set 5 (eW s.1.2.2.2.2.2.2.2.1)).set 6 (dH s.1.2.2.2.2.2.2.2.2)).set 7 (.bl 64 2 s.2)) [0,1,9,10] (([],0,ap,an,al,bm,bF,ch,cS),0) ?_;rintro⟨⟨gt,kn,jL,hq,ix,oj,uS,Sj,Sk⟩,aBO⟩ n;exact aW
theorem alI{J:ax}(k:Nat):xG (CV J k):=by
  induction k with
  |zero=>(repeat intro _);exact .br rfl
  |succ k bB=>(repeat intro _);exact alH (Dl:=bB)
instance aBP{J:ax}:xG (zV J):=alI J.n
instance aBQ{J:ax}{ab ag ak ap an al am aD a2 bc ba bm}:ca (x0 J ab ag ak ap an al am aD a2 bc ba bm) 38 [.aR 0 0,aI ab] [eH ag ak ap an al am aD 1 2 3 4,e4 a2,dH bc,c3 ba,eW bm] 0 (λr=>bT 2 b7 r.1) (λr=>[eH ag ak r.2.1 r.2.2.1 r.2.2.2.1 am aD 1 2 3 4,e4 a2,dH r.2.2.2.2.1,c3 r.2.2.2.2.2.1,eW r.2.2.2.2.2.2]):=.aY 3 func38 rfl ntmps38<|by intro _ _ _;refine a7 λZ=>?_;refine fm ?_;refine b4 ?_;refine .aC (YU (k:=ab) rfl rfl rfl) (da rfl) rfl<|?_;exact aW
instance aBR{J:ax}{U aj a6}:bG (pU J U aj a6) 11 [.agg ((du U).map .p),aI aj,bT 1 cH a6] (λr=>.cg [bT 2 b7 r.1,aI r.2]):=.aY 5 func11 rfl ntmps11<|by
 intro _ _ _;refine pQ (λZ=>?_) (λad=>?_)
 ·refine cp ?_;exact .br
 ·exact aW
instance aBS{J:ax}{U aj a6}:bG (o4 J U aj a6) 12 [.agg ((du U).map .p),aI aj,bT 1 cH a6] (λr=>.cg [bs r.1,aI r.2]):=.aY 5 func12 rfl ntmps12<|by
 intro _ _ _;refine pQ (λZ=>?_) (λad=>?_)
 ·refine cp ?_;exact .br
 ·exact aW
instance aBT{J:ax}{U aj a6 dg}:bG (m7 J U aj a6 dg) 24 [.agg ((du U).map .p),aI aj,bT 2 b7 a6,bT 1 cH dg] (λr=>.cg [bT 2 b7 r.1,aI r.2]):=.aY 5 func24 rfl ntmps24<|by
 intro _ _ _;refine pQ (λZ=>?_) (λad=>?_)
 ·refine cp ?_;exact .br
 ·exact aW
instance aBU{J:ax}{U aj a6}:bG (tu J U aj a6) 28 [.agg ((du U).map .p),aI aj,bT 1 cH a6] (λr=>.cg [aI r.1,aI r.2]):=.aY 5 func28 rfl ntmps28<|by
 intro _ _ _;refine pQ (λZ=>?_) (λad=>?_)
 ·refine cp ?_;exact .br
 ·exact aW
instance aBV{J:ax}{U aj a6}:bG (tv J U aj a6) 29 [.agg ((du U).map .p),aI aj,bT 1 cH a6] (λr=>.cg [aI r.1,aI r.2]):=.aY 5 func29 rfl ntmps29<|by
 intro _ _ _;refine pQ (λZ=>?_) (λad=>?_)
 ·refine cp ?_;exact .br
 ·exact aW
instance aBW{J:ax}{U aj}:bG (vZ J U aj) 21 [.agg ((du U).map .p),bT 1 cH aj] (λr=>.cg [bT 1 (kF 2 b7) r.1,aI r.2]):=.aY 6 func21 rfl ntmps21<|by
 intro _ _ _;refine pQ (λZ=>?_) (λad=>?_)
 ·refine cp ?_;exact .br
 ·refine cp ?_;refine a7 λaA=>?_;refine cp ?_;refine .skip<|.iQ<|.i7<|.seq<|.seq<|.region<|?_;refine kJ ?_;refine .nil<|.i7<|.iQ<|.BB (kF 2 b7) 29 1 5 4 rfl rfl<|?_;refine nA (α:=((List cd×Int×Int×Int×Int×j6×List di×List hi)×Nat)) (λs=>[(4,cT 1 (kF 2 b7) s.1.1 5 s.2),(30,aI s.1.2.1)]) (λH s=>((((H.set 0 (eH ad.2.1 ad.2.2.1 s.1.2.2.1 s.1.2.2.2.1 s.1.2.2.2.2.1 ad.2.2.2.2.2.2.1 ad.2.2.2.2.2.2.2.1 1 2 3 4)).set 2 (dH s.1.2.2.2.2.2.1)).set 3 (c3 s.1.2.2.2.2.2.2.1)).set 4 (eW s.1.2.2.2.2.2.2.2)).set 5 (.bl 29 1 s.2)) [6,28,29] (([],0,ad.2.2.2.1,ad.2.2.2.2.1,ad.2.2.2.2.2.1,ad.2.2.2.2.2.2.2.2.2.1,ad.2.2.2.2.2.2.2.2.2.2.1,ad.2.2.2.2.2.2.2.2.2.2.2),0) ?_;rintro⟨⟨dV,rq,jL,hq,ix,uP,oj,uS⟩,aBX⟩ n;exact aW
instance aBY{J:ax}:ca (aaT J) 9 [] [] 0 bs (λ_=>[]):=.aY 1 func9 rfl ntmps9 aW
instance aBZ:bG k5 9 [] bs:=⟨λr h=>by cases h;exact(fC.h (av:=prog) akI:)⟩
instance aB0{J:ax}{U aj a6}:bG (Gy J U aj a6) 19 [.agg ((du U).map .p),aI aj,bT 1 cH a6] (bT 2 b7):=.aY 2 func19 rfl ntmps19 aW
instance aB1{J:ax}{U aj a6}:bG (Gz J U aj a6) 20 [.agg ((du U).map .p),aI aj,bT 1 cH a6] bs:=.aY 1 func20 rfl ntmps20 aW
instance ll{J:ax}{U aj a6}:bG (w4 J U aj a6) 3 [.agg ((du U).map .p),aI aj,bT 1 cH a6] bs:=.aY 2 func3 rfl ntmps3<|by
 intro _ _ _;refine a7 λZ=>?_;refine cp ?_;refine a7 λaA=>?_;refine kt ?_;refine a7 λaN=>?_;refine a7 λa0=>?_;refine a7 λbe=>?_;refine a7 λbL=>?_;refine mF ?_;refine a7 λbJ=>?_;refine cp ?_;refine a7 λci=>?_;refine fl ?_;refine .fb (β:=Int) (λs=>[(13,aI s)]) (λH _=>H) [1,2,3,9,10,11,12] (qx a0 be U aj J a6) ?_ ?_
 ·rintro h0;refine cp ?_;refine a7 λdr=>?_;refine a7 λc5=>?_;refine fl ?_;refine .fb (β:=Int) (λs=>[(13,aI s)]) (λH _=>H) [9,10,11,12,14] (x8 c5 a0 be) ?_ ?_
  ·rintro lq;refine .seq<|.region<|?_;refine fl ?_;refine .fb (β:=Int) (λs=>[(15,aI s)]) (λH _=>H) [9,10,11,12,13] (Af a0 lq be) ?_ ?_
   ·rintro Mx;exact aW
   ·intro j;exact aW
  ·intro j;refine a7 λiI=>?_;refine cp ?_;refine a7 λh'=>?_;refine a7 λiJ=>?_;refine mF ?_;refine YD ?_ ?_;exact aW;refine a7 λiK=>?_;refine b4 ?_;refine .q (I1 runUnderlying4 rfl rfl) rfl<|?_;exact aW
 ·intro j;exact aW
instance aB2{J:ax}{U aj}:bG (My J U aj) 23 [.agg ((du U).map .p),bT 1 cH aj] (λr=>bT 1 (kF 2 b7) r):=.aY 2 func23 rfl ntmps23 aW
instance lL{J:ax}{U aj}:bG (SW J U aj) 4 [.agg ((du U).map .p),bT 1 cH aj] bs:=.aY 2 func4 rfl ntmps4<|by
 intro _ _ _;refine a7 λZ=>?_;refine cp ?_;refine a7 λaA=>?_;refine kt ?_;refine a7 λaN=>?_;refine a7 λa0=>?_;refine a7 λbe=>?_;refine mF ?_;refine a7 λbL=>?_;refine cp ?_;refine a7 λbJ=>?_;refine fl ?_;refine .fb (β:=Int) (λs=>[(9,aI s)]) (λH _=>H) [1,2,7,8] (Ag a0 J U aj) ?_ ?_
 ·rintro gE;exact aW
 ·intro j;exact aW
instance aB3{J:ax}{U aj a6 dg}:bG (Mz J U aj a6 dg) 27 [.agg ((du U).map .p),aI aj,bT 2 b7 a6,bT 1 cH dg] (bT 2 b7):=.aY 3 func27 rfl ntmps27<|by
 intro _ _ _;refine a7 λZ=>?_;refine a7 λad=>?_;refine a7 λaA=>?_;refine a7 λaN=>?_;refine kt ?_;refine fl ?_;refine .fb (β:=(List cd×Nat)) (λs=>[(12,cT 1 (kF 2 b7) s.1 2 s.2)]) (λH s=>H.set 2 (.bl 29 1 s.2)) [1,4,9,11] ((λ(kM,Mq)=>SX U aj J aN Z ad kM)) ?_ ?_
 ·rintro⟨kM,Mq⟩;exact aW
 ·intro j;refine nA (α:=((List cd×Int×Int)×Nat)) (λs=>[(12,cT 1 (kF 2 b7) s.1.1 2 s.2),(13,aI s.1.2.1),(14,aI s.1.2.2)]) (λH s=>H.set 2 (.bl 29 1 s.2)) [1,2,4,9,10,11] ((([]:List cd),0,0),0) ?_;rintro⟨⟨lp,lq,v6⟩,fi⟩ n;refine cp ?_;exact .exit<|.un<|.up<|.rV<|.re j [] (lp,fi)
instance x_{J:ax}{U aj}:bG (SY J U aj) 5 [.agg ((du U).map .p),.agg ((YP aj).map .p)] bs:=.aY 3 func5 rfl ntmps5<|by
 intro _ _ _;refine a7 λZ=>?_;refine cp ?_;refine a7 λaA=>?_;refine kt ?_;refine a7 λaN=>?_;refine kt ?_;refine a7 λa0=>?_;refine a7 λbe=>?_;refine a7 λbL=>?_;refine mF ?_;refine a7 λbJ=>?_;refine mF ?_;refine a7 λci=>?_;refine cp ?_;refine a7 λcP=>?_;refine Ft ?_;refine .fb (β:=Int) (λs=>[(10,aI s)]) (λH _=>H) [2,3,8,9] (lr be J U aj) ?_ ?_
 ·rintro h_;exact aW
 ·intro j;exact aW
instance aB4{J:ax}{U aj a6}:bG (MA J U aj a6) 30 [.agg ((du U).map .p),aI aj,bT 1 cH a6] (λr=>.cg [aI r.1,aI r.2]):=.aY 2 func30 rfl ntmps30 aW
instance x'{J:ax}{U aj a6}:bG (SZ J U aj a6) 6 [.agg ((du U).map .p),aI aj,bT 1 cH a6] bs:=.aY 2 func6 rfl ntmps6<|by
 intro _ _ _;refine a7 λZ=>?_;refine cp ?_;refine a7 λaA=>?_;refine kt ?_;refine a7 λaN=>?_;refine a7 λa0=>?_;refine a7 λbe=>?_;refine a7 λbL=>?_;refine mF ?_;refine a7 λbJ=>?_;refine cp ?_;refine a7 λci=>?_;refine fl ?_;refine .fb (β:=Int) (λs=>[(13,aI s)]) (λH _=>H) [1,2,3,9,10,11,12] (x9 J U aj a6 a0 be) ?_ ?_
 ·rintro h0;refine .fb (β:=Int) (λs=>[(13,aI s)]) (λH _=>H) [1,2,3,9,10,11,12] (Ah a0 be J U aj a6) ?_ ?_
  ·rintro lq;exact aW
  ·intro j;exact aW
 ·intro j;exact aW
instance aB5{J:ax}{U aj a6}:bG (uZ J U aj a6) 31 [.agg ((du U).map .p),aI aj,bT 1 cH a6] (λr=>.cg [bT 2 b7 r.1,aI r.2]):=.aY 7 func31 rfl ntmps31<|by
 intro _ _ _;refine pQ (λZ=>?_) (λad=>?_)
 ·refine cp ?_;refine a7 λaA=>?_;refine cp ?_;exact .br
 ·exact aW
instance aB6{J:ax}{U aj a6}:bG (MC J U aj a6) 33 [.agg ((du U).map .p),aI aj,bT 1 cH a6] (bT 2 b7):=.aY 2 func33 rfl ntmps33 aW
instance aB7{J:ax}{U aj a6}:bG (S1 J U aj a6) 7 [.agg ((du U).map .p),aI aj,bT 1 cH a6] bs:=.aY 2 func7 rfl ntmps7<|by
 intro _ _ _;refine a7 λZ=>?_;refine cp ?_;refine a7 λaA=>?_;refine kt ?_;refine a7 λaN=>?_;refine a7 λa0=>?_;refine a7 λbe=>?_;refine mF ?_;refine a7 λbL=>?_;refine cp ?_;refine a7 λbJ=>?_;refine fl ?_;refine .fb (β:=Int) (λs=>[(11,aI s)]) (λH _=>H) [1,2,3,9,10] (u0 J U aj a6 a0) ?_ ?_
 ·rintro kn;refine .fb (β:=Int) (λs=>[(11,aI s)]) (λH _=>H) [1,2,3,9,10] (Ai a0 J U aj a6) ?_ ?_
  ·rintro m6;exact aW
  ·intro j;exact aW
 ·intro j;exact aW
end
end Go.Proofs.YtgfggdcbhjhegaaGreatDoor

/- The functions of the program compute what their models say. -/
import Derived.Test.YtgfggdcbhjhegaaGreatDoorPaa
import Derived.Test.YtgfggdcbhjhegaaGreatDoorPab
import Derived.Test.YtgfggdcbhjhegaaGreatDoorPac
set_option linter.all false
set_option maxRecDepth 100000
set_option maxHeartbeats 4000000
namespace Go.Proofs.YtgfggdcbhjhegaaGreatDoor
open Go Go.Mi Go.RowKit Go.Dp Tryz Go.Proofs.Tryz
noncomputable section
attribute [local irreducible] bI cW co bZ
instance aAf{J:ax}{U aj}:bG (Ss J U aj) 328 [cG U,aI aj] (λr=>.agg ((mG r).map .p)):=.aY 1 func328 rfl ntmps328<|by
 intro _ _ _;refine cp ?_;refine a7 λZ=>?_;refine a7 λad=>?_;refine gL ?_ ?_
 ·refine .fb (β:=Int) (λs=>[(5,aI s)]) (λH _=>H) [0,1,4] (Gi U aj J) ?_ ?_
  ·rintro cb;exact aW
  ·intro j;refine cJ (α:=Int) (λs=>[(5,aI s)]) (λH _=>H) [0,1,4] ?_;rintro i_ n;exact aW
 ·refine a7 λcP=>?_;refine a7 λdr=>?_;refine gL ?_ ?_
  ·refine .fb (β:=Int) (λs=>[(5,aI s)]) (λH _=>H) [0,1,4] (Gj U aj) ?_ ?_
   ·rintro j7;exact aW
   ·intro j;refine cJ (α:=Int) (λs=>[(5,aI s)]) (λH _=>H) [0,1,4] ?_;rintro pV n;exact aW
  ·refine a7 λfo=>?_;refine cJ (α:=Int) (λs=>[(9,aI s)]) (λH _=>H) [0,1,4,8] ?_;rintro z1 n;exact aW
instance aAg{J:ax}{U}:bG (St J U) 298 [cG U] (λr=>.cg [fw r.1,aI r.2]):=.aY 1 func298 rfl ntmps298 aW
instance aAh{J:ax}{U}:bG (z2 J U) 259 [cG U] bs:=.aY 0 func259 rfl ntmps259 aW
instance aAi{J:ax}{U aj}:bG (LJ J U aj) 210 [.agg ((du U).map .p),aI aj] bs:=.aY 2 func210 rfl ntmps210<|by
 intro _ _ _;refine a7 λZ=>?_;refine fl ?_;refine .fb (β:=Int) (λ_=>[]) (λH s=>H.set 0 (fA s Z.bi Z.n Z.a3 Z.dx)) [2,5] (CZ J Z U) ?_ ?_
 ·rintro jd;refine .fb (β:=Int) (λ_=>[]) (λH s=>H.set 0 (fA s Z.bi Z.n Z.a3 Z.dx)) [2,5] (CY J Z U) ?_ ?_
  ·rintro o1;refine cJ (α:=Int) (λs=>[(6,aI s)]) (λH _=>H) [2,5] ?_;rintro k2 n;refine fm ?_;refine a7 λad=>?_;refine a7 λaA=>?_;refine a7 λaN=>?_;refine mF ?_;refine nu ?_ ?_
   ·refine nu ?_ ?_
    ·refine cp ?_;refine b4 ?_;exact .hS [1] (aH (k2+1))
    ·refine b4 ?_;exact .hS [1] (aH (k2+1))
   ·refine b4 ?_;exact .hS [1] (aH (k2+1))
  ·intro j;refine a7 λa0=>?_;refine a7 λbe=>?_;refine .q (I1 runUnderlying4 rfl rfl) .n<|?_;exact aW
 ·intro j;exact aW
instance aAj{J:ax}{U}:bG (LK J U) 158 [.agg ((du U).map .p)] bs:=.aY 0 func158 rfl ntmps158<|by
 intro _ _ _;refine a7 λZ=>?_;refine cp ?_;refine .skip<|?_;refine fl ?_;refine .fb (β:=Unit) (λ_=>[]) (λH _=>H) [1,3] (Su U J Z) ?_ ?_
 ·rintro⟨⟩;refine cJ (α:=(Int×Int)) (λs=>[(5,aI s.1),(6,aI s.2)]) (λH _=>H) [1,3] ?_;rintro⟨i_,i8⟩ n;exact aW
 ·intro j;refine cJ (α:=Int) (λs=>[(4,aI s)]) (λH _=>H) [1,3] ?_;rintro ro n;exact aW
instance aAk{J:ax}{U}:bG (C1 J U) 114 [.agg ((du U).map .p)] aI:=.aY 0 func114 rfl ntmps114<|by intro _ _ _;refine cp ?_;refine a7 λZ=>?_;refine cp ?_;refine a7 λad=>?_;refine cp ?_;refine cJ (α:=Int) (λs=>[(3,aI s)]) (λH _=>H) [1] ?_;rintro eX n;exact aW
instance aAl{J:ax}{U aj}:bG (z' J U aj) 52 [.agg ((du U).map .p),aI aj] (λr=>.cg [bT 1 fk r.1,cG r.2]):=.aY 1 func52 rfl ntmps52<|by intro _ _ _;refine a7 λZ=>?_;refine kt ?_;refine nA (α:=((dl×Int)×Nat)) (λs=>[(7,cT 1 fk s.1.1 0 s.2),(8,aI s.1.2)]) (λH s=>H.set 0 (.bl 9 1 s.2)) [2,6] ((([]:List ByteArray),0),0) ?_;rintro⟨⟨hT,b6⟩,tA⟩ n;exact aW
instance aAm{J:ax}{U aj}:bG (Aa J U aj) 83 [.agg ((du U).map .p),cG aj] (λr=>.cg [bT 1 fk r.1,bT 1 fk r.2]):=.aY 3 func83 rfl ntmps83<|by intro _ _ _;refine cu ?_;refine kt ?_;refine kt ?_;refine a7 λZ=>?_;refine cp ?_;refine a7 λad=>?_;refine nA (α:=((dl×dl×Int)×Nat×Nat)) (λs=>[(6,cT 1 fk s.1.1 0 s.2.1),(7,cT 1 fk s.1.2.1 1 s.2.2),(10,aI s.1.2.2)]) (λH s=>(H.set 0 (.bl 9 1 s.2.1)).set 1 (.bl 9 1 s.2.2)) [2,9] ((([]:List ByteArray),([]:List ByteArray),0),0,0) ?_;rintro⟨⟨gt,hT,h_⟩,tA,FP⟩ n;refine fm ?_;refine a7 λaA=>?_;refine a7 λaN=>?_;refine a7 λa0=>?_;refine a7 λbe=>?_;refine a7 λbL=>?_;refine a7 λbJ=>?_;refine b4 ?_;exact .hS [2] ((a0,bJ,(aH (h_+1))),tA+1,FP+1)
instance aAn{J:ax}{U aj a6}:bG (LY J U aj a6) 208 [.agg ((du U).map .p),cG aj,cG a6] cG:=.aY 0 func208 rfl ntmps208<|by intro _ _ _;refine a7 λZ=>?_;refine cJ (α:=Int) (λs=>[(9,aI s)]) (λH _=>H) [2,7,8] ?_;rintro gE n;exact aW
instance aAo{J:ax}{U}:bG (SI J U) 227 [cG U] bs:=.aY 0 func227 rfl ntmps227 aW
instance aAp{J:ax}{U}:bG (LZ J U) 176 [cG U] bs:=.aY 0 func176 rfl ntmps176 aW
instance aAq{J:ax}{rt} [abU:J1 rt]{U}:bG (L0 J rt U) 126 [cG U] bs:=.aY 0 func126 rfl ntmps126 aW
variable {J:ax}
theorem alh{rt} [abU:J1 rt]{U}:bG (L1 J rt U) 82 [cG U] (λr=>.cg [cG r.1,aI r.2.1,bs r.2.2]):=.aY 0 func82 rfl ntmps82<|by intro _ _ _;refine cJ (α:=Int) (λs=>[(5,aI s)]) (λH _=>H) [0] ?_;rintro cb n;refine fm ?_;refine cJ (α:=Int) (λs=>[(6,aI s)]) (λH _=>H) [0,5] ?_;rintro i8 n;exact aW
theorem ali(k:Nat):J1 (Ab J k):=by
  induction k with
  |zero=>(repeat intro _);exact .br rfl
  |succ k bB=>(repeat intro _);exact alh (abU:=bB)
instance aAr{J:ax}:J1 (Gn J):=ali J.n
instance aAs{J:ax}{U aj a6}:bG (C_ J U aj a6) 156 [.agg ((du U).map .p),.agg ((jy aj).map .p),bT 1 fk a6] cG:=.aY 1 func156 rfl ntmps156<|by
 intro _ _ _;refine cp ?_;refine gL ?_ ?_
 ·refine .fb (β:=Unit) (λ_=>[]) (λH _=>H) [] (SJ) ?_ ?_
  ·rintro⟨⟩;exact aW
  ·intro j;exact aW
 ·refine gL ?_ ?_
  ·refine a7 λbe=>?_;refine kt ?_;refine fl ?_;refine .fb (β:=((dl)×Nat)) (λs=>[(12,cT 1 fk s.1 0 s.2)]) (λH s=>H.set 0 (.bl 9 1 s.2)) [2,4,10,11] ((λ(lp,MF)=>SK J be a6 aj lp)) ?_ ?_
   ·rintro⟨lp,MF⟩;refine .fb (β:=Unit) (λ_=>[]) (λH _=>H) [] (L2) ?_ ?_
    ·rintro⟨⟩;exact aW
    ·intro j;exact aW
   ·intro j;refine nA (α:=((dl×Int)×Nat)) (λs=>[(12,cT 1 fk s.1.1 0 s.2),(13,aI s.1.2)]) (λH s=>H.set 0 (.bl 9 1 s.2)) [2,3,4,10,11] ((([]:List ByteArray),0),0) ?_;rintro⟨⟨tr,L4⟩,Dn⟩ n;refine cp ?_;exact .exit<|.un<|.up<|.rV<|.re j [] (tr,Dn)
  ·refine cJ (α:=Int) (λs=>[(14,aI s)]) (λH _=>H) [2] ?_;rintro L3 n;exact aW
instance aAt{J:ax}{U aj a6 dg}:bG (C' J U aj a6 dg) 112 [.agg ((du U).map .p),.agg ((Cf aj).map .p),bT 1 fk a6,aI dg] cG:=.aY 2 func112 rfl ntmps112<|by
 intro _ _ _;refine a7 λZ=>?_;refine kt ?_;refine fl ?_;refine .fb (β:=((dl×Int)×Nat)) (λs=>[(10,cT 1 fk s.1.1 0 s.2)]) (λH s=>(H.set 0 (.bl 9 1 s.2)).set 1 (fA s.1.2 Z.bi Z.n Z.a3 Z.dx)) [2,3,4,5,9] ((λ((h_,o2),tA)=>md J aj dg U a6 Z (h_,o2))) ?_ ?_
 ·rintro⟨⟨h_,o2⟩,tA⟩;exact aW
 ·intro j;refine nA (α:=((dl×Int)×Nat)) (λs=>[(10,cT 1 fk s.1.1 0 s.2),(11,aI s.1.2)]) (λH s=>H.set 0 (.bl 9 1 s.2)) [2,3,4,5,9] ((([]:List ByteArray),0),0) ?_;rintro⟨⟨mI,m6⟩,MF⟩ n;refine cp ?_;exact .exit<|.un<|.up<|.rV<|.re j [] ((mI,Z.kind),MF)
theorem alj{Ac} [Aj:QM Ac]{U aj}:bG (L5 J Ac U aj) 53 [.agg ((du U).map .p),cG aj] aI:=.aY 0 func53 rfl ntmps53<|by intro _ _ _;refine a7 λZ=>?_;refine cp ?_;refine cp ?_;refine a7 λaA=>?_;refine cJ (α:=(Int×Int)) (λs=>[(8,aI s.1),(11,aI s.2)]) (λH _=>H) [2,10] ?_;rintro⟨b6,kn⟩ n;exact aW
theorem alk(k:Nat):QM (Gp J k):=by
  induction k with
  |zero=>(repeat intro _);exact .br rfl
  |succ k bB=>(repeat intro _);exact alj (Aj:=bB)
instance aAu{J:ax}:QM (tw J):=alk J.n
instance aAv{J:ax}{U aj}:bG (Ad J U aj) 157 [.agg ((du U).map .p),cG aj] aI:=.aY 0 func157 rfl ntmps157 aW
instance aAw{J:ax}{U aj a6}:bG (ru J U aj a6) 113 [.agg ((du U).map .p),bT 1 fk aj,aI a6] aI:=.aY 1 func113 rfl ntmps113<|by
 intro _ _ _;refine a7 λZ=>?_;refine fl ?_;refine .fb (β:=Int) (λ_=>[]) (λH s=>H.set 0 (fA s Z.bi Z.n Z.a3 Z.dx)) [1,2,3,7] (so aj a6 J U Z) ?_ ?_
 ·rintro jd;refine cp ?_;refine cp ?_;refine cp ?_;refine cp ?_;refine cp ?_;refine fm ?_;refine cJ (α:=Int) (λs=>[(10,aI s)]) (λH _=>H) [1,7] ?_;rintro mI n;exact aW
 ·intro j;exact aW
instance aAx{J:ax}{U aj a6}:bG (Mg J U aj a6) 101 [.agg ((du U).map .p),cG aj,cG a6] (λr=>.cg [aI r.1,aI r.2]):=.aY 0 func101 rfl ntmps101<|by intro _ _ _;refine a7 λZ=>?_;refine cJ (α:=(Int×Int)) (λs=>[(8,aI s.1),(11,aI s.2)]) (λH _=>H) [2,3,9,10] ?_;rintro⟨b6,kn⟩ n;exact aW
theorem alm{g_} [ME:Cq g_]{ab ag ak ap an al am aD a2 bc ba bm bF ch cS}:ca (Mo J g_ ab ag ak ap an al am aD a2 bc ba bm bF ch cS) 64 [.aR 0 0,aI ab,.agg ((xA ag).map .p),aI ak,aI ap] [lO an al am aD a2 bc bm 1 ba bF ch cS,.bl 29 1 ba] 0 (λr=>bT 2 b7 r.1) (λr=>[lO an al am aD a2 bc bm 1 ba r.2.1 r.2.2.1 r.2.2.2,.bl 29 1 ba]):=.aY 4 func64 rfl ntmps64<|by
 intro _ _ _;refine a7 λZ=>?_;refine cp ?_;refine cp ?_;refine cp ?_;refine cp ?_;refine cp ?_;refine kt ?_;refine kt ?_;refine fl ?_;refine .fb (β:=(List cd×cd×Int×Int×Int×Nat×Nat)) (λs=>[(12,cT 1 (kF 2 b7) s.1 3 s.2.2.2.2.2.1),(13,cT 2 b7 s.2.1 4 s.2.2.2.2.2.2)]) (λH s=>((H.set 0 (lO an al am aD a2 bc bm 1 ba s.2.2.1 s.2.2.2.1 s.2.2.2.2.1)).set 3 (.bl 29 1 s.2.2.2.2.2.1)).set 4 (.bl 64 2 s.2.2.2.2.2.2)) [0,1,3,4,11] (Mj Z J aD an al a2 ab am g_ ak ap bc ba bm) ?_ ?_
 ·rintro⟨kM,h0,uW,uX,uY,nE,akE⟩;refine cp ?_;refine cp ?_;refine fm ?_;refine a7 λiK=>?_;refine a7 λlQ=>?_;refine a7 λo5=>?_;refine kt ?_;exact aW
 ·intro j;refine cJ (α:=(List cd×cd×Int×Int×Int×Int×Nat×Nat)) (λs=>[(12,cT 1 (kF 2 b7) s.1 3 s.2.2.2.2.2.2.1),(13,cT 2 b7 s.2.1 4 s.2.2.2.2.2.2.2),(14,aI s.2.2.1)]) (λH s=>((H.set 0 (lO an al am aD a2 bc bm 1 ba s.2.2.2.1 s.2.2.2.2.1 s.2.2.2.2.2.1)).set 3 (.bl 29 1 s.2.2.2.2.2.2.1)).set 4 (.bl 64 2 s.2.2.2.2.2.2.2)) [0,1,3,4,7,11] ?_;rintro⟨lp,lq,v6,Mk,Ml,Mm,Dg,Mn⟩ n;refine cp ?_;exact .exit<|.un<|.up<|.rV<|.re j [] (lp,lq,Mk,Ml,Mm,Dg,Mn)
instance abV{J:ax}{U aj}:bG (Di J U aj) 25 [.agg ((du U).map .p),aI aj] aI:=.aY 0 func25 rfl ntmps25<|by intro _ _ _;refine a7 λZ=>?_;refine a7 λad=>?_;refine cJ (α:=(Int×Int)) (λs=>[(5,aI s.1),(8,aI s.2)]) (λH _=>H) [2,6] ?_;rintro⟨cb,b6⟩ n;exact aW
end
end Go.Proofs.YtgfggdcbhjhegaaGreatDoor

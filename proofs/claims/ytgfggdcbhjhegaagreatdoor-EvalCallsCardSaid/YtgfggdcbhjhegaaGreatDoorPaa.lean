/- The functions of the program compute what their models say. -/
import Derived.Test.YtgfggdcbhjhegaaGreatDoorUD
set_option linter.all false
set_option maxRecDepth 100000
set_option maxHeartbeats 4000000
namespace Go.Proofs.YtgfggdcbhjhegaaGreatDoor
open Go Go.Mi Go.RowKit Go.Dp Tryz Go.Proofs.Tryz
noncomputable section
attribute [local irreducible] bI cW co bZ
instance avH{U}:bG (Y1 U) 189 [fw U] bs:=.aY 0 func189 rfl ntmps189 aW
instance avI{J:ax}{U}:bG (Y2 J U) 141 [cG U] (λr=>.cg [aI r.1,aI r.2]):=.aY 0 func141 rfl ntmps141<|by intro _ _ _;refine cp ?_;refine cJ (α:=Int) (λs=>[(10,aI s)]) (λH _=>H) [0,9] ?_;rintro h_ n;exact aW
instance avJ{U}:bG (Y3 U) 190 [fw U] bs:=.aY 0 func190 rfl ntmps190 aW
instance avK{U}:bG (Y4 U) 192 [fw U] bs:=.aY 0 func192 rfl ntmps192 aW
instance avL{J:ax}{ab}:ca (Y5 J ab) 191 [cG ab,.p (.v (.func (.func 192) #[] #[]))] [] 0 aI (λ_=>[]):=.aY 0 func191 rfl ntmps191<|by intro _ _ _;refine cJ (α:=Int) (λs=>[(5,aI s)]) (λH _=>H) [0,1] ?_;rintro cb n;exact aW
instance avM{J:ax}{U}:bG (QP J U) 142 [cG U] aI:=.aY 0 func142 rfl ntmps142<|by intro _ _ _;refine cJ (α:=Int) (λs=>[(3,aI s)]) (λH _=>H) [0] ?_;rintro eX n;exact aW
instance avN{U}:bG (J2 U) 193 [fw U] bs:=.aY 0 func193 rfl ntmps193 aW
instance avO{U}:bG (FJ U) 197 [fw U] bs:=.aY 0 func197 rfl ntmps197 aW
instance avP{U}:bG (J3 U) 194 [fw U] bs:=.aY 0 func194 rfl ntmps194 aW
instance avQ{J:ax}{ab}:ca (J4 J ab) 191 [cG ab,.p (.v (.func (.func 194) #[] #[]))] [] 0 aI (λ_=>[]):=.aY 0 func191 rfl ntmps191<|by intro _ _ _;refine cJ (α:=Int) (λs=>[(5,aI s)]) (λH _=>H) [0,1] ?_;rintro cb n;exact aW
instance avR{J:ax}{U}:bG (QT J U) 246 [cG U] (bT 1 fk):=.aY 1 func246 rfl ntmps246<|by
 intro _ _ _;refine .seq<|.region<|?_;refine fl ?_;refine .seq<|.region<|?_;refine fl ?_;refine .seq<|.region<|?_;refine fl ?_;refine .seq<|.region<|?_;refine fl ?_;refine .fb (β:=(Int×Int)) (λs=>[(3,aI s.1),(5,fw s.2)]) (λH _=>H) [0] (Y8 J U) ?_ ?_
 ·rintro⟨eX,cb⟩;refine gL ?_ ?_
  ·exact .br
  ·refine b4 ?_;refine .mk 0 eV (⟨#[]⟩:ByteArray) JQ JK rfl rfl rfl (λ_ _=>.v) rfl rfl λZ=>?_;refine Ft ?_;refine .fb (β:=(Int×dl)) (λs=>[(12,aI s.1)]) (λH s=>H.set 0 (.bu 9 (s.2.map eV))) [0,9,10] (QQ J U Z) ?_ ?_
   ·rintro⟨lp,jl⟩;refine Ft ?_;refine .fb (β:=(Int×Int×dl)) (λs=>[(10,aI s.1),(11,aI s.2.1)]) (λH s=>H.set 0 (.bu 9 (s.2.2.map eV))) [0,9] (Y7 U Z) ?_ ?_
    ·rintro⟨uK,rk,pS⟩;refine gL ?_ ?_
     ·refine a7 λad=>?_;refine a7 λaA=>?_;refine b4 ?_;refine .zm (l':=[]) (x:=λ_=>.dX 0 0 Z.length Z.length) (y:=λz=>bT 1 fk z) 2 fk (λxs=>xs.map eV) (λ_=>rfl) (λxs=>(r3 (λ_=>rfl) xs).symm) rfl rfl (λz h=>.a) .n rfl rfl rfl λaN=>?_;exact aW
     ·refine b4 ?_;refine .zm (l':=[]) (x:=λ_=>.dX 0 0 Z.length Z.length) (y:=λz=>bT 1 fk z) 2 fk (λxs=>xs.map eV) (λ_=>rfl) (λxs=>(r3 (λ_=>rfl) xs).symm) rfl rfl (λz h=>.a) .n rfl rfl rfl λa0=>?_;exact aW
    ·intro j;refine cJ (α:=(Int×Int×Int×dl)) (λs=>[(10,aI s.1),(11,aI s.2.1),(12,aI s.2.2.1)]) (λH s=>H.set 0 (.bu 9 (s.2.2.2.map eV))) [0,9] ?_;rintro⟨l9,J5,tr,o0⟩ n;refine fm ?_;refine a7 λbe=>?_;refine a7 λbL=>?_;refine cp ?_;refine a7 λbJ=>?_;refine a7 λci=>?_;refine cJ (α:=Int) (λs=>[(12,aI s)]) (λH _=>H) [0,9,10] ?_;rintro xI n;exact aW
   ·intro j;refine cJ (α:=Int) (λs=>[(12,aI s)]) (λH _=>H) [0,9,10] ?_;rintro Cr n;exact aW
 ·intro j;refine cJ (α:=zA) (λs=>[(3,aI s.1),(4,aI s.2.1),(5,fw s.2.2.1),(6,aI s.2.2.2)]) (λH _=>H) [0] ?_;rintro⟨QR,Y9,QS,sj⟩ n;exact aW
instance avS{J:ax}:ca (Y_ J) 196 [] [] 0 (bT 1 fk) (λ_=>[]):=.aY 0 func196 rfl ntmps196 aW
instance avT:bG Y' 196 [] (bT 1 fk):=⟨λr h=>by cases h;exact(fC.h (av:=prog) akk:)⟩
instance avU{J:ax}{U aj}:bG (QU J U aj) 245 [bT 1 fk U,cG aj] aI:=.aY 0 func245 rfl ntmps245<|by intro _ _ _;refine cJ (α:=Int) (λs=>[(8,aI s)]) (λH _=>H) [0,1,7] ?_;rintro b6 n;exact aW
instance avV{J:ax}{U aj}:bG (FK J U aj) 195 [bT 1 fk U,cG aj] bs:=.aY 0 func195 rfl ntmps195 aW
instance avW{J:ax}{ab}:ca (J6 J ab) 191 [cG ab,.p (.v (.func (.func 197) #[] #[]))] [] 0 aI (λ_=>[]):=.aY 0 func191 rfl ntmps191<|by intro _ _ _;refine cJ (α:=Int) (λs=>[(5,aI s)]) (λH _=>H) [0,1] ?_;rintro cb n;exact aW
instance avX{U}:bG (QV U) 198 [cG U] bs:=.aY 0 func198 rfl ntmps198 aW
instance avY{J:ax}:ca (Zc J) 199 [] [] 0 (bT 1 fk) (λ_=>[]):=.aY 0 func199 rfl ntmps199 aW
instance avZ:bG Zd 199 [] (bT 1 fk):=⟨λr h=>by cases h;exact(fC.h (av:=prog) akl:)⟩
instance av0{U aj}:bG (xJ U aj) 247 [cG U,cG aj] bs:=.aY 0 func247 rfl ntmps247 aW
instance av1{U aj}:bG (QW U aj) 200 [cG U,cG aj] bs:=.aY 0 func200 rfl ntmps200 aW
instance av2{J:ax}{U}:bG (J8 J U) 143 [cG U] (λr=>.cg [fw r.1,cG r.2]):=.aY 0 func143 rfl ntmps143<|by intro _ _ _;refine cp ?_;refine a7 λZ=>?_;refine a7 λad=>?_;refine cp ?_;refine a7 λbL=>?_;refine a7 λbJ=>?_;refine cp ?_;refine a7 λc5=>?_;refine cJ (α:=Int) (λs=>[(42,aI s)]) (λH _=>H) [0,40,41] ?_;rintro J7 n;exact aW
instance av3{J:ax}{U}:bG (Zf J U) 103 [cG U] (λr=>.cg [bT 3 mG r.1,aI r.2.1,aI r.2.2]):=.aY 1 func103 rfl ntmps103<|by intro _ _ _;refine a7 λZ=>?_;refine cp ?_;refine a7 λad=>?_;refine kJ ?_;refine .nil<|.i7<|.iQ<|.BB mG 203 3 0 2 rfl rfl<|?_;refine nA (α:=((vM×Int)×Nat)) (λs=>[(2,cT 3 mG s.1.1 0 s.2),(3,aI s.1.2)]) (λH s=>H.set 0 (.bl 203 3 s.2)) [0] (([],ad),0) ?_;rintro⟨⟨J9,eX⟩,tA⟩ n;refine fm ?_;refine a7 λaA=>?_;refine a7 λaN=>?_;refine cp ?_;refine cp ?_;refine b4 ?_;refine .bH ([⟨aN.1,aN.2,eX⟩]:List eb) mG runUnderlying149 sizeOf203 zeroValue203 rfl rfl rfl rfl rfl rfl rfl rfl<|?_;exact aW
instance av4{ab ag ak ap an al am}:ca (nD ab ag ak ap an al am) 202 [.aR 0 0] [dq ab ag ak an 1 ap am 2 al,.bl 40 5 ap,.bl 3 1 al] 0 (λr=>.agg ((mG r).map .p)) (λ_=>[dq ab ag ak an 1 ap am 2 al,.bl 40 5 ap,.bl 3 1 al]):=.aY 1 func202 rfl ntmps202 aW
instance av5{ab ag ak ap an al am}:ca (rl ab ag ak ap an al am) 204 [.aR 0 0] [dq ab ag ak an 1 ap am 2 al,.bl 40 5 ap,.bl 3 1 al] 0 (λr=>.agg ((mG r.1).map .p)) (λr=>[dq ab ag r.2 an 1 ap am 2 al,.bl 40 5 ap,.bl 3 1 al]):=.aY 2 func204 rfl ntmps204 aW
instance av6{ab ag ak ap an al am aD}:ca (QX ab ag ak ap an al am aD) 325 [.aR 0 0,fw ab] [dq ag ak ap al 1 an aD 2 am,.bl 40 5 an,.bl 3 1 am] 0 (λr=>.agg ((mG r.1).map .p)) (λr=>[dq ag ak r.2 al 1 an aD 2 am,.bl 40 5 an,.bl 3 1 am]):=.aY 1 func325 rfl ntmps325<|by intro _ _ _;refine a7 λZ=>?_;refine .Wx ajK rfl rfl rfl<|?_;refine fm ?_;exact .br
instance av7{ab ag ak ap an al am}:ca (ts ab ag ak ap an al am) 288 [.aR 0 0] [dq ab ag ak an 1 ap am 2 al,.bl 40 5 ap,.bl 3 1 al] 0 (λr=>.agg ((mG r.1).map .p)) (λr=>[dq ab ag r.2 an 1 ap am 2 al,.bl 40 5 ap,.bl 3 1 al]):=.aY 1 func288 rfl ntmps288 aW
instance av8{J:ax}{ab ag ak ap an al am aD}:ca (FM J ab ag ak ap an al am aD) 255 [.aR 0 0,bT 1 fk ab] [dq ag ak ap al 1 an aD 2 am,.bl 40 5 an,.bl 3 1 am] 0 bs (λ_=>[dq ag ak ap al 1 an aD 2 am,.bl 40 5 an,.bl 3 1 am]):=.aY 1 func255 rfl ntmps255 aW
instance av9{J:ax}{ab ag ak ap an al am aD}:ca (km J ab ag ak ap an al am aD) 205 [.aR 0 0,cG ab] [dq ag ak ap al 1 an aD 2 am,.bl 40 5 an,.bl 3 1 am] 0 (λr=>.agg ((mG r.1).map .p)) (λr=>[dq ag ak r.2 al 1 an aD 2 am,.bl 40 5 an,.bl 3 1 am]):=.aY 1 func205 rfl ntmps205<|by intro _ _ _;refine a7 λZ=>?_;refine fm ?_;exact .br
instance awa{J:ax}{ab ag ak ap an al am aD}:ca (l_ J ab ag ak ap an al am aD) 294 [.aR 0 0,cG ab] [dq ag ak ap al 1 an aD 2 am,.bl 40 5 an,.bl 3 1 am] 0 (λr=>bs r.1) (λr=>[dq ag ak r.2 al 1 an aD 2 am,.bl 40 5 an,.bl 3 1 am]):=.aY 0 func294 rfl ntmps294 aW
instance awb{J:ax}{U}:bG (J_ J U) 285 [cG U] (λr=>.cg [fw r.1,aI r.2]):=.aY 0 func285 rfl ntmps285 aW
instance awc{J:ax}{ab}:ca (QZ J ab) 322 [cG ab] [] 0 (λr=>.cg [aI r,.p (.v .nilIface)]) (λ_=>[]):=.aY 0 func322 rfl ntmps322<|by
 intro _ _ _;refine nu ?_ ?_
 ·refine gL ?_ ?_
  ·refine .seq<|.region<|?_;refine fl ?_;refine .fb (β:=ByteArray) (λs=>[(0,cG s)]) (λH _=>H) [5] (Kb J ab) ?_ ?_
   ·rintro rm;refine .seq<|.region<|?_;refine fl ?_;refine .fb (β:=Int) (λs=>[(6,aI s)]) (λH _=>H) [5] (Zh ab) ?_ ?_
    ·rintro i8;refine .fb (β:=Int) (λs=>[(6,aI s)]) (λH _=>H) [] (QY) ?_ ?_
     ·rintro k2;exact aW
     ·intro j;exact aW
    ·intro j;refine b4 ?_;refine .aC (aj6 rfl) e6 rfl<|?_;refine cJ (α:=(Int×Int)) (λs=>[(6,aI s.1),(49,aI s.2)]) (λH _=>H) [5,47,48] ?_;rintro⟨xK,Ka⟩ n;refine fm ?_;refine a7 λad=>?_;refine fm ?_;exact .br
   ·intro j;refine a7 λaA=>?_;refine nu ?_ ?_
    ·refine a7 λaN=>?_;refine fm ?_;exact .br
    ·refine a7 λa0=>?_;refine fm ?_;refine a7 λbe=>?_;refine fm ?_;exact .br
  ·exact .br
 ·exact .XH
instance awd{J:ax}{ab}:ca (FN J ab) 284 [cG ab] [] 0 (λr=>.cg [aI r,.p (.v .nilIface)]) (λ_=>[]):=.aY 0 func284 rfl ntmps284<|by intro _ _ _;refine a7 λZ=>?_;refine b4 ?_;refine .q (ahO runUnderlying295 rfl rfl) rfl<|?_;exact aW
instance awe{J:ax}{U}:bG (Zi J U) 326 [cG U] (λr=>.cg [aI r.1,aI r.2]):=.aY 0 func326 rfl ntmps326 aW
instance awf{J:ax}{ab ag ak ap an al am}:ca (FO J ab ag ak ap an al am) 295 [.aR 0 0] [dq ab ag ak an 1 ap am 2 al,.bl 40 5 ap,.bl 3 1 al] 0 (λr=>.cg [.agg ((mG r.1).map .p),aI r.2.1]) (λr=>[dq ab ag r.2.2 an 1 ap am 2 al,.bl 40 5 ap,.bl 3 1 al]):=.aY 2 func295 rfl ntmps295 aW
instance awg{ab ag ak ap an al am aD a2 bc ba bm}:ca (jm ab ag ak ap an al am aD a2 bc ba bm) 290 [.aR 0 0,fw ab,.agg ((mG ag).map .p),cG ak,aI ap,bT 1 cH an] [dq al am aD bc 1 a2 bm 2 ba,.bl 40 5 a2,.bl 3 1 ba] 0 (λr=>aI r.1) (λr=>[dq al am aD r.2.1 1 r.2.2 bm 2 ba,.bl 40 5 r.2.2,.bl 3 1 ba]):=.aY 1 func290 rfl ntmps290<|by intro _ _ _;refine b4 ?_;refine .w (th (i:=3) (xs:=([⟨ab,ak,ap,an,ag.dx⟩]:List bz)) (e:=jy)) .n trivial (by exact rf)<|?_;exact aW
instance awh{J:ax}{ab ag ak ap an al am}:ca (Q1 J ab ag ak ap an al am) 289 [.aR 0 0] [dq ab ag ak an 1 ap am 2 al,.bl 40 5 ap,.bl 3 1 al] 0 (λr=>aI r.1) (λr=>[dq ab ag r.2.1 r.2.2.1 1 r.2.2.2 am 2 al,.bl 40 5 r.2.2.2,.bl 3 1 al]):=.aY 2 func289 rfl ntmps289<|by
 intro _ _ _;refine a7 λZ=>?_;refine fl ?_;refine .fb (β:=sh) (λs=>[(4,aI s.1)]) (λH s=>(H.set 0 (dq ab ag s.2.1 an 1 ap am 2 al)).set 3 (.cells 203 [fw s.2.2,cG Z.bi,aI Z.dx])) [0,3] (Q0 J ab ag ap an al am Z) ?_ ?_
 ·rintro⟨dV,xL,sk⟩;exact aW
 ·intro j;exact aW
variable {J:ax}
theorem akJ{Kc} [akK:QC Kc]{ab ag ak ap an al am}:ca (Zk J Kc ab ag ak ap an al am) 293 [.aR 0 0] [dq ab ag ak an 1 ap am 2 al,.bl 40 5 ap,.bl 3 1 al] 0 (λr=>aI r.1) (λr=>[dq ab ag r.2.1 r.2.2.1 1 r.2.2.2 am 2 al,.bl 40 5 r.2.2.2,.bl 3 1 al]):=.aY 2 func293 rfl ntmps293<|by intro _ _ _;refine a7 λZ=>?_;refine a7 λad=>?_;refine cp ?_;refine a7 λaN=>?_;refine cp ?_;refine a7 λbe=>?_;refine cp ?_;refine a7 λc5=>?_;refine .o ⟨OH Qv rfl rfl,e6⟩ .n<|?_;exact aW
theorem akL(k:Nat):QC (Q2 J k):=by
  induction k with
  |zero=>(repeat intro _);exact .br rfl
  |succ k bB=>(repeat intro _);exact akJ (akK:=bB)
instance awi{J:ax}:QC (Q3 J):=akL J.n
instance awj{J:ax}{cv} [lu:kL cv]{ab ag ak ap an al am}:ca (Q5 J cv ab ag ak ap an al am) 291 [.aR 0 0,.p (.v (.func (.func 296) #[] #[]))] [dq ab ag ak an 1 ap am 2 al,.bl 40 5 ap,.bl 3 1 al] 0 (λr=>bT 1 cH r.1) (λr=>[dq ab ag r.2.1 r.2.2.1 1 r.2.2.2 am 2 al,.bl 40 5 r.2.2.2,.bl 3 1 al]):=.aY 1 func291 rfl ntmps291<|by intro _ _ _;refine a7 λZ=>?_;refine kt ?_;refine cJ (α:=Ck) (λs=>[(5,cT 1 cH s.1 3 s.2.2.2.2)]) (λH s=>((H.set 0 (dq ab ag s.2.1 s.2.2.1 1 s.2.2.2.1 am 2 al)).set 1 (.bl 40 5 s.2.2.2.1)).set 3 (.bl 3 1 s.2.2.2.2)) [0,1] ?_;rintro⟨cb,jL,hq,gQ,nE⟩ n;exact aW
instance awk{J:ax}{cv} [lu:kL cv]{ab ag ak ap an al am}:ca (Q6 J cv ab ag ak ap an al am) 385 [.aR 0 0] [dq ab ag ak an 1 ap am 2 al,.bl 40 5 ap,.bl 3 1 al] 0 (λr=>aI r.1) (λr=>[dq ab ag r.2.1 r.2.2.1 1 r.2.2.2 am 2 al,.bl 40 5 r.2.2.2,.bl 3 1 al]):=.aY 1 func385 rfl ntmps385 aW
instance awl{J:ax}{cv} [lu:kL cv]{ab ag ak ap an al am}:ca (Zm J cv ab ag ak ap an al am) 291 [.aR 0 0,.p (.v (.func (.func 385) #[] #[]))] [dq ab ag ak an 1 ap am 2 al,.bl 40 5 ap,.bl 3 1 al] 0 (λr=>bT 1 cH r.1) (λr=>[dq ab ag r.2.1 r.2.2.1 1 r.2.2.2 am 2 al,.bl 40 5 r.2.2.2,.bl 3 1 al]):=.aY 1 func291 rfl ntmps291<|by intro _ _ _;refine a7 λZ=>?_;refine kt ?_;refine cJ (α:=Ck) (λs=>[(5,cT 1 cH s.1 3 s.2.2.2.2)]) (λH s=>((H.set 0 (dq ab ag s.2.1 s.2.2.1 1 s.2.2.2.1 am 2 al)).set 1 (.bl 40 5 s.2.2.2.1)).set 3 (.bl 3 1 s.2.2.2.2)) [0,1] ?_;rintro⟨cb,jL,hq,gQ,nE⟩ n;exact aW
instance awm{J:ax}{cv} [lu:kL cv]{ab ag ak ap an al am aD}:ca (Zn J cv ab ag ak ap an al am aD) 384 [.aR 0 0,.agg ((mG ab).map .p)] [dq ag ak ap al 1 an aD 2 am,.bl 40 5 an,.bl 3 1 am] 0 (λr=>aI r.1) (λr=>[dq ag ak r.2.1 r.2.2.1 1 r.2.2.2 aD 2 am,.bl 40 5 r.2.2.2,.bl 3 1 am]):=.aY 0 func384 rfl ntmps384<|by
 intro _ _ _;refine a7 λZ=>?_;refine fm ?_;refine .seq<|.region<|?_;refine fl ?_;refine .fb (β:=Cl) (λs=>[(5,bT 1 cH s.1)]) (λH s=>(H.set 0 (dq ag ak s.2.1 s.2.2.1 1 s.2.2.2 aD 2 am)).set 1 (.bl 40 5 s.2.2.2)) [0,3] (Q7 J ag ak am aD ab) ?_ ?_
 ·rintro⟨cb,xL,Q8,FP⟩;exact aW
 ·intro j;exact aW
instance awn{J:ax}{cv} [lu:kL cv]{ab ag ak ap an al am}:ca (Zo J cv ab ag ak ap an al am) 383 [.aR 0 0] [dq ab ag ak an 1 ap am 2 al,.bl 40 5 ap,.bl 3 1 al] 0 (λr=>aI r.1) (λr=>[dq ab ag r.2.1 r.2.2.1 1 r.2.2.2 am 2 al,.bl 40 5 r.2.2.2,.bl 3 1 al]):=.aY 2 func383 rfl ntmps383 aW
instance awo{U}:bG (Kg U) 105 [.agg ((du U).map .p)] bs:=.aY 0 func105 rfl ntmps105 aW
instance awp{ab}:ca (zE ab) 329 [aI ab,.p (.v (.func (.func 330) #[] #[]))] [] 0 (λr=>.agg ((rh r).map .p)) (λ_=>[]):=.aY 1 func329 rfl ntmps329 aW
instance awq{U}:bG (vR U) 332 [bT 3 rh U] (λr=>.agg ((Fy r).map .p)):=.aY 1 func332 rfl ntmps332 aW
instance awr{U}:bG (Cs U) 331 [bT 3 rh U] (λr=>.agg ((Fy r).map .p)):=.aY 1 func331 rfl ntmps331 aW
instance aws{ab}:ca (Kj ab) 329 [aI ab,.p (.v (.func (.func 334) #[] #[]))] [] 0 (λr=>.agg ((rh r).map .p)) (λ_=>[]):=.aY 1 func329 rfl ntmps329 aW
instance awt{ab}:ca (ZM ab) 329 [aI ab,.p (.v (.func (.func 335) #[] #[]))] [] 0 (λr=>.agg ((rh r).map .p)) (λ_=>[]):=.aY 1 func329 rfl ntmps329 aW
instance awu{U}:bG (FS U) 337 [aI U] (λr=>.agg ((Fy r).map .p)):=.aY 2 func337 rfl ntmps337<|by intro _ _ _;refine a7 λZ=>?_;refine cp ?_;refine fm ?_;refine b4 ?_;refine .bH ([⟨1,801,1⟩]:List h9) rh runUnderlying310 sizeOf334 zeroValue334 rfl rfl rfl rfl rfl rfl rfl rfl<|?_;exact aW
instance awv{U}:bG (zF U) 299 [.agg ((jy U).map .p)] (λr=>.cg [.agg ((Fy r.1).map .p),bs r.2]):=.aY 6 func299 rfl ntmps299<|by
 intro _ _ _;refine a7 λZ=>?_;refine a7 λad=>?_;refine a7 λaA=>?_;refine cp ?_;refine cp ?_;refine xv ?_;refine cp ?_;refine xv ?_;refine cp ?_;refine cp ?_;refine cp ?_;refine gL ?_ ?_
 ·refine b4 ?_;refine .bH ([⟨0,801,1⟩]:List h9) rh runUnderlying310 sizeOf334 zeroValue334 rfl rfl rfl rfl rfl rfl rfl rfl<|?_;exact aW
 ·refine xv ?_;refine cp ?_;refine gL ?_ ?_
  ·refine b4 ?_;refine .bH ([⟨1,801,2⟩]:List h9) rh runUnderlying310 sizeOf334 zeroValue334 rfl rfl rfl rfl rfl rfl rfl rfl<|?_;exact aW
  ·refine gL ?_ ?_
   ·refine b4 ?_;refine .bH ([⟨1,801,1⟩]:List h9) rh runUnderlying310 sizeOf334 zeroValue334 rfl rfl rfl rfl rfl rfl rfl rfl<|?_;exact aW
   ·refine xv ?_;refine cp ?_;refine cp ?_;refine cp ?_;refine cp ?_;refine gL ?_ ?_
    ·refine b4 ?_;refine .bH ([⟨1,801,5⟩]:List h9) rh runUnderlying310 sizeOf334 zeroValue334 rfl rfl rfl rfl rfl rfl rfl rfl<|?_;exact aW
    ·refine fm ?_;refine a7 λh'=>?_;refine b4 ?_;refine .bH ([⟨0,801,5⟩,h',⟨Z.ke,Z.og,Z.oh⟩]:List h9) rh runUnderlying310 sizeOf334 zeroValue334 rfl rfl rfl rfl rfl rfl rfl .n<|?_;exact aW
instance aww{J:ax}{U}:bG (Ct J U) 244 [cG U] bs:=.aY 0 func244 rfl ntmps244 aW
instance awx{U}:bG (KA U) 219 [fw U] bs:=.aY 0 func219 rfl ntmps219 aW
instance awy{J:ax}{ab ag ak ap an al am}:ca (CD J ab ag ak ap an al am) 222 [.aR 0 0,bT 1 cH ab] [g9 ag ak ap 1 2 an an,c3 al,.bu 9 (am.map eV)] 0 (bT 1 fk) (λ_=>[g9 ag ak ap 1 2 an an,c3 al,.bu 9 (am.map eV)]):=.aY 1 func222 rfl ntmps222<|by intro _ _ _;refine .seq<|.region<|?_;refine kJ ?_;refine .nil<|.i7<|.seq<|.seq<|.region<|?_;refine kJ ?_;refine .nil<|.i7<|.iQ<|.BB fk 9 1 3 4 rfl rfl<|?_;refine nA (α:=((dl×Int)×Nat)) (λs=>[(4,cT 1 fk s.1.1 3 s.2),(9,aI s.1.2)]) (λH s=>H.set 3 (.bl 9 1 s.2)) [0,7,8] (([],0),0) ?_;rintro⟨⟨dV,gE⟩,nE⟩ n;exact aW
instance awz{ab ag}:ca (RF ab ag) 309 [cG ab,.bA [eV ag]] [] 0 bs (λ_=>[]):=.aY 0 func309 rfl ntmps309 aW
instance awA{J:ax}{ab ag}:ca (RG J ab ag) 342 [bT 1 fk ab,.fn (.func 309) [] [.bA [eV ag]]] [] 0 aI (λ_=>[]):=.aY 0 func342 rfl ntmps342<|by intro _ _ _;refine cJ (α:=Int) (λs=>[(8,aI s)]) (λH _=>H) [0,1,7] ?_;rintro b6 n;exact aW
instance awB{J:ax}{ab ag}:ca (RH J ab ag) 308 [bT 1 fk ab,.fn (.func 309) [] [.bA [eV ag]]] [] 0 bs (λ_=>[]):=.aY 0 func308 rfl ntmps308 aW
instance awC{J:ax}{U aj}:bG (sl J U aj) 273 [cG U,bT 1 fk aj] bs:=.aY 0 func273 rfl ntmps273 aW
instance awD{J:ax}{ab ag ak ap an al am}:ca (KK J ab ag ak ap an al am) 310 [.aR 0 0,aI ab] [g9 ag ak ap 1 2 an an,c3 al,.bu 9 (am.map eV)] 0 (λr=>.cg [bT 1 fk r.1,cG r.2]) (λ_=>[g9 ag ak ap 1 2 an an,c3 al,.bu 9 (am.map eV)]):=.aY 0 func310 rfl ntmps310 aW
instance awE{J:ax}{ab ag ak ap an al am aD}:ca (RJ J ab ag ak ap an al am aD) 312 [.aR 0 0,cG ab,cG ag] [g9 ak ap an 1 2 al al,c3 am,.bu 9 (aD.map eV)] 0 cG (λ_=>[g9 ak ap an 1 2 al al,c3 am,.bu 9 (aD.map eV)]):=.aY 0 func312 rfl ntmps312<|by intro _ _ _;refine b4 ?_;refine .aC (JO (k:=ab) rfl rfl rfl) (da rfl) rfl<|?_;refine cp ?_;refine a7 λZ=>?_;refine cJ (α:=Int) (λs=>[(32,aI s)]) (λH _=>H) [0,2,30,31] ?_;rintro KL n;exact aW
instance awF{U aj}:bG (KM U aj) 318 [cG U,cG aj] (λr=>.cg [cG r.1,bs r.2]):=.aY 0 func318 rfl ntmps318 aW
instance awG{U aj}:bG (CF U aj) 281 [cG U,cG aj] (λr=>.cg [cG r.1,bs r.2]):=.aY 0 func281 rfl ntmps281 aW
instance awH{U aj}:bG (CG U aj) 344 [cG U,cG aj] bs:=.aY 0 func344 rfl ntmps344 aW
instance awI{U aj}:bG (KN U aj) 319 [cG U,cG aj] (λr=>.cg [cG r.1,bs r.2]):=.aY 0 func319 rfl ntmps319 aW
instance awJ{U aj}:bG (F1 U aj) 282 [cG U,cG aj] (λr=>.cg [cG r.1,bs r.2]):=.aY 0 func282 rfl ntmps282 aW
instance awK{J:ax}{U aj}:bG (aaf J U aj) 320 [cG U,fw aj] aI:=.aY 0 func320 rfl ntmps320<|by intro _ _ _;refine cJ (α:=Int) (λs=>[(5,aI s)]) (λH _=>H) [0,1] ?_;rintro cb n;exact aW
instance awL{J:ax}{U}:bG (KP J U) 345 [cG U] (λr=>.cg [.p (.v (.int .u32 r.1)),.p (.v (.int .u32 r.2))]):=.aY 0 func345 rfl ntmps345<|by
 intro _ _ _;refine .seq<|.region<|?_;refine fl ?_;refine .seq<|.region<|?_;refine fl ?_;refine .fb (β:=Int) (λs=>[(4,.p (.v (.int .u32 s)))]) (λH _=>H) [0] (KO U J) ?_ ?_
 ·rintro dV;refine cJ (α:=sh) (λs=>[(6,.p (.v (.int .u32 s.1))),(7,.p (.v (.int .u32 s.2.1))),(8,aI s.2.2)]) (λH _=>H) [4] ?_;rintro⟨i8,m5,uM⟩ n;refine fm ?_;refine gL ?_ ?_
  ·refine b4 ?_;refine .q (zk rfl rfl (by decide)) rfl<|?_;exact aW
  ·refine b4 ?_;refine .q (zk rfl rfl (by decide)) rfl<|?_;exact aW
 ·intro j;refine cJ (α:=(Int×Int)) (λs=>[(4,.p (.v (.int .u32 s.1))),(5,aI s.2)]) (λH _=>H) [0] ?_;rintro⟨ro,j7⟩ n;exact aW
instance awM{J:ax}{U aj}:bG (CI J U aj) 321 [cG U,cG aj] aI:=.aY 0 func321 rfl ntmps321<|by
 intro _ _ _;refine a7 λZ=>?_;refine fl ?_;refine .seq<|.region<|?_;refine fl ?_;refine .seq<|.region<|?_;refine fl ?_;refine .seq<|.region<|?_;refine fl ?_;refine .fb (β:=Int) (λs=>[(9,.p (.v (.int .u32 s)))]) (λH _=>H) [0,1,5,6,7,8] (KR Z U aj J) ?_ ?_
 ·rintro gE;refine .fb (β:=Unit) (λ_=>[]) (λH _=>H) [0,1,5,6,7,8,9] (CH gE U aj J Z) ?_ ?_
  ·rintro⟨⟩;refine cJ (α:=(Int×Int)) (λs=>[(9,.p (.v (.int .u32 s.1))),(11,aI s.2)]) (λH _=>H) [0,1,5,6,7] ?_;rintro⟨KQ,rk⟩ n;exact aW
  ·intro j;exact aW
 ·intro j;refine cJ (α:=(Int×Int)) (λs=>[(9,.p (.v (.int .u32 s.1))),(10,aI s.2)]) (λH _=>H) [0,1,5,6,7,8] ?_;rintro⟨RM,l9⟩ n;exact aW
instance awN{J:ax}{U aj}:bG (CJ J U aj) 283 [cG U,cG aj] aI:=.aY 0 func283 rfl ntmps283 aW
instance awO{U}:bG (aai U) 361 [aI U] cG:=.aY 0 func361 rfl ntmps361 aW
instance awP{J:ax}{U aj a6 dg fS}:bG (aaj J U aj a6 dg fS) 364 [bT 1 jJ U,.p (.v (.int .u64 aj)),aI a6,bs dg,bs fS] (λr=>.cg [bT 1 jJ r.1,cG r.2]):=.aY 1 func364 rfl ntmps364<|by
 intro _ _ _;refine gL ?_ ?_
 ·exact .br
 ·exact .br
instance awQ{J:ax}{U aj}:bG (aak J U aj) 343 [aI U,aI aj] cG:=.aY 1 func343 rfl ntmps343<|by intro _ _ _;refine fm ?_;refine cp ?_;exact .br
instance awR{J:ax}{U}:bG (aal J U) 315 [aI U] cG:=.aY 0 func315 rfl ntmps315 aW
instance awS{J:ax}{U}:bG (KS J U) 275 [aI U] cG:=.aY 0 func275 rfl ntmps275 aW
instance awT{J:ax}{vU} [abP:JW vU]{U}:bG (CK J vU U) 186 [cG U] bs:=.aY 0 func186 rfl ntmps186 aW
theorem akM{vU} [abP:JW vU]{U}:bG (KT J vU U) 241 [cG U] (λr=>.cg [cG r.1,aI r.2.1,bs r.2.2]):=.aY 0 func241 rfl ntmps241<|by intro _ _ _;refine a7 λZ=>?_;refine a7 λad=>?_;refine a7 λaA=>?_;refine cp ?_;refine a7 λaN=>?_;refine a7 λa0=>?_;refine a7 λbe=>?_;refine b4 ?_;refine .q (ahN runUnderlying295 rfl rfl) .n<|?_;exact aW
theorem akN(k:Nat):JW (F2 J k):=by
  induction k with
  |zero=>(repeat intro _);exact .br rfl
  |succ k bB=>(repeat intro _);exact akM (abP:=bB)
instance awU{J:ax}:JW (xS J):=akN J.n
instance awV{ab ag ak ap an al am aD}:ca (RN ab ag ak ap an al am aD) 314 [.aR 0 0,aI ab,aI ag] [g9 ak ap an 1 2 al al,c3 am,.bu 9 (aD.map eV)] 0 bs (λ_=>[g9 ak ap an 1 2 al al,c3 am,.bu 9 (aD.map eV)]):=.aY 0 func314 rfl ntmps314 aW
instance awW{J:ax}{ab ag ak ap an al am aD}:ca (KU J ab ag ak ap an al am aD) 313 [bT 1 cH ab,bT 1 cH ag,.fn (.func 314) [.aR 0 0] []] [g9 ak ap an 1 2 al al,c3 am,.bu 9 (aD.map eV)] 0 bs (λ_=>[g9 ak ap an 1 2 al al,c3 am,.bu 9 (aD.map eV)]):=.aY 0 func313 rfl ntmps313<|by intro _ _ _;refine cp ?_;refine cJ (α:=Int) (λs=>[(17,aI s)]) (λH _=>H) [1,2,15,16] ?_;rintro F3 n;exact aW
instance awX{J:ax}{U aj}:bG (CL J U aj) 225 [cG U,aI aj] cG:=.aY 0 func225 rfl ntmps225 aW
instance awY{U}:bG (RO U) 316 [cG U] bs:=.aY 0 func316 rfl ntmps316 aW
instance awZ{J:ax}{ab}:ca (RP J ab) 342 [bT 1 fk ab,.p (.v (.func (.func 316) #[] #[]))] [] 0 aI (λ_=>[]):=.aY 0 func342 rfl ntmps342<|by intro _ _ _;refine cJ (α:=Int) (λs=>[(8,aI s)]) (λH _=>H) [0,1,7] ?_;rintro b6 n;exact aW
instance aw0{J:ax}{ab}:ca (F5 J ab) 308 [bT 1 fk ab,.p (.v (.func (.func 316) #[] #[]))] [] 0 bs (λ_=>[]):=.aY 0 func308 rfl ntmps308 aW
instance aw1{J:ax}{U aj}:bG (KX J U aj) 276 [aI U,bT 1 fk aj] bs:=.aY 0 func276 rfl ntmps276 aW
instance aw2{ab ag ak ap an al am aD a2}:ca (KY ab ag ak ap an al am aD a2) 263 [.agg [.aR 0 0,.map 1],.agg ((Cg ab).map .p),aI ag] [g9 ak ap an 2 3 al al,m3 am,c3 aD,.bu 9 (a2.map eV)] 0 (λr=>.cg [.agg ((Cg r.1).map .p),bs r.2]) (λ_=>[g9 ak ap an 2 3 al al,m3 am,c3 aD,.bu 9 (a2.map eV)]):=.aY 2 func263 rfl ntmps263<|by intro _ _ _;refine gc ?_;exact aW
theorem akO{lP} [MD:Cp lP]{CN} [akP:QH CN]{ab ag ak ap an al am aD a2}:ca (KZ J lP CN ab ag ak ap an al am aD a2) 215 [.agg [.aR 0 0,.map 1],.agg ((Cg ab).map .p),bT 1 cH ag] [g9 ak ap an 2 3 al al,m3 am,c3 aD,.bu 9 (a2.map eV)] 0 (λr=>aI r.1) (λr=>[g9 ak ap an 2 3 al al,m3 r.2,c3 aD,.bu 9 (a2.map eV)]):=.aY 3 func215 rfl ntmps215<|by
 intro _ _ _;refine gc ?_;refine cJ (α:=(Int×Int×List nB)) (λs=>[(6,aI s.1),(14,aI s.2.1)]) (λH s=>H.set 1 (m3 s.2.2)) [3,4,12,13] ?_;rintro⟨gt,mb,pT⟩ n;refine fm ?_;refine a7 λZ=>?_;refine a7 λad=>?_;refine a7 λaA=>?_;refine gL ?_ ?_
 ·refine b4 ?_;exact .hS [5] ((aH (gt+(aH (1+aA.1)))),(aH (mb+1)),aA.2)
 ·refine a7 λaN=>?_;refine gL ?_ ?_
  ·refine a7 λa0=>?_;refine b4 ?_;exact .hS [5,6] ((ih (aH ((aH (gt+(aH (1+aA.1))))+a0.1)) 3001),(aH (mb+1)),a0.2)
  ·refine b4 ?_;exact .hS [5,6] ((ih (aH (gt+(aH (1+aA.1)))) 3001),(aH (mb+1)),aA.2)
theorem akQ{lP} [MD:Cp lP](k:Nat):QH (F7 J lP k):=by
  induction k with
  |zero=>(repeat intro _);exact .br rfl
  |succ k bB=>(repeat intro _);exact akO (akP:=bB)
instance aw3{J:ax}{lP} [MD:Cp lP]:QH (RS J lP):=akQ J.n
theorem akR{lP} [MD:Cp lP]{ab ag ak ap an al am aD}:ca (K0 J lP ab ag ak ap an al am aD) 214 [.agg [.aR 0 0,.map 1],.agg ((Cg ab).map .p)] [g9 ag ak ap 2 3 an an,m3 al,c3 am,.bu 9 (aD.map eV)] 0 (λr=>aI r.1) (λr=>[g9 ag ak ap 2 3 an an,m3 r.2,c3 am,.bu 9 (aD.map eV)]):=.aY 1 func214 rfl ntmps214<|by intro _ _ _;refine gc ?_;refine b4 ?_;refine .aC (ajQ (k:=ab) rfl rfl rfl) (da rfl) rfl<|?_;refine fm ?_;refine a7 λZ=>?_;refine a7 λad=>?_;refine a7 λaA=>?_;refine b4 ?_;refine .aC (ajR (k:=ab) (a:=aA.1) rfl rfl rfl rfl .gp) (da rfl) rfl<|?_;exact aW
theorem akS(k:Nat):Cp (CO J k):=by
  induction k with
  |zero=>(repeat intro _);exact .br rfl
  |succ k bB=>(repeat intro _);exact akR (MD:=bB)
instance aw4{J:ax}:Cp (K1 J):=akS J.n
instance aw5{J:ax}{ab ag ak ap an al am aD}:ca (K2 J ab ag ak ap an al am aD) 171 [.agg [.aR 0 0,.map 1],aI ab] [g9 ag ak ap 2 3 an an,m3 al,c3 am,.bu 9 (aD.map eV)] 0 (λr=>aI r.1) (λr=>[g9 ag ak ap 2 3 an an,m3 r.2,c3 am,.bu 9 (aD.map eV)]):=.aY 2 func171 rfl ntmps171<|by intro _ _ _;refine gc ?_;exact aW
instance aw6{U}:bG (zQ U) 59 [fw U] bs:=.aY 0 func59 rfl ntmps59 aW
theorem akT{Lk} [akU:QI Lk]{ab}:ca (aaG J Lk ab) 181 [.p (.v (.pointer none)),cG ab] [] 0 (λr=>.cg [aI r.1,bs r.2]) (λ_=>[]):=.aY 0 func181 rfl ntmps181<|by intro _ _ _;refine cp ?_;refine a7 λZ=>?_;refine cp ?_;exact .br
instance aw7{ab ag ak ap an al am aD a2 bc ba bm}:ca (Sb ab ag ak ap an al am aD a2 bc ba bm) 77 [.aR 0 0,aI ab] [eH ag ak ap an al am aD 1 2 3 4,e4 a2,dH bc,c3 ba,eW bm] 1 (λr=>.fn (.func 123) [] [.aR 5 0,.bA [bD r]]) (λ_=>[eH ag ak ap an al am aD 1 2 3 4,e4 a2,dH bc,c3 ba,eW bm,l8 0]):=.aY 1 func77 rfl ntmps77<|by intro _ _ _;refine gc ?_;exact aW
instance aw8{U}:bG (CW U) 35 [aI U] (λr=>.agg ((b7 r).map .p)):=.aY 1 func35 rfl ntmps35 aW
instance aw9{ab ag ak}:vO (Sl ab ag ak) [aI ab,aI ag] [Fx .ready none [(4,.aR 1 0)] 2,dK ak,.cr true] (λr=>bs true) (λr=>[Fx .ready none [(4,.aR 1 0)] 2,dK r,.cr true]):=.aY 0 aW
instance axa{U}:bG (Sq U) 36 [fw U] (λr=>.agg ((b7 r).map .p)):=.aY 1 func36 rfl ntmps36 aW
instance axb{U}:bG (v3 U) 256 [fw U] bs:=.aY 0 func256 rfl ntmps256 aW
instance axc{U}:bG (v4 U) 257 [fw U] bs:=.aY 0 func257 rfl ntmps257 aW
instance axd{U}:bG (LG U) 211 [fw U] bs:=.aY 0 func211 rfl ntmps211 aW
instance axe{U}:bG (Gh U) 356 [fw U] bs:=.aY 0 func356 rfl ntmps356 aW
instance axf{J:ax}{U aj}:bG (LI J U aj) 357 [bT 1 fk U,cG aj] bs:=.aY 0 func357 rfl ntmps357<|by intro _ _ _;refine cJ (α:=Int) (λs=>[(5,aI s)]) (λH _=>H) [0,1] ?_;rintro cb n;exact aW
instance axg{U}:bG (jB U) 260 [.agg ((jy U).map .p)] bs:=.aY 0 func260 rfl ntmps260 aW
instance axh{U aj a6}:bG (qv U aj a6) 262 [.agg ((jy U).map .p),aI aj,fw a6] bs:=.aY 0 func262 rfl ntmps262 aW
instance axi{J:ax}{U}:bG (C0 J U) 212 [.agg ((du U).map .p)] (bT 1 cH):=.aY 1 func212 rfl ntmps212<|by
 intro _ _ _;refine b4 ?_;refine .mk 0 bD (0:Int) JP JJ rfl rfl rfl (λ_ _=>.v) rfl rfl λZ=>?_;refine cJ (α:=mH) (λs=>[(4,aI s.1)]) (λH s=>H.set 0 (.bu 3 (s.2.map bD))) [1,3] ?_;rintro⟨dV,jl⟩ n;refine gL ?_ ?_
 ·refine a7 λad=>?_;refine a7 λaA=>?_;refine cJ (α:=mH) (λs=>[(5,aI s.1)]) (λH s=>H.set 0 (.bu 3 (s.2.map bD))) [1,3,4] ?_;rintro⟨i_,pS⟩ n;exact aW
 ·refine b4 ?_;refine .zm (l':=[]) (x:=λ_=>.dX 0 0 Z.length Z.length) (y:=λz=>bT 1 cH z) 2 cH (λxs=>xs.map bD) (λ_=>rfl) (λxs=>(r3 (λ_=>rfl) xs).symm) rfl rfl (λz h=>.a) .n rfl rfl rfl λci=>?_;exact aW
instance axj{J:ax}{U}:bG (z3 J U) 159 [.agg ((du U).map .p)] aI:=.aY 0 func159 rfl ntmps159<|by intro _ _ _;refine a7 λZ=>?_;refine cJ (α:=(Int×Int)) (λs=>[(3,aI s.1),(5,aI s.2)]) (λH _=>H) [4] ?_;rintro⟨eX,cb⟩ n;exact aW
instance axk{U aj}:bG (Gk U aj) 164 [.agg ((du U).map .p),aI aj] bs:=.aY 0 func164 rfl ntmps164 aW
instance axl{U aj}:bG (LO U aj) 167 [fw U,fw aj] bs:=.aY 0 func167 rfl ntmps167 aW
theorem akV{qw} [akW:QN qw]{U aj a6 dg fS}:bG (L9 J qw U aj a6 dg fS) 117 [.agg ((du U).map .p),.agg ((Cf aj).map .p),aI a6,aI dg,aI fS] aI:=.aY 1 func117 rfl ntmps117<|by
 intro _ _ _;refine a7 λZ=>?_;refine fl ?_;refine .fb (β:=(Int×Int)) (λs=>[(12,aI s.1)]) (λH s=>H.set 0 (fA s.2 Z.bi Z.n Z.a3 Z.dx)) [2,3,4,5,6,11] (L6 aj a6 dg fS U qw) ?_ ?_
 ·rintro⟨kM,jd⟩;refine cp ?_;refine a7 λad=>?_;refine fl ?_;refine .fb (β:=Int) (λs=>[(15,aI s)]) (λH _=>H) [5,6,12,14] (Gq U ad kM qw aj) ?_ ?_
  ·rintro SL;exact aW
  ·intro j;exact aW
 ·intro j;refine cJ (α:=(Int×Int)) (λs=>[(12,aI s.1),(13,aI s.2)]) (λH _=>H) [2,3,4,5,6,11] ?_;rintro⟨L7,L8⟩ n;exact aW
theorem akX(k:Nat):QN (Ae J k):=by
  induction k with
  |zero=>(repeat intro _);exact .br rfl
  |succ k bB=>(repeat intro _);exact akV (akW:=bB)
instance axm{J:ax}:QN (L_ J):=akX J.n
instance axn{J:ax}{U aj a6}:bG (L' J U aj a6) 71 [.agg ((du U).map .p),.agg ((Cf aj).map .p),aI a6] aI:=.aY 1 func71 rfl ntmps71<|by intro _ _ _;refine a7 λZ=>?_;refine a7 λad=>?_;refine cp ?_;refine xv ?_;refine fm ?_;refine cJ (α:=(Int×Int)) (λs=>[(8,aI s.1),(9,aI s.2)]) (λH _=>H) [3,4,7] ?_;rintro⟨b6,gE⟩ n;exact aW
instance axo{U}:bG (GB U) 54 [.agg ((b7 U).map .p)] bs:=.aY 0 func54 rfl ntmps54 aW
instance axp{J:ax}{U}:bG (Dj J U) 26 [bT 2 b7 U] bs:=.aY 0 func26 rfl ntmps26<|by intro _ _ _;refine cJ (α:=Int) (λs=>[(3,aI s)]) (λH _=>H) [0] ?_;rintro eX n;exact aW
instance axq{J:ax}{U aj}:bG (abM J U aj) 88 [bT 1 cH U,aI aj] aI:=.aY 0 func88 rfl ntmps88<|by intro _ _ _;refine cJ (α:=Int) (λs=>[(8,aI s)]) (λH _=>H) [0,1,7] ?_;rintro b6 n;exact aW
instance axr{J:ax}{U aj}:bG (S0 J U aj) 60 [bT 1 cH U,aI aj] bs:=.aY 0 func60 rfl ntmps60 aW
instance axs{J:ax}{ab ag ak}:ca (MB J ab ag ak) 58 [aI ab,.bA (du ag),.bA [bD ak]] [] 0 bs (λ_=>[]):=.aY 1 func58 rfl ntmps58 aW
instance axt{J:ax}{ab ag ak}:ca (GC J ab ag ak) 57 [bT 1 cH ab,.fn (.func 58) [] [.bA (du ag),.bA [bD ak]]] [] 0 aI (λ_=>[]):=.aY 0 func57 rfl ntmps57<|by intro _ _ _;refine cJ (α:=Int) (λs=>[(8,aI s)]) (λH _=>H) [0,1,7] ?_;rintro b6 n;exact aW
end
end Go.Proofs.YtgfggdcbhjhegaaGreatDoor

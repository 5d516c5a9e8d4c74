/- The functions of the program compute what their models say. -/
import Derived.Test.YtgfggdcbhjhegaaGreatDoorUD
set_option linter.all false
set_option maxRecDepth 100000
set_option maxHeartbeats 4000000
namespace Go.Proofs.YtgfggdcbhjhegaaGreatDoor
open Go Go.Mi Go.RowKit Go.Dp Tryz Go.Proofs.Tryz
open Bool renaming true->ah
open Sum renaming elim->dQ
noncomputable section
attribute [local irreducible] bI cW co bZ
instance abQ{J:ax}{U}:bG (xH J U) 8 [.agg ((du U).map .p)] bs:=.aY 0 func8 rfl ntmps8<|by intro _ _ _;refine cp ?_;refine cJ (α:=Int) (λs=>[(3,aI s)]) (λH _=>H) [1] ?_;rintro eX n;exact aW
instance axu{J:ax}{U}:bG (FR J U) 147 [.agg ((du U).map .p)] (bT 1 cH):=.aY 1 func147 rfl ntmps147<|by
 intro _ _ _;refine b4 ?_;refine .mk 0 bD (0:Int) JP JJ rfl rfl rfl (λ_ _=>.v) rfl rfl λZ=>?_;refine cJ (α:=mH) (λs=>[(4,aI s.1)]) (λH s=>H.set 0 (.bu 3 (s.2.map bD))) [1,3] ?_;rintro⟨dV,jl⟩ n;refine gL ?_ ?_
 ·refine .skip<|?_;refine fl ?_;refine .seq<|.iQ<|.fb (β:=(List Int)) (λ_=>[]) (λH s=>H.set 0 (.bu 3 (s.map bD))) [1,3,4] (FQ U dV J Z) ?_ ?_
  ·rintro jl;refine a7 λad=>?_;refine cJ (α:=mH) (λs=>[(34,aI s.1)]) (λH s=>H.set 0 (.bu 3 (s.2.map bD))) [1,3,4,32,33] ?_;rintro⟨Kh,vQ⟩ n;exact aW
  ·intro j;exact aW
 ·refine b4 ?_;refine .zm (l':=[]) (x:=λ_=>.dX 0 0 Z.length Z.length) (y:=λz=>bT 1 cH z) 2 cH (λxs=>xs.map bD) (λ_=>rfl) (λxs=>(r3 (λ_=>rfl) xs).symm) rfl rfl (λz h=>.a) .n rfl rfl rfl λbJ=>?_;exact aW
instance axv{J:ax}{U}:bG (Ki J U) 146 [bT 1 cH U] aI:=.aY 0 func146 rfl ntmps146<|by
 intro _ _ _;refine gL ?_ ?_
 ·exact .br
 ·refine a7 λZ=>?_;refine cJ (α:=(Int×Int)) (λs=>[(3,aI s.1),(4,aI s.2)]) (λH _=>H) [0] ?_;rintro⟨eX,dV⟩ n;exact aW
instance axw{J:ax}{U}:bG (zD J U) 106 [.agg ((du U).map .p)] aI:=.aY 0 func106 rfl ntmps106 aW
instance axx{U aj a6}:bG (uL U aj a6) 206 [aI U,aI aj,aI a6] bs:=.aY 0 func206 rfl ntmps206 aW
instance axy{U}:bG (ZI U) 207 [.agg ((jy U).map .p)] aI:=.aY 0 func207 rfl ntmps207 aW
instance axz{U aj}:bG (xM U aj) 150 [.agg ((du U).map .p),.agg ((jy aj).map .p)] bs:=.aY 0 func150 rfl ntmps150 aW
instance axA{ab ag}:ca (Rg ab ag) 149 [.agg ((jy ab).map .p),.bA (du ag)] [] 0 bs (λ_=>[]):=.aY 0 func149 rfl ntmps149 aW
instance axB{J:ax}{ab ag}:ca (Rh J ab ag) 148 [bT 5 jy ab,.fn (.func 149) [] [.bA (du ag)]] [] 0 aI (λ_=>[]):=.aY 0 func148 rfl ntmps148<|by intro _ _ _;refine cJ (α:=Int) (λs=>[(8,aI s)]) (λH _=>H) [0,1,7] ?_;rintro b6 n;exact aW
instance axC{J:ax}{U}:bG (xN J U) 107 [.agg ((du U).map .p)] aI:=.aY 0 func107 rfl ntmps107 aW
instance axD{U}:bG (ZN U) 330 [fw U] bs:=.aY 0 func330 rfl ntmps330 aW
instance axE{U}:bG (ZO U) 333 [fw U] bs:=.aY 0 func333 rfl ntmps333 aW
instance axF{U}:bG (ZP U) 334 [fw U] bs:=.aY 0 func334 rfl ntmps334 aW
instance axG{U}:bG (ZQ U) 335 [fw U] bs:=.aY 0 func335 rfl ntmps335 aW
instance axH{U}:bG (ZR U) 336 [fw U] bs:=.aY 0 func336 rfl ntmps336 aW
theorem akY{z:Nat}{U:Int}{r:Bool}(h:Cu z U=some r):vz prog (xz z) [fw U] (bs r):=by
  unfold Cu at h;by_cases e:z=1
  · subst e;rw[if_pos rfl]at h;exact .eY (fC.p (av:=prog) h:) (λ_ _=>rfl) rfl rfl rfl
  rw[if_neg e]at h;by_cases e:z=2
  · subst e;rw[if_pos rfl]at h;exact .eY (fC.p (av:=prog) h:) (λ_ _=>rfl) rfl rfl rfl
  rw[if_neg e]at h;by_cases e:z=3
  · subst e;rw[if_pos rfl]at h;exact .eY (fC.p (av:=prog) h:) (λ_ _=>rfl) rfl rfl rfl
  rw[if_neg e]at h;by_cases e:z=4
  · subst e;rw[if_pos rfl]at h;exact .eY (fC.p (av:=prog) h:) (λ_ _=>rfl) rfl rfl rfl
  rw[if_neg e]at h;by_cases e:z=5
  · subst e;rw[if_pos rfl]at h;exact .eY (fC.p (av:=prog) h:) (λ_ _=>rfl) rfl rfl rfl
  rw[if_neg e]at h;cases h
instance axI{ab ag ak ap}:ca (Ri ab ag ak ap) 339 [fw ab,.aR 0 0] [.cells 334 [aI ag,aI ak,xz ap]] 0 bs (λ_=>[.cells 334 [aI ag,aI ak,xz ap]]):=.aY 0 func339 rfl ntmps339<|by intro _ _ _;refine b4 ?_;refine .iT rfl (λ_ h=>akY h) (.s rfl .n) rfl λZ=>?_;exact aW
instance axJ{J:ax}{ab ag ak ap}:ca (Kk J ab ag ak ap) 360 [bT 1 jJ ab,.fn (.func 339) [] [.aR 0 0]] [.cells 334 [aI ag,aI ak,xz ap]] 0 aI (λ_=>[.cells 334 [aI ag,aI ak,xz ap]]):=.aY 0 func360 rfl ntmps360<|by intro _ _ _;refine cJ (α:=Int) (λs=>[(8,aI s)]) (λH _=>H) [0,1,7] ?_;rintro b6 n;exact aW
instance axK{J:ax}{ab ag ak ap}:ca (Kl J ab ag ak ap) 338 [bT 1 jJ ab,.fn (.func 339) [] [.aR 0 0]] [.cells 334 [aI ag,aI ak,xz ap]] 0 bs (λ_=>[.cells 334 [aI ag,aI ak,xz ap]]):=.aY 0 func338 rfl ntmps338 aW
instance axL{J:ax}{U aj}:bG (Km J U aj) 300 [.agg ((Fy U).map .p),bT 1 jJ aj] bs:=.aY 2 func300 rfl ntmps300<|by
 intro _ _ _;refine cJ (α:=oZ) (λs=>[(1,bT 1 jJ s.1),(14,aI s.2)]) (λH _=>H) [2,12,13] ?_;rintro⟨ma,mb⟩ n;refine fm ?_;refine a7 λZ=>?_;refine fl ?_;refine .seq<|.region<|?_;refine fl ?_;refine .fb (β:=Int) (λs=>[(7,aI s)]) (λH _=>H) [1,2,6,12,13,14] (Rj ma Z J mb) ?_ ?_
 ·rintro m5;refine a7 λad=>?_;refine mF ?_;refine a7 λaA=>?_;refine a7 λaN=>?_;refine cp ?_;refine a7 λa0=>?_;refine b4 ?_;exact .hS [0] (a0,(aH (mb+1)))
 ·intro j;refine a7 λbe=>?_;refine cJ (α:=(Int×Int)) (λs=>[(7,aI s.1),(25,aI s.2)]) (λH _=>H) [1,2,6,12,13,14,23,24] ?_;rintro⟨k4,FT⟩ n;refine fm ?_;refine a7 λbL=>?_;refine b4 ?_;exact .hS [1] ((aH (k4+bL.ke)),(aH (FT+1)))
instance axM{U}:bG (ZW U) 302 [fw U] bs:=.aY 0 func302 rfl ntmps302 aW
variable {J:ax}
theorem akZ{Cv} [ak0:QF Cv]{ab ag ak ap an}:ca (Kr J Cv ab ag ak ap an) 301 [aI ab,aI ag,.bA (du ak),.aR 0 0,.aR 1 0] [.cells 171 [.fn (.func 301) [] [.bA (du ap),.aR 0 0,.aR 1 0]],dK an] 0 (λr=>bs r.1) (λr=>[.cells 171 [.fn (.func 301) [] [.bA (du ap),.aR 0 0,.aR 1 0]],dK r.2]):=.aY 0 func301 rfl ntmps301<|by
 intro _ _ _;refine .seq<|.region<|?_;refine fl ?_;refine .fb (β:=Int) (λ_=>[]) (λH s=>H.set 1 (dK s)) [0,1,2,4] (Rl ab ak ag) ?_ ?_
 ·rintro o2;refine cp ?_;refine a7 λZ=>?_;refine a7 λad=>?_;refine b4 ?_;refine .q (ag6 runUnderlying4 rfl rfl) rfl<|?_;exact aW
 ·intro j;refine a7 λaA=>?_;refine cJ (α:=(Int×Int)) (λs=>[(17,aI s.1)]) (λH s=>H.set 1 (dK s.2)) [0,1,2,3,4,15,16] ?_;rintro⟨Kq,Rm⟩ n;exact aW
theorem ak1(k:Nat):QF (Cw J k):=by
  induction k with
  |zero=>(repeat intro _);exact .br rfl
  |succ k bB=>(repeat intro _);exact akZ (ak0:=bB)
instance axN{J:ax}:QF (Rn J):=ak1 J.n
instance axO{J:ax}{U}:bG (Cx J U) 265 [.agg ((du U).map .p)] bs:=.aY 2 func265 rfl ntmps265<|by
 intro _ _ _;refine .seq<|.region<|?_;refine fl ?_;refine .seq<|.region<|?_;refine fl ?_;refine .seq<|.region<|?_;refine fl ?_;refine .seq<|.region<|?_;refine fl ?_;refine .fb (β:=Int) (λ_=>[]) (λH s=>H.set 0 (dK s)) [1,3] (Ro U) ?_ ?_
 ·rintro jd;exact aW
 ·intro j;refine cJ (α:=(Int×Int)) (λs=>[(11,aI s.1)]) (λH s=>H.set 0 (dK s.2)) [1,3,4,9,10] ?_;rintro⟨m6,Ks⟩ n;exact aW
instance axP{J:ax}{U}:bG (Cy J U) 266 [.agg ((du U).map .p)] bs:=.aY 2 func266 rfl ntmps266<|by
 intro _ _ _;refine b4 ?_;refine .aC (ajT (i:=0)) (da rfl) rfl<|?_;refine fl ?_;refine .fb (β:=((List (Int×Bool)))) (λ_=>[]) (λH s=>H.set 0 (uI s)) [1,3] (Rp J U) ?_ ?_
 ·rintro Z1;refine cJ (α:=zz) (λs=>[(33,aI s.1)]) (λH s=>H.set 0 (uI s.2)) [1,3,31,32] ?_;rintro⟨zG,pS⟩ n;refine gL ?_ ?_
  ·refine a7 λZ=>?_;refine a7 λad=>?_;refine cp ?_;refine a7 λaA=>?_;refine cJ (α:=zz) (λs=>[(51,aI s.1)]) (λH s=>H.set 0 (uI s.2)) [1,3,31,32,33,49,50] ?_;rintro⟨Kt,vQ⟩ n;refine fm ?_;refine a7 λaN=>?_;refine b4 ?_;refine .aC (ajW (k:=aN) rfl rfl rfl) (da rfl) rfl<|?_;exact aW
  ·refine b4 ?_;refine .aC (ajV rfl) (da rfl) rfl<|?_;exact aW
 ·intro j;refine cJ (α:=zz) (λs=>[(14,aI s.1)]) (λH s=>H.set 0 (uI s.2)) [1,3,12,13] ?_;rintro⟨uN,o0⟩ n;refine fm ?_;refine a7 λa0=>?_;refine gL ?_ ?_
  ·refine b4 ?_;refine .aC (ajU (k:=uN) (a:=ah) rfl rfl rfl rfl .gp) (da rfl) rfl<|?_;refine b4 ?_;exact .hS [1] ((aH (uN+1)),(d_ o0 uN ah))
  ·refine b4 ?_;exact .hS [1] ((aH (uN+1)),o0)
instance axQ{U aj}:bG (Z3 U aj) 243 [.p (.v (.int .u64 U)),.p (.v (.int .u64 aj))] (λr=>.cg [.p (.v (.int .u64 r.1)),.p (.v (.int .u64 r.2))]):=.aY 0 func243 rfl ntmps243<|by intro _ _ _;refine b4 ?_;refine .q (zk rfl rfl (by decide)) rfl<|?_;refine b4 ?_;refine .q (zk rfl rfl (by decide)) rfl<|?_;refine b4 ?_;refine .q (zk rfl rfl (by decide)) rfl<|?_;refine b4 ?_;refine .q (zk rfl rfl (by decide)) rfl<|?_;refine b4 ?_;refine .q (zk rfl rfl (by decide)) rfl<|?_;exact aW
instance axR{U aj}:bG (CA U aj) 183 [.p (.v (.int .u64 U)),.p (.v (.int .u64 aj))] (λr=>.cg [.p (.v (.int .u64 r.1)),.p (.v (.int .u64 r.2))]):=.aY 0 func183 rfl ntmps183 aW
instance axS{J:ax}{ab ag}:ca (FV J ab ag) 217 [bT 1 cH ab,aI ag] [] 1 (λr=>.dX 0 0 r.1 r.1) (λr=>[.bu 3 (r.2.map bD)]):=.aY 1 func217 rfl ntmps217<|by
 intro _ _ _;refine gL ?_ ?_
 ·exact .br
 ·refine a7 λZ=>?_;refine gL ?_ ?_
  ·exact .br
  ·refine b4 ?_;refine .mk 0 bD (0:Int) JP JJ rfl rfl rfl (λ_ _=>.v) rfl rfl λad=>?_;refine b4 ?_;refine .oS (λz h=>Jb (f:=(λxs=>xs.map bD)) (e:=cH) 0 runUnderlying23 sizeOf3 (λ_=>rfl) (λ_=>rfl) (λxs=>(r3 (λ_=>rfl) xs).symm) rfl rfl qf h) (λ_=>da rfl) rfl λaA=>?_;refine cJ (α:=mH) (λs=>[(8,aI s.1)]) (λH s=>H.set 0 (.bu 3 (s.2.map bD))) [7] ?_;rintro⟨b6,jl⟩ n;refine fm ?_;refine b4 ?_;refine .oS (λz h=>P5 0 runUnderlying23 sizeOf3 rfl rfl h) (λ_=>e6) .n λ_=>?_;refine b4 ?_;refine .oS (λz h=>P6 0 runUnderlying23 sizeOf3 rfl rfl h) (λ_=>e6) .n λ_=>.oS (λz h=>P3 (f:=(λxs=>xs.map bD)) (e:=cH) (0+b6.toNat) 0 runUnderlying23 sizeOf3 (λ_=>rfl) (λ_=>rfl) (λxs=>(r3 (λ_=>rfl) xs).symm) rfl rfl h) (λ_=>da rfl) .n λbe=>?_;exact aW
instance axT{ab ag ak ap an al am}:ca (FY ab ag ak ap an al am) 271 [.aR 0 0,aI ab] [dU ag ak 1 ap ap 2 an an,.bu 3 (al.map bD),.bu 3 (am.map bD)] 2 (λr=>.fn (.func 307) [] [.aR 3 0,.aR 4 0]) (λr=>[dU ag ak 1 ap ap 2 an an,.bu 3 (al.map bD),.bu 3 (am.map bD),c4 0,dK r]):=.aY 2 func271 rfl ntmps271<|by intro _ _ _;refine gc ?_;refine gc ?_;exact aW
instance axU{ab ag ak ap an al am aD}:ca (Ru ab ag ak ap an al am aD) 305 [.aR 0 0,aI ab,aI ag] [dU ak ap 1 an an 2 al al,.bu 3 (am.map bD),.bu 3 (aD.map bD)] 1 (λr=>.fn (.func 340) [] [.aR 3 0,.bA [bD r.1],.bA [bD r.2]]) (λ_=>[dU ak ap 1 an an 2 al al,.bu 3 (am.map bD),.bu 3 (aD.map bD),c4 0]):=.aY 1 func305 rfl ntmps305<|by intro _ _ _;refine gc ?_;exact aW
instance axV{ab}:ca (Ry ab) 306 [bT 1 cH ab] [] 0 (λr=>.fn (.func 341) [] [.bA [dI 1 cH r]]) (λ_=>[]):=.aY 0 func306 rfl ntmps306 aW
instance axW{ab ag ak ap an al am aD a2 bc}:vO (RB ab ag ak ap an al am aD a2 bc) [aI ab,aI ag] [xx .ready none [(3,.aR 1 0),(5,.bA [bD ak]),(6,.aR 2 0)] 3,c4 4,nC ap,.cr ah,dU an al 5 am am 6 aD aD,.bu 3 (a2.map bD),.bu 3 (bc.map bD)] (dQ (λr=>bs false) (λr=>bs ah)) (dQ (λr=>[xx .done (some .ret) [(3,.aR 1 0),(5,.bA [bD ak]),(6,.aR 2 0)] 3,c4 4,nC r,.cr ah,dU an al 5 am am 6 aD aD,.bu 3 (a2.map bD),.bu 3 (bc.map bD)]) (λr=>[xx .ready none [(3,.aR 1 0),(5,.bA [bD ak]),(6,.aR 2 0)] 3,c4 4,nC r,.cr ah,dU an al 5 am am 6 aD aD,.bu 3 (a2.map bD),.bu 3 (bc.map bD)])):=.aY 0 aW
instance axX{J:ax}{ab ag ak ap an al am aD a2}:ca (RC J ab ag ak ap an al am aD a2) 307 [.fW 0,.aR 1 0,.aR 2 0] [xx .ready none [(3,.aR 3 0),(5,.bA [bD ab]),(6,.aR 4 0)] 5,c4 6,dK ag,c4 6,nC ak,.cr ah,dU ap an 7 al al 8 am am,.bu 3 (aD.map bD),.bu 3 (a2.map bD)] 0 (dQ (λr=>.cg []) (λr=>.cg [])) (dQ (λr=>[xx .done (some .ret) [(3,.aR 3 0),(5,.bA [bD ab]),(6,.aR 4 0)] 5,c4 6,dK r.1,c4 6,nC r.2,.cr ah,dU ap an 7 al al 8 am am,.bu 3 (aD.map bD),.bu 3 (a2.map bD)]) (λr=>[xx .ready none [(3,.aR 3 0),(5,.bA [bD ab]),(6,.aR 4 0)] 5,c4 6,dK r.1,c4 6,nC r.2,.cr ah,dU ap an 7 al al 8 am am,.bu 3 (aD.map bD),.bu 3 (a2.map bD)])):=.aY 0 func307 rfl ntmps307<|by intro _ _ _;refine a7 λZ=>?_;refine cJ (α:=(Int×Int×Bool)) (λs=>[(4,aI s.1)]) (λH s=>(H.set 2 (dK s.2.1)).set 4 (nC s.2.2)) [0,1,2] ?_;rintro⟨dV,jM,vS⟩ n;exact aW
instance axY{J:ax}{ab ag ak ap an al am aD}:ca (KH J ab ag ak ap an al am aD) 221 [.aR 0 0,aI ab,aI ag] [dU ak ap 1 an an 2 al al,.bu 3 (am.map bD),.bu 3 (aD.map bD)] 0 bs (λ_=>[dU ak ap 1 an an 2 al al,.bu 3 (am.map bD),.bu 3 (aD.map bD)]):=.qh 7 func221 rfl ntmps221<|by
 intro _ _ _;refine gc ?_;refine a7 λZ=>?_;refine b4 ?_;refine .XP (H2:=λad=>[dU ak ap 1 an an 2 al al,.bu 3 (am.map bD),.bu 3 (aD.map bD),c4 0,nC ad.2,c4 0,dK ad.1,xx .done (some .ret) [(3,.aR 3 0),(5,.bA [bD ag]),(6,.aR 4 0)] 8,.cr ah,.bW]) (lM:=λaA=>[dU ak ap 1 an an 2 al al,.bu 3 (am.map bD),.bu 3 (aD.map bD),c4 0,nC aA.2,c4 0,dK aA.1,xx .ready none [(3,.aR 3 0),(5,.bA [bD ag]),(6,.aR 4 0)] 8,.cr ah,.bW]) 7 8 9 [7,5,6,3,4,8,0,1,2] [] [] rfl rfl rfl rfl (.s rfl (.s rfl (.s rfl .n))) (λ_ _=>rfl) .fn rfl (λz h=>⟨fC.h h,.lf rfl,rfl,rfl⟩) (λz h=>⟨fC.h h,.lf rfl,rfl,rfl⟩) (bK rfl (bK rfl (bK rfl (bK rfl (bK rfl (bK rfl (bK rfl (bK rfl (bK rfl e6))))))))) (bK rfl (bK rfl (bK rfl (bK rfl (bK rfl (bK rfl (bK rfl (bK rfl (bK rfl e6))))))))) (λ_=>.mk rfl (by decide) rfl) (λ_=>.mk rfl (by decide) rfl) (λ_=>rfl) (λ_=>rfl) (λ_=>rfl) (λ_=>rfl) (λ_=>rfl) (λ_=>rfl) (λad ak2=>?_) (λaA abR=>?_)
 ·refine b4 ?_;refine .mC 9 rfl rfl rfl<|.kZ rfl<|?_;exact aW
 ·refine b4 ?_;refine .mC 9 rfl rfl rfl<|.kZ rfl<|?_;exact aW
instance axZ{ab ag ak ap an al am}:ca (CE ab ag ak ap an al am) 272 [.aR 0 0,aI ab] [g9 ag ak ap 1 2 an an,c3 al,.bu 9 (am.map eV)] 0 cG (λ_=>[g9 ag ak ap 1 2 an an,c3 al,.bu 9 (am.map eV)]):=.aY 1 func272 rfl ntmps272 aW
instance ax0{ab ag ak ap an al am aD a2 bc ba bm}:ca (aau ab ag ak ap an al am aD a2 bc ba bm) 75 [.aR 0 0,aI ab] [eH ag ak ap an al am aD 1 2 3 4,e4 a2,dH bc,c3 ba,eW bm] 1 (λr=>.fn (.func 122) [] [.aR 5 0,.bA [bD r]]) (λ_=>[eH ag ak ap an al am aD 1 2 3 4,e4 a2,dH bc,c3 ba,eW bm,l8 0]):=.aY 1 func75 rfl ntmps75<|by intro _ _ _;refine gc ?_;exact aW
instance ax1{ab ag ak ap an al am aD a2 bc ba bm bF ch cS i9}:vO (CP ab ag ak ap an al am aD a2 bc ba bm bF ch cS i9) [aI ab,.agg ((ajv ag).map .p)] [xy .ready none [(3,.aR 1 0),(5,.bA [dI 1 cH ak]),(6,.aR 2 0),(7,.aR 3 0)] 4,l8 5,nC ap,dK an,.cr ah,eH al am aD a2 bc ba bm 6 7 8 9,e4 bF,dH ch,c3 cS,eW i9] (dQ (λr=>bs false) (λr=>bs ah)) (dQ (λr=>[xy .done (some .ret) [(3,.aR 1 0),(5,.bA [dI 1 cH ak]),(6,.aR 2 0),(7,.aR 3 0)] 4,l8 5,nC r.1,dK r.2.1,.cr ah,eH al am aD a2 bc ba bm 6 7 8 9,e4 r.2.2,dH ch,c3 cS,eW i9]) (λr=>[xy .ready none [(3,.aR 1 0),(5,.bA [dI 1 cH ak]),(6,.aR 2 0),(7,.aR 3 0)] 4,l8 5,nC r.1,dK r.2.1,.cr ah,eH al am aD a2 bc ba bm 6 7 8 9,e4 r.2.2,dH ch,c3 cS,eW i9])):=.aY 1<|by intro _ _ _;refine mF ?_;refine a7 λZ=>?_;refine b4 ?_;refine .q (WT runUnderlying124 sizeOf3 rfl rfl (by decide) (by decide)) (.y rfl rfl)<|?_;refine mF ?_;refine a7 λad=>?_;refine b4 ?_;refine .q (WT runUnderlying124 sizeOf3 rfl rfl (by decide) (by decide)) (.y rfl rfl)<|?_;refine cp ?_;refine a7 λaA=>?_;refine b4 ?_;refine .aC (ajY (k:=ab) (a:=aA) rfl rfl rfl rfl .gp) (da rfl) .n<|?_;exact aW
instance ax2{J:ax}{ab ag ak ap an al am aD a2 bc ba bm bF ch cS}:ca (RV J ab ag ak ap an al am aD a2 bc ba bm bF ch cS) 122 [.fW 0,.aR 1 0,.bA [bD ab]] [xy .ready none [(3,.aR 2 0),(5,.bA [dI 1 cH ag]),(6,.aR 3 0),(7,.aR 4 0)] 5,l8 6,l8 6,nC ak,dK ap,.cr ah,eH an al am aD a2 bc ba 7 8 9 10,e4 bm,dH bF,c3 ch,eW cS] 0 (dQ (λr=>.cg []) (λr=>.cg [])) (dQ (λr=>[xy .done (some .ret) [(3,.aR 2 0),(5,.bA [dI 1 cH ag]),(6,.aR 3 0),(7,.aR 4 0)] 5,l8 6,l8 6,nC r.1,dK r.2.1,.cr ah,eH an al am aD a2 bc ba 7 8 9 10,e4 r.2.2,dH bF,c3 ch,eW cS]) (λr=>[xy .ready none [(3,.aR 2 0),(5,.bA [dI 1 cH ag]),(6,.aR 3 0),(7,.aR 4 0)] 5,l8 6,l8 6,nC r.1,dK r.2.1,.cr ah,eH an al am aD a2 bc ba 7 8 9 10,e4 r.2.2,dH bF,c3 ch,eW cS])):=.aY 1 func122 rfl ntmps122<|by
 intro _ _ _;refine a7 λZ=>?_;refine cJ (α:=(Int×Bool×Int×oY)) (λs=>[(16,aI s.1)]) (λH s=>((H.set 3 (nC s.2.1)).set 4 (dK s.2.2.1)).set 7 (e4 s.2.2.2)) [0,1,14,15] ?_;rintro⟨zO,F8,vS,uR⟩ n;refine fm ?_;refine a7 λad=>?_;refine a7 λaA=>?_;refine nu ?_ ?_
 ·refine a7 λaN=>?_;refine a7 λa0=>?_;refine a7 λbe=>?_;refine a7 λbL=>?_;refine pQ (λbJ=>?_) (λci=>?_)
  ·exact aW
  ·refine b4 ?_;exact .hS [11] ((aH (zO+1)),ci.1,ci.2.1,ci.2.2)
 ·refine b4 ?_;exact .hS [11] ((aH (zO+1)),F8,vS,uR)
instance ax3{J:ax}{ab ag ak ap an al am aD a2 bc ba bm bF}:ca (xU J ab ag ak ap an al am aD a2 bc ba bm bF) 45 [.aR 0 0,aI ab,bT 1 cH ag] [eH ak ap an al am aD a2 1 2 3 4,e4 bc,dH ba,c3 bm,eW bF] 0 (λr=>bs r.1) (λr=>[eH ak ap an al am aD a2 1 2 3 4,e4 r.2,dH ba,c3 bm,eW bF]):=.qh 7 func45 rfl ntmps45<|by
 intro _ _ _;refine gc ?_;refine a7 λZ=>?_;refine b4 ?_;refine .XP (H2:=λad=>[eH ak ap an al am aD a2 1 2 3 4,e4 ad.2.2,dH ba,c3 bm,eW bF,l8 0,nC ad.1,dK ad.2.1,l8 0,xy .done (some .ret) [(3,.aR 5 0),(5,.bA [dI 1 cH ag]),(6,.aR 6 0),(7,.aR 7 0)] 10,.cr ah,.bW]) (lM:=λaA=>[eH ak ap an al am aD a2 1 2 3 4,e4 aA.2.2,dH ba,c3 bm,eW bF,l8 0,nC aA.1,dK aA.2.1,l8 0,xy .ready none [(3,.aR 5 0),(5,.bA [dI 1 cH ag]),(6,.aR 6 0),(7,.aR 7 0)] 10,.cr ah,.bW]) 9 10 11 [9,8,5,6,7,10,0,1,2,3,4] [] [] rfl rfl rfl rfl (.s rfl (.s rfl (.s rfl (.s rfl .n)))) (λ_ _=>rfl) .fn rfl (λz h=>⟨fC.h h,.lf rfl,rfl,rfl⟩) (λz h=>⟨fC.h h,.lf rfl,rfl,rfl⟩) (bK rfl (bK rfl (bK rfl (bK rfl (bK rfl (bK rfl (bK rfl (bK rfl (bK rfl (bK rfl (bK rfl e6))))))))))) (bK rfl (bK rfl (bK rfl (bK rfl (bK rfl (bK rfl (bK rfl (bK rfl (bK rfl (bK rfl (bK rfl e6))))))))))) (λ_=>.mk rfl (by decide) rfl) (λ_=>.mk rfl (by decide) rfl) (λ_=>rfl) (λ_=>rfl) (λ_=>rfl) (λ_=>rfl) (λ_=>rfl) (λ_=>rfl) (λad ak2=>?_) (λaA abR=>?_)
 ·refine b4 ?_;refine .mC 11 rfl rfl rfl<|.kZ rfl<|?_;exact aW
 ·refine b4 ?_;refine .mC 11 rfl rfl rfl<|.kZ rfl<|?_;exact aW
instance ax4{U}:bG (CQ U) 89 [fw U] (λr=>.cg [fw r.1,bs r.2.1,bs r.2.2]):=.aY 0 func89 rfl ntmps89 aW
instance ax5{J:ax}{U aj}:bG (Lm J U aj) 133 [bT 2 b7 U,aI aj] (bT 2 b7):=.aY 1 func133 rfl ntmps133<|by
 intro _ _ _;refine gL ?_ ?_
 ·exact .br
 ·refine a7 λZ=>?_;refine gL ?_ ?_
  ·exact .br
  ·refine b4 ?_;refine .oS (λz h=>X5 (i:=0) (jc:=b7) to Qz Qw rfl (by decide) rfl rfl (λ_ _=>X6 (cs:=[.int .u8 0,.int .i64 0])) h) (λ_=>da rfl) rfl λad=>?_;refine b4 ?_;refine .oS (λz h=>Jb (f:=(λxs=>xs.flatMap b7)) (e:=b7) 0 runUnderlying29 sizeOf64 to FD (λ_=>rfl) rfl rfl qf h) (λ_=>da rfl) rfl λaA=>?_;refine cJ (α:=(Int×cd)) (λs=>[(8,aI s.1)]) (λH s=>H.set 0 (.bu 64 (s.2.flatMap b7))) [7] ?_;rintro⟨b6,jl⟩ n;refine gL ?_ ?_
   ·refine b4 ?_;refine .oS (λz h=>P5 0 runUnderlying29 sizeOf64 rfl rfl h) (λ_=>e6) .n λ_=>?_;refine b4 ?_;refine .oS (λz h=>P6 0 runUnderlying29 sizeOf64 rfl rfl h) (λ_=>e6) .n λ_=>.oS (λz h=>P3 (f:=(λxs=>xs.flatMap b7)) (e:=b7) (0+b6.toNat) 0 runUnderlying29 sizeOf64 to FD (λ_=>rfl) rfl rfl h) (λ_=>da rfl) .n λbe=>?_;exact aW
   ·refine b4 ?_;refine .zm (l':=[]) (x:=λ_=>.dX 0 0 ad.length ad.length) (y:=λz=>bT 2 b7 z) 4 b7 (λxs=>xs.flatMap b7) to (λ_=>rfl) rfl rfl (λz h=>.a) .n rfl rfl rfl λbL=>?_;exact aW
instance ax6{ab ag ak ap an al}:vO (Lq ab ag ak ap an al) [aI ab,aI ag] [Fv .ready none [(7,.aR 1 0),(9,.aR 2 0)] 3,Cn ak,.cells 107 [.aR 4 0],.cr ah,kK ap an 5,dH al] (λr=>bs ah) (λr=>[Fv .ready none [(7,.aR 1 0),(9,.aR 2 0)] 3,Cn r.1,.cells 107 [.aR 4 0],.cr ah,kK ap an 5,dH r.2]):=.aY 0<|by intro _ _ _;refine .seq<|.region<|?_;refine kJ ?_;refine .nil<|.i7<|.region<|?_;refine kJ ?_;refine .nil<|.XK trivial rfl<|.iQ<|.open 5 rfl λax7 ax8 abS ak3=>?_;refine a7 λad=>?_;refine a7 λaA=>?_;refine .aC (YV (k:=ab) rfl rfl rfl) (da rfl) .n<|?_;refine b4 ?_;refine .aC (YW (k:=ab) (a:=ad) abS ak3 rfl rfl rfl .gp) (da rfl) .n<|?_;refine kJ ?_;refine .nil (by kernel_rfl)<|.Ya 5 (P9 abS) (λ_=>.inr ⟨_,rfl⟩) rfl<|?_;exact aW
instance ax9{ab ag ak ap an al am aD a2 bc ba}:ca (aaJ ab ag ak ap an al am aD a2 bc ba) 79 [.aR 0 2] [eH ab ag ak ap an al am 1 2 3 4,e4 aD,dH a2,c3 bc,eW ba] 0 (λr=>.cg []) (λr=>[eH ab ag ak r.1 r.2 al am 1 2 3 4,e4 aD,dH a2,c3 bc,eW ba]):=.aY 0 func79 rfl ntmps79 aW
instance aya{J:ax}{ab ag}:ca (CT J ab ag) 133 [bT 2 b7 ab,aI ag] [] 1 (λr=>.dX 0 0 r.1 r.1) (λr=>[.bu 64 (r.2.flatMap b7)]):=.aY 1 func133 rfl ntmps133<|by
 intro _ _ _;refine gL ?_ ?_
 ·exact .br
 ·refine a7 λZ=>?_;refine gL ?_ ?_
  ·exact .br
  ·refine b4 ?_;refine .oS (λz h=>X5 (i:=0) (jc:=b7) to Qz Qw rfl (by decide) rfl rfl (λ_ _=>X6 (cs:=[.int .u8 0,.int .i64 0])) h) (λ_=>da rfl) rfl λad=>?_;refine b4 ?_;refine .oS (λz h=>Jb (f:=(λxs=>xs.flatMap b7)) (e:=b7) 0 runUnderlying29 sizeOf64 to FD (λ_=>rfl) rfl rfl qf h) (λ_=>da rfl) rfl λaA=>?_;refine cJ (α:=(Int×cd)) (λs=>[(8,aI s.1)]) (λH s=>H.set 0 (.bu 64 (s.2.flatMap b7))) [7] ?_;rintro⟨b6,jl⟩ n;refine fm ?_;refine b4 ?_;refine .oS (λz h=>P5 0 runUnderlying29 sizeOf64 rfl rfl h) (λ_=>e6) .n λ_=>?_;refine b4 ?_;refine .oS (λz h=>P6 0 runUnderlying29 sizeOf64 rfl rfl h) (λ_=>e6) .n λ_=>.oS (λz h=>P3 (f:=(λxs=>xs.flatMap b7)) (e:=b7) (0+b6.toNat) 0 runUnderlying29 sizeOf64 to FD (λ_=>rfl) rfl rfl h) (λ_=>da rfl) .n λbe=>?_;exact aW
instance ayb{ab ag}:ca (Lw ab ag) 135 [bT 2 b7 ab,aI ag] [] 0 (λr=>.fn (.func 185) [] [.bA [dI 2 b7 r.1],.bA [bD r.2]]) (λ_=>[]):=.aY 0 func135 rfl ntmps135<|by intro _ _ _;refine fm ?_;exact .br
instance ayc{J:ax}{U aj}:bG (Gg J U aj) 40 [bT 1 cH U,bT 1 cH aj] bs:=.aY 0 func40 rfl ntmps40<|by intro _ _ _;refine cp ?_;refine cJ (α:=Int) (λs=>[(5,aI s)]) (λH _=>H) [0,1] ?_;rintro cb n;exact aW
instance ayd{J:ax}{U aj}:bG (uT J U aj) 13 [.agg ((du U).map .p),.agg ((du aj).map .p)] bs:=.aY 2 func13 rfl ntmps13<|by intro _ _ _;refine mF ?_;refine a7 λZ=>?_;refine cp ?_;refine cJ (α:=Int) (λs=>[(5,aI s)]) (λH _=>H) [2,3] ?_;rintro cb n;refine fm ?_;refine a7 λad=>?_;refine a7 λaA=>?_;refine q9 ?_;refine q9 ?_;refine q9 ?_;refine mF ?_;refine a7 λaN=>?_;refine cp ?_;refine b4 ?_;exact .hS [0,1] (aH (cb+1))
instance aye{J:ax}{U aj}:bG (uU J U aj) 14 [bT 1 cH U,bT 1 cH aj] bs:=.aY 0 func14 rfl ntmps14<|by intro _ _ _;refine cp ?_;refine cJ (α:=Int) (λs=>[(5,aI s)]) (λH _=>H) [0,1] ?_;rintro cb n;exact aW
instance ayf{J:ax}{U}:bG (LF J U) 209 [.agg ((du U).map .p)] (bT 1 cH):=.aY 1 func209 rfl ntmps209<|by intro _ _ _;refine cu ?_;refine kt ?_;refine nA (α:=(oZ×Nat)) (λs=>[(3,cT 1 cH s.1.1 0 s.2),(4,aI s.1.2)]) (λH s=>H.set 0 (.bl 3 1 s.2)) [1] ((([]:List Int),0),0) ?_;rintro⟨⟨eX,dV⟩,tA⟩ n;refine fm ?_;refine a7 λZ=>?_;refine cJ (α:=(Int×Int)) (λs=>[(6,aI s.1),(7,aI s.2)]) (λH _=>H) [1,3,4,5] ?_;rintro⟨i8,m5⟩ n;exact aW
instance ayg{U}:bG (zZ U) 258 [fw U] bs:=.aY 0 func258 rfl ntmps258 aW
instance ayh{U}:bG (m8 U) 261 [.agg ((jy U).map .p)] bs:=.aY 0 func261 rfl ntmps261 aW
instance ayi{U aj}:bG (C6 U aj) 111 [.agg ((du U).map .p),aI aj] bs:=.aY 0 func111 rfl ntmps111 aW
instance ayj{U}:bG (nH U) 153 [fw U] (λr=>.cg [bT 1 fk r.1,cG r.2.1,bs r.2.2]):=.aY 0 func153 rfl ntmps153 aW
instance ayk{J:ax}{U aj}:bG (x5 J U aj) 154 [bT 1 fk U,bT 1 fk aj] bs:=.aY 0 func154 rfl ntmps154<|by intro _ _ _;refine cp ?_;refine cJ (α:=Int) (λs=>[(5,aI s)]) (λH _=>H) [0,1] ?_;rintro cb n;exact aW
theorem ak4{LU} [ak5:QK LU]{U}:bG (abg J LU U) 175 [aI U] cG:=.aY 0 func175 rfl ntmps175<|by intro _ _ _;refine a7 λZ=>?_;refine b4 ?_;refine .q (ahQ runUnderlying114 runUnderlying9 runUnderlying5 rfl qf) rfl<|?_;exact aW
theorem ak6(k:Nat):QK (SG J k):=by
  induction k with
  |zero=>(repeat intro _);exact .br rfl
  |succ k bB=>(repeat intro _);exact ak4 (ak5:=bB)
instance ayl{J:ax}:QK (SH J):=ak6 J.n
instance aym{J:ax}{U aj}:bG (C7 J U aj) 125 [cG U,aI aj] cG:=.aY 0 func125 rfl ntmps125 aW
theorem ak7{LW} [ak8:QL LW]{U aj}:bG (LV J LW U aj) 81 [.agg ((du U).map .p),aI aj] cG:=.aY 1 func81 rfl ntmps81 aW
theorem ak9(k:Nat):QL (Gm J k):=by
  induction k with
  |zero=>(repeat intro _);exact .br rfl
  |succ k bB=>(repeat intro _);exact ak7 (ak8:=bB)
instance ayn{J:ax}:QL (z_ J):=ak9 J.n
instance ayo{J:ax}{U aj a6}:bG (C8 J U aj a6) 155 [.agg ((du U).map .p),bT 1 fk aj,aI a6] cG:=.aY 1 func155 rfl ntmps155 aW
instance ayp{J:ax}{U aj}:bG (LX J U aj) 127 [.agg ((du U).map .p),cG aj] aI:=.aY 1 func127 rfl ntmps127<|by intro _ _ _;refine cJ (α:=Int) (λs=>[(5,aI s)]) (λH _=>H) [1,2] ?_;rintro cb n;refine fm ?_;refine a7 λZ=>?_;refine a7 λad=>?_;refine cp ?_;refine b4 ?_;exact .hS [0] (aH (cb+1))
instance ayq{U}:bG (sr U) 87 [aI U] (λr=>.agg ((b7 r).map .p)):=.aY 1 func87 rfl ntmps87 aW
instance ayr{J:ax}{U aj}:bG (v5 J U aj) 84 [.agg ((b7 U).map .p),aI aj] (bT 2 b7):=.aY 1 func84 rfl ntmps84<|by intro _ _ _;refine cu ?_;refine kt ?_;refine nA (α:=((cd×Int)×Nat)) (λs=>[(5,cT 2 b7 s.1.1 0 s.2),(6,aI s.1.2)]) (λH s=>H.set 0 (.bl 64 2 s.2)) [1,2] ((([]:List bt),0),0) ?_;rintro⟨⟨cb,gt⟩,tA⟩ n;exact aW
instance ays{U}:bG (SM U) 138 [fw U] (λr=>.cg [fw r.1,bs r.2]):=.aY 0 func138 rfl ntmps138 aW
instance ayt{U}:bG (Da U) 85 [fw U] (λr=>.agg ((b7 r).map .p)):=.aY 1 func85 rfl ntmps85 aW
instance ayu{U}:bG (Db U) 187 [aI U] (λr=>.agg ((b7 r).map .p)):=.aY 1 func187 rfl ntmps187 aW
instance ayv{U}:bG (Dc U) 140 [bs U] (λr=>.agg ((b7 r).map .p)):=.aY 1 func140 rfl ntmps140 aW
instance ayw{J:ax}{U aj}:bG (Md J U aj) 188 [aI U,aI aj] aI:=.aY 0 func188 rfl ntmps188<|by
 intro _ _ _;refine .seq<|.region<|?_;refine fl ?_;refine .fb (β:=(Int×Int)) (λs=>[(0,aI s.1),(1,aI s.2)]) (λH _=>H) [] (Gs J) ?_ ?_
 ·rintro⟨rm,ma⟩;refine cJ (α:=Int) (λs=>[(5,aI s)]) (λH _=>H) [0,1] ?_;rintro i_ n;refine cp ?_;refine cJ (α:=Int) (λs=>[(5,aI s)]) (λH _=>H) [0,1] ?_;rintro j7 n;exact aW
 ·intro j;exact aW
instance ayx{J:ax}{U aj a6}:bG (o6 J U aj a6) 139 [fw U,.agg ((b7 aj).map .p),.agg ((b7 a6).map .p)] (λr=>.agg ((b7 r).map .p)):=.aY 1 func139 rfl ntmps139 aW
instance ayy{U aj}:bG (Dd U aj) 100 [fw U,.agg ((b7 aj).map .p)] (λr=>.agg ((b7 r).map .p)):=.aY 1 func100 rfl ntmps100 aW
instance ayz{J:ax}{g_} [ME:Cq g_]{ab ag ak ap an al am aD a2 bc ba bm bF ch cS}:ca (Me J g_ ab ag ak ap an al am aD a2 bc ba bm bF ch cS) 98 [.aR 0 0,.agg ((jy ab).map .p),.agg ((xA ag).map .p),aI ak,aI ap] [lO an al am aD a2 bc bm 1 ba bF ch cS,.bl 29 1 ba] 0 (λr=>.agg ((b7 r.1).map .p)) (λr=>[lO an al am aD a2 bc bm 1 ba r.2.1 r.2.2.1 r.2.2.2,.bl 29 1 ba]):=.aY 3 func98 rfl ntmps98<|by
 intro _ _ _;refine a7 λZ=>?_;refine a7 λad=>?_;refine a7 λaA=>?_;refine a7 λaN=>?_;refine fl ?_;refine .fb (β:=Unit) (λ_=>[]) (λH _=>H) [0,3,4,6,7,10,11,12,13] (x7 ab g_ ag ak ap an al am aD a2 bc ba bm aA J Z aN) ?_ ?_
 ·rintro⟨⟩;exact aW
 ·intro j;exact aW
instance ayA{J:ax}{g_} [ME:Cq g_]{ab ag ak ap an al am aD a2 bc ba bm bF ch cS i9}:ca (Mf J g_ ab ag ak ap an al am aD a2 bc ba bm bF ch cS i9) 99 [.aR 0 0,.agg ((jy ab).map .p),aI ag,.agg ((xA ak).map .p),aI ap,aI an] [lO al am aD a2 bc ba bF 1 bm ch cS i9,.bl 29 1 bm] 0 (λr=>bT 2 b7 r.1) (λr=>[lO al am aD a2 bc ba bF 1 bm r.2.1 r.2.2.1 r.2.2.2,.bl 29 1 bm]):=.aY 1 func99 rfl ntmps99 aW
instance ayB{U aj a6}:bG (Gt U aj a6) 86 [.agg ((xA U).map .p),aI aj,bT 2 b7 a6] (λr=>.agg ((xA r).map .p)):=.aY 3 func86 rfl ntmps86<|by intro _ _ _;refine cu ?_;refine kt ?_;refine a7 λZ=>?_;refine a7 λad=>?_;refine kt ?_;exact aW
instance ayC{J:ax}{U aj a6}:bG (Mh J U aj a6) 102 [bT 2 b7 U,aI aj,.agg ((b7 a6).map .p)] (bT 2 b7):=.aY 1 func102 rfl ntmps102<|by intro _ _ _;refine cu ?_;refine kt ?_;refine nA (α:=((cd×Int)×Nat)) (λs=>[(7,cT 2 b7 s.1.1 0 s.2),(8,aI s.1.2)]) (λH s=>H.set 0 (.bl 64 2 s.2)) [0,1,5] ((([]:List bt),0),0) ?_;rintro⟨⟨hT,b6⟩,tA⟩ n;exact aW
instance ayD{J:ax}{g_} [ME:Cq g_]{ab ag ak ap an al am aD a2 bc ba bm bF ch cS i9}:ca (Df J g_ ab ag ak ap an al am aD a2 bc ba bm bF ch cS i9) 55 [.aR 0 0,aI ab,bT 1 (kF 2 b7) ag,aI ak,aI ap,aI an] [lO al am aD a2 bc ba bF 1 bm ch cS i9,.bl 29 1 bm] 0 (λr=>bT 2 b7 r.1) (λr=>[lO al am aD a2 bc ba bF 1 bm r.2.1 r.2.2.1 r.2.2.2,.bl 29 1 bm]):=.aY 2 func55 rfl ntmps55<|by
 intro _ _ _;refine a7 λZ=>?_;refine fl ?_;refine .fb (β:=(Int×Int)) (λs=>[(15,aI s.1)]) (λH s=>H.set 2 (fA s.2 Z.bi Z.n Z.a3 Z.dx)) [0,1,2,3,13,14] (De Z J ak ch cS i9 ag g_ ab al am aD a2 bc ba bm bF) ?_ ?_
 ·rintro⟨Gu,akD⟩;refine cp ?_;refine .skip<|.i7<|.seq<|.seq<|.region<|?_;refine kJ ?_;refine .nil<|.i7<|.iQ<|.zp 3 0 (bT 1 cH ([]:List Int)) rfl rfl .nil<|.zp 3 1 (bT 1 (kF 2 b7) ([]:List cd)) rfl rfl .nil<|?_;refine cJ (α:=(Int×List Int×List cd)) (λs=>[(16,aI s.1)]) (λH s=>H.set 3 (.cells 111 [bT 1 cH s.2.1,bT 1 (kF 2 b7) s.2.2])) [0,1,2,13,14,15] ?_;rintro⟨Gv,SP,SQ⟩ n;exact aW
 ·intro j;exact aW
end
end Go.Proofs.YtgfggdcbhjhegaaGreatDoor

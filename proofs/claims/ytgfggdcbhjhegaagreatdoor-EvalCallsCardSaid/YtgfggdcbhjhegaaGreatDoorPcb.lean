/- The functions of the program compute what their models say. -/
import Derived.Test.YtgfggdcbhjhegaaGreatDoorPba
import Derived.Test.YtgfggdcbhjhegaaGreatDoorPbb
import Derived.Test.YtgfggdcbhjhegaaGreatDoorPbc
set_option linter.all false
set_option maxRecDepth 100000
set_option maxHeartbeats 4000000
namespace Go.Proofs.YtgfggdcbhjhegaaGreatDoor
open Go Go.Mi Go.RowKit Go.Dp Tryz Go.Proofs.Tryz
noncomputable section
attribute [local irreducible] bI cW co bZ
instance aBv{J:ax}{ab ag ak ap an al am aD a2 bc ba bm bF}:ca (Sm J ab ag ak ap an al am aD a2 bc ba bm bF) 123 [.fW 0,.aR 1 0,.bA [bD ab]] [Fx .ready none [(4,.aR 2 0)] 3,l8 4,dK ag,.cr true,eH ak ap an al am aD a2 5 6 7 8,e4 bc,dH ba,c3 bm,eW bF] 0 (λr=>.cg []) (λr=>[Fx .ready none [(4,.aR 2 0)] 3,l8 4,dK r.1,.cr true,eH ak ap an al am aD a2 5 6 7 8,e4 bc,dH ba,c3 r.2,eW bF]):=.aY 0 func123 rfl ntmps123<|by intro _ _ _;refine a7 λZ=>?_;refine a7 λad=>?_;refine cJ (α:=(Int×Int×List di)) (λs=>[(22,aI s.1)]) (λH s=>(H.set 2 (dK s.2.1)).set 7 (c3 s.2.2)) [0,1,20,21] ?_;rintro⟨vY,jM,uR⟩ n;exact aW
instance aBw{J:ax}{ab ag ak ap an al am aD a2 bc ba bm}:ca (LB J ab ag ak ap an al am aD a2 bc ba bm) 48 [.aR 0 0,aI ab] [eH ag ak ap an al am aD 1 2 3 4,e4 a2,dH bc,c3 ba,eW bm] 0 (λr=>aI r.1) (λr=>[eH ag ak ap an al am aD 1 2 3 4,e4 a2,dH bc,c3 r.2,eW bm]):=.qh 5 func48 rfl ntmps48<|by
 intro _ _ _;refine a7 λZ=>?_;refine b4 ?_;refine .range (H2:=λad=>[eH ag ak ap an al am aD 1 2 3 4,e4 a2,dH bc,c3 ad.2,eW bm,dK ad.1,l8 0,Fx .ready none [(4,.aR 5 0)] 8,.cr true,.bW]) 7 8 9 [7,6,5,8,0,1,2,3,4] [] rfl rfl rfl rfl (.s rfl .n) (λ_ _=>rfl) .fn rfl (λz h=>⟨fC.h h,.lf rfl,rfl,rfl⟩) (bK rfl (bK rfl (bK rfl (bK rfl (bK rfl (bK rfl (bK rfl (bK rfl (bK rfl e6))))))))) (λ_=>.mk rfl (by decide) rfl) (λ_=>rfl) (λ_=>rfl) (λ_=>rfl) (λad alD=>?_)
 ·refine b4 ?_;refine .mC 9 rfl rfl rfl<|.kZ rfl<|?_;exact aW
instance aBx{J:ax}{U}:bG (uV J U) 70 [.agg ((du U).map .p)] (λr=>.cg [.agg ((Cf r.1).map .p),aI r.2.1,aI r.2.2]):=.aY 4 func70 rfl ntmps70<|by intro _ _ _;refine a7 λZ=>?_;refine cp ?_;refine .skip<|.i7<|.seq<|.region<|?_;refine kJ ?_;refine .nil<|.i7<|.seq<|.seq<|.region<|?_;refine kJ ?_;refine .nil<|.i7<|.iQ<|.xe cH 3 1 1 0 2 rfl rfl rfl<|?_;refine nA (α:=(mH×Nat)) (λs=>[(7,aI s.1.1)]) (λH s=>(H.set 1 (.cells 77 [cT 1 cH s.1.2 2 s.2])).set 2 (.bl 3 1 s.2)) [1,2,6] ((0,[]),0) ?_;rintro⟨⟨hT,SF⟩,fi⟩ n;refine fm ?_;refine a7 λad=>?_;refine cp ?_;refine a7 λaA=>?_;refine kt ?_;refine a7 λaN=>?_;refine b4 ?_;exact .hS [3] (((aH (hT+1)),aN),fi+1)
instance aBy{J:ax}{U}:bG (tx J U) 69 [.agg ((du U).map .p)] (λr=>.cg [.agg ((YM r.1).map .p),aI r.2.1,aI r.2.2]):=.aY 3 func69 rfl ntmps69<|by
 intro _ _ _;refine a7 λZ=>?_;refine cp ?_;refine JA ?_;refine .ain 2 runUnderlying78 sizeOf9 zeroValue9 rfl rfl rfl<|?_;refine nA (α:=((dl×Int)×Nat)) (λs=>[(8,gs s.1.1.length 2 s.2),(9,aI s.1.2)]) (λH s=>H.set 2 (.hf 9 1 s.2 (s.1.1.map eV))) [1,2,5] (([],0),1) ?_;rintro⟨⟨b6,gE⟩,Mq⟩ n;refine gL ?_ ?_
 ·refine b4 ?_;refine .aio eV JQ JK rfl rfl (by rfl) rfl rfl (λ_=>rfl) rfl rfl rfl rfl λad=>?_;refine a7 λaA=>?_;refine gL ?_ ?_
  ·refine b4 ?_;refine .Fm eV fk (λz h=>(fC.p (av:=prog) h:)) (λ_ _=>rfl) rfl (r3 (λ_=>rfl) _).symm (.s rfl (.s rfl (.b rfl (.s rfl .n)))) rfl rfl λaN=>.aip ad runUnderlying78 sizeOf9 rfl rfl rfl rfl λa0=>?_;refine .aiq aN a0 sizeOf9 rfl rfl rfl rfl<|.Jl 8 (ad.set a0.1.1 aN).length rfl (by simp)<|.Jl 32 (ad.set a0.1.1 aN).length rfl (by simp)<|.Jl 36 (ad.set a0.1.1 aN).length rfl (by simp)<|.Jl 40 (ad.set a0.1.1 aN).length rfl (by simp)<|?_;refine b4 ?_;refine .Fm eV fk (λz h=>(fC.p (av:=prog) h:)) (λ_ _=>rfl) rfl (r3 (λ_=>rfl) _).symm (.s rfl (.b rfl (.s rfl .n))) rfl rfl λbe=>?_;exact aW
  ·refine b4 ?_;refine .Fm eV fk (λz h=>(fC.p (av:=prog) h:)) (λ_ _=>rfl) rfl (r3 (λ_=>rfl) _).symm (.s rfl (.b rfl (.s rfl .n))) rfl rfl λbL=>?_;exact aW
 ·refine .exit<|.un<|.up<|.rV<|.i7<|.seq<|.Qd 8 fk b6 rfl (r3 (λ_=>rfl) _).symm rfl rfl (by simp)<|?_;exact aW
instance aBz{J:ax}{U}:bG (Ma J U) 41 [.agg ((du U).map .p)] (λr=>.cg [aI r.1,aI r.2]):=.aY 3 func41 rfl ntmps41<|by
 intro _ _ _;refine a7 λZ=>?_;refine cp ?_;refine a7 λad=>?_;refine cJ (α:=zA) (λs=>[(10,aI s.1),(11,aI s.2.1),(12,aI s.2.2.1),(13,aI s.2.2.2)]) (λH _=>H) [1,7] ?_;rintro⟨h_,kn,kM,h0⟩ n;refine fm ?_;refine a7 λaA=>?_;refine a7 λaN=>?_;refine fl ?_;refine .fb (β:=zA) (λs=>[(10,aI s.1),(11,aI s.2.1),(12,aI s.2.2.1)]) (λH s=>H.set 2 (fA s.2.2.2 aN.bi aN.n aN.a3 aN.dx)) [1,7,13] (rx U h0 J ad) ?_ ?_
 ·rintro⟨mI,m6,lp,jM⟩;refine q9 ?_;refine q9 ?_;refine mF ?_;refine a7 λbe=>?_;refine cp ?_;refine b4 ?_;exact .hS [2] (mI,m6,lp,(aH (h0+1)))
 ·intro j;exact aW
instance aBA{J:ax}{U}:bG (sq J U) 15 [.agg ((du U).map .p)] aI:=.aY 0 func15 rfl ntmps15 aW
instance aBB{J:ax}{ab ag}:ca (x6 J ab ag) 42 [.agg ((du ab).map .p),bT 1 cH ag] [] 2 (λr=>.aR 0 0) (λr=>[lO r.1 r.2.1 r.2.2.1 r.2.2.2.1 r.2.2.2.2.1 r.2.2.2.2.2.1 r.2.2.2.2.2.2.1 1 r.2.2.2.2.2.2.2.1 r.2.2.2.2.2.2.2.2.1 r.2.2.2.2.2.2.2.2.2.1 r.2.2.2.2.2.2.2.2.2.2,.bl 29 1 r.2.2.2.2.2.2.2.1]):=.aY 4 func42 rfl ntmps42<|by
 intro _ _ _;refine cu ?_;refine gc ?_;refine kJ ?_;refine .nil<|.i7<|.seq<|.xe cH 3 1 0 4 1 rfl rfl rfl<|.xe (kF 2 b7) 29 1 0 6 2 rfl rfl rfl<|?_;refine a7 λZ=>?_;refine a7 λad=>?_;refine cJ (α:=(Int×List Int×Nat)) (λs=>[(6,aI s.1)]) (λH s=>(H.set 0 (.cells 82 [bT 5 jy ab.nodes,bT 1 cH ab.aX,bT 1 cH Z.1.jk,bT 1 fk ad.1.Ch,cT 1 cH s.2.1 1 s.2.2,bT 1 cH ag,cT 1 (kF 2 b7) [] 2 0,aI 0,aI 0,aI 0])).set 1 (.bl 3 1 s.2.2)) [2,5] ?_;rintro⟨gt,ix,gQ⟩ n;refine gL ?_ ?_
 ·refine .skip<|?_;refine fl ?_;refine .seq<|.iQ<|.seq<|.region<|?_;refine fl ?_;refine .fb (β:=Int) (λs=>[(7,aI s)]) (λH _=>H) [2,5,6] (Gr ix gt gQ) ?_ ?_
  ·rintro m5;refine kt ?_;refine a7 λaA=>?_;refine b4 ?_;exact .hS [3] ((aH (gt+1)),aA,gQ+1)
  ·intro j;exact aW
 ·refine .exit<|.un<|.up<|.rV<|.i7<|.seq<|.region<|?_;refine kJ ?_;refine .nil<|.i7<|.ret<|.zp 0 4 (bT 1 cH ix) rfl rfl .IA<|?_;exact aW
end
end Go.Proofs.YtgfggdcbhjhegaaGreatDoor

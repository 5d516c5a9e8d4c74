/- The functions of the program compute what their models say. -/
import Derived.Test.YtgfggdcbhjhegaaGreatDoorPaa
import Derived.Test.YtgfggdcbhjhegaaGreatDoorPab
import Derived.Test.YtgfggdcbhjhegaaGreatDoorPac
set_option linter.all false
set_option maxRecDepth 100000
set_option maxHeartbeats 4000000
namespace Go.Proofs.YtgfggdcbhjhegaaGreatDoor
open Go Go.Mi Go.RowKit Go.Dp Tryz Go.Proofs.Tryz
open Bool renaming true->ah
open Option renaming some->D,none->aF
open Sum renaming elim->dQ
noncomputable section
attribute [local irreducible] bI cW co bZ
instance aAy{J:ax}{ab ag ak ap an al am aD}:ca (Zj J ab ag ak ap an al am aD) 248 [.aR 0 0,.agg ((mG ab).map .p)] [dq ag ak ap al 1 an aD 2 am,.bl 40 5 an,.bl 3 1 am] 0 (λr=>aI r.1) (λr=>[dq ag ak r.2.1 r.2.2.1 1 r.2.2.2 aD 2 am,.bl 40 5 r.2.2.2,.bl 3 1 am]):=.aY 1 func248 rfl ntmps248 aW
instance aAz{J:ax}{U aj}:bG (Kp J U aj) 264 [.agg ((du U).map .p),aI aj] bs:=.aY 3 func264 rfl ntmps264<|by
 intro _ _ _;refine a7 λZ=>?_;refine a7 λad=>?_;refine fl ?_;refine .fb (β:=Unit) (λ_=>[]) (λH _=>H) [1,2,5,6] (FU J Z aj U ad) ?_ ?_
 ·rintro⟨⟩;refine .seq<|.region<|?_;refine fl ?_;refine .fb (β:=(oZ×Nat)) (λs=>[(8,cT 1 jJ s.1.1 2 s.2)]) (λH s=>(H.set 0 (fA s.1.2 Z.bi Z.n Z.a3 Z.dx)).set 2 (.bl 5 1 s.2)) [5,6] ((λ((uM,o1),fi)=>Rk J ad Z (uM,o1))) ?_ ?_
  ·rintro⟨⟨uM,o1⟩,fi⟩;exact aW
  ·intro j;refine .seq<|.region<|?_;refine kJ ?_;refine .nil<|.i7<|.iQ<|.BB jJ 5 1 2 8 rfl rfl<|?_;refine nA (α:=(oZ×Nat)) (λs=>[(8,cT 1 jJ s.1.1 2 s.2),(50,aI s.1.2)]) (λH s=>H.set 2 (.bl 5 1 s.2)) [1,2,5,6,48,49] (([],0),0) ?_;rintro⟨⟨Kn,Ko⟩,aln⟩ n;refine cp ?_;exact .exit<|.un<|.up<|.rV<|.re j [] ((Kn,Z.kind),aln)
 ·intro j;refine mF ?_;refine a7 λcP=>?_;refine b4 ?_;refine .or (r:=(!(ad.1.named==(!decide (Z.bi=(⟨#[]⟩:ByteArray)))))) 7 36 29 rfl (λc=>?_) (λc=>?_) ?_
  ·refine b4 ?_;refine .q (I1 runUnderlying4 rfl rfl) rfl<|?_;exact aW
  ·exact aW
  ·exact aW
instance aAA{J:ax}{U}:bG (Ku J U) 216 [.agg ((du U).map .p)] aI:=.aY 0 func216 rfl ntmps216<|by
 intro _ _ _;refine a7 λZ=>?_;refine cp ?_;refine .skip<|?_;refine fl ?_;refine .fb (β:=Unit) (λ_=>[]) (λH _=>H) [1] (Cz J U) ?_ ?_
 ·rintro⟨⟩;exact aW
 ·intro j;refine cJ (α:=Int) (λs=>[(9,aI s)]) (λH _=>H) [1,8] ?_;rintro rn n;exact aW
instance aAB{J:ax}{ab}:ca (FX J ab) 172 [.agg ((du ab).map .p)] [] 3 (dQ (λr=>.cg [.p (.v (.pointer aF)),aI r]) (λr=>.cg [.aR 0 0,aI r.1])) (dQ (λ_=>[]) (λr=>[dU r.2.1 r.2.2.1 1 r.2.2.2.1 r.2.2.2.1 2 r.2.2.2.2.1 r.2.2.2.2.1,.bu 3 (r.2.2.2.2.2.1.map bD),.bu 3 (r.2.2.2.2.2.2.map bD)])):=.aY 6 func172 rfl ntmps172<|by intro _ _ _;refine a7 λZ=>?_;refine cp ?_;refine kt ?_;refine a7 λad=>?_;refine kt ?_;refine a7 λaA=>?_;refine gc ?_;refine cJ (α:=mH) (λs=>[(31,aI s.1)]) (λH s=>H.set 1 (.bu 3 (s.2.map bD))) [5,29,30] ?_;rintro⟨xO,pT⟩ n;refine fm ?_;refine a7 λaN=>?_;refine cJ (α:=mH) (λs=>[(39,aI s.1)]) (λH s=>H.set 1 (.bu 3 (s.2.map bD))) [5,6,29,30,31,37,38] ?_;rintro⟨Kv,FW⟩ n;refine cp ?_;refine b4 ?_;exact .hS [5] ((aH (xO+1)),FW)
instance aAC{J:ax}{ab ag ak ap an al am aD a2 bc ba bm bF ch}:vO (Rw J ab ag ak ap an al am aD a2 bc ba bm bF ch) [aI ab,aI ag] [qq .ready aF [(1,.aR 1 0),(3,.aR 2 0)] 3,c4 4,m4,.cr ah,dU ak ap 6 an an 7 al al,g8 .ready aF [(2,.aR 8 0),(4,.aR 9 0),(5,.aR 10 0)] 11,.bu 3 (am.map bD),.bu 3 (aD.map bD),c4 4,dK a2,fA bc ba bm bF ch,.cr ah] (dQ (λr=>bs ah) (dQ (λr=>bs false) (λr=>bs false))) (dQ (λr=>[qq .ready aF [(1,.aR 1 0),(3,.aR 2 0)] 3,c4 4,m4,.cr ah,dU ak ap 6 an an 7 al al,g8 .ready aF [(2,.aR 8 0),(4,.aR 9 0),(5,.aR 10 0)] 11,.bu 3 (am.map bD),.bu 3 (aD.map bD),c4 4,dK r,fA bc ba bm bF ch,.cr ah]) (dQ (λr=>[qq .done (D .ret) [(1,.aR 1 0),(3,.aR 2 0)] 3,c4 4,m4,.cr ah,dU ak ap 6 an an 7 al al,g8 .done (D .ret) [(2,.aR 8 0),(4,.aR 9 0),(5,.aR 10 0)] 11,.bu 3 (am.map bD),.bu 3 (aD.map bD),c4 4,dK r,fA bc ba bm bF ch,.cr ah]) (λr=>[qq .done (D .ret) [(1,.aR 1 0),(3,.aR 2 0)] 3,c4 4,m4,.cr ah,dU ak ap 6 an an 7 al al,g8 .done (D (.exit 0)) [(2,.aR 8 0),(4,.aR 9 0),(5,.aR 10 0)] 11,.bu 3 (am.map bD),.bu 3 (aD.map bD),c4 4,dK r,fA bc ba bm bF ch,.cr ah]))):=.aY 2<|by
 intro _ _ _;refine a7 λZ=>?_;refine b4 ?_;refine .ahH (H2:=λad=>[qq .busy aF [(1,.aR 1 0),(3,.aR 2 0)] 3,c4 4,m4,.cr ah,dU ak ap 6 an an 7 al al,g8 .ready aF [(2,.aR 8 0),(4,.aR 9 0),(5,.aR 10 0)] 11,.bu 3 (am.map bD),.bu 3 (aD.map bD),c4 4,dK ad,fA bc ba bm bF ch,.cr ah,c4 4,tk .ready aF [(3,.aR 2 0)] 3]) (lM:=λaA=>[qq .busy aF [(1,.aR 1 0),(3,.aR 2 0)] 3,c4 4,m4,.cr ah,dU ak ap 6 an an 7 al al,g8 .done (D .ret) [(2,.aR 8 0),(4,.aR 9 0),(5,.aR 10 0)] 11,.bu 3 (am.map bD),.bu 3 (aD.map bD),c4 4,dK aA,fA bc ba bm bF ch,.cr ah,c4 4,tk .done (D .ret) [(3,.aR 2 0)] 3]) (qp:=λaN=>[qq .busy aF [(1,.aR 1 0),(3,.aR 2 0)] 3,c4 4,m4,.cr ah,dU ak ap 6 an an 7 al al,g8 .done (D (.exit 0)) [(2,.aR 8 0),(4,.aR 9 0),(5,.aR 10 0)] 11,.bu 3 (am.map bD),.bu 3 (aD.map bD),c4 4,dK aN,fA bc ba bm bF ch,.cr ah,c4 4,tk .done (D .ret) [(3,.aR 2 0)] 3]) 13 0 [13,12,2,3,4,5,6,7,8,9,10,11] [] [] [] rfl trivial rfl rfl rfl (.s rfl .n) (λ_ _=>rfl) .fn rfl (λz h=>⟨fC.h h,.lf rfl,rfl,rfl⟩) (λz h=>⟨fC.h h,.lf rfl,rfl,rfl⟩) (λz h=>⟨fC.h h,.lf rfl,rfl,rfl⟩) (bK rfl (bK rfl (bK rfl (bK rfl (bK rfl (bK rfl (bK rfl (bK rfl (bK rfl (bK rfl (bK rfl (bK rfl e6)))))))))))) (bK rfl (bK rfl (bK rfl (bK rfl (bK rfl (bK rfl (bK rfl (bK rfl (bK rfl (bK rfl (bK rfl (bK rfl e6)))))))))))) (bK rfl (bK rfl (bK rfl (bK rfl (bK rfl (bK rfl (bK rfl (bK rfl (bK rfl (bK rfl (bK rfl (bK rfl e6)))))))))))) (λ_=>.mk rfl (by decide) rfl) (λ_=>.mk rfl (by decide) rfl) (λ_=>.mk rfl (by decide) rfl) (λ_=>rfl) (λ_=>rfl) (λ_=>rfl) (λad=>?_) (λaA=>?_) (λaN=>?_)
 ·exact aW
 ·exact aW
 ·exact aW
instance aAD{J:ax}{ab ag ak ap an al am aD a2 bc ba bm bF}:ca (KE J ab ag ak ap an al am aD a2 bc ba bm bF) 307 [.fW 0,.aR 1 0,.aR 2 0] [qq .ready aF [(1,.aR 3 0),(3,.aR 4 0)] 5,c4 6,dK ab,c4 6,.cells 105 [.fW 7],.cr ah,dU ag ak 8 ap ap 9 an an,g8 .ready aF [(2,.aR 10 0),(4,.aR 11 0),(5,.aR 12 0)] 13,.bu 3 (al.map bD),.bu 3 (am.map bD),c4 6,dK aD,fA a2 bc ba bm bF,.cr ah] 0 (dQ (λr=>.cg []) (dQ (λr=>.cg []) (λr=>.cg []))) (dQ (λr=>[qq .done (D .ret) [(1,.aR 3 0),(3,.aR 4 0)] 5,c4 6,dK r.2,c4 6,.cells 105 [.fW 7],.cr ah,dU ag ak 8 ap ap 9 an an,g8 .done (D .ret) [(2,.aR 10 0),(4,.aR 11 0),(5,.aR 12 0)] 13,.bu 3 (al.map bD),.bu 3 (am.map bD),c4 6,dK r.1,fA a2 bc ba bm bF,.cr ah]) (dQ (λr=>[qq .done (D .ret) [(1,.aR 3 0),(3,.aR 4 0)] 5,c4 6,dK r.2,c4 6,.cells 105 [.fW 7],.cr ah,dU ag ak 8 ap ap 9 an an,g8 .done (D (.exit 0)) [(2,.aR 10 0),(4,.aR 11 0),(5,.aR 12 0)] 13,.bu 3 (al.map bD),.bu 3 (am.map bD),c4 6,dK r.1,fA a2 bc ba bm bF,.cr ah]) (λr=>[qq .ready aF [(1,.aR 3 0),(3,.aR 4 0)] 5,c4 6,dK r.2,c4 6,.cells 105 [.fW 7],.cr ah,dU ag ak 8 ap ap 9 an an,g8 .ready aF [(2,.aR 10 0),(4,.aR 11 0),(5,.aR 12 0)] 13,.bu 3 (al.map bD),.bu 3 (am.map bD),c4 6,dK r.1,fA a2 bc ba bm bF,.cr ah]))):=.aY 0 func307 rfl ntmps307<|by intro _ _ _;refine a7 λZ=>?_;refine cJ (α:=sh) (λs=>[(4,aI s.1)]) (λH s=>(H.set 2 (dK s.2.1)).set 11 (dK s.2.2)) [0,1,2] ?_;rintro⟨dV,jM,Rx⟩ n;exact aW
instance aAE{J:ax}{ab ag ak ap an al am aD a2 bc ba bm bF}:ca (RA J ab ag ak ap an al am aD a2 bc ba bm bF) 304 [.fW 0,.aR 1 0,.bA [bD ab]] [g8 .ready aF [(2,.aR 2 0),(4,.aR 3 0),(5,.aR 4 0)] 5,c4 6,c4 6,dK ag,fA ak ap an al am,.cr ah,dU aD a2 7 bc bc 8 ba ba,.bu 3 (bm.map bD),.bu 3 (bF.map bD)] 0 (dQ (λr=>.cg []) (dQ (λr=>.cg []) (λr=>.cg []))) (dQ (λr=>[g8 .done (D .ret) [(2,.aR 2 0),(4,.aR 3 0),(5,.aR 4 0)] 5,c4 6,c4 6,dK r,fA ak ap an al am,.cr ah,dU aD a2 7 bc bc 8 ba ba,.bu 3 (bm.map bD),.bu 3 (bF.map bD)]) (dQ (λr=>[g8 .done (D (.exit 0)) [(2,.aR 2 0),(4,.aR 3 0),(5,.aR 4 0)] 5,c4 6,c4 6,dK r,fA ak ap an al am,.cr ah,dU aD a2 7 bc bc 8 ba ba,.bu 3 (bm.map bD),.bu 3 (bF.map bD)]) (λr=>[g8 .ready aF [(2,.aR 2 0),(4,.aR 3 0),(5,.aR 4 0)] 5,c4 6,c4 6,dK r,fA ak ap an al am,.cr ah,dU aD a2 7 bc bc 8 ba ba,.bu 3 (bm.map bD),.bu 3 (bF.map bD)]))):=.qh 8 func304 rfl ntmps304<|by
 intro _ _ _;refine gc ?_;refine a7 λZ=>?_;refine b4 ?_;refine .PR (H2:=λad=>[g8 .done (D .ret) [(2,.aR 2 0),(4,.aR 3 0),(5,.aR 4 0)] 5,c4 6,c4 6,dK ad.1,fA ak ap an al am,.cr ah,dU aD a2 7 bc bc 8 ba ba,.bu 3 (bm.map bD),.bu 3 (bF.map bD),Co,c4 6,dK ad.2,qq .done (D .ret) [(1,.aR 1 0),(3,.aR 9 0)] 13,.cr ah,.bW,.bW,.bW]) (lM:=λaA=>[g8 .done (D (.exit 0)) [(2,.aR 2 0),(4,.aR 3 0),(5,.aR 4 0)] 5,c4 6,c4 6,dK aA.1,fA ak ap an al am,.cr ah,dU aD a2 7 bc bc 8 ba ba,.bu 3 (bm.map bD),.bu 3 (bF.map bD),Co,c4 6,dK aA.2,qq .done (D .ret) [(1,.aR 1 0),(3,.aR 9 0)] 13,.cr ah,.bW,.bW,.bW]) (qp:=λaN=>[g8 .ready aF [(2,.aR 2 0),(4,.aR 3 0),(5,.aR 4 0)] 5,c4 6,c4 6,dK aN.1,fA ak ap an al am,.cr ah,dU aD a2 7 bc bc 8 ba ba,.bu 3 (bm.map bD),.bu 3 (bF.map bD),Co,c4 6,dK aN.2,qq .ready aF [(1,.aR 1 0),(3,.aR 9 0)] 13,.cr ah,.bW,.bW,.bW]) 12 13 14 [12,10,11,1,9,13,6,0,7,8,2,3,4,5] [] [] [] rfl rfl rfl rfl (.s rfl (.s rfl .n)) (λ_ _=>rfl) .fn rfl (λz h=>⟨fC.h h,.lf rfl,rfl,rfl⟩) (λz h=>⟨fC.h h,.lf rfl,rfl,rfl⟩) (λz h=>⟨fC.h h,.lf rfl,rfl,rfl⟩) (bK rfl (bK rfl (bK rfl (bK rfl (bK rfl (bK rfl (bK rfl (bK rfl (bK rfl (bK rfl (bK rfl (bK rfl (bK rfl (bK rfl e6)))))))))))))) (bK rfl (bK rfl (bK rfl (bK rfl (bK rfl (bK rfl (bK rfl (bK rfl (bK rfl (bK rfl (bK rfl (bK rfl (bK rfl (bK rfl e6)))))))))))))) (bK rfl (bK rfl (bK rfl (bK rfl (bK rfl (bK rfl (bK rfl (bK rfl (bK rfl (bK rfl (bK rfl (bK rfl (bK rfl (bK rfl e6)))))))))))))) (λ_=>.mk rfl (by decide) rfl) (λ_=>.mk rfl (by decide) rfl) (λ_=>.mk rfl (by decide) rfl) (λ_=>rfl) (λ_=>rfl) (λ_=>rfl) (λ_=>rfl) (λ_=>rfl) (λ_=>rfl) (λ_=>rfl) (λ_=>rfl) (λ_=>rfl) (λad abR=>?_) (λaA alo=>?_) (λaN MG=>?_)
 ·refine b4 ?_;refine .mC 14 rfl rfl rfl<|.kZ rfl<|?_;exact aW
 ·refine b4 ?_;refine .mC 14 rfl rfl rfl<|.kZ rfl<|?_;exact aW
 ·refine a7 λbJ=>?_;refine b4 ?_;refine .PR (H2:=λci=>[g8 .done (D .ret) [(2,.aR 2 0),(4,.aR 3 0),(5,.aR 4 0)] 5,c4 6,c4 6,dK ci,fA ak ap an al am,.cr ah,dU aD a2 7 bc bc 8 ba ba,.bu 3 (bm.map bD),.bu 3 (bF.map bD),Co,c4 6,dK aN.2,tl .done (D .ret) [(1,.aR 1 0),(2,.bA [bD ab]),(3,.aR 9 0)] 15,.cr ah,.kg 13 MG,.cr ah,.bW]) (lM:=λcP=>[g8 .done (D (.exit 0)) [(2,.aR 2 0),(4,.aR 3 0),(5,.aR 4 0)] 5,c4 6,c4 6,dK cP,fA ak ap an al am,.cr ah,dU aD a2 7 bc bc 8 ba ba,.bu 3 (bm.map bD),.bu 3 (bF.map bD),Co,c4 6,dK aN.2,tl .done (D .ret) [(1,.aR 1 0),(2,.bA [bD ab]),(3,.aR 9 0)] 15,.cr ah,.kg 13 MG,.cr ah,.bW]) (qp:=λdr=>[g8 .ready aF [(2,.aR 2 0),(4,.aR 3 0),(5,.aR 4 0)] 5,c4 6,c4 6,dK dr,fA ak ap an al am,.cr ah,dU aD a2 7 bc bc 8 ba ba,.bu 3 (bm.map bD),.bu 3 (bF.map bD),Co,c4 6,dK aN.2,tl .ready aF [(1,.aR 1 0),(2,.bA [bD ab]),(3,.aR 9 0)] 15,.cr ah,.kg 13 MG,.cr ah,.bW]) 12 15 16 [12,1,9,15,6,0,7,8,2,3,4,5] [] [] [] rfl rfl rfl rfl (.s rfl (.s rfl (.s rfl .n))) (λ_ _=>rfl) .fn rfl (λz h=>⟨fC.h h,.lf rfl,rfl,rfl⟩) (λz h=>⟨fC.h h,.lf rfl,rfl,rfl⟩) (λz h=>⟨fC.h h,.lf rfl,rfl,rfl⟩) (bK rfl (bK rfl (bK rfl (bK rfl (bK rfl (bK rfl (bK rfl (bK rfl (bK rfl (bK rfl (bK rfl (bK rfl e6)))))))))))) (bK rfl (bK rfl (bK rfl (bK rfl (bK rfl (bK rfl (bK rfl (bK rfl (bK rfl (bK rfl (bK rfl (bK rfl e6)))))))))))) (bK rfl (bK rfl (bK rfl (bK rfl (bK rfl (bK rfl (bK rfl (bK rfl (bK rfl (bK rfl (bK rfl (bK rfl e6)))))))))))) (λ_=>.mk rfl (by decide) rfl) (λ_=>.mk rfl (by decide) rfl) (λ_=>.mk rfl (by decide) rfl) (λ_=>rfl) (λ_=>rfl) (λ_=>rfl) (λ_=>rfl) (λ_=>rfl) (λ_=>rfl) (λ_=>rfl) (λ_=>rfl) (λ_=>rfl) (λci aAF=>?_) (λcP alp=>?_) (λdr aAG=>?_)
  ·refine b4 ?_;refine .mC 16 rfl rfl rfl<|.mC 14 rfl rfl rfl<|.kZ rfl<|?_;exact aW
  ·refine b4 ?_;refine .mC 16 rfl rfl rfl<|.mC 14 rfl rfl rfl<|.kZ rfl<|?_;exact aW
  ·refine b4 ?_;refine .mC 16 rfl rfl rfl<|.mC 14 rfl rfl rfl<|.kZ rfl<|?_;exact aW
instance aAH{J:ax}{ab ag ak ap an al am}:ca (KG J ab ag ak ap an al am) 220 [.aR 0 0,aI ab] [dU ag ak 1 ap ap 2 an an,.bu 3 (al.map bD),.bu 3 (am.map bD)] 0 aI (λ_=>[dU ag ak 1 ap ap 2 an an,.bu 3 (al.map bD),.bu 3 (am.map bD)]):=.qh 7 func220 rfl ntmps220<|by
 intro _ _ _;refine gc ?_;refine a7 λZ=>?_;refine a7 λad=>?_;refine b4 ?_;refine .PR (H2:=λaA=>[dU ag ak 1 ap ap 2 an an,.bu 3 (al.map bD),.bu 3 (am.map bD),c4 0,dK aA,fA Z.kind Z.bi Z.n Z.a3 Z.dx,c4 0,g8 .done (D .ret) [(2,.aR 3 0),(4,.aR 4 0),(5,.aR 5 0)] 8,.cr ah,.bW]) (lM:=λaN=>[dU ag ak 1 ap ap 2 an an,.bu 3 (al.map bD),.bu 3 (am.map bD),c4 0,dK aN,fA Z.kind Z.bi Z.n Z.a3 Z.dx,c4 0,g8 .done (D (.exit 0)) [(2,.aR 3 0),(4,.aR 4 0),(5,.aR 5 0)] 8,.cr ah,.bW]) (qp:=λa0=>[dU ag ak 1 ap ap 2 an an,.bu 3 (al.map bD),.bu 3 (am.map bD),c4 0,dK a0,fA Z.kind Z.bi Z.n Z.a3 Z.dx,c4 0,g8 .ready aF [(2,.aR 3 0),(4,.aR 4 0),(5,.aR 5 0)] 8,.cr ah,.bW]) 7 8 9 [7,6,3,4,5,8,0,1,2] [] [] [] rfl rfl rfl rfl (.s rfl (.s rfl (.s rfl .n))) (λ_ _=>rfl) .fn rfl (λz h=>⟨fC.h h,.lf rfl,rfl,rfl⟩) (λz h=>⟨fC.h h,.lf rfl,rfl,rfl⟩) (λz h=>⟨fC.h h,.lf rfl,rfl,rfl⟩) (bK rfl (bK rfl (bK rfl (bK rfl (bK rfl (bK rfl (bK rfl (bK rfl (bK rfl e6))))))))) (bK rfl (bK rfl (bK rfl (bK rfl (bK rfl (bK rfl (bK rfl (bK rfl (bK rfl e6))))))))) (bK rfl (bK rfl (bK rfl (bK rfl (bK rfl (bK rfl (bK rfl (bK rfl (bK rfl e6))))))))) (λ_=>.mk rfl (by decide) rfl) (λ_=>.mk rfl (by decide) rfl) (λ_=>.mk rfl (by decide) rfl) (λ_=>rfl) (λ_=>rfl) (λ_=>rfl) (λ_=>rfl) (λ_=>rfl) (λ_=>rfl) (λ_=>rfl) (λ_=>rfl) (λ_=>rfl) (λaA alo=>?_) (λaN MG=>?_) (λa0 aAI=>?_)
 ·refine b4 ?_;refine .mC 9 rfl rfl rfl<|.kZ rfl<|?_;exact aW
 ·refine b4 ?_;refine .mC 9 rfl rfl rfl<|.kZ rfl<|?_;exact aW
 ·refine b4 ?_;refine .mC 9 rfl rfl rfl<|.kZ rfl<|?_;exact aW
instance aAJ{J:ax}{ab ag ak ap an al am}:ca (KI J ab ag ak ap an al am) 173 [.aR 0 0,aI ab] [dU ag ak 1 ap ap 2 an an,.bu 3 (al.map bD),.bu 3 (am.map bD)] 0 (λr=>aI r.1) (λr=>[dU ag ak 1 ap ap 2 an an,.bu 3 (r.2.1.map bD),.bu 3 (r.2.2.map bD)]):=.aY 1 func173 rfl ntmps173<|by
 intro _ _ _;refine a7 λZ=>?_;refine a7 λad=>?_;refine cp ?_;refine a7 λaA=>?_;refine cp ?_;refine a7 λaN=>?_;refine Ft ?_;refine .fb (β:=(List Int×List Int)) (λ_=>[]) (λH s=>(H.set 1 (.bu 3 (s.1.map bD))).set 2 (.bu 3 (s.2.map bD))) [0,1,6] (vT an ab aN) ?_ ?_
 ·rintro⟨uO,nF⟩;exact aW
 ·intro j;exact aW
instance aAK{J:ax}{ab}:ca (F0 J ab) 119 [.agg ((du ab).map .p)] [] 3 (dQ (λr=>.cg [.p (.v (.pointer aF)),aI r.1,aI r.2]) (λr=>.cg [.aR 0 0,aI r.1,aI r.2.1])) (dQ (λ_=>[]) (λr=>[dU r.2.2.1 r.2.2.2.1 1 r.2.2.2.2.1 r.2.2.2.2.1 2 r.2.2.2.2.2.1 r.2.2.2.2.2.1,.bu 3 (r.2.2.2.2.2.2.1.map bD),.bu 3 (r.2.2.2.2.2.2.2.map bD)])):=.aY 3 func119 rfl ntmps119<|by
 intro _ _ _;refine pQ (λZ=>?_) (λad=>?_)
 ·refine cp ?_;exact .br
 ·refine cp ?_;refine cJ (α:=(Int×List Int×List Int)) (λs=>[(21,aI s.1)]) (λH s=>(H.set 1 (.bu 3 (s.2.1.map bD))).set 2 (.bu 3 (s.2.2.map bD))) [2,20] ?_;rintro⟨xQ,pT,uP⟩ n;exact aW
instance aAL{J:ax}{U}:bG (xR J U) 73 [.agg ((du U).map .p)] (λr=>.cg [.agg ((Cf r.1).map .p),aI r.2.1,aI r.2.2]):=.aY 4 func73 rfl ntmps73<|by
 intro _ _ _;refine pQ (λZ=>?_) (λad=>?_)
 ·refine cp ?_;exact .br
 ·refine cp ?_;refine b4 ?_;refine .Jd (l':=[(2,.aR 0 0),(3,aI 0),(4,aI 0)]) [1,2] (.s rfl (.s rfl (.s rfl .n))) rfl<|.X7 (l':=[(2,.aR 0 0),(3,aI 0),(4,aI 0)]) (us:=λ_=>[.dX 3 0 ad.2.2.2.2.2.1 ad.2.2.2.2.2.1]) (ds:=λz=>[bT 1 cH z]) 0 cH (λxs=>xs.map bD) (λ_=>rfl) (λxs=>(r3 (λ_=>rfl) xs).symm) rfl rfl rfl (λz h=>(.f .n)) (.s rfl (.s rfl (.s rfl .n))) rfl rfl rfl rfl λaA=>?_;exact aW
instance aAM{J:ax}{ab ag ak ap an al am aD}:ca (zJ J ab ag ak ap an al am aD) 274 [.aR 0 0,aI ab,bT 1 fk ag] [g9 ak ap an 1 2 al al,c3 am,.bu 9 (aD.map eV)] 0 cG (λ_=>[g9 ak ap an 1 2 al al,c3 am,.bu 9 (aD.map eV)]):=.aY 1 func274 rfl ntmps274 aW
instance aAN{J:ax}{ab ag ak ap an al am}:ca (nG J ab ag ak ap an al am) 223 [.aR 0 0,aI ab] [g9 ag ak ap 1 2 an an,c3 al,.bu 9 (am.map eV)] 0 (λr=>cG r.1) (λr=>[g9 ag ak ap 1 2 an an,c3 al,.bu 9 (r.2.map eV)]):=.aY 1 func223 rfl ntmps223<|by
 intro _ _ _;refine a7 λZ=>?_;refine a7 λad=>?_;refine fl ?_;refine .seq<|.region<|?_;refine fl ?_;refine .seq<|.region<|?_;refine fl ?_;refine .fb (β:=(ByteArray×Bool×dl×Int)) (λs=>[(7,cG s.1),(8,bs s.2.1)]) (λH s=>(H.set 2 (.bu 9 (s.2.2.1.map eV))).set 3 (fA s.2.2.2 Z.bi Z.n Z.a3 Z.dx)) [] (rp) ?_ ?_
 ·rintro⟨hT,b6,nF,sk⟩;exact aW
 ·intro j;exact aW
variable {J:ax}
theorem alq{zK} [alr:QG zK]{ab ag ak ap an al am}:ca (KW J zK ab ag ak ap an al am) 181 [.aR 0 0,cG ab] [g9 ag ak ap 1 2 an an,c3 al,.bu 9 (am.map eV)] 0 (λr=>.cg [aI r.1,bs r.2]) (λ_=>[g9 ag ak ap 1 2 an an,c3 al,.bu 9 (am.map eV)]):=.aY 0 func181 rfl ntmps181<|by intro _ _ _;refine cp ?_;refine a7 λZ=>?_;refine cp ?_;refine b4 ?_;refine .aC (JO (k:=ab) rfl rfl rfl) (da rfl) rfl<|?_;refine cp ?_;refine a7 λaA=>?_;refine cJ (α:=(Int×Int)) (λs=>[(4,aI s.1),(59,aI s.2)]) (λH _=>H) [0,57,58] ?_;rintro⟨dV,KV⟩ n;exact aW
theorem als(k:Nat):QG (F4 J k):=by
  induction k with
  |zero=>(repeat intro _);exact .br rfl
  |succ k bB=>(repeat intro _);exact alq (alr:=bB)
instance aAO{J:ax}:QG (zL J):=als J.n
instance aAP{J:ax}{ab ag ak ap an al am}:ca (uQ J ab ag ak ap an al am) 224 [.aR 0 0,cG ab] [g9 ag ak ap 1 2 an an,c3 al,.bu 9 (am.map eV)] 0 bs (λ_=>[g9 ag ak ap 1 2 an an,c3 al,.bu 9 (am.map eV)]):=.aY 0 func224 rfl ntmps224 aW
instance aAQ{J:ax}{ab ag ak ap an al am aD}:ca (zM J ab ag ak ap an al am aD) 226 [.aR 0 0,aI ab,bT 1 fk ag] [g9 ak ap an 1 2 al al,c3 am,.bu 9 (aD.map eV)] 0 (λr=>aI r.1) (λr=>[g9 ak ap an 1 2 al al,c3 r.2.1,.bu 9 (r.2.2.map eV)]):=.aY 1 func226 rfl ntmps226<|by
 intro _ _ _;refine a7 λZ=>?_;refine fl ?_;refine .seq<|.region<|?_;refine fl ?_;refine .fb (β:=(Bool×List di×dl×Int)) (λs=>[(8,bs s.1)]) (λH s=>((H.set 1 (c3 s.2.1)).set 2 (.bu 9 (s.2.2.1.map eV))).set 3 (fA s.2.2.2 Z.bi Z.n Z.a3 Z.dx)) [] (CM) ?_ ?_
 ·rintro⟨b6,uO,nF,sk⟩;exact aW
 ·intro j;refine fm ?_;refine b4 ?_;refine .aC (YZ (k:=Z.bi) (a:=ab) rfl rfl rfl rfl .gp) (da rfl) .n<|?_;exact aW
instance aAR{J:ax}{ab ag ak ap an al am}:ca (sm J ab ag ak ap an al am) 174 [.aR 0 0,aI ab] [g9 ag ak ap 1 2 an an,c3 al,.bu 9 (am.map eV)] 0 (λr=>aI r.1) (λr=>[g9 ag ak ap 1 2 an an,c3 r.2.1,.bu 9 (r.2.2.map eV)]):=.aY 2 func174 rfl ntmps174<|by
 intro _ _ _;refine a7 λZ=>?_;refine a7 λad=>?_;refine Ft ?_;refine .fb (β:=(dl×Int)) (λ_=>[]) (λH s=>(H.set 2 (.bu 9 (s.1.map eV))).set 3 (fA s.2 Z.bi Z.n Z.a3 Z.dx)) [0,1,6] (qt J ab ad ag ak ap an al) ?_ ?_
 ·rintro⟨nF,sk⟩;exact aW
 ·intro j;exact aW
instance aAS{J:ax}{ab}:ca (sn J ab) 120 [.agg ((du ab).map .p)] [] 3 (dQ (λr=>.cg [.p (.v (.pointer aF)),aI r.1,aI r.2]) (λr=>.cg [.aR 0 0,aI r.1,aI r.2.1])) (dQ (λ_=>[]) (λr=>[g9 r.2.2.1 r.2.2.2.1 r.2.2.2.2.1 1 2 r.2.2.2.2.2.1 r.2.2.2.2.2.1,c3 r.2.2.2.2.2.2.1,.bu 9 (r.2.2.2.2.2.2.2.map eV)])):=.aY 4 func120 rfl ntmps120<|by intro _ _ _;refine a7 λZ=>?_;refine cp ?_;refine b4 ?_;refine .aC (YY (i:=1)) (da rfl) .n<|?_;refine b4 ?_;refine .mk 2 eV (⟨#[]⟩:ByteArray) JQ JK rfl rfl rfl (λ_ _=>.v) rfl .n λad=>?_;refine gc ?_;refine cJ (α:=(Int×List di×dl)) (λs=>[(34,aI s.1)]) (λH s=>(H.set 1 (c3 s.2.1)).set 2 (.bu 9 (s.2.2.map eV))) [2,33] ?_;rintro⟨F6,pT,uP⟩ n;exact aW
instance aAT{J:ax}{U}:bG (K4 J U) 118 [.agg ((du U).map .p)] (λr=>.cg [aI r.1,aI r.2]):=.aY 6 func118 rfl ntmps118<|by
 intro _ _ _;refine pQ (λZ=>?_) (λad=>?_)
 ·refine cp ?_;exact .br
 ·refine cp ?_;refine a7 λaA=>?_;refine cJ (α:=(Int×List nB×Int×Int×Int)) (λs=>[(28,aI s.1)]) (λH s=>(H.set 3 (m3 s.2.1)).set 5 (.cells 229 [aI s.2.2.1,aI s.2.2.2.1,aI s.2.2.2.2])) [4,5,6,26,27] ?_;rintro⟨K3,oj,aar,aas,aat⟩ n;exact aW
theorem alt(k:Nat):QI (R' J k):=by
  induction k with
  |zero=>(repeat intro _);exact .br rfl
  |succ k bB=>(repeat intro _);exact akT (akU:=bB)
instance aAU{J:ax}:QI (aaH J):=alt J.n
instance aAV{J:ax}{U aj}:bG (Ll J U aj) 136 [.agg ((du U).map .p),cG aj] (λr=>.cg [aI r.1,aI r.2]):=.aY 3 func136 rfl ntmps136 aW
instance aAW{J:ax}{ab ag ak ap an al am aD a2 bc ba bm}:ca (xY J ab ag ak ap an al am aD a2 bc ba bm) 96 [.aR 0 0,cG ab] [eH ag ak ap an al am aD 1 2 3 4,e4 a2,dH bc,c3 ba,eW bm] 0 (λr=>aI r.1) (λr=>[eH ag ak ap an al am aD 1 2 3 4,e4 a2,dH bc,c3 r.2,eW bm]):=.aY 0 func96 rfl ntmps96<|by intro _ _ _;refine b4 ?_;refine .aC (JO (k:=ab) rfl rfl rfl) (da rfl) rfl<|?_;refine fm ?_;refine a7 λZ=>?_;refine b4 ?_;refine .aC (YZ (k:=ab) (a:=Z.1) rfl rfl rfl rfl .gp) (da rfl) rfl<|?_;exact aW
instance aAX{J:ax}{U aj a6}:bG (Ly J U aj a6) 95 [bT 2 b7 U,aI aj,.agg ((b7 a6).map .p)] (λr=>.cg [bT 2 b7 r.1,aI r.2]):=.qh 10 func95 rfl ntmps95<|by
 intro _ _ _;refine a7 λZ=>?_;refine nu ?_ ?_
 ·refine b4 ?_;refine .kZ rfl<|?_;exact aW
 ·refine a7 λad=>?_;refine nu ?_ ?_
  ·refine b4 ?_;refine .kZ rfl<|?_;exact aW
  ·refine a7 λaA=>?_;refine gL ?_ ?_
   ·refine b4 ?_;refine .kZ rfl<|?_;exact aW
   ·refine kt ?_;refine a7 λaN=>?_;refine nu ?_ ?_
    ·refine b4 ?_;refine .kZ rfl<|?_;exact aW
    ·refine a7 λa0=>?_;refine gL ?_ ?_
     ·refine b4 ?_;refine .kZ rfl<|?_;exact aW
     ·refine a7 λbe=>?_;refine kt ?_;refine a7 λbL=>?_;refine kt ?_;refine a7 λbJ=>?_;refine gL ?_ ?_
      ·refine kt ?_;refine a7 λci=>?_;refine b4 ?_;refine .kZ rfl<|.Jd (l':=[(6,.dX 7 0 ci.1 ci.1),(7,aI 0)]) [0,1,3,4,5,6,2] (.s rfl (.s rfl .n)) rfl<|.zm (l':=[(7,aI 0)]) (x:=λ_=>.dX 7 0 ci.1 ci.1) (y:=λz=>bT 2 b7 z) 6 b7 (λxs=>xs.flatMap b7) to (λ_=>rfl) rfl rfl (λz h=>.a) (.s rfl .n) rfl rfl rfl λcP=>?_;exact aW
      ·refine a7 λdr=>?_;refine b4 ?_;refine .range (H2:=λc5=>[.bl 64 2 0,.bl 64 2 0,.bu 64 (c5.2.flatMap b7),.cells 29 [.dX 2 0 bL.1 bL.1],.bl 64 2 0,.cells 64 [fw bJ.1.fault,aI bJ.1.n],dK c5.1,Fw .ready aF [(5,.bA (b7 a6)),(8,.aR 3 0),(11,.aR 6 0)] 8,.cr ah,.bW]) 7 8 9 [7,3,6,8,2] [] rfl rfl rfl rfl (.s rfl (.s rfl (.s rfl .n))) (λ_ _=>rfl) .fn rfl (λz h=>⟨fC.h h,.lf rfl,rfl,rfl⟩) (bK rfl (bK rfl (bK rfl (bK rfl (bK rfl e6))))) (λ_=>.mk rfl (by decide) rfl) (λ_=>rfl) (λ_=>rfl) (λ_=>rfl) (λc5 alp=>?_)
       ·refine b4 ?_;refine .mC 9 rfl rfl rfl<|.kZ rfl<|.Jd (l':=[(6,.dX 2 0 bL.1 bL.1),(7,aI 0)]) [0,1,3,4,5,6] (.s rfl (.s rfl .n)) rfl<|.zm (l':=[(7,aI 0)]) (x:=λ_=>.dX 2 0 bL.1 bL.1) (y:=λz=>bT 2 b7 z) 6 b7 (λxs=>xs.flatMap b7) to (λ_=>rfl) rfl rfl (λz h=>.a) (.s rfl .n) rfl rfl rfl λet=>?_;exact aW
end
end Go.Proofs.YtgfggdcbhjhegaaGreatDoor

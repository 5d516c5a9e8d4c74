/- The functions of the program compute what their models say. -/
import Derived.Test.YtgfggdcbhjhegaaGreatDoorUD
set_option linter.all false
set_option maxRecDepth 100000
set_option maxHeartbeats 4000000
namespace Go.Proofs.YtgfggdcbhjhegaaGreatDoor
open Go Go.Mi Go.RowKit Go.Dp Tryz Go.Proofs.Tryz
open Bool renaming true->ah,false->aQ
open Option renaming none->aF,some->D
open Sum renaming elim->dQ
noncomputable section
attribute [local irreducible] bI cW co bZ
instance ayE:ca (Zg) 201 [] [] 1 (λr=>.map 0) (λr=>[FA r]):=.aY 1 func201 rfl ntmps201<|by intro _ _ _;refine b4 ?_;refine .aC (ajS (i:=0)) (da rfl) rfl<|.aC (zy (k:=(⟨#[99,104,111,111,115,101]⟩:ByteArray)) (a:=(1:Nat)) rfl rfl rfl rfl .gp) (da rfl) rfl<|.aC (zy (k:=(⟨#[116,121,112,101]⟩:ByteArray)) (a:=(2:Nat)) rfl rfl rfl rfl .gp) (da rfl) rfl<|?_;refine .aC (zy (k:=(⟨#[102,117,110]⟩:ByteArray)) (a:=(3:Nat)) rfl rfl rfl rfl .gp) (da rfl) rfl<|.aC (zy (k:=(⟨#[108,101,116]⟩:ByteArray)) (a:=(4:Nat)) rfl rfl rfl rfl .gp) (da rfl) rfl<|?_;refine .aC (zy (k:=(⟨#[111,98,115,101,114,118,101]⟩:ByteArray)) (a:=(5:Nat)) rfl rfl rfl rfl .gp) (da rfl) rfl<|.aC (zy (k:=(⟨#[114,101,116,114,97,99,116]⟩:ByteArray)) (a:=(6:Nat)) rfl rfl rfl rfl .gp) (da rfl) rfl<|?_;refine .aC (zy (k:=(⟨#[97,115,107]⟩:ByteArray)) (a:=(7:Nat)) rfl rfl rfl rfl .gp) (da rfl) rfl<|?_;exact aW
instance ayF{ab ag ak ap an al am}:ca (Kw ab ag ak ap an al am) 303 [.aR 0 0,aI ab] [dU ag ak 1 ap ap 2 an an,.bu 3 (al.map bD),.bu 3 (am.map bD)] 0 bs (λ_=>[dU ag ak 1 ap ap 2 an an,.bu 3 (al.map bD),.bu 3 (am.map bD)]):=.aY 0 func303 rfl ntmps303 aW
instance ayG{ab ag ak ap an al am}:ca (xP ab ag ak ap an al am) 267 [.aR 0 0,aI ab] [dU ag ak 1 ap ap 2 an an,.bu 3 (al.map bD),.bu 3 (am.map bD)] 0 bs (λ_=>[dU ag ak 1 ap ap 2 an an,.bu 3 (al.map bD),.bu 3 (am.map bD)]):=.aY 0 func267 rfl ntmps267 aW
instance ayH{ab ag ak ap an al am aD}:ca (Kx ab ag ak ap an al am aD) 268 [aI ab,.aR 0 0,.bA [bD ag]] [c4 1,dU ak ap 2 an an 3 al al,.bu 3 (am.map bD),.bu 3 (aD.map bD)] 0 bs (λ_=>[c4 1,dU ak ap 2 an an 3 al al,.bu 3 (am.map bD),.bu 3 (aD.map bD)]):=.aY 1 func268 rfl ntmps268 aW
instance ayI{J:ax}{ab ag ak ap an al am aD}:ca (Ky J ab ag ak ap an al am aD) 57 [bT 1 cH ab,.fn (.func 268) [] [.aR 0 0,.bA [bD ag]]] [c4 1,dU ak ap 2 an an 3 al al,.bu 3 (am.map bD),.bu 3 (aD.map bD)] 0 aI (λ_=>[c4 1,dU ak ap 2 an an 3 al al,.bu 3 (am.map bD),.bu 3 (aD.map bD)]):=.aY 0 func57 rfl ntmps57<|by intro _ _ _;refine cJ (α:=Int) (λs=>[(8,aI s)]) (λH _=>H) [0,1,7] ?_;rintro b6 n;exact aW
instance ayJ{J:ax}{ab ag ak ap an al am aD}:ca (Rs J ab ag ak ap an al am aD) 151 [bT 1 cH ab,.fn (.func 268) [] [.aR 0 0,.bA [bD ag]]] [c4 1,dU ak ap 2 an an 3 al al,.bu 3 (am.map bD),.bu 3 (aD.map bD)] 0 bs (λ_=>[c4 1,dU ak ap 2 an an 3 al al,.bu 3 (am.map bD),.bu 3 (aD.map bD)]):=.aY 0 func151 rfl ntmps151 aW
instance ayK{J:ax}{ab ag ak ap an al am}:ca (Kz J ab ag ak ap an al am) 218 [.aR 0 0,aI ab] [dU ag ak 1 ap ap 2 an an,.bu 3 (al.map bD),.bu 3 (am.map bD)] 0 (λr=>bs r.1) (λr=>[dU ag ak 1 ap ap 2 an an,.bu 3 (r.2.1.map bD),.bu 3 (r.2.2.map bD)]):=.aY 1 func218 rfl ntmps218<|by
 intro _ _ _;refine gc ?_;refine fl ?_;refine .seq<|.region<|?_;refine fl ?_;refine .fb (β:=(List Int×List Int×List Int)) (λs=>[(5,bT 1 cH s.1)]) (λH s=>(H.set 1 (.bu 3 (s.2.1.map bD))).set 2 (.bu 3 (s.2.2.map bD))) [2,3] (tt J ab ag ak ap an) ?_ ?_
 ·rintro⟨cb,uO,nF⟩;exact aW
 ·intro j;exact aW
instance ayL{ab ag ak ap an al am}:ca (Rt ab ag ak ap an al am) 269 [.aR 0 0,aI ab] [dU ag ak 1 ap ap 2 an an,.bu 3 (al.map bD),.bu 3 (am.map bD)] 1 (λr=>.fn (.func 304) [] [.aR 3 0,.bA [bD r]]) (λ_=>[dU ag ak 1 ap ap 2 an an,.bu 3 (al.map bD),.bu 3 (am.map bD),c4 0]):=.aY 1 func269 rfl ntmps269<|by intro _ _ _;refine gc ?_;exact aW
instance ayM{J:ax}{U aj}:bG (Rv J U aj) 108 [bT 1 jJ U,fw aj] aI:=.aY 0 func108 rfl ntmps108<|by intro _ _ _;refine cJ (α:=Int) (λs=>[(8,aI s)]) (λH _=>H) [0,1,7] ?_;rintro b6 n;exact aW
instance ayN{J:ax}{U aj}:bG (zH J U aj) 66 [bT 1 jJ U,fw aj] bs:=.aY 0 func66 rfl ntmps66 aW
instance ayO{J:ax}{U aj}:bG (KB J U aj) 270 [fw U,fw aj] bs:=.aY 0 func270 rfl ntmps270 aW
instance ayP{J:ax}{ab ag ak ap an al am aD a2 bc ba bm bF}:vO (FZ J ab ag ak ap an al am aD a2 bc ba bm bF) [aI ab] [g8 .ready aF [(2,.aR 1 0),(4,.aR 2 0),(5,.aR 3 0)] 4,c4 5,dK ag,fA ak ap an al am,.cr ah,dU aD a2 6 bc bc 7 ba ba,.bu 3 (bm.map bD),.bu 3 (bF.map bD)] (dQ (λr=>bs aQ) (dQ (λr=>bs aQ) (λr=>bs ah))) (dQ (λr=>[g8 .done (D .ret) [(2,.aR 1 0),(4,.aR 2 0),(5,.aR 3 0)] 4,c4 5,dK r,fA ak ap an al am,.cr ah,dU aD a2 6 bc bc 7 ba ba,.bu 3 (bm.map bD),.bu 3 (bF.map bD)]) (dQ (λr=>[g8 .done (D (.exit 0)) [(2,.aR 1 0),(4,.aR 2 0),(5,.aR 3 0)] 4,c4 5,dK r,fA ak ap an al am,.cr ah,dU aD a2 6 bc bc 7 ba ba,.bu 3 (bm.map bD),.bu 3 (bF.map bD)]) (λr=>[g8 .ready aF [(2,.aR 1 0),(4,.aR 2 0),(5,.aR 3 0)] 4,c4 5,dK r,fA ak ap an al am,.cr ah,dU aD a2 6 bc bc 7 ba ba,.bu 3 (bm.map bD),.bu 3 (bF.map bD)]))):=.aY 1 aW
instance ayQ{J:ax}{ab ag ak ap an al am aD a2 bc ba bm bF}:vO (CB J ab ag ak ap an al am aD a2 bc ba bm bF) [aI ab] [tk .ready aF [(3,.aR 1 0)] 2,.cells 105 [.fW 3],.cr ah,g8 .ready aF [(2,.aR 4 0),(4,.aR 5 0),(5,.aR 6 0)] 7,c4 8,dK ag,fA ak ap an al am,.cr ah,dU aD a2 9 bc bc 10 ba ba,.bu 3 (bm.map bD),.bu 3 (bF.map bD)] (dQ (λr=>bs aQ) (dQ (λr=>bs aQ) (λr=>bs ah))) (dQ (λr=>[tk .done (D .ret) [(3,.aR 1 0)] 2,.cells 105 [.fW 3],.cr ah,g8 .done (D .ret) [(2,.aR 4 0),(4,.aR 5 0),(5,.aR 6 0)] 7,c4 8,dK r,fA ak ap an al am,.cr ah,dU aD a2 9 bc bc 10 ba ba,.bu 3 (bm.map bD),.bu 3 (bF.map bD)]) (dQ (λr=>[tk .done (D .ret) [(3,.aR 1 0)] 2,.cells 105 [.fW 3],.cr ah,g8 .done (D (.exit 0)) [(2,.aR 4 0),(4,.aR 5 0),(5,.aR 6 0)] 7,c4 8,dK r,fA ak ap an al am,.cr ah,dU aD a2 9 bc bc 10 ba ba,.bu 3 (bm.map bD),.bu 3 (bF.map bD)]) (λr=>[tk .ready aF [(3,.aR 1 0)] 2,.cells 105 [.fW 3],.cr ah,g8 .ready aF [(2,.aR 4 0),(4,.aR 5 0),(5,.aR 6 0)] 7,c4 8,dK r,fA ak ap an al am,.cr ah,dU aD a2 9 bc bc 10 ba ba,.bu 3 (bm.map bD),.bu 3 (bF.map bD)]))):=.aY 0 aW
instance ayR{J:ax}{ab ag ak ap an al am aD a2 bc ba bm bF ch}:ca (KD J ab ag ak ap an al am aD a2 bc ba bm bF ch) 340 [.fW 0,.aR 1 0,.bA [bD ab],.bA [bD ag]] [tk .ready aF [(3,.aR 2 0)] 3,c4 4,m4,.cr ah,dU ak ap 6 an an 7 al al,g8 .ready aF [(2,.aR 8 0),(4,.aR 9 0),(5,.aR 10 0)] 11,.bu 3 (am.map bD),.bu 3 (aD.map bD),c4 4,dK a2,fA bc ba bm bF ch,.cr ah] 0 (dQ (λr=>.cg []) (dQ (λr=>.cg []) (λr=>.cg []))) (dQ (λr=>[tk .ready aF [(3,.aR 2 0)] 3,c4 4,m4,.cr ah,dU ak ap 6 an an 7 al al,g8 .ready aF [(2,.aR 8 0),(4,.aR 9 0),(5,.aR 10 0)] 11,.bu 3 (am.map bD),.bu 3 (aD.map bD),c4 4,dK r,fA bc ba bm bF ch,.cr ah]) (dQ (λr=>[tk .done (D .ret) [(3,.aR 2 0)] 3,c4 4,m4,.cr ah,dU ak ap 6 an an 7 al al,g8 .done (D .ret) [(2,.aR 8 0),(4,.aR 9 0),(5,.aR 10 0)] 11,.bu 3 (am.map bD),.bu 3 (aD.map bD),c4 4,dK r,fA bc ba bm bF ch,.cr ah]) (λr=>[tk .done (D .ret) [(3,.aR 2 0)] 3,c4 4,m4,.cr ah,dU ak ap 6 an an 7 al al,g8 .done (D (.exit 0)) [(2,.aR 8 0),(4,.aR 9 0),(5,.aR 10 0)] 11,.bu 3 (am.map bD),.bu 3 (aD.map bD),c4 4,dK r,fA bc ba bm bF ch,.cr ah]))):=.aY 1 func340 rfl ntmps340<|by intro _ _ _;refine a7 λZ=>?_;refine mF ?_;refine a7 λad=>?_;refine cp ?_;refine cp ?_;refine fm ?_;refine a7 λbe=>?_;refine cJ (α:=(Int×Int)) (λs=>[(49,aI s.1)]) (λH s=>H.set 9 (dK s.2)) [0,2,47,48] ?_;rintro⟨KC,zI⟩ n;exact aW
instance ayS{J:ax}{ab ag ak ap an al am aD a2 bc ba bm bF ch cS}:vO (Rz J ab ag ak ap an al am aD a2 bc ba bm bF ch cS) [aI ab,aI ag] [tl .ready aF [(1,.aR 1 0),(2,.bA [bD ak]),(3,.aR 2 0)] 3,c4 4,m4,.cr ah,dU ap an 6 al al 7 am am,g8 .ready aF [(2,.aR 8 0),(4,.aR 9 0),(5,.aR 10 0)] 11,.bu 3 (aD.map bD),.bu 3 (a2.map bD),c4 4,dK bc,fA ba bm bF ch cS,.cr ah] (dQ (λr=>bs aQ) (dQ (λr=>bs aQ) (λr=>bs ah))) (dQ (λr=>[tl .done (D .ret) [(1,.aR 1 0),(2,.bA [bD ak]),(3,.aR 2 0)] 3,c4 4,m4,.cr ah,dU ap an 6 al al 7 am am,g8 .done (D .ret) [(2,.aR 8 0),(4,.aR 9 0),(5,.aR 10 0)] 11,.bu 3 (aD.map bD),.bu 3 (a2.map bD),c4 4,dK r,fA ba bm bF ch cS,.cr ah]) (dQ (λr=>[tl .done (D .ret) [(1,.aR 1 0),(2,.bA [bD ak]),(3,.aR 2 0)] 3,c4 4,m4,.cr ah,dU ap an 6 al al 7 am am,g8 .done (D (.exit 0)) [(2,.aR 8 0),(4,.aR 9 0),(5,.aR 10 0)] 11,.bu 3 (aD.map bD),.bu 3 (a2.map bD),c4 4,dK r,fA ba bm bF ch cS,.cr ah]) (λr=>[tl .ready aF [(1,.aR 1 0),(2,.bA [bD ak]),(3,.aR 2 0)] 3,c4 4,m4,.cr ah,dU ap an 6 al al 7 am am,g8 .ready aF [(2,.aR 8 0),(4,.aR 9 0),(5,.aR 10 0)] 11,.bu 3 (aD.map bD),.bu 3 (a2.map bD),c4 4,dK r,fA ba bm bF ch cS,.cr ah]))):=.aY 0 aW
instance ayT{J:ax}{ab ag ak ap an al am aD a2 bc ba bm bF ch}:ca (KF J ab ag ak ap an al am aD a2 bc ba bm bF ch) 341 [.fW 0,.bA [dI 1 cH ab]] [tl .ready aF [(1,.aR 1 0),(2,.bA [bD ag]),(3,.aR 2 0)] 3,c4 4,m4,.cr ah,dU ak ap 6 an an 7 al al,g8 .ready aF [(2,.aR 8 0),(4,.aR 9 0),(5,.aR 10 0)] 11,.bu 3 (am.map bD),.bu 3 (aD.map bD),c4 4,dK a2,fA bc ba bm bF ch,.cr ah] 0 (dQ (λr=>.cg []) (dQ (λr=>.cg []) (λr=>.cg []))) (dQ (λr=>[tl .done (D .ret) [(1,.aR 1 0),(2,.bA [bD ag]),(3,.aR 2 0)] 3,c4 4,m4,.cr ah,dU ak ap 6 an an 7 al al,g8 .done (D .ret) [(2,.aR 8 0),(4,.aR 9 0),(5,.aR 10 0)] 11,.bu 3 (am.map bD),.bu 3 (aD.map bD),c4 4,dK r,fA bc ba bm bF ch,.cr ah]) (dQ (λr=>[tl .done (D .ret) [(1,.aR 1 0),(2,.bA [bD ag]),(3,.aR 2 0)] 3,c4 4,m4,.cr ah,dU ak ap 6 an an 7 al al,g8 .done (D (.exit 0)) [(2,.aR 8 0),(4,.aR 9 0),(5,.aR 10 0)] 11,.bu 3 (am.map bD),.bu 3 (aD.map bD),c4 4,dK r,fA bc ba bm bF ch,.cr ah]) (λr=>[tl .ready aF [(1,.aR 1 0),(2,.bA [bD ag]),(3,.aR 2 0)] 3,c4 4,m4,.cr ah,dU ak ap 6 an an 7 al al,g8 .ready aF [(2,.aR 8 0),(4,.aR 9 0),(5,.aR 10 0)] 11,.bu 3 (am.map bD),.bu 3 (aD.map bD),c4 4,dK r,fA bc ba bm bF ch,.cr ah]))):=.aY 0 func341 rfl ntmps341<|by intro _ _ _;refine cJ (α:=(Int×Int)) (λs=>[(3,aI s.1)]) (λH s=>H.set 9 (dK s.2)) [0,1] ?_;rintro⟨eX,zI⟩ n;exact aW
instance ayU{J:ax}{ab ag ak}:ca (RD J ab ag ak) 88 [.dX 0 0 ab ab,aI ag] [.bu 3 (ak.map bD)] 0 aI (λ_=>[.bu 3 (ak.map bD)]):=.aY 0 func88 rfl ntmps88<|by intro _ _ _;refine cJ (α:=Int) (λs=>[(8,aI s)]) (λH _=>H) [0,1,7] ?_;rintro b6 n;exact aW
instance ayV{J:ax}{ab ag ak}:ca (CC J ab ag ak) 60 [.dX 0 0 ab ab,aI ag] [.bu 3 (ak.map bD)] 0 bs (λ_=>[.bu 3 (ak.map bD)]):=.aY 0 func60 rfl ntmps60 aW
instance ayW{J:ax}{ab ag ak ap an al am}:ca (KJ J ab ag ak ap an al am) 222 [.aR 0 0,bT 1 cH ab] [g9 ag ak ap 1 2 an an,c3 al,.bu 9 (am.map eV)] 1 (λr=>cT 1 fk r.1 3 r.2) (λr=>[g9 ag ak ap 1 2 an an,c3 al,.bu 9 (am.map eV),.bl 9 1 r.2]):=.aY 2 func222 rfl ntmps222<|by intro _ _ _;refine .seq<|.region<|?_;refine kJ ?_;refine .nil<|.i7<|.seq<|.seq<|.region<|?_;refine kJ ?_;refine .nil<|.i7<|.iQ<|.BB fk 9 1 3 4 rfl rfl<|?_;refine cJ (α:=(dl×Int×Nat)) (λs=>[(4,cT 1 fk s.1 3 s.2.2),(9,aI s.2.1)]) (λH s=>H.set 3 (.bl 9 1 s.2.2)) [0,7,8] ?_;rintro⟨dV,gE,nE⟩ n;refine fm ?_;refine a7 λZ=>?_;refine a7 λad=>?_;refine kt ?_;refine a7 λaA=>?_;refine b4 ?_;exact .hS [4] (aA,(aH (gE+1)),nE+1)
instance ayX{U}:bG (qs U) 121 [fw U] bs:=.aY 0 func121 rfl ntmps121 aW
instance ayY{J:ax}{U aj}:bG (RI J U aj) 311 [bT 1 fk U,bT 1 fk aj] bs:=.aY 0 func311 rfl ntmps311<|by intro _ _ _;refine cp ?_;refine cJ (α:=Int) (λs=>[(13,aI s)]) (λH _=>H) [0,1,12] ?_;rintro h0 n;exact aW
instance ayZ{ab ag ak ap an al}:ca (RQ ab ag ak ap an al) 168 [.aR 0 0] [g9 ab ag ak 1 2 ap ap,c3 an,.bu 9 (al.map eV)] 1 (λr=>.agg [.aR 0 0,.map 3]) (λr=>[g9 ab ag ak 1 2 ap ap,c3 an,.bu 9 (al.map eV),m3 r]):=.aY 2 func168 rfl ntmps168<|by intro _ _ _;refine b4 ?_;refine .aC (ajP (i:=4)) (da rfl) rfl<|?_;exact aW
instance ay0{ab ag ak ap an}:ca (zN ab ag ak ap an) 169 [.aR 0 0,.agg ((du ab).map .p),aI ag] [.cells 229 [aI ak,aI ap,aI an]] 0 (λr=>.cg []) (λr=>[.cells 229 [aI r.1,aI r.2.1,aI r.2.2]]):=.aY 1 func169 rfl ntmps169 aW
instance ay1{U}:bG (RR U) 170 [.agg ((aju U).map .p)] bs:=.aY 0 func170 rfl ntmps170 aW
instance ay2{ab ag ak}:ca (F9 ab ag ak) 152 [aI ab,.bA [bD ag],.bA [bD ak]] [] 0 bs (λ_=>[]):=.aY 0 func152 rfl ntmps152 aW
instance ay3{J:ax}{ab ag ak}:ca (K6 J ab ag ak) 57 [bT 1 cH ab,.fn (.func 152) [] [.bA [bD ag],.bA [bD ak]]] [] 0 aI (λ_=>[]):=.aY 0 func57 rfl ntmps57<|by intro _ _ _;refine cJ (α:=Int) (λs=>[(8,aI s)]) (λH _=>H) [0,1,7] ?_;rintro b6 n;exact aW
instance ay4{J:ax}{ab ag ak}:ca (K7 J ab ag ak) 151 [bT 1 cH ab,.fn (.func 152) [] [.bA [bD ag],.bA [bD ak]]] [] 0 bs (λ_=>[]):=.aY 0 func151 rfl ntmps151 aW
instance ay5{J:ax}{U aj a6}:bG (xV J U aj a6) 109 [aI U,aI aj,bT 1 cH a6] bs:=.aY 0 func109 rfl ntmps109 aW
instance ay6{U}:bG (F_ U) 110 [fw U] (λr=>.agg ((b7 r).map .p)):=.aY 1 func110 rfl ntmps110 aW
instance ay7{J:ax}{U}:bG (mc J U) 67 [aI U] (λr=>.agg ((b7 r).map .p)):=.aY 1 func67 rfl ntmps67 aW
instance ay8:ca (zR) 62 [] [] 2 (λr=>.aR 0 0) (λr=>[kK r.1 r.2.1 1,dH r.2.2]):=.aY 2 func62 rfl ntmps62<|by intro _ _ _;refine b4 ?_;refine .aC (Qy (i:=0)) (da rfl) rfl<|?_;refine gc ?_;exact aW
instance ay9{U}:bG (RX U) 177 [fw U] tn:=.aY 0 func177 rfl ntmps177 aW
instance aza{J:ax}{U}:bG (vX J U) 76 [.agg ((b7 U).map .p)] bs:=.aY 0 func76 rfl ntmps76 aW
instance azb{U}:bG (K8 U) 184 [.agg ((b7 U).map .p)] bs:=.aY 0 func184 rfl ntmps184 aW
instance azc{J:ax}{ab}:ca (K9 J ab) 78 [bT 2 b7 ab,.p (.v (.func (.func 184) #[] #[]))] [] 0 aI (λ_=>[]):=.aY 0 func78 rfl ntmps78<|by intro _ _ _;refine cJ (α:=Int) (λs=>[(8,aI s)]) (λH _=>H) [0,1,7] ?_;rintro b6 n;exact aW
instance azd{J:ax}{U}:bG (xW J U) 134 [bT 2 b7 U] (λr=>.cg [.agg ((b7 r.1).map .p),bs r.2]):=.aY 1 func134 rfl ntmps134 aW
instance aze{J:ax}{U}:bG (RZ J U) 228 [aI U] (λr=>.agg ((b7 r).map .p)):=.aY 1 func228 rfl ntmps228 aW
instance azf{J:ax}{U}:bG (xX J U) 230 [bs U] (λr=>.agg ((b7 r).map .p)):=.aY 1 func230 rfl ntmps230 aW
instance azg{J:ax}{U}:bG (R0 J U) 229 [aI U] (λr=>.agg ((b7 r).map .p)):=.aY 1 func229 rfl ntmps229 aW
variable {U:Int}{J:ax}{r:bt}{z:Nat}
theorem ala(h:zS J z U=D r):vz prog (tn z) [aI U] (.agg ((b7 r).map .p)):=by
  unfold zS at h;by_cases e:z=1
  · subst e;rw[if_pos rfl]at h;exact .eY (fC.p (av:=prog) h:) (λ_ _=>rfl) rfl rfl rfl
  rw[if_neg e]at h;by_cases e:z=2
  · subst e;rw[if_pos rfl]at h;exact .eY (fC.p (av:=prog) h:) (λ_ _=>rfl) rfl rfl rfl
  rw[if_neg e]at h;cases h
instance azh{J:ax}{U aj}:bG (CR J U aj) 128 [fw U,.agg ((b7 aj).map .p)] (λr=>.cg [.agg ((b7 r.1).map .p),aI r.2]):=.aY 2 func128 rfl ntmps128<|by intro _ _ _;refine a7 λZ=>?_;refine b4 ?_;refine .q (Xu runUnderlying234 rfl rfl (ajz _)) rfl<|?_;refine mF ?_;refine a7 λad=>?_;refine cp ?_;refine a7 λaA=>?_;refine cp ?_;refine b4 ?_;refine .iT rfl (λ_ h=>ala h) (.s rfl .n) rfl λaN=>?_;exact aW
instance azi{J:ax}{U}:bG (K_ J U) 182 [.agg ((b7 U).map .p)] bs:=.aY 0 func182 rfl ntmps182 aW
instance azj{J:ax}{ab}:ca (R1 J ab) 78 [bT 2 b7 ab,.p (.v (.func (.func 182) #[] #[]))] [] 0 aI (λ_=>[]):=.aY 0 func78 rfl ntmps78<|by intro _ _ _;refine cJ (α:=Int) (λs=>[(8,aI s)]) (λH _=>H) [0,1,7] ?_;rintro b6 n;exact aW
instance azk{J:ax}{ab}:ca (R2 J ab) 49 [bT 2 b7 ab,.p (.v (.func (.func 182) #[] #[]))] [] 0 bs (λ_=>[]):=.aY 0 func49 rfl ntmps49 aW
instance azl{J:ax}{U}:bG (zT J U) 132 [bT 2 b7 U] bs:=.aY 0 func132 rfl ntmps132 aW
instance azm{J:ax}{U aj a6}:bG (R3 J U aj a6) 178 [.agg ((b7 U).map .p),.agg ((b7 aj).map .p),.agg ((b7 a6).map .p)] (λr=>.cg [.agg ((b7 r.1).map .p),aI r.2]):=.aY 1 func178 rfl ntmps178 aW
instance azn:ca (aay) 234 [.p (.v (.func (.func 235) #[] #[]))] [] 0 oX (λ_=>[]):=.aY 0 func234 rfl ntmps234 aW
instance azo:ca (aaz) 234 [.p (.v (.func (.func 236) #[] #[]))] [] 0 oX (λ_=>[]):=.aY 0 func234 rfl ntmps234 aW
instance azp:ca (aaA) 237 [.p (.v (.func (.func 238) #[] #[]))] [] 0 oX (λ_=>[]):=.aY 0 func237 rfl ntmps237 aW
instance azq:ca (aaB) 237 [.p (.v (.func (.func 239) #[] #[]))] [] 0 oX (λ_=>[]):=.aY 0 func237 rfl ntmps237 aW
instance azr:ca (aaC) 237 [.p (.v (.func (.func 240) #[] #[]))] [] 0 oX (λ_=>[]):=.aY 0 func237 rfl ntmps237 aW
instance azs{U}:bG (R4 U) 179 [fw U] oX:=.aY 0 func179 rfl ntmps179 aW
instance azt{J:ax}{U aj}:bG (aaD J U aj) 231 [aI U,aI aj] (λr=>.agg ((b7 r).map .p)):=.aY 1 func231 rfl ntmps231 aW
instance azu{J:ax}{U aj}:bG (aaE J U aj) 232 [aI U,aI aj] (λr=>.agg ((b7 r).map .p)):=.aY 1 func232 rfl ntmps232 aW
instance azv{J:ax}{U aj}:bG (aaF J U aj) 233 [aI U,aI aj] (λr=>.agg ((b7 r).map .p)):=.aY 1 func233 rfl ntmps233 aW
instance azw{U aj}:bG (F' U aj) 278 [aI U,aI aj] (λr=>.cg [aI r.1,aI r.2]):=.aY 0 func278 rfl ntmps278<|by
 intro _ _ _;refine a7 λZ=>?_;refine a7 λad=>?_;refine b4 ?_;refine .and (r:=(!((decide (ad< 0))==(decide (aj< 0))))) 6 20 14 rfl (λc=>?_) (λc=>?_) ?_
 ·refine b4 ?_;refine .q (I1 runUnderlying4 rfl rfl) rfl<|?_;exact aW
 ·exact aW
 ·exact aW
instance azx{U aj}:bG (R5 U aj) 235 [aI U,aI aj] aI:=.aY 0 func235 rfl ntmps235 aW
instance azy{J:ax}{ab ag}:ca (K' J ab ag) 277 [aI ab,aI ag,.bA [.v (.func (.func 235) #[] #[])]] [] 0 (λr=>.agg ((b7 r).map .p)) (λ_=>[]):=.aY 1 func277 rfl ntmps277 aW
instance azz{U aj}:bG (R6 U aj) 236 [aI U,aI aj] aI:=.aY 0 func236 rfl ntmps236 aW
instance azA{J:ax}{ab ag}:ca (La J ab ag) 277 [aI ab,aI ag,.bA [.v (.func (.func 236) #[] #[])]] [] 0 (λr=>.agg ((b7 r).map .p)) (λ_=>[]):=.aY 1 func277 rfl ntmps277 aW
instance azB{U}:bG (Lb U) 317 [aI U] bs:=.aY 0 func317 rfl ntmps317 aW
instance azC{U aj}:bG (CS U aj) 280 [aI U,aI aj] aI:=.aY 0 func280 rfl ntmps280 aW
instance azD{U}:bG (R7 U) 238 [aI U] bs:=.aY 0 func238 rfl ntmps238 aW
instance azE{J:ax}{ab ag}:ca (Lc J ab ag) 279 [aI ab,aI ag,.bA [.v (.func (.func 238) #[] #[])]] [] 0 (λr=>.agg ((b7 r).map .p)) (λ_=>[]):=.aY 1 func279 rfl ntmps279 aW
instance azF{U}:bG (R8 U) 239 [aI U] bs:=.aY 0 func239 rfl ntmps239 aW
instance azG{J:ax}{ab ag}:ca (Ld J ab ag) 279 [aI ab,aI ag,.bA [.v (.func (.func 239) #[] #[])]] [] 0 (λr=>.agg ((b7 r).map .p)) (λ_=>[]):=.aY 1 func279 rfl ntmps279 aW
instance azH{U}:bG (R9 U) 240 [aI U] bs:=.aY 0 func240 rfl ntmps240 aW
instance azI{J:ax}{ab ag}:ca (Le J ab ag) 279 [aI ab,aI ag,.bA [.v (.func (.func 240) #[] #[])]] [] 0 (λr=>.agg ((b7 r).map .p)) (λ_=>[]):=.aY 1 func279 rfl ntmps279 aW
theorem alb{aj:Int}(h:Lf J z U aj=D r):vz prog (oX z) [aI U,aI aj] (.agg ((b7 r).map .p)):=by
  unfold Lf at h;by_cases e:z=1
  · subst e;rw[if_pos rfl]at h;exact .eY (fC.p (av:=prog) h:) (λ_ _=>rfl) rfl rfl rfl
  rw[if_neg e]at h;by_cases e:z=2
  · subst e;rw[if_pos rfl]at h;exact .eY (fC.p (av:=prog) h:) (λ_ _=>rfl) rfl rfl rfl
  rw[if_neg e]at h;by_cases e:z=3
  · subst e;rw[if_pos rfl]at h;exact .eY (fC.p (av:=prog) h:) (λ_ _=>rfl) rfl rfl rfl
  rw[if_neg e]at h;by_cases e:z=4
  · subst e;rw[if_pos rfl]at h;exact .q7 (fC.p (av:=prog) h:) (λ_ _=>rfl) rfl rfl rfl
  rw[if_neg e]at h;by_cases e:z=5
  · subst e;rw[if_pos rfl]at h;exact .q7 (fC.p (av:=prog) h:) (λ_ _=>rfl) rfl rfl rfl
  rw[if_neg e]at h;by_cases e:z=6
  · subst e;rw[if_pos rfl]at h;exact .q7 (fC.p (av:=prog) h:) (λ_ _=>rfl) rfl rfl rfl
  rw[if_neg e]at h;by_cases e:z=7
  · subst e;rw[if_pos rfl]at h;exact .q7 (fC.p (av:=prog) h:) (λ_ _=>rfl) rfl rfl rfl
  rw[if_neg e]at h;by_cases e:z=8
  · subst e;rw[if_pos rfl]at h;exact .q7 (fC.p (av:=prog) h:) (λ_ _=>rfl) rfl rfl rfl
  rw[if_neg e]at h;cases h
instance azJ{J:ax}{U aj a6}:bG (Lg J U aj a6) 129 [fw U,.agg ((b7 aj).map .p),.agg ((b7 a6).map .p)] (λr=>.cg [.agg ((b7 r.1).map .p),aI r.2]):=.aY 2 func129 rfl ntmps129<|by intro _ _ _;refine cp ?_;refine cp ?_;refine a7 λa0=>?_;refine b4 ?_;refine .q (Xu runUnderlying238 rfl rfl (ajC _)) rfl<|?_;refine mF ?_;refine a7 λbe=>?_;refine cp ?_;refine a7 λbL=>?_;refine cp ?_;refine b4 ?_;refine .iT rfl (λ_ h=>alb h) (.s rfl (.s rfl .n)) rfl λbJ=>?_;exact aW
instance azK{J:ax}{iL} [Dl:xG iL]{ab ag ak ap an al am aD a2 bc ba bm bF ch cS i9 Li}:ca (Lh J iL ab ag ak ap an al am aD a2 bc ba bm bF ch cS i9 Li) 90 [.aR 0 0,.aR 1 0,aI ab,fw ag,bs ak] [eH ap an al am aD a2 bc 2 3 4 5,kK ba bm 6,e4 bF,dH ch,c3 cS,eW i9,dH Li] 0 (λr=>bT 2 b7 r.1) (λr=>[eH ap an r.2.1 r.2.2.1 r.2.2.2.1 a2 bc 2 3 4 5,kK ba bm 6,e4 bF,dH r.2.2.2.2.1,c3 r.2.2.2.2.2.1,eW r.2.2.2.2.2.2.1,dH r.2.2.2.2.2.2.2]):=.aY 1 func90 rfl ntmps90 aW
instance azL{J:ax}{gV} [Dm:xF gV]{ab ag ak ap an al am aD a2 bc ba bm bF ch cS}:ca (Lj J gV ab ag ak ap an al am aD a2 bc ba bm bF ch cS) 91 [.aR 0 0,.aR 1 0,aI ab] [eH ag ak ap an al am aD 2 3 4 5,kK a2 bc 6,e4 ba,dH bm,c3 bF,eW ch,dH cS] 0 (λr=>bT 2 b7 r.1) (λr=>[eH ag ak ap an al am aD 2 3 4 5,kK a2 bc 6,e4 ba,dH r.2.1,c3 r.2.2.1,eW r.2.2.2,dH cS]):=.aY 4 func91 rfl ntmps91<|by
 intro _ _ _;refine a7 λZ=>?_;refine a7 λad=>?_;refine gL ?_ ?_
 ·refine b4 ?_;refine .aC (YU (k:=Z) rfl rfl rfl) (da rfl) rfl<|?_;exact aW
 ·refine gL ?_ ?_
  ·refine b4 ?_;refine .aC (aj0 (k:=Z) rfl rfl rfl) (da rfl) rfl<|?_;refine fm ?_;refine a7 λaN=>?_;refine a7 λa0=>?_;refine a7 λbe=>?_;refine kJ ?_;refine .nil (by kernel_rfl)<|.i7<|.open 3 rfl λazM azN abT alc=>?_;refine b4 ?_;refine .aC (YV (k:=Z) rfl rfl rfl) (da rfl) .n<|?_;refine b4 ?_;refine .aC (YW (k:=Z) (a:=be.1) abT alc rfl rfl rfl .gp) (da rfl) .n<|.nil (by kernel_rfl)<|.Ya 3 (P9 abT) (λ_=>.inr ⟨_,rfl⟩) rfl<|?_;exact aW
  ·refine b4 ?_;refine .aC (ajZ (k:=Z) rfl rfl rfl) (da rfl) rfl<|?_;exact aW
instance azO{U}:bG (R_ U) 39 [.agg ((b7 U).map .p)] bs:=.aY 0 func39 rfl ntmps39 aW
theorem ald{Lp} [ale:QJ Lp]{ab ag ak ap an al am aD a2 bc ba bm}:ca (Lo J Lp ab ag ak ap an al am aD a2 bc ba bm) 124 [.aR 0 0,aI ab] [eH ag ak ap an al am aD 1 2 3 4,e4 a2,dH bc,c3 ba,eW bm] 0 cG (λ_=>[eH ag ak ap an al am aD 1 2 3 4,e4 a2,dH bc,c3 ba,eW bm]):=.aY 1 func124 rfl ntmps124<|by intro _ _ _;refine a7 λZ=>?_;refine cp ?_;refine cp ?_;refine cp ?_;refine a7 λad=>?_;refine a7 λaA=>?_;refine a7 λaN=>?_;refine a7 λa0=>?_;refine b4 ?_;refine .q (ahV runUnderlying21 runUnderlying9 rfl) .n<|?_;exact aW
theorem alf(k:Nat):QJ (Gb J k):=by
  induction k with
  |zero=>(repeat intro _);exact .br rfl
  |succ k bB=>(repeat intro _);exact ald (ale:=bB)
instance azP{J:ax}:QJ (Gc J):=alf J.n
instance azQ{ab ag ak ap an al am aD a2 bc ba}:ca (Sd ab ag ak ap an al am aD a2 bc ba) 80 [.aR 0 2] [eH ab ag ak ap an al am 1 2 3 4,e4 aD,dH a2,c3 bc,eW ba] 0 (λr=>.cg []) (λr=>[eH ab ag ak r an al am 1 2 3 4,e4 aD,dH a2,c3 bc,eW ba]):=.aY 0 func80 rfl ntmps80 aW
theorem alg{ab ag ak ap an al am aD a2 bc ba}:akc (Sd ab ag ak ap an al am aD a2 bc ba) 80 [.aR 0 2] [eH ab ag ak ap an al am 1 2 3 4,e4 aD,dH a2,c3 bc,eW ba] 0 (λr=>.cg []) (λr=>[eH ab ag ak r an al am 1 2 3 4,e4 aD,dH a2,c3 bc,eW ba]):=JD.aY 0 func80 rfl ntmps80 aW
instance azR{ab ag ak ap an}:vO (Si ab ag ak ap an) [bT 2 b7 ab] [Fw .ready aF [(5,.bA (b7 ag)),(8,.aR 1 0),(11,.aR 2 0)] 3,.cells 29 [.dX 4 0 ak ak],dK ap,.cr ah,.bu 64 (an.flatMap b7)] (λr=>bs ah) (λr=>[Fw .ready aF [(5,.bA (b7 ag)),(8,.aR 1 0),(11,.aR 2 0)] 3,.cells 29 [.dX 4 0 ak ak],dK r.1,.cr ah,.bu 64 (r.2.flatMap b7)]):=.aY 0<|by intro _ _ _;refine fm ?_;refine b4 ?_;refine .oS (λz h=>Jb (f:=(λxs=>xs.flatMap b7)) (e:=b7) 0 runUnderlying29 sizeOf64 to FD (λ_=>rfl) rfl rfl qf h) (λ_=>da rfl) rfl λZ=>?_;exact aW
instance azS{J:ax}{ab ag ak ap an al}:ca (Lx J ab ag ak ap an al) 185 [.fW 0,.bA [dI 2 b7 ab],.bA [bD ag]] [Fw .ready aF [(5,.bA (b7 ak)),(8,.aR 1 0),(11,.aR 2 0)] 3,.cells 29 [.dX 4 0 ap ap],dK an,.cr ah,.bu 64 (al.flatMap b7)] 0 (λr=>.cg []) (λr=>[Fw .ready aF [(5,.bA (b7 ak)),(8,.aR 1 0),(11,.aR 2 0)] 3,.cells 29 [.dX 4 0 ap ap],dK r.1,.cr ah,.bu 64 (r.2.flatMap b7)]):=.aY 0 func185 rfl ntmps185<|by intro _ _ _;refine cJ (α:=(Int×Int×cd)) (λs=>[(4,aI s.1)]) (λH s=>(H.set 2 (dK s.2.1)).set 4 (.bu 64 (s.2.2.flatMap b7))) [0,1,2] ?_;rintro⟨dV,jM,uS⟩ n;refine fm ?_;refine a7 λZ=>?_;refine b4 ?_;refine .agh runUnderlying29 sizeOf64 rfl qf to rfl rfl rfl rfl λad=>?_;exact aW
instance azT{J:ax}{U}:bG (Sn J U) 47 [.agg ((b7 U).map .p)] aI:=.aY 0 func47 rfl ntmps47 aW
instance azU{J:ax}{U}:bG (LC J U) 46 [.agg ((b7 U).map .p)] bs:=.aY 0 func46 rfl ntmps46 aW
instance azV{J:ax}{ab}:ca (So J ab) 78 [bT 2 b7 ab,.p (.v (.func (.func 46) #[] #[]))] [] 0 aI (λ_=>[]):=.aY 0 func78 rfl ntmps78<|by intro _ _ _;refine cJ (α:=Int) (λs=>[(8,aI s)]) (λH _=>H) [0,1,7] ?_;rintro b6 n;exact aW
instance azW{J:ax}{ab}:ca (LD J ab) 49 [bT 2 b7 ab,.p (.v (.func (.func 46) #[] #[]))] [] 0 bs (λ_=>[]):=.aY 0 func49 rfl ntmps49 aW
instance azX{U}:bG (Gf U) 50 [bT 2 b7 U] (bT 2 b7):=.aY 1 func50 rfl ntmps50<|by
 intro _ _ _;refine b4 ?_;refine .ahc runUnderlying29 rfl rfl ?_ (λq=>?_)
 ·refine kt ?_;exact aW
 ·subst q;refine .as (m':=D []) rfl<|?_;exact aW
instance azY{J:ax}{U aj}:bG (qu J U aj) 18 [bT 2 b7 U,bT 2 b7 aj] bs:=.aY 0 func18 rfl ntmps18<|by intro _ _ _;refine cp ?_;refine cJ (α:=Int) (λs=>[(5,aI s)]) (λH _=>H) [0,1] ?_;rintro cb n;refine fm ?_;refine a7 λZ=>?_;refine a7 λad=>?_;refine b4 ?_;refine .q (ag5 (ajF Z ad) ajE rfl rfl) .n<|?_;exact aW
instance azZ{J:ax}{U}:bG (x1 J U) 10 [.agg ((du U).map .p)] (λr=>.agg ((du r).map .p)):=.aY 7 func10 rfl ntmps10<|by intro _ _ _;refine cu ?_;refine kt ?_;refine a7 λZ=>?_;refine kJ ?_;refine .nil<|.i7<|.seq<|.seq<|.region<|?_;refine kJ ?_;refine .nil<|.i7<|.iQ<|.xe jy 40 5 2 0 3 rfl rfl rfl<|?_;refine nA (α:=((Int×List bz)×Nat)) (λs=>[(4,aI s.1.1)]) (λH s=>(H.set 2 (.cells 25 [cT 5 jy s.1.2 3 s.2,cT 1 cH Z 1 1])).set 3 (.bl 40 5 s.2)) [1,2,3] ((0,[]),0) ?_;rintro⟨⟨dV,jM⟩,Dg⟩ n;refine fm ?_;refine a7 λad=>?_;refine kt ?_;refine a7 λaA=>?_;refine b4 ?_;refine .Yg 30 (.agg [fw ad.kind,cG ad.bi,aI ad.n,bT 1 cH aA,aI ad.dx]) rfl (.agg (.c .gp (.c .gp (.c .gp (.c .IA (.c .gp .n))))))<|.af3 6 ([⟨ad.kind,ad.bi,ad.n,aA,ad.dx⟩]:List bz) jy runUnderlying22 sizeOf40 zeroValue40 rfl rfl rfl rfl rfl rfl rfl rfl rfl rfl<|?_;refine a7 λaN=>?_;refine b4 ?_;exact .hS [4,6,5] (((aH (dV+1)),aN),Dg+1)
instance az0{U}:bG (LH U) 355 [fw U] bs:=.aY 0 func355 rfl ntmps355 aW
instance az1:bG (CX) 358 [] (bT 1 fk):=.aY 0 func358 rfl ntmps358<|by intro _ _ _;refine b4 ?_;refine .bH ([(⟨#[97,110,100]⟩:ByteArray),(⟨#[97,115,107]⟩:ByteArray),(⟨#[98,108,97,109,101]⟩:ByteArray),(⟨#[98,111,111,108]⟩:ByteArray),(⟨#[98,111,117,110,100,115]⟩:ByteArray),(⟨#[99,104,111,111,115,101]⟩:ByteArray),(⟨#[99,111,117,110,116]⟩:ByteArray),(⟨#[101,108,115,101]⟩:ByteArray),(⟨#[102,97,108,115,101]⟩:ByteArray),(⟨#[102,117,110]⟩:ByteArray),(⟨#[105,102]⟩:ByteArray),(⟨#[105,110]⟩:ByteArray),(⟨#[105,110,116]⟩:ByteArray),(⟨#[108,101,116]⟩:ByteArray),(⟨#[108,111,111,107]⟩:ByteArray),(⟨#[109,97,121]⟩:ByteArray),(⟨#[109,117,115,116]⟩:ByteArray),(⟨#[110,111,116]⟩:ByteArray),(⟨#[111,98,115,101,114,118,101]⟩:ByteArray),(⟨#[111,114]⟩:ByteArray),(⟨#[114,101,116,114,97,99,116]⟩:ByteArray),(⟨#[116,104,101,110]⟩:ByteArray),(⟨#[116,114,117,101]⟩:ByteArray),(⟨#[116,121,112,101]⟩:ByteArray),(⟨#[117,112,116,111]⟩:ByteArray),(⟨#[118,97,108,117,101,115]⟩:ByteArray),(⟨#[119,104,121]⟩:ByteArray)]:List ByteArray) fk runUnderlying78 sizeOf9 zeroValue9 rfl rfl rfl rfl rfl rfl rfl rfl<|?_;exact aW
instance az2:bG (z0) 359 [] (bT 1 fk):=.aY 0 func359 rfl ntmps359<|by intro _ _ _;refine b4 ?_;refine .bH ([(⟨#[61,61]⟩:ByteArray),(⟨#[33,61]⟩:ByteArray),(⟨#[60,61]⟩:ByteArray),(⟨#[62,61]⟩:ByteArray),(⟨#[46,46]⟩:ByteArray),(⟨#[43]⟩:ByteArray),(⟨#[45]⟩:ByteArray),(⟨#[42]⟩:ByteArray),(⟨#[47]⟩:ByteArray),(⟨#[37]⟩:ByteArray),(⟨#[60]⟩:ByteArray),(⟨#[62]⟩:ByteArray),(⟨#[61]⟩:ByteArray),(⟨#[40]⟩:ByteArray),(⟨#[41]⟩:ByteArray),(⟨#[91]⟩:ByteArray),(⟨#[93]⟩:ByteArray),(⟨#[123]⟩:ByteArray),(⟨#[125]⟩:ByteArray),(⟨#[44]⟩:ByteArray),(⟨#[58]⟩:ByteArray),(⟨#[59]⟩:ByteArray),(⟨#[46]⟩:ByteArray)]:List ByteArray) fk runUnderlying78 sizeOf9 zeroValue9 rfl rfl rfl rfl rfl rfl rfl rfl<|?_;exact aW
instance az3{U aj}:bG (rs U aj) 160 [.agg ((du U).map .p),aI aj] bs:=.aY 1 func160 rfl ntmps160 aW
instance az4{J:ax}{U aj}:bG (z4 J U aj) 63 [bT 1 cH U,aI aj] bs:=.aY 0 func63 rfl ntmps63<|by intro _ _ _;refine cJ (α:=Int) (λs=>[(5,aI s)]) (λH _=>H) [0,1] ?_;rintro cb n;exact aW
instance az5{J:ax}{U aj}:bG (Sy J U aj) 161 [.agg ((du U).map .p),aI aj] bs:=.aY 0 func161 rfl ntmps161 aW
instance az6{J:ax}{U aj}:bG (x3 J U aj) 163 [.agg ((du U).map .p),aI aj] aI:=.aY 0 func163 rfl ntmps163<|by intro _ _ _;refine cJ (α:=Int) (λs=>[(5,aI s)]) (λH _=>H) [1,2] ?_;rintro cb n;exact aW
instance az7{J:ax}{U aj}:bG (C2 J U aj) 162 [.agg ((du U).map .p),aI aj] bs:=.aY 0 func162 rfl ntmps162 aW
instance az8{J:ax}{U aj a6}:bG (LP J U aj a6) 165 [.agg ((du U).map .p),aI aj,aI a6] bs:=.aY 0 func165 rfl ntmps165<|by intro _ _ _;refine cJ (α:=Int) (λs=>[(7,aI s)]) (λH _=>H) [2,3] ?_;rintro hT n;exact aW
instance az9{U aj}:bG (nI U aj) 16 [.agg ((du U).map .p),aI aj] bs:=.aY 0 func16 rfl ntmps16 aW
instance aAa{J:ax}{U aj a6}:bG (tz J U aj a6) 17 [.agg ((du U).map .p),aI aj,bT 1 cH a6] bs:=.aY 1 func17 rfl ntmps17<|by
 intro _ _ _;refine cJ (α:=(Int×Int)) (λs=>[(7,aI s.1),(8,aI s.2)]) (λH _=>H) [1,2,3] ?_;rintro⟨hT,b6⟩ n;refine fm ?_;refine a7 λZ=>?_;refine a7 λad=>?_;refine gL ?_ ?_
 ·refine b4 ?_;exact .hS [0] (hT,(aH (b6+1)))
 ·refine mF ?_;refine a7 λaA=>?_;refine a7 λaN=>?_;refine a7 λa0=>?_;refine mF ?_;refine a7 λbe=>?_;refine a7 λbL=>?_;refine a7 λbJ=>?_;refine cp ?_;refine b4 ?_;exact .hS [0] ((aH (hT+1)),(aH (b6+1)))
instance aAb{J:ax}{U aj}:bG (Mb J U aj) 137 [.agg ((xA U).map .p),aI aj] (bT 2 b7):=.aY 0 func137 rfl ntmps137<|by intro _ _ _;refine cJ (α:=(cd×Int)) (λs=>[(5,bT 2 b7 s.1),(6,aI s.2)]) (λH _=>H) [1,2] ?_;rintro⟨cb,gt⟩ n;exact aW
instance aAc{J:ax}{ab ag ak ap an al am aD a2 bc ba bm bF}:ca (Mc J ab ag ak ap an al am aD a2 bc ba bm bF) 97 [.aR 0 0,aI ab,.agg ((xA ag).map .p)] [lO ak ap an al am aD bc 1 a2 ba bm bF,.bl 29 1 a2] 0 (bT 2 b7) (λ_=>[lO ak ap an al am aD bc 1 a2 ba bm bF,.bl 29 1 a2]):=.aY 0 func97 rfl ntmps97<|by intro _ _ _;refine a7 λZ=>?_;refine cJ (α:=Int) (λs=>[(8,aI s)]) (λH _=>H) [0,5,7] ?_;rintro b6 n;exact aW
instance aAd{J:ax}{U aj}:bG (GA J U aj) 22 [bT 1 (kF 2 b7) U,bT 1 (kF 2 b7) aj] bs:=.aY 0 func22 rfl ntmps22<|by intro _ _ _;refine cp ?_;refine cJ (α:=Int) (λs=>[(5,aI s)]) (λH _=>H) [0,1] ?_;rintro cb n;exact aW
instance aAe{J:ax}{U aj}:bG (Dk J U aj) 32 [.agg ((du U).map .p),aI aj] aI:=.aY 1 func32 rfl ntmps32<|by
 intro _ _ _;refine cJ (α:=Int) (λs=>[(5,aI s)]) (λH _=>H) [1,2] ?_;rintro cb n;refine fm ?_;refine a7 λZ=>?_;refine a7 λad=>?_;refine q9 ?_;refine q9 ?_;refine nu ?_ ?_
 ·refine a7 λaA=>?_;refine cp ?_;refine b4 ?_;exact .hS [0] (aH (cb+1))
 ·refine b4 ?_;exact .hS [0] (aH (cb+1))
end
end Go.Proofs.YtgfggdcbhjhegaaGreatDoor

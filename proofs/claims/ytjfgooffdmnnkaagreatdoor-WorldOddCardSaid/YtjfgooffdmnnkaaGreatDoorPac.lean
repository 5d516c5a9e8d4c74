/- The functions of the program compute what their models say. -/
import Derived.Test.YtjfgooffdmnnkaaGreatDoorUD
set_option linter.all false
set_option maxRecDepth 100000
set_option maxHeartbeats 4000000
namespace Go.Proofs.YtjfgooffdmnnkaaGreatDoor
open Go Go.Mi Go.RowKit Go.Dp Tryz Go.Proofs.Tryz
open Bool renaming true->ad,false->aS
open _root_.ByteArray renaming mk->bk
open Option renaming none->aJ,some->I
open Sum renaming elim->eo
noncomputable section
attribute [local irreducible] bS dl cv b7
instance aFG:bQ (DD) 127 [] (bM 1 fd):=.aX 0 func127 rfl ntmps127<|by intro _ _ _;refine cg ?_;refine .bT ([(bk #[]),(bk #[109,117,115,116]),(bk #[109,97,121]),(bk #[99,111,117,110,116]),(bk #[98,111,117,110,100,115]),(bk #[118,97,108,117,101,115]),(bk #[119,104,121]),(bk #[98,108,97,109,101]),(bk #[108,111,111,107])]:List ByteArray) fd runUnderlying29 sizeOf9 zeroValue9 rfl rfl rfl rfl rfl rfl rfl rfl<|?_;exact a0
instance aEZ{J:aA}{Z an}:bQ (Bx J Z an) 136 [bM 1 fd Z,bM 1 fd an] bD:=.aX 0 func136 rfl ntmps136<|by intro _ _ _;refine cy ?_;refine cI (α:=Int) (λs=>[(5,aL s)]) (λH _=>H) [0,1] ?_;rintro cY n;exact a0
instance aBA{ab}:ck (D0 ab) 346 [aL ab,.p (.v (.func (.func 347) #[] #[]))] [] 0 (λr=>.agg ((uj r).map .p)) (λ_=>[]):=.aX 1 func346 rfl ntmps346 a0
instance aBB{Z}:bQ (zv Z) 349 [bM 3 uj Z] (λr=>.agg ((J4 r).map .p)):=.aX 1 func349 rfl ntmps349 a0
instance aBC{Z}:bQ (GY Z) 348 [bM 3 uj Z] (λr=>.agg ((J4 r).map .p)):=.aX 1 func348 rfl ntmps348 a0
instance aBD{ab}:ck (Pw ab) 346 [aL ab,.p (.v (.func (.func 351) #[] #[]))] [] 0 (λr=>.agg ((uj r).map .p)) (λ_=>[]):=.aX 1 func346 rfl ntmps346 a0
instance aBE{ab}:ck (aeE ab) 346 [aL ab,.p (.v (.func (.func 352) #[] #[]))] [] 0 (λr=>.agg ((uj r).map .p)) (λ_=>[]):=.aX 1 func346 rfl ntmps346 a0
instance aBF{Z}:bQ (Ky Z) 354 [aL Z] (λr=>.agg ((J4 r).map .p)):=.aX 2 func354 rfl ntmps354<|by intro _ _ _;refine ba λaa=>?_;refine cy ?_;refine fg ?_;refine cg ?_;refine .bT ([⟨1,801,1⟩]:List lJ) uj runUnderlying340 sizeOf363 zeroValue363 rfl rfl rfl rfl rfl rfl rfl rfl<|?_;exact a0
instance aBG{Z}:bQ (D1 Z) 315 [.agg ((kz Z).map .p)] (λr=>.cx [.agg ((J4 r.1).map .p),bD r.2]):=.aX 6 func315 rfl ntmps315<|by
 intro _ _ _;refine ba λaa=>?_;refine ba λai=>?_;refine ba λaE=>?_;refine cy ?_;refine cy ?_;refine zl ?_;refine cy ?_;refine zl ?_;refine cy ?_;refine cy ?_;refine cy ?_;refine ha ?_ ?_
 ·refine cg ?_;refine .bT ([⟨0,801,1⟩]:List lJ) uj runUnderlying340 sizeOf363 zeroValue363 rfl rfl rfl rfl rfl rfl rfl rfl<|?_;exact a0
 ·refine zl ?_;refine cy ?_;refine ha ?_ ?_
  ·refine cg ?_;refine .bT ([⟨1,801,2⟩]:List lJ) uj runUnderlying340 sizeOf363 zeroValue363 rfl rfl rfl rfl rfl rfl rfl rfl<|?_;exact a0
  ·refine ha ?_ ?_
   ·refine cg ?_;refine .bT ([⟨1,801,1⟩]:List lJ) uj runUnderlying340 sizeOf363 zeroValue363 rfl rfl rfl rfl rfl rfl rfl rfl<|?_;exact a0
   ·refine zl ?_;refine cy ?_;refine cy ?_;refine cy ?_;refine cy ?_;refine ha ?_ ?_
    ·refine cg ?_;refine .bT ([⟨1,801,5⟩]:List lJ) uj runUnderlying340 sizeOf363 zeroValue363 rfl rfl rfl rfl rfl rfl rfl rfl<|?_;exact a0
    ·refine fg ?_;refine ba λhk=>?_;refine cg ?_;refine .bT ([⟨0,801,5⟩,hk,⟨aa.lU,aa.qs,aa.jK⟩]:List lJ) uj runUnderlying340 sizeOf363 zeroValue363 rfl rfl rfl rfl rfl rfl rfl .n<|?_;exact a0
instance aBH{Z an a'}:bQ (ym Z an a') 316 [aL Z,aL an,aL a'] bD:=.aX 0 func316 rfl ntmps316 a0
instance aBI{Z}:bQ (Px Z) 376 [gh Z] bD:=.aX 0 func376 rfl ntmps376 a0
instance aBJ{Z}:bQ (Kz Z) 381 [gh Z] bD:=.aX 0 func381 rfl ntmps381 a0
instance aBK{Z}:bQ (Py Z) 378 [gh Z] bD:=.aX 0 func378 rfl ntmps378 a0
instance aBL{J:aA}{ab}:ck (Pz J ab) 377 [cE ab,.p (.v (.func (.func 378) #[] #[]))] [] 0 aL (λ_=>[]):=.aX 0 func377 rfl ntmps377<|by intro _ _ _;refine cI (α:=Int) (λs=>[(5,aL s)]) (λH _=>H) [0,1] ?_;rintro cY n;exact a0
instance aBM{J:aA}{Z}:bQ (V6 J Z) 391 [cE Z] (bM 1 fd):=.aX 1 func391 rfl ntmps391<|by
 intro _ _ _;refine .seq<|.region<|?_;refine fO ?_;refine .seq<|.region<|?_;refine fO ?_;refine .seq<|.region<|?_;refine fO ?_;refine .seq<|.region<|?_;refine fO ?_;refine .gg (β:=(Int×Int)) (λs=>[(3,aL s.1),(5,gh s.2)]) (λH _=>H) [0] (aeH J Z) ?_ ?_
 ·rintro⟨eQ,cY⟩;refine ha ?_ ?_
  ·exact .bt
  ·refine cg ?_;refine .mk 0 fA (bk #[]) On Oj rfl rfl rfl (λ_ _=>.v) rfl rfl λaa=>?_;refine JW ?_;refine .gg (β:=(Int×dW)) (λs=>[(12,aL s.1)]) (λH s=>H.set 0 (.bA 9 (s.2.map fA))) [0,9,10] (V3 J Z aa) ?_ ?_
   ·rintro⟨mS,jN⟩;refine JW ?_;refine .gg (β:=(Int×Int×dW)) (λs=>[(10,aL s.1),(11,aL s.2.1)]) (λH s=>H.set 0 (.bA 9 (s.2.2.map fA))) [0,9] (aeG Z aa) ?_ ?_
    ·rintro⟨yj,ut,sd⟩;refine ha ?_ ?_
     ·refine ba λai=>?_;refine ba λaE=>?_;refine cg ?_;refine .zf (l':=[]) (x:=λ_=>.ek 0 0 aa.length aa.length) (y:=λz=>bM 1 fd z) 2 fd (λxs=>xs.map fA) (λ_=>rfl) (λxs=>(r3 (λ_=>rfl) xs).symm) rfl rfl (λz h=>.a) .n rfl rfl rfl λaW=>?_;exact a0
     ·refine cg ?_;refine .zf (l':=[]) (x:=λ_=>.ek 0 0 aa.length aa.length) (y:=λz=>bM 1 fd z) 2 fd (λxs=>xs.map fA) (λ_=>rfl) (λxs=>(r3 (λ_=>rfl) xs).symm) rfl rfl (λz h=>.a) .n rfl rfl rfl λa_=>?_;exact a0
    ·intro j;refine cI (α:=(Int×Int×Int×dW)) (λs=>[(10,aL s.1),(11,aL s.2.1),(12,aL s.2.2.1)]) (λH s=>H.set 0 (.bA 9 (s.2.2.2.map fA))) [0,9] ?_;rintro⟨nU,PA,wR,rk⟩ n;refine fg ?_;refine ba λbq=>?_;refine ba λbR=>?_;refine cy ?_;refine ba λbJ=>?_;refine ba λcG=>?_;refine cI (α:=Int) (λs=>[(12,aL s)]) (λH _=>H) [0,9,10] ?_;rintro BA n;exact a0
   ·intro j;refine cI (α:=Int) (λs=>[(12,aL s)]) (λH _=>H) [0,9,10] ?_;rintro GZ n;exact a0
 ·intro j;refine cI (α:=Dv) (λs=>[(3,aL s.1),(4,aL s.2.1),(5,gh s.2.2.1),(6,aL s.2.2.2)]) (λH _=>H) [0] ?_;rintro⟨V4,aeI,V5,vv⟩ n;exact a0
instance aBN{J:aA}:ck (aeJ J) 380 [] [] 0 (bM 1 fd) (λ_=>[]):=.aX 0 func380 rfl ntmps380 a0
instance aBO:bQ aeK 380 [] (bM 1 fd):=⟨λr h=>by cases h;exact(gB.h (aw:=prog) aoN:)⟩
instance aBP{J:aA}{Z an}:bQ (V7 J Z an) 390 [bM 1 fd Z,cE an] aL:=.aX 0 func390 rfl ntmps390<|by intro _ _ _;refine cI (α:=Int) (λs=>[(8,aL s)]) (λH _=>H) [0,1,7] ?_;rintro b2 n;exact a0
instance aBQ{J:aA}{Z an}:bQ (PB J Z an) 379 [bM 1 fd Z,cE an] bD:=.aX 0 func379 rfl ntmps379 a0
instance aBR{J:aA}{ab}:ck (PC J ab) 377 [cE ab,.p (.v (.func (.func 381) #[] #[]))] [] 0 aL (λ_=>[]):=.aX 0 func377 rfl ntmps377<|by intro _ _ _;refine cI (α:=Int) (λs=>[(5,aL s)]) (λH _=>H) [0,1] ?_;rintro cY n;exact a0
instance aBS{Z}:bQ (V8 Z) 382 [cE Z] bD:=.aX 0 func382 rfl ntmps382 a0
instance aBT{J:aA}:ck (aeN J) 383 [] [] 0 (bM 1 fd) (λ_=>[]):=.aX 0 func383 rfl ntmps383 a0
instance aBU:bQ aeO 383 [] (bM 1 fd):=⟨λr h=>by cases h;exact(gB.h (aw:=prog) aoO:)⟩
instance aBV{Z an}:bQ (BB Z an) 362 [cE Z,cE an] bD:=.aX 0 func362 rfl ntmps362 a0
instance aBW{Z an}:bQ (V9 Z an) 384 [cE Z,cE an] bD:=.aX 0 func384 rfl ntmps384 a0
instance aBX{J:aA}{Z}:bQ (V_ J Z) 361 [cE Z] (λr=>.cx [gh r.1,cE r.2]):=.aX 0 func361 rfl ntmps361<|by intro _ _ _;refine cy ?_;refine ba λaa=>?_;refine ba λai=>?_;refine cy ?_;refine ba λbR=>?_;refine ba λbJ=>?_;refine cy ?_;refine ba λdP=>?_;refine cI (α:=Int) (λs=>[(42,aL s)]) (λH _=>H) [0,40,41] ?_;rintro PD n;exact a0
instance aBY{J:aA}{Z}:bQ (V' J Z) 334 [cE Z] (λr=>.cx [gh r.1,aL r.2]):=.aX 0 func334 rfl ntmps334 a0
instance aBZ{J:aA}{Z}:bQ (G0 J Z) 306 [cE Z] bD:=.aX 0 func306 rfl ntmps306 a0
instance aB0{Z}:bQ (aeQ Z) 347 [gh Z] bD:=.aX 0 func347 rfl ntmps347 a0
instance aB1{Z}:bQ (aeR Z) 350 [gh Z] bD:=.aX 0 func350 rfl ntmps350 a0
instance aB2{Z}:bQ (aeS Z) 351 [gh Z] bD:=.aX 0 func351 rfl ntmps351 a0
instance aB3{Z}:bQ (aeT Z) 352 [gh Z] bD:=.aX 0 func352 rfl ntmps352 a0
instance aB4{Z}:bQ (aeU Z) 353 [gh Z] bD:=.aX 0 func353 rfl ntmps353 a0
theorem aoX{z:Nat}{Z:Int}{r:Bool}(h:G1 z Z=I r):zb prog (Bd z) [gh Z] (bD r):=by
  unfold G1 at h;by_cases e:z=1
  · subst e;rw[if_pos rfl]at h;exact .fS (gB.p (aw:=prog) h:) (λ_ _=>rfl) rfl rfl rfl
  rw[if_neg e]at h;by_cases e:z=2
  · subst e;rw[if_pos rfl]at h;exact .fS (gB.p (aw:=prog) h:) (λ_ _=>rfl) rfl rfl rfl
  rw[if_neg e]at h;by_cases e:z=3
  · subst e;rw[if_pos rfl]at h;exact .fS (gB.p (aw:=prog) h:) (λ_ _=>rfl) rfl rfl rfl
  rw[if_neg e]at h;by_cases e:z=4
  · subst e;rw[if_pos rfl]at h;exact .fS (gB.p (aw:=prog) h:) (λ_ _=>rfl) rfl rfl rfl
  rw[if_neg e]at h;by_cases e:z=5
  · subst e;rw[if_pos rfl]at h;exact .fS (gB.p (aw:=prog) h:) (λ_ _=>rfl) rfl rfl rfl
  rw[if_neg e]at h;cases h
instance aB5{ab al am ao}:ck (Wa ab al am ao) 356 [gh ab,.aV 0 0] [.cells 363 [aL al,aL am,Bd ao]] 0 bD (λ_=>[.cells 363 [aL al,aL am,Bd ao]]):=.aX 0 func356 rfl ntmps356<|by intro _ _ _;refine cg ?_;refine .kh rfl (λ_ h=>aoX h) (.s rfl .n) rfl λaa=>?_;exact a0
instance aB6{J:aA}{ab al am ao}:ck (PE J ab al am ao) 375 [bM 1 mm ab,.fn (.func 356) [] [.aV 0 0]] [.cells 363 [aL al,aL am,Bd ao]] 0 aL (λ_=>[.cells 363 [aL al,aL am,Bd ao]]):=.aX 0 func375 rfl ntmps375<|by intro _ _ _;refine cI (α:=Int) (λs=>[(8,aL s)]) (λH _=>H) [0,1,7] ?_;rintro b2 n;exact a0
instance aB7{J:aA}{ab al am ao}:ck (PF J ab al am ao) 355 [bM 1 mm ab,.fn (.func 356) [] [.aV 0 0]] [.cells 363 [aL al,aL am,Bd ao]] 0 bD (λ_=>[.cells 363 [aL al,aL am,Bd ao]]):=.aX 0 func355 rfl ntmps355 a0
instance aB8{J:aA}{Z an}:bQ (PG J Z an) 317 [.agg ((J4 Z).map .p),bM 1 mm an] bD:=.aX 2 func317 rfl ntmps317<|by
 intro _ _ _;refine cI (α:=k5) (λs=>[(1,bM 1 mm s.1),(14,aL s.2)]) (λH _=>H) [2,12,13] ?_;rintro⟨jw,k8⟩ n;refine fg ?_;refine ba λaa=>?_;refine fO ?_;refine .seq<|.region<|?_;refine fO ?_;refine .gg (β:=Int) (λs=>[(7,aL s)]) (λH _=>H) [1,2,6,12,13,14] (Wb jw aa J k8) ?_ ?_
 ·rintro oY;refine ba λai=>?_;refine qq ?_;refine ba λaE=>?_;refine ba λaW=>?_;refine cy ?_;refine ba λa_=>?_;refine cg ?_;exact .iS [0] (a_,(az (k8+1)))
 ·intro j;refine ba λbq=>?_;refine cI (α:=(Int×Int)) (λs=>[(7,aL s.1),(25,aL s.2)]) (λH _=>H) [1,2,6,12,13,14,23,24] ?_;rintro⟨mR,KB⟩ n;refine fg ?_;refine ba λbR=>?_;refine cg ?_;exact .iS [1] ((az (mR+bR.lU)),(az (KB+1)))
instance aCa{Z}:bQ (aeZ Z) 319 [gh Z] bD:=.aX 0 func319 rfl ntmps319 a0
variable {J:aA}
theorem aoZ{G2} [ao0:Vx G2]{ab al am ao ah}:ck (PK J G2 ab al am ao ah) 318 [aL ab,aL al,.bG (dY am),.aV 0 0,.aV 1 0] [.cells 297 [.fn (.func 318) [] [.bG (dY ao),.aV 0 0,.aV 1 0]],ep ah] 0 (λr=>bD r.1) (λr=>[.cells 297 [.fn (.func 318) [] [.bG (dY ao),.aV 0 0,.aV 1 0]],ep r.2]):=.aX 0 func318 rfl ntmps318<|by
 intro _ _ _;refine .seq<|.region<|?_;refine fO ?_;refine .gg (β:=Int) (λ_=>[]) (λH s=>H.set 1 (ep s)) [0,1,2,4] (Wd ab am al) ?_ ?_
 ·rintro ri;refine cy ?_;refine ba λaa=>?_;refine ba λai=>?_;refine cg ?_;refine .q (aca runUnderlying4 rfl rfl) rfl<|?_;exact a0
 ·intro j;refine ba λaE=>?_;refine cI (α:=(Int×Int)) (λs=>[(17,aL s.1)]) (λH s=>H.set 1 (ep s.2)) [0,1,2,3,4,15,16] ?_;rintro⟨yn,We⟩ n;exact a0
theorem ao1(k:Nat):Vx (G3 J k):=by
  induction k with
  |zero=>(repeat intro _);exact .bt rfl
  |succ k bx=>(repeat intro _);exact aoZ (ao0:=bx)
instance aCb{J:aA}:Vx (Wf J):=ao1 J.n
instance aCc{J:aA}{Z}:bQ (G4 J Z) 279 [.agg ((dY Z).map .p)] bD:=.aX 2 func279 rfl ntmps279<|by
 intro _ _ _;refine .seq<|.region<|?_;refine fO ?_;refine .seq<|.region<|?_;refine fO ?_;refine .seq<|.region<|?_;refine fO ?_;refine .seq<|.region<|?_;refine fO ?_;refine .gg (β:=Int) (λ_=>[]) (λH s=>H.set 0 (ep s)) [1,3] (Wg Z) ?_ ?_
 ·rintro kK;exact a0
 ·intro j;refine cI (α:=(Int×Int)) (λs=>[(11,aL s.1)]) (λH s=>H.set 0 (ep s.2)) [1,3,4,9,10] ?_;rintro⟨o0,PL⟩ n;exact a0
instance aCd{J:aA}{Z}:bQ (G5 J Z) 280 [.agg ((dY Z).map .p)] bD:=.aX 2 func280 rfl ntmps280<|by
 intro _ _ _;refine cg ?_;refine .ar (aor (i:=0)) (fa rfl) rfl<|?_;refine fO ?_;refine .gg (β:=((List (Int×Bool)))) (λ_=>[]) (λH s=>H.set 0 (ya s)) [1,3] (Wh J Z) ?_ ?_
 ·rintro ae4;refine cI (α:=Dt) (λs=>[(33,aL s.1)]) (λH s=>H.set 0 (ya s.2)) [1,3,31,32] ?_;rintro⟨D2,sd⟩ n;refine ha ?_ ?_
  ·refine ba λaa=>?_;refine ba λai=>?_;refine cy ?_;refine ba λaE=>?_;refine cI (α:=Dt) (λs=>[(51,aL s.1)]) (λH s=>H.set 0 (ya s.2)) [1,3,31,32,33,49,50] ?_;rintro⟨PM,zx⟩ n;refine fg ?_;refine ba λaW=>?_;refine cg ?_;refine .ar (aou (k:=aW) rfl rfl rfl) (fa rfl) rfl<|?_;exact a0
  ·refine cg ?_;refine .ar (aot rfl) (fa rfl) rfl<|?_;exact a0
 ·intro j;refine cI (α:=Dt) (λs=>[(14,aL s.1)]) (λH s=>H.set 0 (ya s.2)) [1,3,12,13] ?_;rintro⟨yo,rk⟩ n;refine fg ?_;refine ba λa_=>?_;refine ha ?_ ?_
  ·refine cg ?_;refine .ar (aos (k:=yo) (a:=ad) rfl rfl rfl rfl .lB) (fa rfl) rfl<|?_;refine cg ?_;exact .iS [1] ((az (yo+1)),(fB rk yo ad))
  ·refine cg ?_;exact .iS [1] ((az (yo+1)),rk)
instance aCh{Z}:bQ (ae9 Z) 357 [.agg ((kz Z).map .p)] aL:=.aX 0 func357 rfl ntmps357 a0
instance aCi{Z an}:bQ (BC Z an) 324 [.agg ((dY Z).map .p),.agg ((kz an).map .p)] bD:=.aX 0 func324 rfl ntmps324 a0
instance aCj{ab al}:ck (Wi ab al) 323 [.agg ((kz ab).map .p),.bG (dY al)] [] 0 bD (λ_=>[]):=.aX 0 func323 rfl ntmps323 a0
instance aCk{J:aA}{ab al}:ck (Wj J ab al) 322 [bM 5 kz ab,.fn (.func 323) [] [.bG (dY al)]] [] 0 aL (λ_=>[]):=.aX 0 func322 rfl ntmps322<|by intro _ _ _;refine cI (α:=Int) (λs=>[(8,aL s)]) (λH _=>H) [0,1,7] ?_;rintro b2 n;exact a0
instance aCl{J:aA}{Z}:bQ (D3 J Z) 282 [.agg ((dY Z).map .p)] aL:=.aX 0 func282 rfl ntmps282 a0
instance aFK{ab al am ao ah aq av}:ck (PR ab al am ao ah aq av) 325 [.aV 0 0,aL ab] [eI al am 1 ao ao 2 ah ah,.bA 3 (aq.map bI),.bA 3 (av.map bI)] 0 bD (λ_=>[eI al am 1 ao ao 2 ah ah,.bA 3 (aq.map bI),.bA 3 (av.map bI)]):=.aX 0 func325 rfl ntmps325 a0
instance aFL{ab al am ao ah aq av}:ck (BE ab al am ao ah aq av) 283 [.aV 0 0,aL ab] [eI al am 1 ao ao 2 ah ah,.bA 3 (aq.map bI),.bA 3 (av.map bI)] 0 bD (λ_=>[eI al am 1 ao ao 2 ah ah,.bA 3 (aq.map bI),.bA 3 (av.map bI)]):=.aX 0 func283 rfl ntmps283 a0
instance aFM{ab al am ao ah aq av aT}:ck (PS ab al am ao ah aq av aT) 284 [aL ab,.aV 0 0,.bG [bI al]] [dC 1,eI am ao 2 ah ah 3 aq aq,.bA 3 (av.map bI),.bA 3 (aT.map bI)] 0 bD (λ_=>[dC 1,eI am ao 2 ah ah 3 aq aq,.bA 3 (av.map bI),.bA 3 (aT.map bI)]):=.aX 1 func284 rfl ntmps284 a0
instance aFN{J:aA}{ab al am ao ah aq av aT}:ck (PT J ab al am ao ah aq av aT) 74 [bM 1 ch ab,.fn (.func 284) [] [.aV 0 0,.bG [bI al]]] [dC 1,eI am ao 2 ah ah 3 aq aq,.bA 3 (av.map bI),.bA 3 (aT.map bI)] 0 aL (λ_=>[dC 1,eI am ao 2 ah ah 3 aq aq,.bA 3 (av.map bI),.bA 3 (aT.map bI)]):=.aX 0 func74 rfl ntmps74<|by intro _ _ _;refine cI (α:=Int) (λs=>[(8,aL s)]) (λH _=>H) [0,1,7] ?_;rintro b2 n;exact a0
instance aFO{J:aA}{ab al am ao ah aq av aT}:ck (Wm J ab al am ao ah aq av aT) 70 [bM 1 ch ab,.fn (.func 284) [] [.aV 0 0,.bG [bI al]]] [dC 1,eI am ao 2 ah ah 3 aq aq,.bA 3 (av.map bI),.bA 3 (aT.map bI)] 0 bD (λ_=>[dC 1,eI am ao 2 ah ah 3 aq aq,.bA 3 (av.map bI),.bA 3 (aT.map bI)]):=.aX 0 func70 rfl ntmps70 a0
instance aFP{J:aA}{ab al am ao ah aq av}:ck (PU J ab al am ao ah aq av) 243 [.aV 0 0,aL ab] [eI al am 1 ao ao 2 ah ah,.bA 3 (aq.map bI),.bA 3 (av.map bI)] 0 (λr=>bD r.1) (λr=>[eI al am 1 ao ao 2 ah ah,.bA 3 (r.2.1.map bI),.bA 3 (r.2.2.map bI)]):=.aX 1 func243 rfl ntmps243<|by
 intro _ _ _;refine g0 ?_;refine fO ?_;refine .seq<|.region<|?_;refine fO ?_;refine .gg (β:=(List Int×List Int×List Int)) (λs=>[(5,bM 1 ch s.1)]) (λH s=>(H.set 1 (.bA 3 (s.2.1.map bI))).set 2 (.bA 3 (s.2.2.map bI))) [2,3] (wT J ab al am ao ah) ?_ ?_
 ·rintro⟨cY,yp,pS⟩;exact a0
 ·intro j;exact a0
instance aFQ{Z}:bQ (PV Z) 244 [gh Z] bD:=.aX 0 func244 rfl ntmps244 a0
instance aFR{ab al am ao ah aq av}:ck (Wn ab al am ao ah aq av) 285 [.aV 0 0,aL ab] [eI al am 1 ao ao 2 ah ah,.bA 3 (aq.map bI),.bA 3 (av.map bI)] 1 (λr=>.fn (.func 326) [] [.aV 3 0,.bG [bI r]]) (λ_=>[eI al am 1 ao ao 2 ah ah,.bA 3 (aq.map bI),.bA 3 (av.map bI),dC 0]):=.aX 1 func285 rfl ntmps285<|by intro _ _ _;refine g0 ?_;exact a0
instance aFS{ab al am ao ah aq av}:ck (KH ab al am ao ah aq av) 287 [.aV 0 0,aL ab] [eI al am 1 ao ao 2 ah ah,.bA 3 (aq.map bI),.bA 3 (av.map bI)] 2 (λr=>.fn (.func 329) [] [.aV 3 0,.aV 4 0]) (λr=>[eI al am 1 ao ao 2 ah ah,.bA 3 (aq.map bI),.bA 3 (av.map bI),dC 0,ep r]):=.aX 2 func287 rfl ntmps287<|by intro _ _ _;refine g0 ?_;refine g0 ?_;exact a0
instance aFU{J:aA}{Z an}:bQ (Wp J Z an) 152 [bM 1 mm Z,gh an] aL:=.aX 0 func152 rfl ntmps152<|by intro _ _ _;refine cI (α:=Int) (λs=>[(8,aL s)]) (λH _=>H) [0,1,7] ?_;rintro b2 n;exact a0
instance aFV{J:aA}{Z an}:bQ (D4 J Z an) 119 [bM 1 mm Z,gh an] bD:=.aX 0 func119 rfl ntmps119 a0
instance aFW{J:aA}{Z an}:bQ (PW J Z an) 286 [gh Z,gh an] bD:=.aX 0 func286 rfl ntmps286 a0
instance aFX{J:aA}{ab al am ao ah aq av aT bd bf bo bC bW}:yc (KI J ab al am ao ah aq av aT bd bf bo bC bW) [aL ab] [ig .ready aJ [(2,.aV 1 0),(4,.aV 2 0),(5,.aV 3 0)] 4,dC 5,ep al,fY am ao ah aq av,.cD ad,eI aT bd 6 bf bf 7 bo bo,.bA 3 (bC.map bI),.bA 3 (bW.map bI)] (eo (λr=>bD aS) (eo (λr=>bD aS) (λr=>bD ad))) (eo (λr=>[ig .done (I .ret) [(2,.aV 1 0),(4,.aV 2 0),(5,.aV 3 0)] 4,dC 5,ep r,fY am ao ah aq av,.cD ad,eI aT bd 6 bf bf 7 bo bo,.bA 3 (bC.map bI),.bA 3 (bW.map bI)]) (eo (λr=>[ig .done (I (.exit 0)) [(2,.aV 1 0),(4,.aV 2 0),(5,.aV 3 0)] 4,dC 5,ep r,fY am ao ah aq av,.cD ad,eI aT bd 6 bf bf 7 bo bo,.bA 3 (bC.map bI),.bA 3 (bW.map bI)]) (λr=>[ig .ready aJ [(2,.aV 1 0),(4,.aV 2 0),(5,.aV 3 0)] 4,dC 5,ep r,fY am ao ah aq av,.cD ad,eI aT bd 6 bf bf 7 bo bo,.bA 3 (bC.map bI),.bA 3 (bW.map bI)]))):=.aX 1 a0
instance aFY{J:aA}{ab al am ao ah aq av aT bd bf bo bC bW}:yc (G9 J ab al am ao ah aq av aT bd bf bo bC bW) [aL ab] [wH .ready aJ [(3,.aV 1 0)] 2,.cells 93 [.gV 3],.cD ad,ig .ready aJ [(2,.aV 4 0),(4,.aV 5 0),(5,.aV 6 0)] 7,dC 8,ep al,fY am ao ah aq av,.cD ad,eI aT bd 9 bf bf 10 bo bo,.bA 3 (bC.map bI),.bA 3 (bW.map bI)] (eo (λr=>bD aS) (eo (λr=>bD aS) (λr=>bD ad))) (eo (λr=>[wH .done (I .ret) [(3,.aV 1 0)] 2,.cells 93 [.gV 3],.cD ad,ig .done (I .ret) [(2,.aV 4 0),(4,.aV 5 0),(5,.aV 6 0)] 7,dC 8,ep r,fY am ao ah aq av,.cD ad,eI aT bd 9 bf bf 10 bo bo,.bA 3 (bC.map bI),.bA 3 (bW.map bI)]) (eo (λr=>[wH .done (I .ret) [(3,.aV 1 0)] 2,.cells 93 [.gV 3],.cD ad,ig .done (I (.exit 0)) [(2,.aV 4 0),(4,.aV 5 0),(5,.aV 6 0)] 7,dC 8,ep r,fY am ao ah aq av,.cD ad,eI aT bd 9 bf bf 10 bo bo,.bA 3 (bC.map bI),.bA 3 (bW.map bI)]) (λr=>[wH .ready aJ [(3,.aV 1 0)] 2,.cells 93 [.gV 3],.cD ad,ig .ready aJ [(2,.aV 4 0),(4,.aV 5 0),(5,.aV 6 0)] 7,dC 8,ep r,fY am ao ah aq av,.cD ad,eI aT bd 9 bf bf 10 bo bo,.bA 3 (bC.map bI),.bA 3 (bW.map bI)]))):=.aX 0 a0
instance aF2{J:aA}{ab al am ao ah aq av aT bd bf bo bC bW cB dj}:yc (Wt J ab al am ao ah aq av aT bd bf bo bC bW cB dj) [aL ab,aL al] [wI .ready aJ [(1,.aV 1 0),(2,.bG [bI am]),(3,.aV 2 0)] 3,dC 4,oW,.cD ad,eI ao ah 6 aq aq 7 av av,ig .ready aJ [(2,.aV 8 0),(4,.aV 9 0),(5,.aV 10 0)] 11,.bA 3 (aT.map bI),.bA 3 (bd.map bI),dC 4,ep bf,fY bo bC bW cB dj,.cD ad] (eo (λr=>bD aS) (eo (λr=>bD aS) (λr=>bD ad))) (eo (λr=>[wI .done (I .ret) [(1,.aV 1 0),(2,.bG [bI am]),(3,.aV 2 0)] 3,dC 4,oW,.cD ad,eI ao ah 6 aq aq 7 av av,ig .done (I .ret) [(2,.aV 8 0),(4,.aV 9 0),(5,.aV 10 0)] 11,.bA 3 (aT.map bI),.bA 3 (bd.map bI),dC 4,ep r,fY bo bC bW cB dj,.cD ad]) (eo (λr=>[wI .done (I .ret) [(1,.aV 1 0),(2,.bG [bI am]),(3,.aV 2 0)] 3,dC 4,oW,.cD ad,eI ao ah 6 aq aq 7 av av,ig .done (I (.exit 0)) [(2,.aV 8 0),(4,.aV 9 0),(5,.aV 10 0)] 11,.bA 3 (aT.map bI),.bA 3 (bd.map bI),dC 4,ep r,fY bo bC bW cB dj,.cD ad]) (λr=>[wI .ready aJ [(1,.aV 1 0),(2,.bG [bI am]),(3,.aV 2 0)] 3,dC 4,oW,.cD ad,eI ao ah 6 aq aq 7 av av,ig .ready aJ [(2,.aV 8 0),(4,.aV 9 0),(5,.aV 10 0)] 11,.bA 3 (aT.map bI),.bA 3 (bd.map bI),dC 4,ep r,fY bo bC bW cB dj,.cD ad]))):=.aX 0 a0
instance aF4{ab al am ao ah aq av aT bd bf}:yc (Wv ab al am ao ah aq av aT bd bf) [aL ab,aL al] [Bb .ready aJ [(3,.aV 1 0),(5,.bG [bI am]),(6,.aV 2 0)] 3,dC 4,pN ao,.cD ad,eI ah aq 5 av av 6 aT aT,.bA 3 (bd.map bI),.bA 3 (bf.map bI)] (eo (λr=>bD aS) (λr=>bD ad)) (eo (λr=>[Bb .done (I .ret) [(3,.aV 1 0),(5,.bG [bI am]),(6,.aV 2 0)] 3,dC 4,pN r,.cD ad,eI ah aq 5 av av 6 aT aT,.bA 3 (bd.map bI),.bA 3 (bf.map bI)]) (λr=>[Bb .ready aJ [(3,.aV 1 0),(5,.bG [bI am]),(6,.aV 2 0)] 3,dC 4,pN r,.cD ad,eI ah aq 5 av av 6 aT aT,.bA 3 (bd.map bI),.bA 3 (bf.map bI)])):=.aX 0 a0
instance aF5{J:aA}{ab al am ao ah aq av aT bd}:ck (Ww J ab al am ao ah aq av aT bd) 329 [.gV 0,.aV 1 0,.aV 2 0] [Bb .ready aJ [(3,.aV 3 0),(5,.bG [bI ab]),(6,.aV 4 0)] 5,dC 6,ep al,dC 6,pN am,.cD ad,eI ao ah 7 aq aq 8 av av,.bA 3 (aT.map bI),.bA 3 (bd.map bI)] 0 (eo (λr=>.cx []) (λr=>.cx [])) (eo (λr=>[Bb .done (I .ret) [(3,.aV 3 0),(5,.bG [bI ab]),(6,.aV 4 0)] 5,dC 6,ep r.1,dC 6,pN r.2,.cD ad,eI ao ah 7 aq aq 8 av av,.bA 3 (aT.map bI),.bA 3 (bd.map bI)]) (λr=>[Bb .ready aJ [(3,.aV 3 0),(5,.bG [bI ab]),(6,.aV 4 0)] 5,dC 6,ep r.1,dC 6,pN r.2,.cD ad,eI ao ah 7 aq aq 8 av av,.bA 3 (aT.map bI),.bA 3 (bd.map bI)])):=.aX 0 func329 rfl ntmps329<|by intro _ _ _;refine ba λaa=>?_;refine cI (α:=(Int×Int×Bool)) (λs=>[(4,aL s.1)]) (λH s=>(H.set 2 (ep s.2.1)).set 4 (pN s.2.2)) [0,1,2] ?_;rintro⟨dv,mT,zz⟩ n;exact a0
instance aF6{J:aA}{ab al am ao ah aq av aT}:ck (P2 J ab al am ao ah aq av aT) 246 [.aV 0 0,aL ab,aL al] [eI am ao 1 ah ah 2 aq aq,.bA 3 (av.map bI),.bA 3 (aT.map bI)] 0 bD (λ_=>[eI am ao 1 ah ah 2 aq aq,.bA 3 (av.map bI),.bA 3 (aT.map bI)]):=.sU 7 func246 rfl ntmps246<|by
 intro _ _ _;refine g0 ?_;refine ba λaa=>?_;refine cg ?_;refine .acy (H2:=λai=>[eI am ao 1 ah ah 2 aq aq,.bA 3 (av.map bI),.bA 3 (aT.map bI),dC 0,pN ai.2,dC 0,ep ai.1,Bb .done (I .ret) [(3,.aV 3 0),(5,.bG [bI al]),(6,.aV 4 0)] 8,.cD ad,.cc]) (nu:=λaE=>[eI am ao 1 ah ah 2 aq aq,.bA 3 (av.map bI),.bA 3 (aT.map bI),dC 0,pN aE.2,dC 0,ep aE.1,Bb .ready aJ [(3,.aV 3 0),(5,.bG [bI al]),(6,.aV 4 0)] 8,.cD ad,.cc]) 7 8 9 [7,5,6,3,4,8,0,1,2] [] [] rfl rfl rfl rfl (.s rfl (.s rfl (.s rfl .n))) (λ_ _=>rfl) .fn rfl (λz h=>⟨gB.h h,.mH rfl,rfl,rfl⟩) (λz h=>⟨gB.h h,.mH rfl,rfl,rfl⟩) (bU rfl (bU rfl (bU rfl (bU rfl (bU rfl (bU rfl (bU rfl (bU rfl (bU rfl fy))))))))) (bU rfl (bU rfl (bU rfl (bU rfl (bU rfl (bU rfl (bU rfl (bU rfl (bU rfl fy))))))))) (λ_=>.mk rfl (by decide) rfl) (λ_=>.mk rfl (by decide) rfl) (λ_=>rfl) (λ_=>rfl) (λ_=>rfl) (λ_=>rfl) (λ_=>rfl) (λ_=>rfl) (λai XA=>?_) (λaE agr=>?_)
 ·refine cg ?_;refine .nQ 9 rfl rfl rfl<|.mM rfl<|?_;exact a0
 ·refine cg ?_;refine .nQ 9 rfl rfl rfl<|.mM rfl<|?_;exact a0
instance aCA{J:aA}{Z an}:bQ (WC J Z an) 270 [bM 1 fd Z,bM 1 fd an] bD:=.aX 0 func270 rfl ntmps270<|by intro _ _ _;refine cy ?_;refine cI (α:=Int) (λs=>[(13,aL s)]) (λH _=>H) [0,1,12] ?_;rintro l7 n;exact a0
instance aCC{Z an}:bQ (P7 Z an) 336 [cE Z,cE an] (λr=>.cx [cE r.1,bD r.2]):=.aX 0 func336 rfl ntmps336 a0
instance aCD{Z an}:bQ (Hb Z an) 310 [cE Z,cE an] (λr=>.cx [cE r.1,bD r.2]):=.aX 0 func310 rfl ntmps310 a0
instance aCE{Z an}:bQ (Hd Z an) 363 [cE Z,cE an] bD:=.aX 0 func363 rfl ntmps363 a0
instance aCF{Z an}:bQ (P8 Z an) 337 [cE Z,cE an] (λr=>.cx [cE r.1,bD r.2]):=.aX 0 func337 rfl ntmps337 a0
instance aCG{Z an}:bQ (KK Z an) 311 [cE Z,cE an] (λr=>.cx [cE r.1,bD r.2]):=.aX 0 func311 rfl ntmps311 a0
instance aCH{J:aA}{Z an}:bQ (afp J Z an) 338 [cE Z,gh an] aL:=.aX 0 func338 rfl ntmps338<|by intro _ _ _;refine cI (α:=Int) (λs=>[(5,aL s)]) (λH _=>H) [0,1] ?_;rintro cY n;exact a0
instance aCI{J:aA}{Z}:bQ (P_ J Z) 364 [cE Z] (λr=>.cx [.p (.v (.int .u32 r.1)),.p (.v (.int .u32 r.2))]):=.aX 0 func364 rfl ntmps364<|by
 intro _ _ _;refine .seq<|.region<|?_;refine fO ?_;refine .seq<|.region<|?_;refine fO ?_;refine .gg (β:=Int) (λs=>[(4,.p (.v (.int .u32 s)))]) (λH _=>H) [0] (P9 Z J) ?_ ?_
 ·rintro dv;refine cI (α:=Bg) (λs=>[(6,.p (.v (.int .u32 s.1))),(7,.p (.v (.int .u32 s.2.1))),(8,aL s.2.2)]) (λH _=>H) [4] ?_;rintro⟨kC,oY,tc⟩ n;refine fg ?_;refine ha ?_ ?_
  ·refine cg ?_;refine .q (De rfl rfl (by decide)) rfl<|?_;exact a0
  ·refine cg ?_;refine .q (De rfl rfl (by decide)) rfl<|?_;exact a0
 ·intro j;refine cI (α:=(Int×Int)) (λs=>[(4,.p (.v (.int .u32 s.1))),(5,aL s.2)]) (λH _=>H) [0] ?_;rintro⟨uo,kA⟩ n;exact a0
instance aCJ{J:aA}{Z an}:bQ (Hf J Z an) 339 [cE Z,cE an] aL:=.aX 0 func339 rfl ntmps339<|by
 intro _ _ _;refine ba λaa=>?_;refine fO ?_;refine .seq<|.region<|?_;refine fO ?_;refine .seq<|.region<|?_;refine fO ?_;refine .seq<|.region<|?_;refine fO ?_;refine .gg (β:=Int) (λs=>[(9,.p (.v (.int .u32 s)))]) (λH _=>H) [0,1,5,6,7,8] (Qa aa Z an J) ?_ ?_
 ·rintro ff;refine .gg (β:=Unit) (λ_=>[]) (λH _=>H) [0,1,5,6,7,8,9] (He ff Z an J aa) ?_ ?_
  ·rintro⟨⟩;refine cI (α:=(Int×Int)) (λs=>[(9,.p (.v (.int .u32 s.1))),(11,aL s.2)]) (λH _=>H) [0,1,5,6,7] ?_;rintro⟨P',ut⟩ n;exact a0
  ·intro j;exact a0
 ·intro j;refine cI (α:=(Int×Int)) (λs=>[(9,.p (.v (.int .u32 s.1))),(10,aL s.2)]) (λH _=>H) [0,1,5,6,7,8] ?_;rintro⟨WG,nU⟩ n;exact a0
instance aCK{J:aA}{Z an}:bQ (Hg J Z an) 312 [cE Z,cE an] aL:=.aX 0 func312 rfl ntmps312 a0
instance aCL{J:aA}{ab}:ck (WI J ab) 340 [cE ab] [] 0 (λr=>.cx [aL r,.p (.v .nilIface)]) (λ_=>[]):=.aX 0 func340 rfl ntmps340<|by
 intro _ _ _;refine pF ?_ ?_
 ·refine ha ?_ ?_
  ·refine .seq<|.region<|?_;refine fO ?_;refine .gg (β:=ByteArray) (λs=>[(0,cE s)]) (λH _=>H) [5] (Qd J ab) ?_ ?_
   ·rintro jx;refine .seq<|.region<|?_;refine fO ?_;refine .gg (β:=Int) (λs=>[(6,aL s)]) (λH _=>H) [5] (afs ab) ?_ ?_
    ·rintro kC;refine .gg (β:=Int) (λs=>[(6,aL s)]) (λH _=>H) [] (WH) ?_ ?_
     ·rintro mQ;exact a0
     ·intro j;exact a0
    ·intro j;refine cg ?_;refine .ar (aov rfl) fy rfl<|?_;refine cI (α:=(Int×Int)) (λs=>[(6,aL s.1),(49,aL s.2)]) (λH _=>H) [5,47,48] ?_;rintro⟨BG,Qc⟩ n;refine fg ?_;refine ba λai=>?_;refine fg ?_;exact .bt
   ·intro j;refine ba λaE=>?_;refine pF ?_ ?_
    ·refine ba λaW=>?_;refine fg ?_;exact .bt
    ·refine ba λa_=>?_;refine fg ?_;refine ba λbq=>?_;refine fg ?_;exact .bt
  ·exact .bt
 ·exact .alQ
instance aCM{J:aA}{ab}:ck (Qe J ab) 313 [cE ab] [] 0 (λr=>.cx [aL r,.p (.v .nilIface)]) (λ_=>[]):=.aX 0 func313 rfl ntmps313<|by intro _ _ _;refine ba λaa=>?_;refine cg ?_;refine .q (amb runUnderlying336 rfl rfl) rfl<|?_;exact a0
instance aCN{Z}:bQ (aft Z) 342 [aL Z] cE:=.aX 0 func342 rfl ntmps342 a0
instance aCO{J:aA}{Z an a' dr gp}:bQ (afu J Z an a' dr gp) 345 [bM 1 mm Z,.p (.v (.int .u64 an)),aL a',bD dr,bD gp] (λr=>.cx [bM 1 mm r.1,cE r.2]):=.aX 1 func345 rfl ntmps345<|by
 intro _ _ _;refine ha ?_ ?_
 ·exact .bt
 ·exact .bt
instance aCP{J:aA}{Z an}:bQ (afv J Z an) 314 [aL Z,aL an] cE:=.aX 1 func314 rfl ntmps314<|by intro _ _ _;refine fg ?_;refine cy ?_;exact .bt
instance aCQ{J:aA}{Z}:bQ (afw J Z) 275 [aL Z] cE:=.aX 0 func275 rfl ntmps275 a0
instance aCR{J:aA}{Z}:bQ (Qf J Z) 239 [aL Z] cE:=.aX 0 func239 rfl ntmps239 a0
instance aCS{J:aA}{zB} [agn:OA zB]{Z}:bQ (Hh J zB Z) 262 [cE Z] bD:=.aX 0 func262 rfl ntmps262 a0
theorem ao2{zB} [agn:OA zB]{Z}:bQ (Qg J zB Z) 272 [cE Z] (λr=>.cx [cE r.1,aL r.2.1,bD r.2.2]):=.aX 0 func272 rfl ntmps272<|by intro _ _ _;refine ba λaa=>?_;refine ba λai=>?_;refine ba λaE=>?_;refine cy ?_;refine ba λaW=>?_;refine ba λa_=>?_;refine ba λbq=>?_;refine cg ?_;refine .q (ama runUnderlying336 rfl rfl) .n<|?_;exact a0
theorem ao3(k:Nat):OA (KL J k):=by
  induction k with
  |zero=>(repeat intro _);exact .bt rfl
  |succ k bx=>(repeat intro _);exact ao2 (agn:=bx)
instance aCT{J:aA}:OA (BH J):=ao3 J.n
instance aCU{ab al am ao ah aq av aT}:ck (WJ ab al am ao ah aq av aT) 274 [.aV 0 0,aL ab,aL al] [ih am ao ah 1 2 aq aq,dO av,.bA 9 (aT.map fA)] 0 bD (λ_=>[ih am ao ah 1 2 aq aq,dO av,.bA 9 (aT.map fA)]):=.aX 0 func274 rfl ntmps274 a0
instance aCV{J:aA}{ab al am ao ah aq av aT}:ck (Qh J ab al am ao ah aq av aT) 273 [bM 1 ch ab,bM 1 ch al,.fn (.func 274) [.aV 0 0] []] [ih am ao ah 1 2 aq aq,dO av,.bA 9 (aT.map fA)] 0 bD (λ_=>[ih am ao ah 1 2 aq aq,dO av,.bA 9 (aT.map fA)]):=.aX 0 func273 rfl ntmps273<|by intro _ _ _;refine cy ?_;refine cI (α:=Int) (λs=>[(17,aL s)]) (λH _=>H) [1,2,15,16] ?_;rintro wV n;exact a0
instance aCW{J:aA}{Z an}:bQ (Hi J Z an) 204 [cE Z,aL an] cE:=.aX 0 func204 rfl ntmps204 a0
instance aGb{Z}:bQ (WN Z) 133 [.agg ((anQ Z).map .p)] bD:=.aX 0 func133 rfl ntmps133 a0
instance aGc{ab al am ao ah aq av aT bd}:ck (Ql ab al am ao ah aq av aT bd) 206 [.agg [.aV 0 0,.map 1],.agg ((Gn ab).map .p),aL al] [ih am ao ah 2 3 aq aq,oV av,dO aT,.bA 9 (bd.map fA)] 0 (λr=>.cx [.agg ((Gn r.1).map .p),bD r.2]) (λ_=>[ih am ao ah 2 3 aq aq,oV av,dO aT,.bA 9 (bd.map fA)]):=.aX 2 func206 rfl ntmps206<|by intro _ _ _;refine g0 ?_;exact a0
theorem apF{nx} [RH:Gw nx]{Hk} [apG:Vz Hk]{ab al am ao ah aq av aT bd}:ck (Qm J nx Hk ab al am ao ah aq av aT bd) 166 [.agg [.aV 0 0,.map 1],.agg ((Gn ab).map .p),bM 1 ch al] [ih am ao ah 2 3 aq aq,oV av,dO aT,.bA 9 (bd.map fA)] 0 (λr=>aL r.1) (λr=>[ih am ao ah 2 3 aq aq,oV r.2,dO aT,.bA 9 (bd.map fA)]):=.aX 3 func166 rfl ntmps166<|by
 intro _ _ _;refine g0 ?_;refine cI (α:=(Int×Int×List pK)) (λs=>[(6,aL s.1),(14,aL s.2.1)]) (λH s=>H.set 1 (oV s.2.2)) [3,4,12,13] ?_;rintro⟨dR,k8,se⟩ n;refine fg ?_;refine ba λaa=>?_;refine ba λai=>?_;refine ba λaE=>?_;refine ha ?_ ?_
 ·refine cg ?_;exact .iS [5] ((az (dR+(az (1+aE.1)))),(az (k8+1)),aE.2)
 ·refine ba λaW=>?_;refine ha ?_ ?_
  ·refine ba λa_=>?_;refine cg ?_;exact .iS [5,6] ((it (az ((az (dR+(az (1+aE.1))))+a_.1)) 3001),(az (k8+1)),a_.2)
  ·refine cg ?_;exact .iS [5,6] ((it (az (dR+(az (1+aE.1)))) 3001),(az (k8+1)),aE.2)
theorem apH{nx} [RH:Gw nx](k:Nat):Vz (KP J nx k):=by
  induction k with
  |zero=>(repeat intro _);exact .bt rfl
  |succ k bx=>(repeat intro _);exact apF (apG:=bx)
instance aGd{J:aA}{nx} [RH:Gw nx]:Vz (WO J nx):=apH J.n
theorem apI{nx} [RH:Gw nx]{ab al am ao ah aq av aT}:ck (Qn J nx ab al am ao ah aq av aT) 165 [.agg [.aV 0 0,.map 1],.agg ((Gn ab).map .p)] [ih al am ao 2 3 ah ah,oV aq,dO av,.bA 9 (aT.map fA)] 0 (λr=>aL r.1) (λr=>[ih al am ao 2 3 ah ah,oV r.2,dO av,.bA 9 (aT.map fA)]):=.aX 1 func165 rfl ntmps165<|by intro _ _ _;refine g0 ?_;refine cg ?_;refine .ar (aop (k:=ab) rfl rfl rfl) (fa rfl) rfl<|?_;refine fg ?_;refine ba λaa=>?_;refine ba λai=>?_;refine ba λaE=>?_;refine cg ?_;refine .ar (aoq (k:=ab) (a:=aE.1) rfl rfl rfl rfl .lB) (fa rfl) rfl<|?_;exact a0
theorem apJ(k:Nat):Gw (Hl J k):=by
  induction k with
  |zero=>(repeat intro _);exact .bt rfl
  |succ k bx=>(repeat intro _);exact apI (RH:=bx)
instance aGe{J:aA}:Gw (Qo J):=apJ J.n
instance aGf{J:aA}{ab al am ao ah aq av aT}:ck (Qp J ab al am ao ah aq av aT) 134 [.agg [.aV 0 0,.map 1],aL ab] [ih al am ao 2 3 ah ah,oV aq,dO av,.bA 9 (aT.map fA)] 0 (λr=>aL r.1) (λr=>[ih al am ao 2 3 ah ah,oV r.2,dO av,.bA 9 (aT.map fA)]):=.aX 2 func134 rfl ntmps134<|by intro _ _ _;refine g0 ?_;exact a0
instance aGw{ab}:ck (afG ab) 64 [bM 3 l5 ab] [] 0 (λr=>.fn (.func 84) [] [.bG [sl 3 l5 r]]) (λ_=>[]):=.aX 0 func64 rfl ntmps64 a0
instance aGx{Z}:bQ (Ee Z) 73 [bM 1 ch Z] (bM 1 ch):=.aX 1 func73 rfl ntmps73<|by
 intro _ _ _;refine cg ?_;refine .alA runUnderlying23 rfl rfl ?_ (λq=>?_)
 ·refine kt ?_;exact a0
 ·subst q;refine .as (m':=I []) rfl<|?_;exact a0
instance aGD{Z}:bQ (Hv Z) 178 [gh Z] (λr=>.cx [gh r.1,bD r.2.1,bD r.2.2]):=.aX 0 func178 rfl ntmps178 a0
instance aGF{ab al am ao ah aq av aT bd bf bo bC}:ck (afU ab al am ao ah aq av aT bd bf bo bC) 252 [.aV 0 0,aL ab] [fK al am ao ah aq av aT 1 2 3 4,gr bd,eG bf,dO bo,gi bC] 1 (λr=>.fn (.func 302) [] [.aV 5 0,.bG [bI r]]) (λ_=>[fK al am ao ah aq av aT 1 2 3 4,gr bd,eG bf,dO bo,gi bC,pM 0]):=.aX 1 func252 rfl ntmps252<|by intro _ _ _;refine g0 ?_;exact a0
instance aGH{ab al am ao ah aq}:yc (QT ab al am ao ah aq) [aL ab,aL al] [J1 .ready aJ [(7,.aV 1 0),(9,.aV 2 0)] 3,Gs am,.cells 181 [.aV 4 0],.cD ad,mp ao ah 5,eG aq] (λr=>bD ad) (λr=>[J1 .ready aJ [(7,.aV 1 0),(9,.aV 2 0)] 3,Gs r.1,.cells 181 [.aV 4 0],.cD ad,mp ao ah 5,eG r.2]):=.aX 0<|by intro _ _ _;refine .seq<|.region<|?_;refine g3 ?_;refine .nil<|.gH<|.region<|?_;refine g3 ?_;refine .nil<|.acs trivial rfl<|.iq<|.open 5 rfl λaGI aGJ ags apN=>?_;refine ba λai=>?_;refine ba λaE=>?_;refine .ar (adI (k:=ab) rfl rfl rfl) (fa rfl) .n<|?_;refine cg ?_;refine .ar (adJ (k:=ab) (a:=ai) ags apN rfl rfl rfl .lB) (fa rfl) .n<|?_;refine g3 ?_;refine .nil (by kernel_rfl)<|.acW 5 (U1 ags) (λ_=>.inr ⟨_,rfl⟩) rfl<|?_;exact a0
instance aGQ{Z}:bQ (ov Z) 27 [bM 1 ch Z] (bM 1 ch):=.aX 1 func27 rfl ntmps27 a0
instance aGR{J:aA}{Z}:bQ (j6 J Z) 12 [.agg ((dY Z).map .p)] (λr=>.agg ((dY r).map .p)):=.aX 5 func12 rfl ntmps12<|by intro _ _ _;refine ba λaa=>?_;refine g3 ?_;refine .nil<|.gH<|.seq<|.seq<|.region<|?_;refine g3 ?_;refine .nil<|.gH<|.iq<|.xY kz 76 5 1 0 2 rfl rfl rfl<|?_;refine l4 (α:=((Int×List bm)×Nat)) (λs=>[(4,aL s.1.1)]) (λH s=>(H.set 1 (.cells 25 [cZ 5 kz s.1.2 2 s.2,bM 1 ch aa])).set 2 (.bs 76 5 s.2)) [1,2,3] ((0,[]),0) ?_;rintro⟨⟨dv,wQ⟩,rg⟩ n;refine fg ?_;refine ba λai=>?_;refine ba λaE=>?_;refine cg ?_;refine .akl 4 ([⟨ai.kind,ai.text,ai.n,aE,ai.at_⟩]:List bm) kz runUnderlying22 sizeOf76 zeroValue76 rfl rfl rfl rfl rfl rfl rfl rfl rfl rfl<|?_;refine ba λaW=>?_;refine cg ?_;exact .iS [3,4] (((az (dv+1)),aW),rg+1)
instance aGW{J:aA}{Z an}:bQ (RB J Z an) 31 [bM 3 l5 Z,bM 1 ch an] aL:=.aX 0 func31 rfl ntmps31<|by intro _ _ _;refine cI (α:=(Int×Int)) (λs=>[(5,aL s.1),(6,aL s.2)]) (λH _=>H) [0,1] ?_;rintro⟨cY,dR⟩ n;exact a0
end
end Go.Proofs.YtjfgooffdmnnkaaGreatDoor

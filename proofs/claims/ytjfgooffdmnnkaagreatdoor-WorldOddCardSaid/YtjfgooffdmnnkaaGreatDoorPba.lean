/- The functions of the program compute what their models say. -/
import Derived.Test.YtjfgooffdmnnkaaGreatDoorPaa
import Derived.Test.YtjfgooffdmnnkaaGreatDoorPab
import Derived.Test.YtjfgooffdmnnkaaGreatDoorPac
set_option linter.all false
set_option maxRecDepth 100000
set_option maxHeartbeats 4000000
namespace Go.Proofs.YtjfgooffdmnnkaaGreatDoor
open Go Go.Mi Go.RowKit Go.Dp Tryz Go.Proofs.Tryz
open _root_.ByteArray renaming mk->bk
noncomputable section
attribute [local irreducible] bS dl cv b7
variable {J:aA}
theorem ape{cb} [mV:l6 cb]{OP} [apf:Vr OP]{ab al am ao ah aq av}:ck (OO J cb OP ab al am ao ah aq av) 200 [.aV 0 0] [er ab al ao 1 am aq 2 ah av,.bs 76 5 am,.bs 3 1 ah] 0 (λr=>aL r.1) (λr=>[er ab r.2.1 r.2.2.1 1 r.2.2.2.2 aq 2 ah r.2.2.2.1,.bs 76 5 r.2.2.2.2,.bs 3 1 ah]):=.aX 0 func200 rfl ntmps200 a0
theorem apg{cb} [mV:l6 cb](k:Nat):Vr (Ke J cb k):=by
  induction k with
  |zero=>(repeat intro _);exact .bt rfl
  |succ k bx=>(repeat intro _);exact ape (apf:=bx)
instance aEo{J:aA}{cb} [mV:l6 cb]:Vr (Kf J cb):=apg J.n
instance aEp{J:aA}{cb} [mV:l6 cb]{dS} [vN:s_ dS]{e3} [zG:wM e3]{jM} [Ld:Dw jM]{ul} [agp:Ov ul]{ab al am ao ah aq av aT bd bf}:ck (oX J cb dS e3 jM ul ab al am ao ah aq av aT bd bf) 163 [.aV 0 0,gh ab,aL al,aL am] [er ao ah av 1 aq bd 2 aT bf,.bs 76 5 aq,.bs 3 1 aT] 0 (λr=>aL r.1) (λr=>[er ao r.2.1 r.2.2.1 1 r.2.2.2.2 bd 2 aT r.2.2.2.1,.bs 76 5 r.2.2.2.2,.bs 3 1 aT]):=.aX 0 func163 rfl ntmps163<|by
 intro _ _ _;refine ba λaa=>?_;refine fO ?_;refine .seq<|.region<|?_;refine fO ?_;refine .gg (β:=hM) (λs=>[(10,aL s.1)]) (λH s=>(H.set 0 (er ao s.2.1 s.2.2.1 1 s.2.2.2.2 bd 2 aT s.2.2.2.1)).set 1 (.bs 76 5 s.2.2.2.2)) [0,1,2,9] (zs ab al aa ao aT bd) ?_ ?_
 ·rintro⟨km,GC,ad0,GD,OQ⟩;exact a0
 ·intro j;exact a0
theorem aph{cb} [mV:l6 cb]{dS} [vN:s_ dS]{e3} [zG:wM e3]{jM} [Ld:Dw jM]{ul} [agp:Ov ul]{ab al am ao ah aq av}:ck (OR J cb dS e3 jM ul ab al am ao ah aq av) 199 [.aV 0 0] [er ab al ao 1 am aq 2 ah av,.bs 76 5 am,.bs 3 1 ah] 0 (λr=>aL r.1) (λr=>[er ab r.2.1 r.2.2.1 1 r.2.2.2.2 aq 2 ah r.2.2.2.1,.bs 76 5 r.2.2.2.2,.bs 3 1 ah]):=.aX 0 func199 rfl ntmps199<|by intro _ _ _;refine ba λaa=>?_;refine cI (α:=hM) (λs=>[(3,aL s.1)]) (λH s=>(H.set 0 (er ab s.2.1 s.2.2.1 1 s.2.2.2.2 aq 2 ah s.2.2.2.1)).set 1 (.bs 76 5 s.2.2.2.2)) [0] ?_;rintro⟨eQ,gt,fU,fk,fl⟩ n;exact a0
theorem api{cb} [mV:l6 cb]{dS} [vN:s_ dS]{e3} [zG:wM e3]{jM} [Ld:Dw jM](k:Nat):Ov (Kg J cb dS e3 jM k):=by
  induction k with
  |zero=>(repeat intro _);exact .bt rfl
  |succ k bx=>(repeat intro _);exact aph (agp:=bx)
instance aEq{J:aA}{cb} [mV:l6 cb]{dS} [vN:s_ dS]{e3} [zG:wM e3]{jM} [Ld:Dw jM]:Ov (re J cb dS e3 jM):=api J.n
theorem apj{cb} [mV:l6 cb]{dS} [vN:s_ dS]{e3} [zG:wM e3]{jM} [Ld:Dw jM]{ab al am ao ah aq av}:ck (OS J cb dS e3 jM ab al am ao ah aq av) 198 [.aV 0 0] [er ab al ao 1 am aq 2 ah av,.bs 76 5 am,.bs 3 1 ah] 0 (λr=>aL r.1) (λr=>[er ab r.2.1 r.2.2.1 1 r.2.2.2.2 aq 2 ah r.2.2.2.1,.bs 76 5 r.2.2.2.2,.bs 3 1 ah]):=.aX 0 func198 rfl ntmps198<|by intro _ _ _;refine ba λaa=>?_;refine cI (α:=hM) (λs=>[(3,aL s.1)]) (λH s=>(H.set 0 (er ab s.2.1 s.2.2.1 1 s.2.2.2.2 aq 2 ah s.2.2.2.1)).set 1 (.bs 76 5 s.2.2.2.2)) [0] ?_;rintro⟨eQ,gt,fU,fk,fl⟩ n;exact a0
theorem apk{cb} [mV:l6 cb]{dS} [vN:s_ dS]{e3} [zG:wM e3](k:Nat):Dw (GF J cb dS e3 k):=by
  induction k with
  |zero=>(repeat intro _);exact .bt rfl
  |succ k bx=>(repeat intro _);exact apj (Ld:=bx)
instance aEr{J:aA}{cb} [mV:l6 cb]{dS} [vN:s_ dS]{e3} [zG:wM e3]:Dw (nw J cb dS e3):=apk J.n
instance aEs{J:aA}{cb} [mV:l6 cb]{dS} [vN:s_ dS]{e3} [zG:wM e3]{ab al am ao ah aq av}:ck (OT J cb dS e3 ab al am ao ah aq av) 233 [.aV 0 0] [er ab al ao 1 am aq 2 ah av,.bs 76 5 am,.bs 3 1 ah] 0 (λr=>aL r.1) (λr=>[er ab r.2.1 r.2.2.1 1 r.2.2.2.2 aq 2 ah r.2.2.2.1,.bs 76 5 r.2.2.2.2,.bs 3 1 ah]):=.aX 0 func233 rfl ntmps233 a0
theorem apQ{cb} [mV:l6 cb]{dS} [vN:s_ dS]{e3} [zG:wM e3]{ab al am ao ah aq av}:ck (OU J cb dS e3 ab al am ao ah aq av) 197 [.aV 0 0] [er ab al ao 1 am aq 2 ah av,.bs 76 5 am,.bs 3 1 ah] 0 (λr=>aL r.1) (λr=>[er ab r.2.1 r.2.2.1 1 r.2.2.2.2 aq 2 ah r.2.2.2.1,.bs 76 5 r.2.2.2.2,.bs 3 1 ah]):=.aX 0 func197 rfl ntmps197 a0
theorem apR{cb} [mV:l6 cb]{dS} [vN:s_ dS](k:Nat):wM (Kh J cb dS k):=by
  induction k with
  |zero=>(repeat intro _);exact .bt rfl
  |succ k bx=>(repeat intro _);exact apQ (zG:=bx)
instance aHg{J:aA}{cb} [mV:l6 cb]{dS} [vN:s_ dS]:wM (vt J cb dS):=apR J.n
theorem apS{cb} [mV:l6 cb]{dS} [vN:s_ dS]{ab al am ao ah aq av}:ck (OV J cb dS ab al am ao ah aq av) 162 [.aV 0 0] [er ab al ao 1 am aq 2 ah av,.bs 76 5 am,.bs 3 1 ah] 0 (λr=>aL r.1) (λr=>[er ab r.2.1 r.2.2.1 1 r.2.2.2.2 aq 2 ah r.2.2.2.1,.bs 76 5 r.2.2.2.2,.bs 3 1 ah]):=.aX 0 func162 rfl ntmps162<|by intro _ _ _;refine ba λaa=>?_;refine cI (α:=hM) (λs=>[(3,aL s.1)]) (λH s=>(H.set 0 (er ab s.2.1 s.2.2.1 1 s.2.2.2.2 aq 2 ah s.2.2.2.1)).set 1 (.bs 76 5 s.2.2.2.2)) [0] ?_;rintro⟨eQ,gt,fU,fk,fl⟩ n;exact a0
theorem apT{cb} [mV:l6 cb](k:Nat):s_ (OW J cb k):=by
  induction k with
  |zero=>(repeat intro _);exact .bt rfl
  |succ k bx=>(repeat intro _);exact apS (vN:=bx)
instance aHh{J:aA}{cb} [mV:l6 cb]:s_ (vu J cb):=apT J.n
instance aHi{J:aA}{cb} [mV:l6 cb]{ab al am ao ah aq av}:ck (OX J cb ab al am ao ah aq av) 129 [.aV 0 0] [er ab al ao 1 am aq 2 ah av,.bs 76 5 am,.bs 3 1 ah] 0 (λr=>aL r.1) (λr=>[er ab r.2.1 r.2.2.1 1 r.2.2.2.2 aq 2 ah r.2.2.2.1,.bs 76 5 r.2.2.2.2,.bs 3 1 ah]):=.aX 0 func129 rfl ntmps129<|by intro _ _ _;refine ba λaa=>?_;refine cI (α:=hM) (λs=>[(3,aL s.1)]) (λH s=>(H.set 0 (er ab s.2.1 s.2.2.1 1 s.2.2.2.2 aq 2 ah s.2.2.2.1)).set 1 (.bs 76 5 s.2.2.2.2)) [0] ?_;rintro⟨eQ,gt,fU,fk,fl⟩ n;exact a0
theorem apU{cb} [mV:l6 cb]{ab al am ao ah aq av}:ck (OY J cb ab al am ao ah aq av) 108 [.aV 0 0] [er ab al ao 1 am aq 2 ah av,.bs 76 5 am,.bs 3 1 ah] 0 (λr=>aL r.1) (λr=>[er ab r.2.1 r.2.2.1 1 r.2.2.2.2 aq 2 ah r.2.2.2.1,.bs 76 5 r.2.2.2.2,.bs 3 1 ah]):=.aX 0 func108 rfl ntmps108 a0
theorem apV(k:Nat):l6 (Ki J k):=by
  induction k with
  |zero=>(repeat intro _);exact .bt rfl
  |succ k bx=>(repeat intro _);exact apU (mV:=bx)
instance aHj{J:aA}:l6 (Bn J):=apV J.n
instance aHk{J:aA}{ab al am ao ah aq av aT}:ck (OZ J ab al am ao ah aq av aT) 102 [.aV 0 0,aL ab] [er al am ah 1 ao av 2 aq aT,.bs 76 5 ao,.bs 3 1 aq] 0 (λr=>aL r.1) (λr=>[er al r.2.1 r.2.2.1 1 r.2.2.2.2 av 2 aq r.2.2.2.1,.bs 76 5 r.2.2.2.2,.bs 3 1 aq]):=.aX 3 func102 rfl ntmps102<|by
 intro _ _ _;refine ba λaa=>?_;refine fO ?_;refine .gg (β:=Int) (λ_=>[]) (λH s=>H.set 3 (.cells 76 [gh 46,cE (bk #[]),aL s,.p (.v (.slice none 0 0)),aL ab])) [0,5] (VF am ah ao ab al aq av aT J) ?_ ?_
 ·rintro qv;refine cy ?_;refine cy ?_;refine ba λaE=>?_;refine kt ?_;refine JW ?_;refine .gg (β:=(Int×List bm×Bool×Nat×Int×List Int×Nat)) (λ_=>[]) (λH s=>(((H.set 0 (er al s.1 s.2.1 1 s.2.2.2.1 av 2 aq s.2.2.1)).set 1 (.bs 76 5 s.2.2.2.1)).set 3 (.cells 76 [gh s.2.2.2.2.1,cE (bk #[]),aL qv,cZ 1 ch s.2.2.2.2.2.1 4 s.2.2.2.2.2.2,aL ab])).set 4 (.bs 3 1 s.2.2.2.2.2.2)) [0,5] (Kj qv ab al aq av) ?_ ?_
  ·rintro⟨gt,fU,fk,fl,Bo,GB,yf⟩;exact a0
  ·intro j;refine cI (α:=(Int×List bm×Bool×Nat×List Int×Nat)) (λ_=>[]) (λH s=>(((H.set 0 (er al s.1 s.2.1 1 s.2.2.2.1 av 2 aq s.2.2.1)).set 1 (.bs 76 5 s.2.2.2.1)).set 3 (.cells 76 [gh 46,cE (bk #[]),aL qv,cZ 1 ch s.2.2.2.2.1 4 s.2.2.2.2.2,aL ab])).set 4 (.bs 3 1 s.2.2.2.2.2)) [0,5] ?_;rintro⟨DE,DF,DG,DH,GG,DI⟩ n;refine pF ?_ ?_
   ·refine ba λa_=>?_;refine ha ?_ ?_
    ·refine ba λbq=>?_;refine kt ?_;refine ba λbR=>?_;refine cg ?_;exact .iS [5] (bq.2.1,bq.2.2.1,bq.2.2.2.1,bq.2.2.2.2,bR,DI+1)
    ·exact .exit<|.t'<|.ua<|.rU<|.r9 j [] (DE,DF,DG,DH,46,GG,DI)
   ·refine g3 ?_;exact .nil<|.gH<|.CM rfl<|.exit<|.t'<|.ua<|.rU<|.r9 j [] (DE,DF,DG,DH,46,GG,DI)
 ·intro j;refine cI (α:=(Int×Int)) (λs=>[(7,aL s.1)]) (λH s=>H.set 3 (.cells 76 [gh 46,cE (bk #[]),aL s.2,.p (.v (.slice none 0 0)),aL ab])) [0,5,6] ?_;rintro⟨GH,VG⟩ n;exact a0
instance aEv{J:aA}{ab al am ao ah aq av}:ck (Kn J ab al am ao ah aq av) 105 [.aV 0 0] [er ab al ao 1 am aq 2 ah av,.bs 76 5 am,.bs 3 1 ah] 1 (λr=>cZ 1 ch r.1 3 r.2.1) (λr=>[er ab r.2.2.1 r.2.2.2.1 1 r.2.2.2.2.2 aq 2 ah r.2.2.2.2.1,.bs 76 5 r.2.2.2.2.2,.bs 3 1 ah,.bs 3 1 r.2.1]):=.aX 4 func105 rfl ntmps105<|by intro _ _ _;refine kt ?_;refine cI (α:=Gq) (λs=>[(3,cZ 1 ch s.1 3 s.2.2.2.2.2)]) (λH s=>((H.set 0 (er ab s.2.1 s.2.2.1 1 s.2.2.2.2.1 aq 2 ah s.2.2.2.1)).set 1 (.bs 76 5 s.2.2.2.2.1)).set 3 (.bs 3 1 s.2.2.2.2.2)) [0] ?_;rintro⟨eQ,gt,fU,fk,fl,k6⟩ n;refine ba λaa=>?_;refine ba λai=>?_;refine ba λaE=>?_;refine ba λaW=>?_;refine kt ?_;refine ba λa_=>?_;refine kt ?_;refine ba λbq=>?_;refine ba λbR=>?_;refine cy ?_;refine cg ?_;exact .iS [4,6,5] (bq,(az (aW.2.1+1)),a_.2.1,aW.2.2.2.1,a_.2.2,k6+1)
instance aHl{J:aA}{ab al am ao ah aq av}:ck (O2 J ab al am ao ah aq av) 80 [.aV 0 0] [er ab al ao 1 am aq 2 ah av,.bs 76 5 am,.bs 3 1 ah] 0 (λr=>aL r.1) (λr=>[er ab r.2.1 r.2.2.1 1 r.2.2.2.2 aq 2 ah r.2.2.2.1,.bs 76 5 r.2.2.2.2,.bs 3 1 ah]):=.aX 4 func80 rfl ntmps80<|by
 intro _ _ _;refine ba λaa=>?_;refine ba λai=>?_;refine ba λaE=>?_;refine cy ?_;refine zl ?_;refine fg ?_;refine cy ?_;refine ba λa_=>?_;refine ha ?_ ?_
 ·refine ba λbq=>?_;refine ba λbR=>?_;refine ba λbJ=>?_;refine ba λcG=>?_;refine kt ?_;exact a0
 ·refine cy ?_;refine ha ?_ ?_
  ·refine ba λgK=>?_;refine ba λh9=>?_;refine ha ?_ ?_
   ·refine ba λhk=>?_;refine ba λi9=>?_;refine ba λj2=>?_;refine ba λgO=>?_;refine kt ?_;refine ba λlK=>?_;refine fO ?_;refine .gg (β:=(Int×Bool×Int)) (λ_=>[]) (λH s=>(H.set 0 (er ab s.1 gO.2.2.1 1 gO.2.2.2.2 aq 2 ah s.2.1)).set 3 (.cells 76 [gh 42,cE a_.1,aL s.2.2,cZ 1 ch lK 4 (hk.2.1+1),aL ai])) [0,5] (GI ab gO ah aq J lK a_ ai) ?_ ?_
    ·rintro⟨GC,GD,qv⟩;refine ba λum=>?_;refine ba λpP=>?_;refine kt ?_;exact a0
    ·intro j;exact a0
   ·refine ba λDL=>?_;refine ba λyh=>?_;refine ba λj4=>?_;refine kt ?_;refine ba λrf=>?_;refine fO ?_;refine .gg (β:=(Int×Bool×Int)) (λ_=>[]) (λH s=>(H.set 0 (er ab s.1 j4.2.2.1 1 j4.2.2.2.2 aq 2 ah s.2.1)).set 3 (.cells 76 [gh 42,cE a_.1,aL s.2.2,cZ 1 ch rf 5 1,aL ai])) [0,5] (Ko ab j4 ah aq J rf a_ ai) ?_ ?_
    ·rintro⟨gt,fk,ad8⟩;refine ba λKp=>?_;refine ba λyg=>?_;refine kt ?_;exact a0
    ·intro j;exact a0
  ·refine ha ?_ ?_
   ·refine ba λVK=>?_;refine ba λBr=>?_;refine kt ?_;exact a0
   ·refine fg ?_;refine ba λVM=>?_;refine ba λBs=>?_;refine kt ?_;exact a0
instance aHm{J:aA}{ab al am ao ah aq av}:ck (O3 J ab al am ao ah aq av) 58 [.aV 0 0] [er ab al ao 1 am aq 2 ah av,.bs 76 5 am,.bs 3 1 ah] 0 (λr=>.cx []) (λr=>[er ab r.1 r.2.1 1 r.2.2.2.2.1 r.2.2.1 2 r.2.2.2.2.2 r.2.2.2.1,.bs 76 5 r.2.2.2.2.1,.bs 3 1 r.2.2.2.2.2]):=.aX 1 func58 rfl ntmps58<|by intro _ _ _;refine cI (α:=Oq) (λ_=>[]) (λH s=>((H.set 0 (er ab s.1 s.2.1 1 s.2.2.2.2.1 s.2.2.1 2 s.2.2.2.2.2 s.2.2.2.1)).set 1 (.bs 76 5 s.2.2.2.2.1)).set 2 (.bs 3 1 s.2.2.2.2.2)) [0] ?_;rintro⟨gt,fU,yi,fk,fl,rg⟩ n;refine JX ?_ ?_;exact a0;refine fg ?_;refine ba λaa=>?_;refine ba λai=>?_;refine kt ?_;refine ba λaE=>?_;refine cg ?_;exact .iS [3] (ai.1,aa.2.2.1,aE,ai.2,aa.2.2.2.2,rg+1)
instance aHn{J:aA}{Z}:bQ (Kq J Z) 38 [cE Z] (λr=>.cx [.agg ((dY r.1).map .p),aL r.2.1,aL r.2.2]):=.aX 4 func38 rfl ntmps38<|by intro _ _ _;refine ba λaa=>?_;refine cy ?_;refine .skip<|.gH<|.seq<|.region<|?_;refine g3 ?_;refine .nil<|.gH<|.seq<|.xY kz 76 5 1 2 2 rfl rfl rfl<|.xY ch 3 1 1 3 3 rfl rfl rfl<|?_;refine ba λai=>?_;refine cy ?_;refine cy ?_;refine wx ?_;refine qq ?_;refine ba λaW=>?_;refine cy ?_;refine cI (α:=Int) (λs=>[(9,aL s)]) (λH _=>H) [2,8] ?_;rintro ff n;exact a0
instance aEK{J:aA}{Z}:bQ (GM J Z) 114 [.agg ((dY Z).map .p)] aL:=.aX 0 func114 rfl ntmps114<|by intro _ _ _;refine cy ?_;refine ba λaa=>?_;refine cy ?_;refine ba λai=>?_;refine cy ?_;refine cI (α:=Int) (λs=>[(3,aL s)]) (λH _=>H) [1] ?_;rintro eQ n;exact a0
instance aEV{J:aA}{Z an}:bQ (Pc J Z an) 115 [.agg ((dY Z).map .p),aL an] aL:=.aX 1 func115 rfl ntmps115<|by
 intro _ _ _;refine ba λaa=>?_;refine fO ?_;refine .gg (β:=Int) (λ_=>[]) (λH s=>H.set 0 (fY s aa.text aa.n aa.a8 aa.at_)) [1,2,5] (DR J Z an aa) ?_ ?_
 ·rintro kK;refine .gg (β:=Int) (λ_=>[]) (λH s=>H.set 0 (fY s aa.text aa.n aa.a8 aa.at_)) [1,2,5] (GQ Z an J) ?_ ?_
  ·rintro rh;refine ba λai=>?_;refine cy ?_;refine ba λaE=>?_;refine cy ?_;refine pF ?_ ?_
   ·refine ba λaW=>?_;refine pF ?_ ?_
    ·refine ba λa_=>?_;refine cy ?_;refine fg ?_;refine cI (α:=Int) (λs=>[(10,aL s)]) (λH _=>H) [1,2,9] ?_;rintro yj n;exact a0
    ·refine fg ?_;refine cI (α:=Int) (λs=>[(10,aL s)]) (λH _=>H) [1,2,9] ?_;rintro nU n;exact a0
   ·refine fg ?_;refine cI (α:=Int) (λs=>[(10,aL s)]) (λH _=>H) [1,2,9] ?_;rintro DP n;exact a0
  ·intro j;refine fg ?_;refine ba λgO=>?_;refine ba λlK=>?_;refine cI (α:=Int) (λs=>[(8,aL s)]) (λH _=>H) [1,2,5,7] ?_;rintro DQ n;exact a0
 ·intro j;refine ba λBp=>?_;refine JX ?_ ?_;exact a0;refine ba λBq=>?_;refine fg ?_;refine cI (α:=Int) (λs=>[(6,aL s)]) (λH _=>H) [1,2,5] ?_;rintro vv n;exact a0
instance aEW{J:aA}{Z}:bQ (yk J Z) 86 [.agg ((dY Z).map .p)] (λr=>.cx [.agg ((Gm r.1).map .p),aL r.2.1,aL r.2.2]):=.aX 4 func86 rfl ntmps86<|by intro _ _ _;refine ba λaa=>?_;refine cy ?_;refine .skip<|.gH<|.seq<|.region<|?_;refine g3 ?_;refine .nil<|.gH<|.seq<|.seq<|.region<|?_;refine g3 ?_;refine .nil<|.gH<|.iq<|.xY ch 3 1 1 0 2 rfl rfl rfl<|?_;refine l4 (α:=(na×Nat)) (λs=>[(7,aL s.1.1)]) (λH s=>(H.set 1 (.cells 139 [cZ 1 ch s.1.2 2 s.2])).set 2 (.bs 3 1 s.2)) [1,2,6] ((0,[]),0) ?_;rintro⟨⟨hc,wQ⟩,rg⟩ n;refine fg ?_;refine ba λai=>?_;refine cy ?_;refine ba λaE=>?_;refine kt ?_;refine ba λaW=>?_;refine cg ?_;exact .iS [3] (((az (hc+1)),aW),rg+1)
instance aFc{J:aA}{Z an a'}:bQ (GW J Z an a') 139 [.agg ((dY Z).map .p),.agg ((kz an).map .p),bM 1 fd a'] cE:=.aX 1 func139 rfl ntmps139<|by
 intro _ _ _;refine cy ?_;refine ha ?_ ?_
 ·refine .gg (β:=Unit) (λ_=>[]) (λH _=>H) [] (V0) ?_ ?_
  ·rintro⟨⟩;exact a0
  ·intro j;exact a0
 ·refine ha ?_ ?_
  ·refine ba λbq=>?_;refine kt ?_;refine fO ?_;refine .gg (β:=((dW)×Nat)) (λs=>[(12,cZ 1 fd s.1 0 s.2)]) (λH s=>H.set 0 (.bs 9 1 s.2)) [2,4,10,11] ((λ(mS,RE)=>V1 J bq a' an mS)) ?_ ?_
   ·rintro⟨mS,RE⟩;refine .gg (β:=Unit) (λ_=>[]) (λH _=>H) [] (Pm) ?_ ?_
    ·rintro⟨⟩;exact a0
    ·intro j;exact a0
   ·intro j;refine l4 (α:=Bi) (λs=>[(12,cZ 1 fd s.1.1 0 s.2),(13,aL s.1.2)]) (λH s=>H.set 0 (.bs 9 1 s.2)) [2,3,4,10,11] ((([]:List ByteArray),0),0) ?_;rintro⟨⟨wR,Po⟩,HJ⟩ n;refine cy ?_;exact .exit<|.t'<|.ua<|.rU<|.r9 j [] (wR,HJ)
  ·refine cI (α:=Int) (λs=>[(14,aL s)]) (λH _=>H) [2] ?_;rintro Pn n;exact a0
instance aFd{J:aA}{Z an a' dr}:bQ (GX J Z an a' dr) 112 [.agg ((dY Z).map .p),.agg ((Gm an).map .p),bM 1 fd a',aL dr] cE:=.aX 2 func112 rfl ntmps112<|by
 intro _ _ _;refine ba λaa=>?_;refine kt ?_;refine fO ?_;refine .gg (β:=Bi) (λs=>[(10,cZ 1 fd s.1.1 0 s.2)]) (λH s=>(H.set 0 (.bs 9 1 s.2)).set 1 (fY s.1.2 aa.text aa.n aa.a8 aa.at_)) [2,3,4,5,9] ((λ((km,ri),mU)=>nV J an dr Z a' aa (km,ri))) ?_ ?_
 ·rintro⟨⟨km,ri⟩,mU⟩;exact a0
 ·intro j;refine l4 (α:=Bi) (λs=>[(10,cZ 1 fd s.1.1 0 s.2),(11,aL s.1.2)]) (λH s=>H.set 0 (.bs 9 1 s.2)) [2,3,4,5,9] ((([]:List ByteArray),0),0) ?_;rintro⟨⟨ot,o0⟩,RE⟩ n;refine cy ?_;exact .exit<|.t'<|.ua<|.rU<|.r9 j [] ((ot,aa.kind),RE)
instance aFg{J:aA}{Z an a'}:bQ (ur J Z an a') 113 [.agg ((dY Z).map .p),bM 1 fd an,aL a'] aL:=.aX 1 func113 rfl ntmps113<|by
 intro _ _ _;refine ba λaa=>?_;refine fO ?_;refine .gg (β:=Int) (λ_=>[]) (λH s=>H.set 0 (fY s aa.text aa.n aa.a8 aa.at_)) [1,2,3,7] (vw an a' J Z aa) ?_ ?_
 ·rintro kK;refine cy ?_;refine cy ?_;refine cy ?_;refine cy ?_;refine cy ?_;refine fg ?_;refine cI (α:=Int) (λs=>[(10,aL s)]) (λH _=>H) [1,7] ?_;rintro ot n;exact a0
 ·intro j;exact a0
instance aFh{J:aA}{Z}:bQ (wS J Z) 85 [.agg ((dY Z).map .p)] (λr=>.cx [.agg ((adv r.1).map .p),aL r.2.1,aL r.2.2]):=.aX 3 func85 rfl ntmps85<|by
 intro _ _ _;refine ba λaa=>?_;refine cy ?_;refine Ob ?_;refine .amK 2 runUnderlying29 sizeOf9 zeroValue9 rfl rfl rfl<|?_;refine l4 (α:=Bi) (λs=>[(8,gs s.1.1.length 2 s.2),(9,aL s.1.2)]) (λH s=>H.set 2 (.fq 9 1 s.2 (s.1.1.map fA))) [1,2,5] (([],0),1) ?_;rintro⟨⟨b2,ff⟩,BS⟩ n;refine ha ?_ ?_
 ·refine cg ?_;refine .ac1 fA On Oj rfl rfl (by rfl) rfl rfl (λ_=>rfl) rfl rfl rfl rfl λai=>?_;refine ba λaE=>?_;refine ha ?_ ?_
  ·refine cg ?_;refine .JP fA fd (λz h=>(gB.p (aw:=prog) h:)) (λ_ _=>rfl) rfl (r3 (λ_=>rfl) _).symm (.s rfl (.s rfl (.b rfl (.s rfl .n)))) rfl rfl λaW=>.N1 ai runUnderlying29 sizeOf9 rfl rfl rfl rfl λa_=>?_;refine .ac2 aW a_ sizeOf9 rfl rfl rfl rfl<|.x7 8 (ai.set a_.1.1 aW).length rfl (by simp)<|.x7 32 (ai.set a_.1.1 aW).length rfl (by simp)<|.x7 36 (ai.set a_.1.1 aW).length rfl (by simp)<|.x7 40 (ai.set a_.1.1 aW).length rfl (by simp)<|?_;refine cg ?_;refine .JP fA fd (λz h=>(gB.p (aw:=prog) h:)) (λ_ _=>rfl) rfl (r3 (λ_=>rfl) _).symm (.s rfl (.b rfl (.s rfl .n))) rfl rfl λbq=>?_;exact a0
  ·refine cg ?_;refine .JP fA fd (λz h=>(gB.p (aw:=prog) h:)) (λ_ _=>rfl) rfl (r3 (λ_=>rfl) _).symm (.s rfl (.b rfl (.s rfl .n))) rfl rfl λbR=>?_;exact a0
 ·refine .exit<|.t'<|.ua<|.rU<|.gH<|.seq<|.FZ 8 fd b2 rfl (r3 (λ_=>rfl) _).symm rfl rfl (by simp)<|?_;exact a0
instance aFk{J:aA}{Z}:bQ (yl J Z) 66 [.agg ((dY Z).map .p)] (λr=>.cx [aL r.1,aL r.2]):=.aX 3 func66 rfl ntmps66<|by
 intro _ _ _;refine ba λaa=>?_;refine cy ?_;refine ba λai=>?_;refine cI (α:=Dv) (λs=>[(10,aL s.1),(11,aL s.2.1),(12,aL s.2.2.1),(13,aL s.2.2.2)]) (λH _=>H) [1,7] ?_;rintro⟨km,nW,lL,l7⟩ n;refine fg ?_;refine ba λaE=>?_;refine ba λaW=>?_;refine fO ?_;refine .gg (β:=Dv) (λs=>[(10,aL s.1),(11,aL s.2.1),(12,aL s.2.2.1)]) (λH s=>H.set 2 (fY s.2.2.2 aW.text aW.n aW.a8 aW.at_)) [1,7,13] (mq Z l7 J ai) ?_ ?_
 ·rintro⟨ot,o0,mS,mT⟩;refine wx ?_;refine wx ?_;refine qq ?_;refine ba λbq=>?_;refine cy ?_;refine cg ?_;exact .iS [2] (ot,o0,mS,(az (l7+1)))
 ·intro j;exact a0
instance aFl{J:aA}{Z}:bQ (pR J Z) 44 [.agg ((dY Z).map .p)] aL:=.aX 0 func44 rfl ntmps44 a0
instance aFm{J:aA}{Z an}:bQ (kD J Z an) 14 [.agg ((dY Z).map .p),aL an] aL:=.aX 0 func14 rfl ntmps14 a0
instance aHo{J:aA}{Z}:bQ (rj J Z) 9 [cE Z] (λr=>.cx [.agg ((dY r.1).map .p),bD r.2]):=.aX 2 func9 rfl ntmps9 a0
instance aHp{J:aA}:bQ (Bz J) 39 [] (λr=>.agg ((dY r).map .p)):=.aX 2 func39 rfl ntmps39 a0
instance aHq{J:aA}{ab al}:ck (Q_ J ab al) 92 [.agg ((dY ab).map .p),bM 1 ch al] [] 2 (λr=>.aV 0 0) (λr=>[nv r.1 r.2.1 r.2.2.1 r.2.2.2.1 r.2.2.2.2.1 r.2.2.2.2.2.1 r.2.2.2.2.2.2.1 1 r.2.2.2.2.2.2.2.1 r.2.2.2.2.2.2.2.2.1 r.2.2.2.2.2.2.2.2.2.1 r.2.2.2.2.2.2.2.2.2.2,.bs 125 1 r.2.2.2.2.2.2.2.1]):=.aX 4 func92 rfl ntmps92<|by
 intro _ _ _;refine cQ ?_;refine g0 ?_;refine g3 ?_;refine .nil<|.gH<|.seq<|.xY ch 3 1 0 4 1 rfl rfl rfl<|.xY (lk 2 cM) 125 1 0 6 2 rfl rfl rfl<|?_;refine ba λaa=>?_;refine ba λai=>?_;refine cI (α:=(Int×List Int×Nat)) (λs=>[(6,aL s.1)]) (λH s=>(H.set 0 (.cells 154 [bM 5 kz ab.nodes,bM 1 ch ab.aD,bM 1 ch aa.1.kS,bM 1 fd ai.1.Gl,cZ 1 ch s.2.1 1 s.2.2,bM 1 ch al,cZ 1 (lk 2 cM) [] 2 0,aL 0,aL 0,aL 0])).set 1 (.bs 3 1 s.2.2)) [2,5] ?_;rintro⟨dR,fk,fl⟩ n;refine ha ?_ ?_
 ·refine .skip<|?_;refine fO ?_;refine .seq<|.iq<|.seq<|.region<|?_;refine fO ?_;refine .gg (β:=Int) (λs=>[(7,aL s)]) (λH _=>H) [2,5,6] (K_ fk dR fl) ?_ ?_
  ·rintro oY;refine kt ?_;refine ba λaE=>?_;refine cg ?_;exact .iS [3] ((az (dR+1)),aE,fl+1)
  ·intro j;exact a0
 ·refine .exit<|.t'<|.ua<|.rU<|.gH<|.seq<|.region<|?_;refine g3 ?_;refine .nil<|.gH<|.ret<|.Di 0 4 (bM 1 ch fk) rfl rfl .TM<|?_;exact a0
instance aFB{J:aA}{Z an a'}:bQ (Re J Z an a') 194 [.agg ((dY Z).map .p),cE an,cE a'] (λr=>.cx [aL r.1,aL r.2]):=.aX 0 func194 rfl ntmps194<|by intro _ _ _;refine ba λaa=>?_;refine cI (α:=(Int×Int)) (λs=>[(8,aL s.1),(11,aL s.2)]) (λH _=>H) [2,3,9,10] ?_;rintro⟨b2,nW⟩ n;exact a0
theorem apD{ii} [RG:Gx ii]{ab al am ao ah aq av aT bd bf bo bC bW cB dj}:ck (Ro J ii ab al am ao ah aq av aT bd bf bo bC bW cB dj) 160 [.aV 0 0,aL ab,.agg ((Be al).map .p),aL am,aL ao] [nv ah aq av aT bd bf bC 1 bo bW cB dj,.bs 125 1 bo] 0 (λr=>bM 2 cM r.1) (λr=>[nv ah aq av aT bd bf bC 1 bo r.2.1 r.2.2.1 r.2.2.2,.bs 125 1 bo]):=.aX 4 func160 rfl ntmps160<|by
 intro _ _ _;refine ba λaa=>?_;refine cy ?_;refine cy ?_;refine cy ?_;refine cy ?_;refine cy ?_;refine kt ?_;refine kt ?_;refine fO ?_;refine .gg (β:=(List dh×dh×Int×Int×Int×Nat×Nat)) (λs=>[(12,cZ 1 (lk 2 cM) s.1 3 s.2.2.2.2.2.1),(13,cZ 2 cM s.2.1 4 s.2.2.2.2.2.2)]) (λH s=>((H.set 0 (nv ah aq av aT bd bf bC 1 bo s.2.2.1 s.2.2.2.1 s.2.2.2.2.1)).set 3 (.bs 125 1 s.2.2.2.2.2.1)).set 4 (.bs 124 2 s.2.2.2.2.2.2)) [0,1,3,4,11] (Rh aa J aT ah aq bd ab av ii am ao bf bo bC) ?_ ?_
 ·rintro⟨lL,l7,yv,yw,yx,k6,aoV⟩;refine cy ?_;refine cy ?_;refine fg ?_;refine ba λj2=>?_;refine ba λgO=>?_;refine ba λlK=>?_;refine kt ?_;exact a0
 ·intro j;refine cI (α:=(List dh×dh×Int×Int×Int×Int×Nat×Nat)) (λs=>[(12,cZ 1 (lk 2 cM) s.1 3 s.2.2.2.2.2.2.1),(13,cZ 2 cM s.2.1 4 s.2.2.2.2.2.2.2),(14,aL s.2.2.1)]) (λH s=>((H.set 0 (nv ah aq av aT bd bf bC 1 bo s.2.2.2.1 s.2.2.2.2.1 s.2.2.2.2.2.1)).set 3 (.bs 125 1 s.2.2.2.2.2.2.1)).set 4 (.bs 124 2 s.2.2.2.2.2.2.2)) [0,1,3,4,7,11] ?_;rintro⟨mS,Ri,Rj,Rk,Rl,Rm,Rn,yf⟩ n;refine cy ?_;exact .exit<|.t'<|.ua<|.rU<|.r9 j [] (mS,Ri,Rk,Rl,Rm,Rn,yf)
theorem apE(k:Nat):Gx (Rp J k):=by
  induction k with
  |zero=>(repeat intro _);exact .bt rfl
  |succ k bx=>(repeat intro _);exact apD (RG:=bx)
instance aFE{J:aA}:Gx (agf J):=apE J.n
instance aFF{J:aA}{ab al am ao ah aq av aT bd bf bo}:ck (Rv J ab al am ao ah aq av aT bd bf bo) 126 [.aV 0 0] [nv ab al am ao ah aq aT 1 av bd bf bo,.bs 125 1 av] 0 (λr=>.cx []) (λr=>[nv ab al am ao ah aq r.1 1 r.2.2.2.2 r.2.1 r.2.2.1 r.2.2.2.1,.bs 125 1 r.2.2.2.2]):=.aX 3 func126 rfl ntmps126<|by
 intro _ _ _;refine ba λaa=>?_;refine ba λai=>?_;refine kt ?_;refine fO ?_;refine .gg (β:=(dh×Int×Int×Int×Nat×Int)) (λs=>[(3,cZ 2 cM s.1 2 s.2.2.2.2.1)]) (λH s=>((H.set 0 (nv ab al am ao ah aq aT 1 av s.2.1 s.2.2.1 s.2.2.2.1)).set 2 (.bs 124 2 s.2.2.2.2.1)).set 3 (fY s.2.2.2.2.2 ai.text ai.n ai.a8 ai.at_)) [0] (HG aT av) ?_ ?_
 ·rintro⟨eQ,yv,yw,yx,BS,D8⟩;refine cg ?_;refine .amM 96 (bM 2 cM eQ) rfl .TM<|?_;refine kt ?_;exact a0
 ·intro j;refine ha ?_ ?_
  ·refine .seq<|.region<|?_;refine fO ?_;refine .gg (β:=Int) (λs=>[(4,aL s)]) (λH _=>H) [0,3] (Xq aq bd bf bo ai aT av) ?_ ?_
   ·rintro agh;exact a0
   ·intro j;refine cI (α:=(Int×Int)) (λs=>[(4,aL s.1),(5,aL s.2)]) (λH _=>H) [0,3] ?_;rintro⟨uo,kA⟩ n;exact a0
  ·refine zl ?_;refine fg ?_;refine cI (α:=(dh×Int×Int×Int×Int×Nat)) (λs=>[(3,cZ 2 cM s.1 2 s.2.2.2.2.2),(6,aL s.2.1)]) (λH s=>(H.set 0 (nv ab al am ao ah aq aT 1 av s.2.2.1 s.2.2.2.1 s.2.2.2.2.1)).set 2 (.bs 124 2 s.2.2.2.2.2)) [0,2] ?_;rintro⟨Rq,BG,Rr,Rs,Rt,Ru⟩ n;refine cy ?_;exact .exit<|.t'<|.ua<|.rU<|.iq<|.r9 j [] (Rq,Rr,Rs,Rt,Ru,ai.kind)
instance aHr{J:aA}{ab al am ao ah aq av aT bd bf bo bC}:ck (Lc J ab al am ao ah aq av aT bd bf bo bC) 93 [.aV 0 0,aL ab] [nv al am ao ah aq av bd 1 aT bf bo bC,.bs 125 1 aT] 0 (λr=>.cx []) (λr=>[nv al am ao ah aq av r.1 1 r.2.2.2.2 r.2.1 r.2.2.1 r.2.2.2.1,.bs 125 1 r.2.2.2.2]):=.aX 0 func93 rfl ntmps93<|by intro _ _ _;refine cI (α:=zq) (λ_=>[]) (λH s=>(H.set 0 (nv al am ao ah aq av s.1 1 s.2.2.2.2 s.2.1 s.2.2.1 s.2.2.2.1)).set 1 (.bs 125 1 s.2.2.2.2)) [0,1] ?_;rintro⟨Rw,Xr,Xs,Xt,fl⟩ n;exact a0
instance aHs{J:aA}{Z an a'}:bQ (Rx J Z an a') 76 [.agg ((dY Z).map .p),aL an,bM 1 ch a'] (bM 2 cM):=.aX 2 func76 rfl ntmps76 a0
instance aHt{J:aA}{Z an a'}:bQ (yy J Z an a') 56 [.agg ((dY Z).map .p),aL an,bM 1 ch a'] bD:=.aX 1 func56 rfl ntmps56 a0
instance aHu{J:aA}{Z an a'}:bQ (wY J Z an a') 37 [.agg ((dY Z).map .p),aL an,bM 1 ch a'] bD:=.aX 1 func37 rfl ntmps37<|by intro _ _ _;refine cQ ?_;refine kt ?_;exact a0
instance aHv{J:aA}{Z an a'}:bQ (vM J Z an a') 18 [.agg ((dY Z).map .p),aL an,bM 1 ch a'] (λr=>bM 1 (lk 1 ch) r):=.aX 1 func18 rfl ntmps18<|by intro _ _ _;refine ba λaa=>?_;refine g3 ?_;refine .nil<|.gH<|.seq<|.seq<|.region<|?_;refine g3 ?_;refine .nil<|.gH<|.iq<|.sV (lk 1 ch) 23 1 0 7 rfl rfl<|?_;refine l4 (α:=((pL×Int)×Nat)) (λs=>[(7,cZ 1 (lk 1 ch) s.1.1 0 s.2),(9,aL s.1.2)]) (λH s=>H.set 0 (.bs 23 1 s.2)) [2,3,8] (([],0),0) ?_;rintro⟨⟨hc,ff⟩,mU⟩ n;refine ba λai=>?_;refine fg ?_;refine ba λaE=>?_;refine cI (α:=(Bool×Int)) (λs=>[(11,bD s.1),(12,aL s.2)]) (λH _=>H) [2,3,7,8,9,10] ?_;rintro⟨o0,mS⟩ n;exact a0
end
end Go.Proofs.YtjfgooffdmnnkaaGreatDoor

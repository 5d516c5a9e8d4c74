/- The functions of the program compute what their models say. -/
import Derived.Test.YtjfgooffdmnnkaaGreatDoorUD
set_option linter.all false
set_option maxRecDepth 100000
set_option maxHeartbeats 4000000
namespace Go.Proofs.YtjfgooffdmnnkaaGreatDoor
open Go Go.Mi Go.RowKit Go.Dp Tryz Go.Proofs.Tryz
open _root_.ByteArray renaming mk->bk
noncomputable section
attribute [local irreducible] bS dl cv b7
instance aD0{J:aA}{Z}:bQ (VC J Z) 77 [cE Z] (λr=>.cx [aL r.1,aL r.2]):=.aX 0 func77 rfl ntmps77<|by intro _ _ _;refine cy ?_;refine cI (α:=Int) (λs=>[(4,aL s)]) (λH _=>H) [0] ?_;rintro dv n;exact a0
instance aD1{J:aA}{Z an}:bQ (Kb J Z an) 78 [cE Z,aL an] aL:=.aX 0 func78 rfl ntmps78<|by intro _ _ _;refine cI (α:=Int) (λs=>[(1,aL s)]) (λH _=>H) [0] ?_;rintro jw n;refine fg ?_;refine ba λaa=>?_;refine qq ?_;refine ba λai=>?_;refine cy ?_;refine ba λaE=>?_;refine cy ?_;refine cI (α:=Int) (λs=>[(1,aL s)]) (λH _=>H) [0,14,15,16,17] ?_;rintro Gy n;exact a0
instance aD2{Z}:bQ (OD Z) 94 [gh Z] bD:=.aX 0 func94 rfl ntmps94 a0
instance aD3{Z}:bQ (Kc Z) 95 [gh Z] bD:=.aX 0 func95 rfl ntmps95 a0
instance aD4:bQ (Dz) 97 [] (bM 1 fd):=.aX 0 func97 rfl ntmps97<|by intro _ _ _;refine cg ?_;refine .bT ([(bk #[97,110,100]),(bk #[97,115,107]),(bk #[98,108,97,109,101]),(bk #[98,111,111,108]),(bk #[98,111,117,110,100,115]),(bk #[99,104,111,111,115,101]),(bk #[99,111,117,110,116]),(bk #[101,108,115,101]),(bk #[102,97,108,115,101]),(bk #[102,117,110]),(bk #[105,102]),(bk #[105,110]),(bk #[105,110,116]),(bk #[108,101,116]),(bk #[108,111,111,107]),(bk #[109,97,121]),(bk #[109,117,115,116]),(bk #[110,111,116]),(bk #[111,98,115,101,114,118,101]),(bk #[111,114]),(bk #[114,101,116,114,97,99,116]),(bk #[116,104,101,110]),(bk #[116,114,117,101]),(bk #[116,121,112,101]),(bk #[117,112,116,111]),(bk #[118,97,108,117,101,115]),(bk #[119,104,121])]:List ByteArray) fd runUnderlying29 sizeOf9 zeroValue9 rfl rfl rfl rfl rfl rfl rfl rfl<|?_;exact a0
instance aD5{J:aA}{Z an}:bQ (OE J Z an) 96 [bM 1 fd Z,cE an] bD:=.aX 0 func96 rfl ntmps96<|by intro _ _ _;refine cI (α:=Int) (λs=>[(5,aL s)]) (λH _=>H) [0,1] ?_;rintro cY n;exact a0
instance aD6:bQ (vr) 98 [] (bM 1 fd):=.aX 0 func98 rfl ntmps98<|by intro _ _ _;refine cg ?_;refine .bT ([(bk #[61,61]),(bk #[33,61]),(bk #[60,61]),(bk #[62,61]),(bk #[46,46]),(bk #[43]),(bk #[45]),(bk #[42]),(bk #[47]),(bk #[37]),(bk #[60]),(bk #[62]),(bk #[61]),(bk #[40]),(bk #[41]),(bk #[91]),(bk #[93]),(bk #[123]),(bk #[125]),(bk #[44]),(bk #[58]),(bk #[59]),(bk #[46])]:List ByteArray) fd runUnderlying29 sizeOf9 zeroValue9 rfl rfl rfl rfl rfl rfl rfl rfl<|?_;exact a0
instance aD7{J:aA}{Z an}:bQ (Gz J Z an) 79 [cE Z,aL an] (λr=>.agg ((J3 r).map .p)):=.aX 1 func79 rfl ntmps79<|by
 intro _ _ _;refine cy ?_;refine ba λaa=>?_;refine ba λai=>?_;refine ha ?_ ?_
 ·refine .gg (β:=Int) (λs=>[(5,aL s)]) (λH _=>H) [0,1,4] (DA Z an J) ?_ ?_
  ·rintro cY;exact a0
  ·intro j;refine cI (α:=Int) (λs=>[(5,aL s)]) (λH _=>H) [0,1,4] ?_;rintro kB n;exact a0
 ·refine ba λc1=>?_;refine ba λcJ=>?_;refine ha ?_ ?_
  ·refine .gg (β:=Int) (λs=>[(5,aL s)]) (λH _=>H) [0,1,4] (DB Z an) ?_ ?_
   ·rintro kA;exact a0
   ·intro j;refine cI (α:=Int) (λs=>[(5,aL s)]) (λH _=>H) [0,1,4] ?_;rintro sa n;exact a0
  ·refine ba λgK=>?_;refine cI (α:=Int) (λs=>[(9,aL s)]) (λH _=>H) [0,1,4,8] ?_;rintro DC n;exact a0
instance aD8{J:aA}{Z}:bQ (OG J Z) 57 [cE Z] (λr=>.cx [bM 3 J3 r.1,aL r.2.1,aL r.2.2]):=.aX 2 func57 rfl ntmps57<|by intro _ _ _;refine ba λaa=>?_;refine cy ?_;refine kt ?_;refine ba λai=>?_;refine l4 (α:=((vp×Int)×Nat)) (λs=>[(7,cZ 3 J3 s.1.1 0 s.2),(8,aL s.1.2)]) (λH s=>H.set 0 (.bs 102 3 s.2)) [0] ((([]:List e'),ai),0) ?_;rintro⟨⟨hc,b2⟩,mU⟩ n;refine fg ?_;refine ba λaE=>?_;refine cy ?_;refine cy ?_;refine ba λaW=>?_;refine ba λa_=>?_;refine cg ?_;exact .iS [1] ((aW,a_),mU+1)
instance aD9{ab al am ao ah aq av}:ck (kl ab al am ao ah aq av) 99 [.aV 0 0] [er ab al ao 1 am aq 2 ah av,.bs 76 5 am,.bs 3 1 ah] 0 cE (λ_=>[er ab al ao 1 am aq 2 ah av,.bs 76 5 am,.bs 3 1 ah]):=.aX 0 func99 rfl ntmps99 a0
instance aEa{ab al am ao ah aq av}:ck (sb ab al am ao ah aq av) 100 [.aV 0 0] [er ab al ao 1 am aq 2 ah av,.bs 76 5 am,.bs 3 1 ah] 0 aL (λ_=>[er ab al ao 1 am aq 2 ah av,.bs 76 5 am,.bs 3 1 ah]):=.aX 0 func100 rfl ntmps100 a0
instance aEb{ab al am ao ah aq av}:ck (GA ab al am ao ah aq av) 101 [.aV 0 0] [er ab al ao 1 am aq 2 ah av,.bs 76 5 am,.bs 3 1 ah] 0 gh (λ_=>[er ab al ao 1 am aq 2 ah av,.bs 76 5 am,.bs 3 1 ah]):=.aX 0 func101 rfl ntmps101 a0
instance aEc{ab al am ao ah aq av aT}:ck (jf ab al am ao ah aq av aT) 109 [.aV 0 0,.agg ((kz ab).map .p)] [er al am ah 1 ao av 2 aq aT,.bs 76 5 ao,.bs 3 1 aq] 0 (λr=>aL r.1) (λr=>[er al am r.2.1 1 r.2.2 av 2 aq aT,.bs 76 5 r.2.2,.bs 3 1 aq]):=.aX 1 func109 rfl ntmps109<|by intro _ _ _;refine cQ ?_;refine kt ?_;exact a0
instance aEd{ab al am ao ah aq av aT}:ck (j3 ab al am ao ah aq av aT) 81 [.aV 0 0,cE ab] [er al am ah 1 ao av 2 aq aT,.bs 76 5 ao,.bs 3 1 aq] 0 (λr=>.cx []) (λr=>[er al r.1 ah 1 ao av 2 aq r.2,.bs 76 5 ao,.bs 3 1 aq]):=.aX 0 func81 rfl ntmps81 a0
instance aEe{ab al am ao ah aq av aT}:ck (wO ab al am ao ah aq av aT) 103 [.aV 0 0,gh ab] [er al am ah 1 ao av 2 aq aT,.bs 76 5 ao,.bs 3 1 aq] 0 (λr=>cE r.1) (λr=>[er al r.2.1 ah 1 ao av 2 aq r.2.2,.bs 76 5 ao,.bs 3 1 aq]):=.aX 0 func103 rfl ntmps103 a0
instance aEf{J:aA}{Z}:bQ (Kd J Z) 161 [cE Z] (λr=>.cx [gh r.1,aL r.2]):=.aX 1 func161 rfl ntmps161 a0
instance aEg{J:aA}{Z}:bQ (OH J Z) 128 [cE Z] (λr=>.cx [aL r.1,aL r.2]):=.aX 0 func128 rfl ntmps128<|by intro _ _ _;refine ba λaa=>?_;refine cy ?_;refine cI (α:=(Int×Int)) (λs=>[(6,aL s.1),(7,aL s.2)]) (λH _=>H) [0] ?_;rintro⟨dR,hc⟩ n;exact a0
instance aEh{J:aA}{ab al am ao ah aq av}:ck (wP J ab al am ao ah aq av) 107 [.aV 0 0] [er ab al ao 1 am aq 2 ah av,.bs 76 5 am,.bs 3 1 ah] 0 (λr=>aL r.1) (λr=>[er ab r.2.1 ao 1 am aq 2 ah r.2.2,.bs 76 5 am,.bs 3 1 ah]):=.aX 0 func107 rfl ntmps107 a0
instance aEi{J:aA}{cb} [mV:l6 cb]{ab al am ao ah aq av}:ck (OI J cb ab al am ao ah aq av) 307 [.aV 0 0] [er ab al ao 1 am aq 2 ah av,.bs 76 5 am,.bs 3 1 ah] 0 (λr=>bM 1 ch r.1) (λr=>[er ab r.2.1 r.2.2.1 1 r.2.2.2.2 aq 2 ah r.2.2.2.1,.bs 76 5 r.2.2.2.2,.bs 3 1 ah]):=.aX 1 func307 rfl ntmps307<|by intro _ _ _;refine ba λaa=>?_;refine kt ?_;refine cI (α:=Gq) (λs=>[(3,cZ 1 ch s.1 3 s.2.2.2.2.2)]) (λH s=>((H.set 0 (er ab s.2.1 s.2.2.1 1 s.2.2.2.2.1 aq 2 ah s.2.2.2.1)).set 1 (.bs 76 5 s.2.2.2.2.1)).set 3 (.bs 3 1 s.2.2.2.2.2)) [0] ?_;rintro⟨eQ,gt,fU,fk,fl,k6⟩ n;exact a0
instance aEj{J:aA}{cb} [mV:l6 cb]{ab al am ao ah aq av}:ck (OJ J cb ab al am ao ah aq av) 307 [.aV 0 0] [er ab al ao 1 am aq 2 ah av,.bs 76 5 am,.bs 3 1 ah] 1 (λr=>cZ 1 ch r.1 3 r.2.1) (λr=>[er ab r.2.2.1 r.2.2.2.1 1 r.2.2.2.2.2 aq 2 ah r.2.2.2.2.1,.bs 76 5 r.2.2.2.2.2,.bs 3 1 ah,.bs 3 1 r.2.1]):=.aX 2 func307 rfl ntmps307<|by intro _ _ _;refine ba λaa=>?_;refine kt ?_;refine cI (α:=Gq) (λs=>[(3,cZ 1 ch s.1 3 s.2.2.2.2.2)]) (λH s=>((H.set 0 (er ab s.2.1 s.2.2.1 1 s.2.2.2.2.1 aq 2 ah s.2.2.2.1)).set 1 (.bs 76 5 s.2.2.2.2.1)).set 3 (.bs 3 1 s.2.2.2.2.2)) [0] ?_;rintro⟨eQ,gt,fU,fk,fl,k6⟩ n;refine ba λai=>?_;refine fg ?_;refine ba λaE=>?_;refine kt ?_;refine ba λaW=>?_;refine cg ?_;exact .iS [4] (aW,aE.2.1,aE.2.2.1,aE.2.2.2.1,aE.2.2.2.2,k6+1)
instance aEk{ab al am ao ah aq av}:ck (OK ab al am ao ah aq av) 335 [.aV 0 0] [er ab al ao 1 am aq 2 ah av,.bs 76 5 am,.bs 3 1 ah] 0 (λr=>bD r.1) (λr=>[er ab r.2 ao 1 am aq 2 ah av,.bs 76 5 am,.bs 3 1 ah]):=.aX 0 func335 rfl ntmps335 a0
instance aEl{J:aA}{cb} [mV:l6 cb]{ab al am ao ah aq av}:ck (OL J cb ab al am ao ah aq av) 308 [.aV 0 0] [er ab al ao 1 am aq 2 ah av,.bs 76 5 am,.bs 3 1 ah] 0 (λr=>aL r.1) (λr=>[er ab r.2.1 r.2.2.1 1 r.2.2.2.2 aq 2 ah r.2.2.2.1,.bs 76 5 r.2.2.2.2,.bs 3 1 ah]):=.aX 5 func308 rfl ntmps308<|by intro _ _ _;refine ba λaa=>?_;refine ba λai=>?_;refine ba λaE=>?_;refine cy ?_;refine fg ?_;refine .seq<|.region<|?_;refine g3 ?_;refine .nil<|.gH<|.seq<|.region<|?_;refine g3 ?_;refine .nil<|.gH<|.seq<|.seq<|.region<|?_;refine g3 ?_;refine .nil<|.gH<|.iq<|.xY ch 3 1 3 3 4 rfl rfl rfl<|?_;refine cI (α:=(Bool×Int×List bm×Bool×Nat×List Int×Nat)) (λs=>[(4,bD s.1)]) (λH s=>(((H.set 0 (er ab s.2.1 s.2.2.1 1 s.2.2.2.2.1 aq 2 ah s.2.2.2.1)).set 1 (.bs 76 5 s.2.2.2.2.1)).set 3 (.cells 76 [gh 24,cE ai.1,aL 0,cZ 1 ch s.2.2.2.2.2.1 4 s.2.2.2.2.2.2,aL aa])).set 4 (.bs 3 1 s.2.2.2.2.2.2)) [0,3] ?_;rintro⟨dv,gt,fU,fk,fl,GB,yf⟩ n;refine fg ?_;refine ba λc1=>?_;refine ba λcJ=>?_;refine ba λdP=>?_;refine ba λef=>?_;refine kt ?_;refine ba λet=>?_;refine kt ?_;refine ba λgc=>?_;refine ba λgK=>?_;refine cg ?_;exact .iS [5,7,6] (gK.1,gK.2,et.2.1,ef.2.2.2.1,et.2.2,gc,yf+1)
instance aEm{J:aA}{cb} [mV:l6 cb]{ab al am ao ah aq av}:ck (OM J cb ab al am ao ah aq av) 266 [.aV 0 0] [er ab al ao 1 am aq 2 ah av,.bs 76 5 am,.bs 3 1 ah] 0 (λr=>aL r.1) (λr=>[er ab r.2.1 r.2.2.1 1 r.2.2.2.2 aq 2 ah r.2.2.2.1,.bs 76 5 r.2.2.2.2,.bs 3 1 ah]):=.aX 1 func266 rfl ntmps266 a0
instance aEn{J:aA}{cb} [mV:l6 cb]{ab al am ao ah aq av}:ck (ON J cb ab al am ao ah aq av) 234 [.aV 0 0] [er ab al ao 1 am aq 2 ah av,.bs 76 5 am,.bs 3 1 ah] 0 (λr=>aL r.1) (λr=>[er ab r.2.1 r.2.2.1 1 r.2.2.2.2 aq 2 ah r.2.2.2.1,.bs 76 5 r.2.2.2.2,.bs 3 1 ah]):=.aX 0 func234 rfl ntmps234<|by intro _ _ _;refine ba λaa=>?_;refine cI (α:=hM) (λs=>[(3,aL s.1)]) (λH s=>(H.set 0 (er ab s.2.1 s.2.2.1 1 s.2.2.2.2 aq 2 ah s.2.2.2.1)).set 1 (.bs 76 5 s.2.2.2.2)) [0] ?_;rintro⟨eQ,gt,fU,fk,fl⟩ n;exact a0
instance aEt{J:aA}{ab al am ao ah aq av}:ck (Kk J ab al am ao ah aq av) 104 [.aV 0 0] [er ab al ao 1 am aq 2 ah av,.bs 76 5 am,.bs 3 1 ah] 0 (λr=>aL r.1) (λr=>[er ab r.2.1 r.2.2.1 1 r.2.2.2.2 aq 2 ah r.2.2.2.1,.bs 76 5 r.2.2.2.2,.bs 3 1 ah]):=.aX 0 func104 rfl ntmps104 a0
variable {J:aA}
theorem apl{O1} [apm:Vs O1]{ab al am ao ah aq av}:ck (O0 J O1 ab al am ao ah aq av) 106 [.aV 0 0] [er ab al ao 1 am aq 2 ah av,.bs 76 5 am,.bs 3 1 ah] 0 (λr=>aL r.1) (λr=>[er ab r.2.1 r.2.2.1 1 r.2.2.2.2 aq 2 ah r.2.2.2.1,.bs 76 5 r.2.2.2.2,.bs 3 1 ah]):=.aX 1 func106 rfl ntmps106 a0
theorem apn(k:Nat):Vs (Kl J k):=by
  induction k with
  |zero=>(repeat intro _);exact .bt rfl
  |succ k bx=>(repeat intro _);exact apl (apm:=bx)
instance aEu{J:aA}:Vs (Km J):=apn J.n
instance aEy{Z an}:bQ (nb Z an) 60 [.agg ((dY Z).map .p),aL an] bD:=.aX 1 func60 rfl ntmps60 a0
instance aEz{J:aA}{Z}:bQ (O4 J Z) 169 [.agg ((dY Z).map .p)] (bM 1 ch):=.aX 1 func169 rfl ntmps169<|by intro _ _ _;refine cQ ?_;refine kt ?_;refine l4 (α:=(k5×Nat)) (λs=>[(3,cZ 1 ch s.1.1 0 s.2),(4,aL s.1.2)]) (λH s=>H.set 0 (.bs 3 1 s.2)) [1] ((([]:List Int),0),0) ?_;rintro⟨⟨eQ,dv⟩,mU⟩ n;refine fg ?_;refine ba λaa=>?_;refine cI (α:=(Int×Int)) (λs=>[(6,aL s.1),(7,aL s.2)]) (λH _=>H) [1,3,4,5] ?_;rintro⟨kC,oY⟩ n;exact a0
instance aEA{Z}:bQ (zt Z) 208 [gh Z] bD:=.aX 0 func208 rfl ntmps208 a0
instance aEB{Z}:bQ (zu Z) 209 [gh Z] bD:=.aX 0 func209 rfl ntmps209 a0
instance aEC{Z}:bQ (O5 Z) 171 [gh Z] bD:=.aX 0 func171 rfl ntmps171 a0
instance aED{Z}:bQ (DM Z) 210 [gh Z] bD:=.aX 0 func210 rfl ntmps210 a0
instance aEE{J:aA}{Z}:bQ (DN J Z) 211 [cE Z] bD:=.aX 0 func211 rfl ntmps211 a0
instance aEF{Z}:bQ (k7 Z) 212 [.agg ((kz Z).map .p)] bD:=.aX 0 func212 rfl ntmps212 a0
instance aEG{Z}:bQ (oZ Z) 213 [.agg ((kz Z).map .p)] bD:=.aX 0 func213 rfl ntmps213 a0
instance aEH{Z an a'}:bQ (ta Z an a') 214 [.agg ((kz Z).map .p),aL an,gh a'] bD:=.aX 0 func214 rfl ntmps214 a0
instance aEI{J:aA}{Z an}:bQ (O6 J Z an) 170 [.agg ((dY Z).map .p),aL an] bD:=.aX 2 func170 rfl ntmps170<|by
 intro _ _ _;refine ba λaa=>?_;refine fO ?_;refine .gg (β:=Int) (λ_=>[]) (λH s=>H.set 0 (fY s aa.text aa.n aa.a8 aa.at_)) [2,5] (GL J aa Z) ?_ ?_
 ·rintro kK;refine .gg (β:=Int) (λ_=>[]) (λH s=>H.set 0 (fY s aa.text aa.n aa.a8 aa.at_)) [2,5] (GK J aa Z) ?_ ?_
  ·rintro rh;refine cI (α:=Int) (λs=>[(6,aL s)]) (λH _=>H) [2,5] ?_;rintro mQ n;refine fg ?_;refine ba λai=>?_;refine ba λaE=>?_;refine ba λaW=>?_;refine qq ?_;refine pF ?_ ?_
   ·refine pF ?_ ?_
    ·refine cy ?_;refine cg ?_;exact .iS [1] (az (mQ+1))
    ·refine cg ?_;exact .iS [1] (az (mQ+1))
   ·refine cg ?_;exact .iS [1] (az (mQ+1))
  ·intro j;refine ba λa_=>?_;refine ba λbq=>?_;refine .q (NJ runUnderlying4 rfl rfl) .n<|?_;exact a0
 ·intro j;exact a0
instance aEJ{J:aA}{Z}:bQ (O7 J Z) 142 [.agg ((dY Z).map .p)] bD:=.aX 0 func142 rfl ntmps142<|by
 intro _ _ _;refine ba λaa=>?_;refine cy ?_;refine .skip<|?_;refine fO ?_;refine .gg (β:=Unit) (λ_=>[]) (λH _=>H) [1,3] (VS Z J aa) ?_ ?_
 ·rintro⟨⟩;refine cI (α:=(Int×Int)) (λs=>[(5,aL s.1),(6,aL s.2)]) (λH _=>H) [1,3] ?_;rintro⟨kB,kC⟩ n;exact a0
 ·intro j;refine cI (α:=Int) (λs=>[(4,aL s)]) (λH _=>H) [1,3] ?_;rintro uo n;exact a0
theorem app{Pd} [apq:Vt Pd]{Z}:bQ (aeq J Pd Z) 207 [aL Z] cE:=.aX 0 func207 rfl ntmps207<|by intro _ _ _;refine ba λaa=>?_;refine cg ?_;refine .q (amd runUnderlying168 runUnderlying9 runUnderlying5 rfl sR) rfl<|?_;exact a0
theorem apr(k:Nat):Vt (VX J k):=by
  induction k with
  |zero=>(repeat intro _);exact .bt rfl
  |succ k bx=>(repeat intro _);exact app (apq:=bx)
instance aE0{J:aA}:Vt (VY J):=apr J.n
instance aE1{J:aA}{Z an}:bQ (GS J Z an) 168 [cE Z,aL an] cE:=.aX 0 func168 rfl ntmps168 a0
theorem aps{Pf} [apt:Vu Pf]{Z an}:bQ (Pe J Pf Z an) 141 [.agg ((dY Z).map .p),aL an] cE:=.aX 1 func141 rfl ntmps141 a0
theorem apu(k:Nat):Vu (Ks J k):=by
  induction k with
  |zero=>(repeat intro _);exact .bt rfl
  |succ k bx=>(repeat intro _);exact aps (apt:=bx)
instance aE2{J:aA}:Vu (DS J):=apu J.n
instance aE3{J:aA}{Z an a'}:bQ (GU J Z an a') 137 [.agg ((dY Z).map .p),bM 1 fd an,aL a'] cE:=.aX 1 func137 rfl ntmps137 a0
instance aE4{J:aA}{Z an}:bQ (Kt J Z an) 138 [.agg ((dY Z).map .p),aL an] (λr=>.cx [bM 1 fd r.1,cE r.2]):=.aX 1 func138 rfl ntmps138<|by intro _ _ _;refine ba λaa=>?_;refine kt ?_;refine l4 (α:=Bi) (λs=>[(7,cZ 1 fd s.1.1 0 s.2),(8,aL s.1.2)]) (λH s=>H.set 0 (.bs 9 1 s.2)) [2,6] ((([]:List ByteArray),0),0) ?_;rintro⟨⟨hc,b2⟩,mU⟩ n;exact a0
instance aE5{J:aA}{Z an}:bQ (Pg J Z an) 187 [.agg ((dY Z).map .p),cE an] aL:=.aX 1 func187 rfl ntmps187<|by intro _ _ _;refine cI (α:=Int) (λs=>[(5,aL s)]) (λH _=>H) [1,2] ?_;rintro cY n;refine fg ?_;refine ba λaa=>?_;refine ba λai=>?_;refine cy ?_;refine cg ?_;exact .iS [0] (az (cY+1))
instance aE6{J:aA}{Z an}:bQ (DT J Z an) 158 [.agg ((dY Z).map .p),cE an] (λr=>.cx [bM 1 fd r.1,bM 1 fd r.2]):=.aX 3 func158 rfl ntmps158<|by intro _ _ _;refine cQ ?_;refine kt ?_;refine kt ?_;refine ba λaa=>?_;refine cy ?_;refine ba λai=>?_;refine l4 (α:=((dW×dW×Int)×Nat×Nat)) (λs=>[(6,cZ 1 fd s.1.1 0 s.2.1),(7,cZ 1 fd s.1.2.1 1 s.2.2),(10,aL s.1.2.2)]) (λH s=>(H.set 0 (.bs 9 1 s.2.1)).set 1 (.bs 9 1 s.2.2)) [2,9] ((([]:List ByteArray),([]:List ByteArray),0),0,0) ?_;rintro⟨⟨dR,hc,km⟩,mU,OQ⟩ n;refine fg ?_;refine ba λaE=>?_;refine ba λaW=>?_;refine ba λa_=>?_;refine ba λbq=>?_;refine ba λbR=>?_;refine ba λbJ=>?_;refine cg ?_;exact .iS [2] ((a_,bJ,(az (km+1))),mU+1,OQ+1)
instance aE7{J:aA}{Z an a'}:bQ (Ph J Z an a') 167 [.agg ((dY Z).map .p),cE an,cE a'] cE:=.aX 0 func167 rfl ntmps167<|by intro _ _ _;refine ba λaa=>?_;refine cI (α:=Int) (λs=>[(9,aL s)]) (λH _=>H) [2,7,8] ?_;rintro ff n;exact a0
instance aE8{J:aA}{Z}:bQ (VZ J Z) 263 [cE Z] bD:=.aX 0 func263 rfl ntmps263 a0
instance aE9{J:aA}{Z}:bQ (Pj J Z) 227 [cE Z] bD:=.aX 0 func227 rfl ntmps227 a0
instance aFa{J:aA}{uq} [agq:Oz uq]{Z}:bQ (Pk J uq Z) 186 [cE Z] bD:=.aX 0 func186 rfl ntmps186 a0
theorem apv{uq} [agq:Oz uq]{Z}:bQ (Pl J uq Z) 157 [cE Z] (λr=>.cx [cE r.1,aL r.2.1,bD r.2.2]):=.aX 0 func157 rfl ntmps157<|by intro _ _ _;refine cI (α:=Int) (λs=>[(5,aL s)]) (λH _=>H) [0] ?_;rintro cY n;refine fg ?_;refine cI (α:=Int) (λs=>[(6,aL s)]) (λH _=>H) [0,5] ?_;rintro kC n;exact a0
theorem apw(k:Nat):Oz (DU J k):=by
  induction k with
  |zero=>(repeat intro _);exact .bt rfl
  |succ k bx=>(repeat intro _);exact apv (agq:=bx)
instance aFb{J:aA}:Oz (Ku J):=apw J.n
theorem apx{DV} [apy:Vv DV]{Z an}:bQ (Pp J DV Z an) 125 [.agg ((dY Z).map .p),cE an] aL:=.aX 0 func125 rfl ntmps125<|by intro _ _ _;refine ba λaa=>?_;refine cy ?_;refine cy ?_;refine ba λaE=>?_;refine cI (α:=(Int×Int)) (λs=>[(8,aL s.1),(11,aL s.2)]) (λH _=>H) [2,10] ?_;rintro⟨b2,nW⟩ n;exact a0
theorem apz(k:Nat):Vv (Kv J k):=by
  induction k with
  |zero=>(repeat intro _);exact .bt rfl
  |succ k bx=>(repeat intro _);exact apx (apy:=bx)
instance aFe{J:aA}:Vv (Kw J):=apz J.n
instance aFf{J:aA}{Z an}:bQ (DW J Z an) 140 [.agg ((dY Z).map .p),cE an] aL:=.aX 0 func140 rfl ntmps140 a0
theorem apA{tb} [apB:Vw tb]{Z an a' dr gp}:bQ (Pt J tb Z an a' dr gp) 117 [.agg ((dY Z).map .p),.agg ((Gm an).map .p),aL a',aL dr,aL gp] aL:=.aX 1 func117 rfl ntmps117<|by
 intro _ _ _;refine ba λaa=>?_;refine fO ?_;refine .gg (β:=(Int×Int)) (λs=>[(12,aL s.1)]) (λH s=>H.set 0 (fY s.2 aa.text aa.n aa.a8 aa.at_)) [2,3,4,5,6,11] (Pq an a' dr gp Z tb) ?_ ?_
 ·rintro⟨lL,kK⟩;refine cy ?_;refine ba λai=>?_;refine fO ?_;refine .gg (β:=Int) (λs=>[(15,aL s)]) (λH _=>H) [5,6,12,14] (Kx Z ai lL tb an) ?_ ?_
  ·rintro By;exact a0
  ·intro j;exact a0
 ·intro j;refine cI (α:=(Int×Int)) (λs=>[(12,aL s.1),(13,aL s.2)]) (λH _=>H) [2,3,4,5,6,11] ?_;rintro⟨Pr,Ps⟩ n;exact a0
theorem apC(k:Nat):Vw (DX J k):=by
  induction k with
  |zero=>(repeat intro _);exact .bt rfl
  |succ k bx=>(repeat intro _);exact apA (apB:=bx)
instance aFi{J:aA}:Vw (Pu J):=apC J.n
instance aFj{J:aA}{Z an a'}:bQ (Pv J Z an a') 87 [.agg ((dY Z).map .p),.agg ((Gm an).map .p),aL a'] aL:=.aX 1 func87 rfl ntmps87<|by intro _ _ _;refine ba λaa=>?_;refine ba λai=>?_;refine cy ?_;refine zl ?_;refine fg ?_;refine cI (α:=(Int×Int)) (λs=>[(8,aL s.1),(9,aL s.2)]) (λH _=>H) [3,4,7] ?_;rintro⟨b2,ff⟩ n;exact a0
instance aFJ{J:aA}{Z}:bQ (o2 J Z) 23 [bM 3 l5 Z] aL:=.aX 0 func23 rfl ntmps23<|by intro _ _ _;refine cI (α:=(Int×Int)) (λs=>[(3,aL s.1),(4,aL s.2)]) (λH _=>H) [0] ?_;rintro⟨eQ,dv⟩ n;exact a0
instance aCn{Z an}:bQ (afb Z an) 305 [.p (.v (.int .u64 Z)),.p (.v (.int .u64 an))] (λr=>.cx [.p (.v (.int .u64 r.1)),.p (.v (.int .u64 r.2))]):=.aX 0 func305 rfl ntmps305<|by intro _ _ _;refine cg ?_;refine .q (De rfl rfl (by decide)) rfl<|?_;refine cg ?_;refine .q (De rfl rfl (by decide)) rfl<|?_;refine cg ?_;refine .q (De rfl rfl (by decide)) rfl<|?_;refine cg ?_;refine .q (De rfl rfl (by decide)) rfl<|?_;refine cg ?_;refine .q (De rfl rfl (by decide)) rfl<|?_;exact a0
instance aCo{Z an}:bQ (G8 Z an) 258 [.p (.v (.int .u64 Z)),.p (.v (.int .u64 an))] (λr=>.cx [.p (.v (.int .u64 r.1)),.p (.v (.int .u64 r.2))]):=.aX 0 func258 rfl ntmps258 a0
instance aCp{J:aA}{ab al}:ck (KF J ab al) 242 [bM 1 ch ab,aL al] [] 1 (λr=>.ek 0 0 r.1 r.1) (λr=>[.bA 3 (r.2.map bI)]):=.aX 1 func242 rfl ntmps242<|by
 intro _ _ _;refine ha ?_ ?_
 ·exact .bt
 ·refine ba λaa=>?_;refine ha ?_ ?_
  ·exact .bt
  ·refine cg ?_;refine .mk 0 bI (0:Int) Ds Dr rfl rfl rfl (λ_ _=>.v) rfl rfl λai=>?_;refine cg ?_;refine .q8 (λz h=>NT (f:=(λxs=>xs.map bI)) (e:=ch) 0 runUnderlying23 sizeOf3 (λ_=>rfl) (λ_=>rfl) (λxs=>(r3 (λ_=>rfl) xs).symm) rfl rfl sR h) (λ_=>fa rfl) rfl λaE=>?_;refine cI (α:=na) (λs=>[(8,aL s.1)]) (λH s=>H.set 0 (.bA 3 (s.2.map bI))) [7] ?_;rintro⟨b2,jN⟩ n;refine fg ?_;refine cg ?_;refine .q8 (λz h=>UX 0 runUnderlying23 sizeOf3 rfl rfl h) (λ_=>fy) .n λ_=>?_;refine cg ?_;refine .q8 (λz h=>UY 0 runUnderlying23 sizeOf3 rfl rfl h) (λ_=>fy) .n λ_=>.q8 (λz h=>UV (f:=(λxs=>xs.map bI)) (e:=ch) (0+b2.toNat) 0 runUnderlying23 sizeOf3 (λ_=>rfl) (λ_=>rfl) (λxs=>(r3 (λ_=>rfl) xs).symm) rfl rfl h) (λ_=>fa rfl) .n λbq=>?_;exact a0
instance aFT{ab al am ao ah aq av aT}:ck (Wo ab al am ao ah aq av aT) 327 [.aV 0 0,aL ab,aL al] [eI am ao 1 ah ah 2 aq aq,.bA 3 (av.map bI),.bA 3 (aT.map bI)] 1 (λr=>.fn (.func 358) [] [.aV 3 0,.bG [bI r.1],.bG [bI r.2]]) (λ_=>[eI am ao 1 ah ah 2 aq aq,.bA 3 (av.map bI),.bA 3 (aT.map bI),dC 0]):=.aX 1 func327 rfl ntmps327<|by intro _ _ _;refine g0 ?_;exact a0
instance aF1{ab}:ck (Ws ab) 328 [bM 1 ch ab] [] 0 (λr=>.fn (.func 359) [] [.bG [sl 1 ch r]]) (λ_=>[]):=.aX 0 func328 rfl ntmps328 a0
instance aF7{J:aA}{ab al am}:ck (Wx J ab al am) 288 [.ek 0 0 ab ab,aL al] [.bA 3 (am.map bI)] 0 aL (λ_=>[.bA 3 (am.map bI)]):=.aX 0 func288 rfl ntmps288<|by intro _ _ _;refine cI (α:=Int) (λs=>[(8,aL s)]) (λH _=>H) [0,1,7] ?_;rintro b2 n;exact a0
instance aF8{J:aA}{ab al am}:ck (G_ J ab al am) 247 [.ek 0 0 ab ab,aL al] [.bA 3 (am.map bI)] 0 bD (λ_=>[.bA 3 (am.map bI)]):=.aX 0 func247 rfl ntmps247 a0
instance aCr{J:aA}{ab al am ao ah aq av}:ck (P4 J ab al am ao ah aq av) 201 [.aV 0 0,bM 1 ch ab] [ih al am ao 1 2 ah ah,dO aq,.bA 9 (av.map fA)] 1 (λr=>cZ 1 fd r.1 3 r.2) (λr=>[ih al am ao 1 2 ah ah,dO aq,.bA 9 (av.map fA),.bs 9 1 r.2]):=.aX 2 func201 rfl ntmps201<|by intro _ _ _;refine .seq<|.region<|?_;refine g3 ?_;refine .nil<|.gH<|.seq<|.seq<|.region<|?_;refine g3 ?_;refine .nil<|.gH<|.iq<|.sV fd 9 1 3 4 rfl rfl<|?_;refine cI (α:=(dW×Int×Nat)) (λs=>[(4,cZ 1 fd s.1 3 s.2.2),(9,aL s.2.1)]) (λH s=>H.set 3 (.bs 9 1 s.2.2)) [0,7,8] ?_;rintro⟨dv,ff,k6⟩ n;refine fg ?_;refine ba λaa=>?_;refine ba λai=>?_;refine kt ?_;refine ba λaE=>?_;refine cg ?_;exact .iS [4] (aE,(az (ff+1)),k6+1)
instance aCv{ab al}:ck (Wz ab al) 268 [cE ab,.bG [fA al]] [] 0 bD (λ_=>[]):=.aX 0 func268 rfl ntmps268 a0
instance aCw{J:aA}{ab al}:ck (WA J ab al) 309 [bM 1 fd ab,.fn (.func 268) [] [.bG [fA al]]] [] 0 aL (λ_=>[]):=.aX 0 func309 rfl ntmps309<|by intro _ _ _;refine cI (α:=Int) (λs=>[(8,aL s)]) (λH _=>H) [0,1,7] ?_;rintro b2 n;exact a0
instance aCx{J:aA}{ab al}:ck (WB J ab al) 267 [bM 1 fd ab,.fn (.func 268) [] [.bG [fA al]]] [] 0 bD (λ_=>[]):=.aX 0 func267 rfl ntmps267 a0
instance aCy{J:aA}{Z an}:bQ (vz J Z an) 236 [cE Z,bM 1 fd an] bD:=.aX 0 func236 rfl ntmps236 a0
instance aC1{Z}:bQ (WK Z) 276 [cE Z] bD:=.aX 0 func276 rfl ntmps276 a0
instance aC2{J:aA}{ab}:ck (WL J ab) 309 [bM 1 fd ab,.p (.v (.func (.func 276) #[] #[]))] [] 0 aL (λ_=>[]):=.aX 0 func309 rfl ntmps309<|by intro _ _ _;refine cI (α:=Int) (λs=>[(8,aL s)]) (λH _=>H) [0,1,7] ?_;rintro b2 n;exact a0
instance aC3{J:aA}{ab}:ck (KN J ab) 267 [bM 1 fd ab,.p (.v (.func (.func 276) #[] #[]))] [] 0 bD (λ_=>[]):=.aX 0 func267 rfl ntmps267 a0
instance aC4{J:aA}{Z an}:bQ (Qk J Z an) 240 [aL Z,bM 1 fd an] bD:=.aX 0 func240 rfl ntmps240 a0
instance aGa{ab al am ao ah}:ck (Ea ab al am ao ah) 132 [.aV 0 0,.agg ((dY ab).map .p),aL al] [.cells 192 [aL am,aL ao,aL ah]] 0 (λr=>.cx []) (λr=>[.cells 192 [aL r.1,aL r.2.1,aL r.2.2]]):=.aX 1 func132 rfl ntmps132 a0
instance aGi{Z}:bQ (wW Z) 68 [.agg ((l5 Z).map .p)] aL:=.aX 0 func68 rfl ntmps68 a0
instance aGj{J:aA}{Z}:bQ (sf J Z) 67 [bM 1 ch Z] aL:=.aX 0 func67 rfl ntmps67<|by intro _ _ _;refine cI (α:=(Int×Int)) (λs=>[(3,aL s.1),(8,aL s.2)]) (λH _=>H) [6,7] ?_;rintro⟨eQ,b2⟩ n;exact a0
instance aGk{J:aA}{Z}:bQ (tf J Z) 48 [bM 3 l5 Z] aL:=.aX 1 func48 rfl ntmps48<|by intro _ _ _;refine cI (α:=(Int×Int)) (λs=>[(3,aL s.1),(8,aL s.2)]) (λH _=>H) [6,7] ?_;rintro⟨eQ,b2⟩ n;refine fg ?_;refine ba λaa=>?_;refine ba λai=>?_;refine ba λaE=>?_;refine cg ?_;exact .iS [0] (aE,(az (b2+1)))
instance aGl{ab}:ck (afF ab) 69 [bM 3 l5 ab] [] 0 (λr=>.fn (.func 88) [] [.bG [sl 3 l5 r]]) (λ_=>[]):=.aX 0 func69 rfl ntmps69 a0
instance aGm{ab al am ao ah}:yc (vD ab al am ao ah) [aL ab,.agg ((l5 al).map .p)] [JZ .ready none [(3,.aV 1 0),(5,.aV 2 0)] 3,ep am,.cells 23 [.ek 4 0 ao ao],.cD true,.bA 3 (ah.map bI)] (λr=>bD true) (λr=>[JZ .ready none [(3,.aV 1 0),(5,.aV 2 0)] 3,ep r.1,.cells 23 [.ek 4 0 ao ao],.cD true,.bA 3 (r.2.map bI)]):=.aX 1 a0
instance aGn{J:aA}{ab al am ao}:ck (Ed J ab al am ao) 88 [.gV 0,.bG [sl 3 l5 ab]] [JZ .ready none [(3,.aV 1 0),(5,.aV 2 0)] 3,ep al,.cells 23 [.ek 4 0 am am],.cD true,.bA 3 (ao.map bI)] 0 (λr=>.cx []) (λr=>[JZ .ready none [(3,.aV 1 0),(5,.aV 2 0)] 3,ep r.1,.cells 23 [.ek 4 0 am am],.cD true,.bA 3 (r.2.map bI)]):=.aX 0 func88 rfl ntmps88<|by intro _ _ _;refine cI (α:=(Int×Int×List Int)) (λs=>[(3,aL s.1)]) (λH s=>(H.set 1 (ep s.2.1)).set 4 (.bA 3 (s.2.2.map bI))) [0,1] ?_;rintro⟨eQ,wQ,sg⟩ n;exact a0
instance aGo{J:aA}{Z an}:bQ (uv J Z an) 49 [bM 3 l5 Z,aL an] (bM 1 ch):=.sU 6 func49 rfl ntmps49<|by
 intro _ _ _;refine g0 ?_;refine cg ?_;refine .mk 1 bI (0:Int) Ds Dr rfl rfl rfl (λ_ _=>.v) rfl rfl λaa=>?_;refine ba λai=>?_;refine cg ?_;refine .range (H2:=λaE=>[ep aE.1,.bA 3 (aE.2.map bI),.cells 23 [.ek 1 0 aa.length aa.length],JZ .ready none [(3,.aV 0 0),(5,.aV 2 0)] 4,.cD true,.cc]) 3 4 5 [3,0,2,4,1] [] rfl rfl rfl rfl (.s rfl (.s rfl .n)) (λ_ _=>rfl) .fn rfl (λz h=>⟨gB.h h,.mH rfl,rfl,rfl⟩) (bU rfl (bU rfl (bU rfl (bU rfl (bU rfl fy))))) (λ_=>.mk rfl (by decide) rfl) (λ_=>rfl) (λ_=>rfl) (λ_=>rfl) (λaE XA=>?_)
 ·refine cg ?_;refine .nQ 5 rfl rfl rfl<|.mM rfl<|.JN (l':=[(4,.ek 1 0 aa.length aa.length)]) [0,2] (.s rfl .n) rfl<|.zf (l':=[]) (x:=λ_=>.ek 1 0 aa.length aa.length) (y:=λz=>bM 1 ch z) 4 ch (λxs=>xs.map bI) (λ_=>rfl) (λxs=>(r3 (λ_=>rfl) xs).symm) rfl rfl (λz h=>.a) .n rfl rfl rfl λa_=>?_;exact a0
instance aGq{J:aA}{Z an}:bQ (uw J Z an) 51 [bM 3 l5 Z,bM 1 ch an] aL:=.aX 1 func51 rfl ntmps51<|by intro _ _ _;refine cI (α:=(Int×Int)) (λs=>[(4,aL s.1),(9,aL s.2)]) (λH _=>H) [1,7,8] ?_;rintro⟨dv,ff⟩ n;refine fg ?_;refine ba λaa=>?_;refine ba λai=>?_;refine ba λaE=>?_;refine ba λaW=>?_;refine cg ?_;exact .iS [0] ((az ((az (aE+aW))-aa.lo)),(az (ff+1)))
instance aGz{ab al am ao ah aq av aT bd bf bo bC bW cB dj kE}:yc (Hs ab al am ao ah aq av aT bd bf bo bC bW cB dj kE) [aL ab,.agg ((anR al).map .p)] [Bc .ready none [(3,.aV 1 0),(5,.bG [sl 1 ch am]),(6,.aV 2 0),(7,.aV 3 0)] 4,pM 5,pN ao,ep ah,.cD true,fK aq av aT bd bf bo bC 6 7 8 9,gr bW,eG cB,dO dj,gi kE] (Sum.elim (λr=>bD false) (λr=>bD true)) (Sum.elim (λr=>[Bc .done (some .ret) [(3,.aV 1 0),(5,.bG [sl 1 ch am]),(6,.aV 2 0),(7,.aV 3 0)] 4,pM 5,pN r.1,ep r.2.1,.cD true,fK aq av aT bd bf bo bC 6 7 8 9,gr r.2.2,eG cB,dO dj,gi kE]) (λr=>[Bc .ready none [(3,.aV 1 0),(5,.bG [sl 1 ch am]),(6,.aV 2 0),(7,.aV 3 0)] 4,pM 5,pN r.1,ep r.2.1,.cD true,fK aq av aT bd bf bo bC 6 7 8 9,gr r.2.2,eG cB,dO dj,gi kE])):=.aX 1<|by intro _ _ _;refine qq ?_;refine ba λaa=>?_;refine cg ?_;refine .q (abx runUnderlying211 sizeOf3 rfl rfl (by decide) (by decide)) (.y rfl rfl)<|?_;refine qq ?_;refine ba λai=>?_;refine cg ?_;refine .q (abx runUnderlying211 sizeOf3 rfl rfl (by decide) (by decide)) (.y rfl rfl)<|?_;refine cy ?_;refine ba λaE=>?_;refine cg ?_;refine .ar (aoh (k:=ab) (a:=aE) rfl rfl rfl rfl .lB) (fa rfl) .n<|?_;exact a0
instance aGA{J:aA}{ab al am ao ah aq av aT bd bf bo bC bW cB dj}:ck (WS J ab al am ao ah aq av aT bd bf bo bC bW cB dj) 176 [.gV 0,.aV 1 0,.bG [bI ab]] [Bc .ready none [(3,.aV 2 0),(5,.bG [sl 1 ch al]),(6,.aV 3 0),(7,.aV 4 0)] 5,pM 6,pM 6,pN am,ep ao,.cD true,fK ah aq av aT bd bf bo 7 8 9 10,gr bC,eG bW,dO cB,gi dj] 0 (Sum.elim (λr=>.cx []) (λr=>.cx [])) (Sum.elim (λr=>[Bc .done (some .ret) [(3,.aV 2 0),(5,.bG [sl 1 ch al]),(6,.aV 3 0),(7,.aV 4 0)] 5,pM 6,pM 6,pN r.1,ep r.2.1,.cD true,fK ah aq av aT bd bf bo 7 8 9 10,gr r.2.2,eG bW,dO cB,gi dj]) (λr=>[Bc .ready none [(3,.aV 2 0),(5,.bG [sl 1 ch al]),(6,.aV 3 0),(7,.aV 4 0)] 5,pM 6,pM 6,pN r.1,ep r.2.1,.cD true,fK ah aq av aT bd bf bo 7 8 9 10,gr r.2.2,eG bW,dO cB,gi dj])):=.aX 1 func176 rfl ntmps176<|by
 intro _ _ _;refine ba λaa=>?_;refine cI (α:=(Int×Bool×Int×s8)) (λs=>[(16,aL s.1)]) (λH s=>((H.set 3 (pN s.2.1)).set 4 (ep s.2.2.1)).set 7 (gr s.2.2.2)) [0,1,14,15] ?_;rintro⟨Ef,Bo,zz,KQ⟩ n;refine fg ?_;refine ba λai=>?_;refine ba λaE=>?_;refine pF ?_ ?_
 ·refine ba λaW=>?_;refine ba λa_=>?_;refine ba λbq=>?_;refine ba λbR=>?_;refine oU (λbJ=>?_) (λcG=>?_)
  ·exact a0
  ·refine cg ?_;exact .iS [11] ((az (Ef+1)),cG.1,cG.2.1,cG.2.2)
 ·refine cg ?_;exact .iS [11] ((az (Ef+1)),Bo,zz,KQ)
instance aGC{Z}:bQ (Hu Z) 122 [gh Z] bD:=.aX 0 func122 rfl ntmps122 a0
instance aGE{Z}:bQ (W7 Z) 90 [.agg ((cM Z).map .p)] bD:=.aX 0 func90 rfl ntmps90 a0
instance aDU{J:aA}{Z an}:bQ (QP J Z an) 223 [bM 2 cM Z,aL an] (bM 2 cM):=.aX 1 func223 rfl ntmps223<|by
 intro _ _ _;refine ha ?_ ?_
 ·exact .bt
 ·refine ba λaa=>?_;refine ha ?_ ?_
  ·exact .bt
  ·refine cg ?_;refine .q8 (λz h=>acP (i:=0) (j0:=cM) wK Vo Vl rfl (by decide) rfl rfl (λ_ _=>acQ (cs:=[.int .u8 0,.int .i64 0])) h) (λ_=>fa rfl) rfl λai=>?_;refine cg ?_;refine .q8 (λz h=>NT (f:=(λxs=>xs.flatMap cM)) (e:=cM) 0 runUnderlying125 sizeOf124 wK J7 (λ_=>rfl) rfl rfl sR h) (λ_=>fa rfl) rfl λaE=>?_;refine cI (α:=(Int×dh)) (λs=>[(8,aL s.1)]) (λH s=>H.set 0 (.bA 124 (s.2.flatMap cM))) [7] ?_;rintro⟨b2,jN⟩ n;refine ha ?_ ?_
   ·refine cg ?_;refine .q8 (λz h=>UX 0 runUnderlying125 sizeOf124 rfl rfl h) (λ_=>fy) .n λ_=>?_;refine cg ?_;refine .q8 (λz h=>UY 0 runUnderlying125 sizeOf124 rfl rfl h) (λ_=>fy) .n λ_=>.q8 (λz h=>UV (f:=(λxs=>xs.flatMap cM)) (e:=cM) (0+b2.toNat) 0 runUnderlying125 sizeOf124 wK J7 (λ_=>rfl) rfl rfl h) (λ_=>fa rfl) .n λbq=>?_;exact a0
   ·refine cg ?_;refine .zf (l':=[]) (x:=λ_=>.ek 0 0 ai.length ai.length) (y:=λz=>bM 2 cM z) 4 cM (λxs=>xs.flatMap cM) wK (λ_=>rfl) rfl rfl (λz h=>.a) .n rfl rfl rfl λbR=>?_;exact a0
theorem apK{QS} [apL:VB QS]{ab al am ao ah aq av aT bd bf bo bC}:ck (QR J QS ab al am ao ah aq av aT bd bf bo bC) 303 [.aV 0 0,aL ab] [fK al am ao ah aq av aT 1 2 3 4,gr bd,eG bf,dO bo,gi bC] 0 cE (λ_=>[fK al am ao ah aq av aT 1 2 3 4,gr bd,eG bf,dO bo,gi bC]):=.aX 1 func303 rfl ntmps303<|by intro _ _ _;refine ba λaa=>?_;refine cy ?_;refine cy ?_;refine cy ?_;refine ba λai=>?_;refine ba λaE=>?_;refine ba λaW=>?_;refine ba λa_=>?_;refine cg ?_;refine .q (ami runUnderlying21 runUnderlying9 rfl) .n<|?_;exact a0
theorem apM(k:Nat):VB (KX J k):=by
  induction k with
  |zero=>(repeat intro _);exact .bt rfl
  |succ k bx=>(repeat intro _);exact apK (apL:=bx)
instance aGG{J:aA}:VB (W_ J):=apM J.n
instance aGK{ab al am ao ah aq av aT bd bf bo}:ck (afW ab al am ao ah aq av aT bd bf bo) 253 [.aV 0 2] [fK ab al am ao ah aq av 1 2 3 4,gr aT,eG bd,dO bf,gi bo] 0 (λr=>.cx []) (λr=>[fK ab al am r.1 r.2 aq av 1 2 3 4,gr aT,eG bd,dO bf,gi bo]):=.aX 0 func253 rfl ntmps253 a0
instance aDV{J:aA}{ab al}:ck (Hz J ab al) 223 [bM 2 cM ab,aL al] [] 1 (λr=>.ek 0 0 r.1 r.1) (λr=>[.bA 124 (r.2.flatMap cM)]):=.aX 1 func223 rfl ntmps223<|by
 intro _ _ _;refine ha ?_ ?_
 ·exact .bt
 ·refine ba λaa=>?_;refine ha ?_ ?_
  ·exact .bt
  ·refine cg ?_;refine .q8 (λz h=>acP (i:=0) (j0:=cM) wK Vo Vl rfl (by decide) rfl rfl (λ_ _=>acQ (cs:=[.int .u8 0,.int .i64 0])) h) (λ_=>fa rfl) rfl λai=>?_;refine cg ?_;refine .q8 (λz h=>NT (f:=(λxs=>xs.flatMap cM)) (e:=cM) 0 runUnderlying125 sizeOf124 wK J7 (λ_=>rfl) rfl rfl sR h) (λ_=>fa rfl) rfl λaE=>?_;refine cI (α:=(Int×dh)) (λs=>[(8,aL s.1)]) (λH s=>H.set 0 (.bA 124 (s.2.flatMap cM))) [7] ?_;rintro⟨b2,jN⟩ n;refine fg ?_;refine cg ?_;refine .q8 (λz h=>UX 0 runUnderlying125 sizeOf124 rfl rfl h) (λ_=>fy) .n λ_=>?_;refine cg ?_;refine .q8 (λz h=>UY 0 runUnderlying125 sizeOf124 rfl rfl h) (λ_=>fy) .n λ_=>.q8 (λz h=>UV (f:=(λxs=>xs.flatMap cM)) (e:=cM) (0+b2.toNat) 0 runUnderlying125 sizeOf124 wK J7 (λ_=>rfl) rfl rfl h) (λ_=>fa rfl) .n λbq=>?_;exact a0
instance aDW{ab al}:ck (Q0 ab al) 225 [bM 2 cM ab,aL al] [] 0 (λr=>.fn (.func 261) [] [.bG [sl 2 cM r.1],.bG [bI r.2]]) (λ_=>[]):=.aX 0 func225 rfl ntmps225<|by intro _ _ _;refine fg ?_;exact .bt
instance aGM{J:aA}{Z an}:bQ (th J Z an) 24 [bM 1 ch Z,bM 1 ch an] bD:=.aX 0 func24 rfl ntmps24<|by intro _ _ _;refine cy ?_;refine cI (α:=Int) (λs=>[(5,aL s)]) (λH _=>H) [0,1] ?_;rintro cY n;exact a0
instance aGO{J:aA}{Z an}:bQ (BQ J Z an) 34 [bM 1 (lk 1 ch) Z,bM 1 (lk 1 ch) an] bD:=.aX 0 func34 rfl ntmps34<|by intro _ _ _;refine cy ?_;refine cI (α:=Int) (λs=>[(5,aL s)]) (λH _=>H) [0,1] ?_;rintro cY n;exact a0
instance agt{J:aA}{Z an}:bQ (vK J Z an) 25 [bM 3 l5 Z,aL an] (bM 1 ch):=.aX 1 func25 rfl ntmps25<|by intro _ _ _;refine cg ?_;refine .mk 0 bI (0:Int) Ds Dr rfl rfl rfl (λ_ _=>.v) rfl rfl λaa=>?_;refine cI (α:=(Int×Int×List Int)) (λs=>[(1,aL s.1),(6,aL s.2.1)]) (λH s=>H.set 0 (.bA 3 (s.2.2.map bI))) [0,5] ?_;rintro⟨jw,dR,jN⟩ n;refine cy ?_;refine cg ?_;refine .zf (l':=[]) (x:=λ_=>.ek 0 0 aa.length aa.length) (y:=λz=>bM 1 ch z) 4 ch (λxs=>xs.map bI) (λ_=>rfl) (λxs=>(r3 (λ_=>rfl) xs).symm) rfl rfl (λz h=>.a) .n rfl rfl rfl λbJ=>?_;exact a0
end
end Go.Proofs.YtjfgooffdmnnkaaGreatDoor

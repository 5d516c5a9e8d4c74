/- What the functions of the program compute, as functions of plain data. -/
import Derived.Test.YtgfggdcbhjhegaaGreatDoorH
import Derived.Test.YtgfggdcbhjhegaaGreatDoorChecked
set_option linter.all false
set_option maxRecDepth 100000
set_option maxHeartbeats 4000000
namespace Go.Proofs.YtgfggdcbhjhegaaGreatDoor
open Go Go.Mi Go.RowKit Go.Dp Tryz Go.Proofs.Tryz
open Bool renaming false->aQ,true->ah
open Go renaming LoopState->oU,Value->a4,Code->dS,World->bb,TypeId->b3,Operand->bM
open Go.IntKind renaming i64->fE,u8->pR,u32->Qo
open Go.Op renaming equalIn->kG,equal->l2,maxDepth->s9
open Go.Result renaming andThen->ce
open Go.Sem renaming run_bind->ck
open Go.Value renaming int->eG,slice->hh,agg->lN,string->tj,map->vK,nilFunc->JH,bool->JI,pointer->Qp
open Option renaming bind->aw,some->D,none->aF
open Sum renaming elim->dQ
noncomputable section
attribute [local irreducible] bI cW co bZ
abbrev g8(st:oU)(dJ:Option dS)(fr:bY)(j:Nat):aG:=.loop st dJ 0 39 fr #[19] (gP (gP (e1 (gP (e1 (e1 (nv f220))))))) (e1 (gP (e1 (gP (e1 (e1 (nv f220))))))) j
abbrev qq(st:oU)(dJ:Option dS)(fr:bY)(j:Nat):aG:=.loop st dJ 0 45 fr #[12,13] (gP (gP (e1 (gP (e1 (nv f304)))))) (e1 (gP (e1 (gP (e1 (nv f304)))))) j
abbrev tk(st:oU)(dJ:Option dS)(fr:bY)(j:Nat):aG:=.loop st dJ 0 45 fr #[18] (gP (gP (e1 (gP (e1 (gP (e1 (gP (e1 (nv f304)))))))))) (e1 (gP (e1 (gP (e1 (gP (e1 (gP (e1 (nv f304)))))))))) j
abbrev tl(st:oU)(dJ:Option dS)(fr:bY)(j:Nat):aG:=.loop st dJ 0 45 fr #[29,30] (gP (gP (e1 (e1 (e1 (nv f304)))))) (e1 (gP (e1 (e1 (e1 (nv f304)))))) j
abbrev xx(st:oU)(dJ:Option dS)(fr:bY)(j:Nat):aG:=.loop st dJ 0 41 fr #[12,13] (gP (gP (e1 (gP (e1 (nv f221)))))) (e1 (gP (e1 (gP (e1 (nv f221)))))) j
abbrev xy(st:oU)(dJ:Option dS)(fr:bY)(j:Nat):aG:=.loop st dJ 0 52 fr #[13,14] (gP (gP (e1 (gP (e1 (e1 (nv f45))))))) (e1 (gP (e1 (gP (e1 (e1 (nv f45))))))) j
abbrev Fv(st:oU)(dJ:Option dS)(fr:bY)(j:Nat):aG:=.loop st dJ 0 61 fr #[21,22] (gP (gP (e1 (gP (e1 (e1 (nv f51))))))) (e1 (gP (e1 (gP (e1 (e1 (nv f51))))))) j
abbrev Fw(st:oU)(dJ:Option dS)(fr:bY)(j:Nat):aG:=.loop st dJ 0 71 fr #[60] (gP (gP (e1 (gP (e1 (e1 (e1 (e1 (e1 (e1 (nv f95))))))))))) (e1 (gP (e1 (gP (e1 (e1 (e1 (e1 (e1 (e1 (nv f95))))))))))) j
abbrev Fx(st:oU)(dJ:Option dS)(fr:bY)(j:Nat):aG:=.loop st dJ 0 16 fr #[10,11] (gP (gP (e1 (gP (e1 (nv f48)))))) (e1 (gP (e1 (gP (e1 (nv f48)))))) j
def ajr:Nat->Nat
  |1=>330
  |2=>333
  |3=>334
  |4=>335
  |5=>336
  |_=>0
abbrev YG(z:Nat):P:=.v (.func (.func (ajr z)) #[] #[])
abbrev xz(z:Nat):V:=.p (YG z)
instance:tg xz:=⟨λ_ _=>rfl,λ_ _=>rfl⟩
def ajs:Nat->Nat
  |1=>248
  |2=>249
  |3=>250
  |4=>251
  |5=>252
  |6=>253
  |7=>254
  |_=>0
def YH:Nat->P
  |0=>.v .nilFunc
  |z+1=>.v (.func (.func (ajs (z+1))) #[] #[])
def Qq(z:Nat):List P:=[YH z]
abbrev ajt(z:Nat):V:=.p (YH z)
instance:tg ajt:=⟨λ_ _=>rfl,λ_ _=>rfl⟩
@[ext] structure bz where
  kind:Int
  bi:ByteArray
  n:Int
  a3:List Int
  dx:Int
deriving DecidableEq
def jy(x:bz):List P:=[a2 x.kind,eV x.bi,bD x.n,dI 1 cH x.a3,bD x.dx]
@[ext] structure bf where
  nodes:List bz
  aX:List Int
deriving DecidableEq
def du(x:bf):List P:=[dI 5 jy x.nodes,dI 1 cH x.aX]
@[ext] structure eb where
  kind:Int
  bi:ByteArray
  dx:Int
deriving DecidableEq
def mG(x:eb):List P:=[a2 x.kind,eV x.bi,bD x.dx]
@[ext] structure bt where
  fault:Int
  n:Int
deriving DecidableEq
def b7(x:bt):List P:=[a2 x.fault,bD x.n]
@[ext] structure l5 where
  jk:List Int
deriving DecidableEq
def Cf(x:l5):List P:=[dI 1 cH x.jk]
@[ext] structure h9 where
  ke:Int
  og:Int
  oh:Nat
deriving DecidableEq
def rh(x:h9):List P:=[bD x.ke,bD x.og,YG x.oh]
@[ext] structure ri where
  named:Bool
  low:Int
  high:Int
  parts:List h9
deriving DecidableEq
def Fy(x:ri):List P:=[Wk x.named,bD x.low,bD x.high,dI 3 rh x.parts]
@[ext] structure jz where
  uH:Int
  depth:Int
deriving DecidableEq
def Cg(x:jz):List P:=[bD x.uH,bD x.depth]
@[ext] structure YI where
  YJ:Int
  YK:Int
  YL:Int
deriving DecidableEq
def aju(x:YI):List P:=[bD x.YJ,bD x.YK,bD x.YL]
@[ext] structure sg where
  Ch:List ByteArray
deriving DecidableEq
def YM(x:sg):List P:=[dI 1 fk x.Ch]
@[ext] structure oi where
  YN:Int
  zx:Int
deriving DecidableEq
def Qr(x:oi):List P:=[bD x.YN,bD x.zx]
@[ext] structure YO where
  U:Int
  aj:Int
deriving DecidableEq
def ajv(x:YO):List P:=[bD x.U,bD x.aj]
@[ext] structure l6 where
  jk:List Int
  cells:List (List bt)
deriving DecidableEq
def xA(x:l6):List P:=[dI 1 cH x.jk,dI 1 (kF 2 b7) x.cells]
@[ext] structure Fz where
  gM:Int
  args:List bt
  l7:List Int
deriving DecidableEq
def YP(x:Fz):List P:=[bD x.gM,dI 2 b7 x.args,dI 1 cH x.l7]
@[ext] structure aue where
  lo:Int
  ao:Int
  ajw:Int
deriving DecidableEq
@[ext] structure auf where
  lo:Int
  ao:Int
  ajw:Int
deriving DecidableEq
def tn:Nat->V
  |0=>.p (.v .nilFunc)
  |1=>.p (.v (.func (.func 228) #[] #[]))
  |2=>.p (.v (.func (.func 229) #[] #[]))
  |_=>.p (.v (.func (.func 0) #[] #[]))
theorem ajx(z k:Nat):(tn z).lt k=ah:=by unfold tn;split<;>rfl
theorem ajy(z:Nat)(s:Nat->Nat):(tn z).dc s=tn z:=by unfold tn;split<;>rfl
instance:tg tn:=⟨ajy,ajx⟩
theorem ajz(z:Nat):(decide (z=0)=ah/\tn z=.p (.v .nilFunc))\/(decide (z=0)=aQ/\(tn z).BG=ah):=by
  by_cases e:z=0
  · subst e;exact .inl ⟨rfl,rfl⟩
  · refine .inr ⟨by simp[e],?_⟩
    unfold tn;split<;>first|rfl|(exact absurd rfl e)
def oX:Nat->V
  |0=>.p (.v .nilFunc)
  |1=>.p (.v (.func (.func 231) #[] #[]))
  |2=>.p (.v (.func (.func 232) #[] #[]))
  |3=>.p (.v (.func (.func 233) #[] #[]))
  |4=>.fn (.func 277) [] [.bA [.v (.func (.func 235) #[] #[])]]
  |5=>.fn (.func 277) [] [.bA [.v (.func (.func 236) #[] #[])]]
  |6=>.fn (.func 279) [] [.bA [.v (.func (.func 238) #[] #[])]]
  |7=>.fn (.func 279) [] [.bA [.v (.func (.func 239) #[] #[])]]
  |8=>.fn (.func 279) [] [.bA [.v (.func (.func 240) #[] #[])]]
  |_=>.p (.v (.func (.func 0) #[] #[]))
theorem ajA(z k:Nat):(oX z).lt k=ah:=by unfold oX;split<;>rfl
theorem ajB(z:Nat)(s:Nat->Nat):(oX z).dc s=oX z:=by unfold oX;split<;>rfl
instance:tg oX:=⟨ajB,ajA⟩
theorem ajC(z:Nat):(decide (z=0)=ah/\oX z=.p (.v .nilFunc))\/(decide (z=0)=aQ/\(oX z).BG=ah):=by
  by_cases e:z=0
  · subst e;exact .inl ⟨rfl,rfl⟩
  · refine .inr ⟨by simp[e],?_⟩
    unfold oX;split<;>first|rfl|(exact absurd rfl e)
theorem Ci(a b:Int)(d:Nat)(w:bb):(kG (d+1) 3 (.int .i64 a) (.int .i64 b)).run prog w=.ok (decide (a=b)) w:=by simp[kG,runUnderlying3,ck,ce];rfl
theorem Qs:prog.stoodInHeld 265=aQ:=by kernel_rfl
theorem ajD(x y:jz)(w:bb):(l2 265 (.agg ([.int .i64 x.uH,.int .i64 x.depth]:List a4).toArray) (.agg ([.int .i64 y.uH,.int .i64 y.depth]:List a4).toArray)).run prog w=.ok (decide (x=y)) w:=by
  unfold l2;rw[show s9=9998+1+1 from rfl];unfold kG;obtain⟨U,aj⟩:=x;obtain⟨fg,jS⟩:=y;by_cases bw:U=fg
  · by_cases h1:aj=jS
    · simp[runUnderlying265,ck,Qs,ce,part,isAgg3,Ci,jz.mk.injEq,bw,h1]
    · simp[runUnderlying265,ck,Qs,ce,part,isAgg3,Ci,jz.mk.injEq,bw,h1]
  · simp[runUnderlying265,ck,Qs,ce,part,isAgg3,Ci,jz.mk.injEq,bw]
theorem Qt(a b:Int)(d:Nat)(w:bb):(kG (d+1) 5 (.int .u8 a) (.int .u8 b)).run prog w=.ok (decide (a=b)) w:=by simp[kG,runUnderlying5,ck,ce];rfl
theorem Qu:prog.stoodInHeld 64=aQ:=by kernel_rfl
theorem ajE:prog.eqGuardType prog.depth 64=aQ:=by kernel_rfl
theorem ajF(x y:bt)(w:bb):(l2 64 (.agg ([.int .u8 x.fault,.int .i64 x.n]:List a4).toArray) (.agg ([.int .u8 y.fault,.int .i64 y.n]:List a4).toArray)).run prog w=.ok (decide (x=y)) w:=by
  unfold l2;rw[show s9=9998+1+1 from rfl];unfold kG;obtain⟨U,aj⟩:=x;obtain⟨fg,jS⟩:=y;by_cases bw:U=fg
  · by_cases h1:aj=jS
    · simp[runUnderlying64,ck,Qu,ce,part,isAgg3,isAgg5,Ci,Qt,bt.mk.injEq,bw,h1]
    · simp[runUnderlying64,ck,Qu,ce,part,isAgg3,isAgg5,Ci,Qt,bt.mk.injEq,bw,h1]
  · simp[runUnderlying64,ck,Qu,ce,part,isAgg3,isAgg5,Ci,Qt,bt.mk.injEq,bw]
instance ajG:eA prog 101 0 0:=⟨λ_ _=>by kernel_rfl⟩
instance aug:eA prog 101 1 2:=⟨λ_ _=>by kernel_rfl⟩
instance ajH:eA prog 101 2 5:=⟨λ_ _=>by kernel_rfl⟩
instance auh:eA prog 101 3 6:=⟨λ_ _=>by kernel_rfl⟩
instance aui:eA prog 101 4 7:=⟨λ_ _=>by kernel_rfl⟩
instance auj:eA prog 101 5 8:=⟨λ_ _=>by kernel_rfl⟩
instance auk:eA prog 101 6 9:=⟨λ_ _=>by kernel_rfl⟩
instance aul:eA prog 101 7 10:=⟨λ_ _=>by kernel_rfl⟩
instance aum:eA prog 111 0 0:=⟨λ_ _=>by kernel_rfl⟩
instance aun:eA prog 111 1 1:=⟨λ_ _=>by kernel_rfl⟩
instance auo:eA prog 129 0 0:=⟨λ_ _=>by kernel_rfl⟩
instance aup:eA prog 129 1 1:=⟨λ_ _=>by kernel_rfl⟩
instance auq:eA prog 129 2 2:=⟨λ_ _=>by kernel_rfl⟩
instance aur:eA prog 164 0 0:=⟨λ_ _=>by kernel_rfl⟩
instance aus:eA prog 164 1 2:=⟨λ_ _=>by kernel_rfl⟩
instance aut:eA prog 164 2 3:=⟨λ_ _=>by kernel_rfl⟩
instance auu:eA prog 169 0 0:=⟨λ_ _=>by kernel_rfl⟩
instance auv:eA prog 169 1 2:=⟨λ_ _=>by kernel_rfl⟩
instance auw:eA prog 169 2 3:=⟨λ_ _=>by kernel_rfl⟩
instance aux:eA prog 169 3 4:=⟨λ_ _=>by kernel_rfl⟩
instance auy:eA prog 182 0 0:=⟨λ_ _=>by kernel_rfl⟩
instance auz:eA prog 182 1 1:=⟨λ_ _=>by kernel_rfl⟩
instance auA:eA prog 203 0 0:=⟨λ_ _=>by kernel_rfl⟩
instance auB:eA prog 203 1 1:=⟨λ_ _=>by kernel_rfl⟩
instance auC:eA prog 203 2 2:=⟨λ_ _=>by kernel_rfl⟩
instance auD:eA prog 206 0 0:=⟨λ_ _=>by kernel_rfl⟩
instance auE:eA prog 206 1 1:=⟨λ_ _=>by kernel_rfl⟩
instance auF:eA prog 206 2 2:=⟨λ_ _=>by kernel_rfl⟩
instance xB:eA prog 206 3 3:=⟨λ_ _=>by kernel_rfl⟩
instance auG:eA prog 226 0 0:=⟨λ_ _=>by kernel_rfl⟩
instance auH:eA prog 226 1 1:=⟨λ_ _=>by kernel_rfl⟩
instance auI:eA prog 229 0 0:=⟨λ_ _=>by kernel_rfl⟩
instance auJ:eA prog 229 1 1:=⟨λ_ _=>by kernel_rfl⟩
instance auK:eA prog 229 2 2:=⟨λ_ _=>by kernel_rfl⟩
instance ajI:eA prog 25 0 0:=⟨λ_ _=>by kernel_rfl⟩
instance xC:eA prog 25 1 1:=⟨λ_ _=>by kernel_rfl⟩
instance auL:eA prog 265 0 0:=⟨λ_ _=>by kernel_rfl⟩
instance auM:eA prog 265 1 1:=⟨λ_ _=>by kernel_rfl⟩
instance auN:eA prog 312 0 0:=⟨λ_ _=>by kernel_rfl⟩
instance auO:eA prog 312 1 1:=⟨λ_ _=>by kernel_rfl⟩
instance auP:eA prog 312 2 2:=⟨λ_ _=>by kernel_rfl⟩
instance auQ:eA prog 312 3 3:=⟨λ_ _=>by kernel_rfl⟩
instance auR:eA prog 334 0 0:=⟨λ_ _=>by kernel_rfl⟩
instance auS:eA prog 334 1 1:=⟨λ_ _=>by kernel_rfl⟩
instance auT:eA prog 334 2 2:=⟨λ_ _=>by kernel_rfl⟩
instance auU:eA prog 357 0 0:=⟨λ_ _=>by kernel_rfl⟩
instance auV:eA prog 357 1 1:=⟨λ_ _=>by kernel_rfl⟩
instance auW:eA prog 357 2 2:=⟨λ_ _=>by kernel_rfl⟩
instance auX:eA prog 361 0 0:=⟨λ_ _=>by kernel_rfl⟩
instance auY:eA prog 361 1 1:=⟨λ_ _=>by kernel_rfl⟩
instance auZ:eA prog 361 2 2:=⟨λ_ _=>by kernel_rfl⟩
instance au0:eA prog 40 0 0:=⟨λ_ _=>by kernel_rfl⟩
instance au1:eA prog 40 1 1:=⟨λ_ _=>by kernel_rfl⟩
instance au2:eA prog 40 2 2:=⟨λ_ _=>by kernel_rfl⟩
instance ajJ:eA prog 40 3 3:=⟨λ_ _=>by kernel_rfl⟩
instance au3:eA prog 40 4 4:=⟨λ_ _=>by kernel_rfl⟩
instance au4:eA prog 51 0 0:=⟨λ_ _=>by kernel_rfl⟩
instance au5:eA prog 51 1 1:=⟨λ_ _=>by kernel_rfl⟩
instance au6:eA prog 51 2 2:=⟨λ_ _=>by kernel_rfl⟩
instance au7:eA prog 64 0 0:=⟨λ_ _=>by kernel_rfl⟩
instance au8:eA prog 64 1 1:=⟨λ_ _=>by kernel_rfl⟩
instance au9:eA prog 77 0 0:=⟨λ_ _=>by kernel_rfl⟩
instance ava:eA prog 80 0 0:=⟨λ_ _=>by kernel_rfl⟩
instance avb:eA prog 82 0 0:=⟨λ_ _=>by kernel_rfl⟩
instance avc:eA prog 82 1 2:=⟨λ_ _=>by kernel_rfl⟩
instance avd:eA prog 82 2 3:=⟨λ_ _=>by kernel_rfl⟩
instance ave:eA prog 82 3 4:=⟨λ_ _=>by kernel_rfl⟩
instance avf:eA prog 82 4 5:=⟨λ_ _=>by kernel_rfl⟩
instance avg:eA prog 82 5 6:=⟨λ_ _=>by kernel_rfl⟩
instance avh:eA prog 82 6 7:=⟨λ_ _=>by kernel_rfl⟩
instance avi:eA prog 82 7 8:=⟨λ_ _=>by kernel_rfl⟩
instance avj:eA prog 82 8 9:=⟨λ_ _=>by kernel_rfl⟩
instance avk:eA prog 95 0 0:=⟨λ_ _=>by kernel_rfl⟩
instance avl:eA prog 95 1 1:=⟨λ_ _=>by kernel_rfl⟩
instance avm:eA prog 95 2 2:=⟨λ_ _=>by kernel_rfl⟩
theorem ajK(cs:List a4)(v:a4)(w:bb)(h:cs[0]? =D v):(Instr.field 203 (.agg cs.toArray) 0).run prog w=.ok v w:=by simp[Instr.field,ck,runUnderlying203,asAgg,part,isAgg5,h,ce]
theorem Qv(cs:List a4)(v:a4)(w:bb)(h:cs[1]? =D v):(Instr.field 203 (.agg cs.toArray) 1).run prog w=.ok v w:=by simp[Instr.field,ck,runUnderlying203,asAgg,part,isAgg9,h,ce]
instance:Yt 0:=⟨by show _∈[_];exact List.mem_cons_self⟩
theorem ajL:(prog.info? 203).map (λi=>(i.zero,i.size,i.bytes))=D (D (lN #[(eG pR 0),(tj {data:=#[]}),(eG fE 0)]),3,32):=by kernel_rfl
theorem ajM:(prog.info? 29).map (λi=>(i.zero,i.size,i.bytes))=D (D (hh aF 0 0),1,24):=by kernel_rfl
theorem JJ:(prog.info? 3).map (λi=>(i.zero,i.size,i.bytes))=D (D (eG fE 0),1,8):=by kernel_rfl
theorem ajN:(prog.info? 40).map (λi=>(i.zero,i.size,i.bytes))=D (D (lN #[(eG pR 0),(tj {data:=#[]}),(eG fE 0),(hh aF 0 0),(eG fE 0)]),5,64):=by kernel_rfl
theorem ajO:(prog.info? 5).map (λi=>(i.zero,i.size,i.bytes))=D (D (eG pR 0),1,1):=by kernel_rfl
theorem Qw:(prog.info? 64).map (λi=>(i.zero,i.size,i.bytes))=D (D (lN #[(eG pR 0),(eG fE 0)]),2,16):=by kernel_rfl
theorem JK:(prog.info? 9).map (λi=>(i.zero,i.size,i.bytes))=D (D (tj {data:=#[]}),1,16):=by kernel_rfl
abbrev m3(kv:List (jz×Int)):aG:=kX aQ (λq:jz=>.agg #[.int .i64 q.uH,.int .i64 q.depth]) cH kv
theorem YQ:h8 prog 224 3 (λq:jz=>.agg #[.int .i64 q.uH,.int .i64 q.depth]):=.ahp (kt:=265) (by kernel_rfl) (by kernel_rfl) (λ_ _ _=>by kernel_rfl) (λa k w=>ajD k a w) (λ_=>by simp[Instr.sameBits,Bool.and_self])
variable {i:Nat}{ty:b3}{ρ:bM->Option V}
theorem ajP:bE prog (.makeMap 224 aF) ty ρ [(i,.bW)] [(i,m3 [])] (.map i):=xh
variable {gr:V}{x y:bM}
theorem ajQ{kv:List (jz×Int)}{k:jz}(ar:ρ x=D (.map i))(bh:ρ y=D gr)(au:gr.val=D ((λq:jz=>.agg #[.int .i64 q.uH,.int .i64 q.depth]) k)):bE prog (.lookup 224 x y ah) ty ρ [(i,m3 kv)] [] (.cg [eJ aQ (cH ((dP kv k).getD (0:Int))),bs (dP kv k).isSome]):=xi YQ ar bh au zeroValue3 (λ_ _ _=>.p .v)
variable {d:V}{key m:bM}
theorem ajR{kv:List (jz×Int)}{k:jz}{a:Int}(ar:ρ m=D (.map i))(bh:ρ key=D gr)(au:gr.val=D ((λq:jz=>.agg #[.int .i64 q.uH,.int .i64 q.depth]) k))(az:ρ x=D d)(hw:fY d (eJ aQ (cH a))):bE prog (.mapUpdate 224 m key x) ty ρ [(i,m3 kv)] [(i,m3 (d_ kv k a))] (.p (.v undef)):=BS YQ ar bh au az hw (.inr ⟨_,rfl⟩)
abbrev FA(kv:List (ByteArray×Nat)):aG:=kX aQ (λb:ByteArray=>.string b) Qq kv
theorem YR:h8 prog 251 255 (λb:ByteArray=>.string b):=.str (kt:=9) (by kernel_rfl) (by kernel_rfl)
theorem ajS:bE prog (.makeMap 251 aF) ty ρ [(i,.bW)] [(i,FA [])] (.map i):=xh
variable {k:ByteArray}
theorem JL{kv:List (ByteArray×Nat)}(ar:ρ x=D (.map i))(bh:ρ y=D gr)(au:gr.val=D ((λb:ByteArray=>.string b) k)):bE prog (.lookup 251 x y ah) ty ρ [(i,FA kv)] [] (.cg [eJ aQ (Qq ((dP kv k).getD (0:Nat))),bs (dP kv k).isSome]):=xi YR ar bh au zeroValue255 (λ_ _ _=>.p .v)
theorem zy{kv:List (ByteArray×Nat)}{a:Nat}(ar:ρ m=D (.map i))(bh:ρ key=D gr)(au:gr.val=D ((λb:ByteArray=>.string b) k))(az:ρ x=D d)(hw:fY d (eJ aQ (Qq a))):bE prog (.insert 251 m key x) ty ρ [(i,FA kv)] [(i,FA (d_ kv k a))] (.p (.v undef)):=XG YR ar bh au az hw (.inr ⟨_,rfl⟩)
abbrev uI(kv:List (Int×Bool)):aG:=kX aQ (λn:Int=>.int .i64 n) Wl kv
theorem Qx:h8 prog 316 4 (λn:Int=>.int .i64 n):=.int (kt:=3) (by kernel_rfl) (by kernel_rfl)
theorem ajT:bE prog (.makeMap 316 aF) ty ρ [(i,.bW)] [(i,uI [])] (.map i):=xh
theorem ajU{kv:List (Int×Bool)}{k:Int}{a:Bool}(ar:ρ m=D (.map i))(bh:ρ key=D gr)(au:gr.val=D ((λn:Int=>.int .i64 n) k))(az:ρ x=D d)(hw:fY d (eJ aQ (Wl a))):bE prog (.mapUpdate 316 m key x) ty ρ [(i,uI kv)] [(i,uI (d_ kv k a))] (.p (.v undef)):=BS Qx ar bh au az hw (.inr ⟨_,rfl⟩)
theorem ajV{ty:b3}{kv:List (Int×Bool)}(ar:ρ x=D (.map i)):bE prog (.call {callee:=.builtin .len,args:=#[x],argTypes:=#[316]}) ty ρ [(i,uI kv)] [] (aI kv.length):=ahr Qx ar
theorem ajW{ty:b3}{kv:List (Int×Bool)}{k:Int}{b1:b3}(ar:ρ m=D (.map i))(bh:ρ key=D gr)(au:gr.val=D ((λn:Int=>.int .i64 n) k)):bE prog (.call {callee:=.builtin .delete,args:=#[m,key],argTypes:=#[316,b1]}) ty ρ [(i,uI kv)] [(i,uI (mB kv k))] (.p (.v undef)):=ahs Qx ar bh au
abbrev qr(kv:List (ByteArray×Int)):aG:=kX aQ (λb:ByteArray=>.string b) jJ kv
theorem YS:h8 prog 359 5 (λb:ByteArray=>.string b):=.str (kt:=9) (by kernel_rfl) (by kernel_rfl)
theorem FB:bE prog (.makeMap 359 aF) ty ρ [(i,.bW)] [(i,qr [])] (.map i):=xh
theorem FC{kv:List (ByteArray×Int)}(ar:ρ x=D (.map i))(bh:ρ y=D gr)(au:gr.val=D ((λb:ByteArray=>.string b) k)):bE prog (.lookup 359 x y aQ) ty ρ [(i,qr kv)] [] (eJ aQ (jJ ((dP kv k).getD (0:Int)))):=xi YS ar bh au zeroValue5 (λ_ _ _=>.p .v)
theorem rj{kv:List (ByteArray×Int)}{a:Int}(ar:ρ m=D (.map i))(bh:ρ key=D gr)(au:gr.val=D ((λb:ByteArray=>.string b) k))(az:ρ x=D d)(hw:fY d (eJ aQ (jJ a))):bE prog (.insert 359 m key x) ty ρ [(i,qr kv)] [(i,qr (d_ kv k a))] (.p (.v undef)):=XG YS ar bh au az hw (.inr ⟨_,rfl⟩)
abbrev e4(kv:List (Int×Int)):aG:=kX aQ (λn:Int=>.int .i64 n) cH kv
theorem YT:h8 prog 96 3 (λn:Int=>.int .i64 n):=.int (kt:=3) (by kernel_rfl) (by kernel_rfl)
theorem ajX:bE prog (.makeMap 96 aF) ty ρ [(i,.bW)] [(i,e4 [])] (.map i):=xh
theorem YU{kv:List (Int×Int)}{k:Int}(ar:ρ x=D (.map i))(bh:ρ y=D gr)(au:gr.val=D ((λn:Int=>.int .i64 n) k)):bE prog (.lookup 96 x y aQ) ty ρ [(i,e4 kv)] [] (eJ aQ (cH ((dP kv k).getD (0:Int)))):=xi YT ar bh au zeroValue3 (λ_ _ _=>.p .v)
theorem ajY{kv:List (Int×Int)}{k:Int}{a:Int}(ar:ρ m=D (.map i))(bh:ρ key=D gr)(au:gr.val=D ((λn:Int=>.int .i64 n) k))(az:ρ x=D d)(hw:fY d (eJ aQ (cH a))):bE prog (.mapUpdate 96 m key x) ty ρ [(i,e4 kv)] [(i,e4 (d_ kv k a))] (.p (.v undef)):=BS YT ar bh au az hw (.inr ⟨_,rfl⟩)
abbrev dH(kv:List (Int×List bt)):aG:=kX aQ (λn:Int=>.int .i64 n) (kF 2 b7) kv
theorem JM:h8 prog 97 29 (λn:Int=>.int .i64 n):=.int (kt:=3) (by kernel_rfl) (by kernel_rfl)
theorem Qy:bE prog (.makeMap 97 aF) ty ρ [(i,.bW)] [(i,dH [])] (.map i):=xh
theorem ajZ{kv:List (Int×List bt)}{k:Int}(ar:ρ x=D (.map i))(bh:ρ y=D gr)(au:gr.val=D ((λn:Int=>.int .i64 n) k)):bE prog (.lookup 97 x y aQ) ty ρ [(i,dH kv)] [] (eJ aQ ((kF 2 b7) ((dP kv k).getD ([]:List bt)))):=xi JM ar bh au zeroValue29 (λ_ _ _=>.p .nil)
theorem aj0{kv:List (Int×List bt)}{k:Int}(ar:ρ x=D (.map i))(bh:ρ y=D gr)(au:gr.val=D ((λn:Int=>.int .i64 n) k)):bE prog (.lookup 97 x y ah) ty ρ [(i,dH kv)] [] (.cg [eJ aQ ((kF 2 b7) ((dP kv k).getD ([]:List bt))),bs (dP kv k).isSome]):=xi JM ar bh au zeroValue29 (λ_ _ _=>.p .nil)
theorem aj1{kv:List (Int×List bt)}{k:Int}{a:List bt}(ar:ρ m=D (.map i))(bh:ρ key=D gr)(au:gr.val=D ((λn:Int=>.int .i64 n) k))(az:ρ x=D d)(hw:fY d (eJ aQ ((kF 2 b7) a))):bE prog (.mapUpdate 97 m key x) ty ρ [(i,dH kv)] [(i,dH (d_ kv k a))] (.p (.v undef)):=BS JM ar bh au az hw (.inr ⟨_,rfl⟩)
abbrev JN(c:Nat)(bH:List Nat)(kv:List (Int×List bt)):aG:=r9 aQ (λn:Int=>.int .i64 n) (kF 2 b7) c bH kv
variable {bH:List Nat}{c:Nat}
theorem YV{kv:List (Int×List bt)}{k:Int}(ar:ρ x=D (.map i))(bh:ρ y=D gr)(au:gr.val=D ((λn:Int=>.int .i64 n) k)):bE prog (.mapEntry 97 x y) ty ρ [(i,JN c bH kv)] [(i,JN (uF c kv k) (r_ c bH kv k) (vE kv k ([]:List bt)))] (.cg [eJ aQ ((kF 2 b7) ((dP kv k).getD ([]:List bt))),aI (xp c bH kv k)]):=ah9 JM ar bh au zeroValue29 (λ_ _ _=>.p .nil)
theorem YW{kv:List (Int×List bt)}{k:Int}{a er:List bt}(aV:n3 c bH)(aK:bH.length=kv.length)(ar:ρ m=D (.map i))(bh:ρ y=D (aI (xp c bH kv k)))(az:ρ x=D d)(hw:fY d (eJ aQ ((kF 2 b7) a))):bE prog (.entryStore 97 m y x) ty ρ [(i,JN (uF c kv k) (r_ c bH kv k) (vE kv k er))] [(i,JN (uF c kv k) (r_ c bH kv k) (d_ kv k a))] (.p (.v undef)):=aid aV aK ar bh az hw
abbrev c3(kv:List (ByteArray×Int)):aG:=kX aQ (λb:ByteArray=>.string b) cH kv
theorem YX:h8 prog 98 3 (λb:ByteArray=>.string b):=.str (kt:=9) (by kernel_rfl) (by kernel_rfl)
theorem YY:bE prog (.makeMap 98 aF) ty ρ [(i,.bW)] [(i,c3 [])] (.map i):=xh
theorem JO{kv:List (ByteArray×Int)}(ar:ρ x=D (.map i))(bh:ρ y=D gr)(au:gr.val=D ((λb:ByteArray=>.string b) k)):bE prog (.lookup 98 x y ah) ty ρ [(i,c3 kv)] [] (.cg [eJ aQ (cH ((dP kv k).getD (0:Int))),bs (dP kv k).isSome]):=xi YX ar bh au zeroValue3 (λ_ _ _=>.p .v)
theorem YZ{kv:List (ByteArray×Int)}{a:Int}(ar:ρ m=D (.map i))(bh:ρ key=D gr)(au:gr.val=D ((λb:ByteArray=>.string b) k))(az:ρ x=D d)(hw:fY d (eJ aQ (cH a))):bE prog (.mapUpdate 98 m key x) ty ρ [(i,c3 kv)] [(i,c3 (d_ kv k a))] (.p (.v undef)):=BS YX ar bh au az hw (.inr ⟨_,rfl⟩)
abbrev eW(kv:List (Int×oi)):aG:=kX ah (λn:Int=>.int .i64 n) Qr kv
theorem Y0:h8 prog 99 182 (λn:Int=>.int .i64 n):=.int (kt:=3) (by kernel_rfl) (by kernel_rfl)
theorem aj2:bE prog (.makeMap 99 aF) ty ρ [(i,.bW)] [(i,eW [])] (.map i):=xh
theorem aj3{kv:List (Int×oi)}{k:Int}(ar:ρ x=D (.map i))(bh:ρ y=D gr)(au:gr.val=D ((λn:Int=>.int .i64 n) k)):bE prog (.lookup 99 x y ah) ty ρ [(i,eW kv)] [] (.cg [eJ ah (Qr ((dP kv k).getD (⟨0,0⟩:oi))),bs (dP kv k).isSome]):=xi Y0 ar bh au zeroValue182 (λ_ _ _=>.agg (.cons (.p .v) (.cons (.p .v) .nil)))
theorem aj4{kv:List (Int×oi)}{k:Int}{a:oi}(ar:ρ m=D (.map i))(bh:ρ key=D gr)(au:gr.val=D ((λn:Int=>.int .i64 n) k))(az:ρ x=D d)(hw:fY d (eJ ah (Qr a))):bE prog (.mapUpdate 99 m key x) ty ρ [(i,eW kv)] [(i,eW (d_ kv k a))] (.p (.v undef)):=BS Y0 ar bh au az hw (.inl rfl)
theorem Cj:prog.follows .mixedOrders=ah:=by kernel_rfl
theorem aj5:Qm prog 144:=ajl func144 rfl rfl rfl rfl rfl rfl (by kernel_rfl)
instance avn:l4 prog 101 [(0,2),(2,3),(5,1),(6,1),(7,1),(8,1),(9,1),(10,1)] [(hh aF 0 0),(hh aF 0 0),(eG fE 0),(eG fE 0),(eG fE 0),(hh aF 0 0),(hh aF 0 0),(vK aF),(vK aF),(vK aF),(vK aF)]:=⟨mW zeroValue101 runUnderlying101 (λ_=>by kernel_rfl) rfl⟩
instance avo:l4 prog 111 [(0,1),(1,1)] [(hh aF 0 0),(hh aF 0 0)]:=⟨mW zeroValue111 runUnderlying111 (λ_=>by kernel_rfl) rfl⟩
instance avp:l4 prog 124 [(0,1),(1,1)] [(eG fE 0),(eG fE 0)]:=⟨ahe zeroValue124 runUnderlying124 sizeOf3 rfl rfl⟩
instance avq:l4 prog 129 [(0,1),(1,1),(2,1)] [(eG fE 0),(eG fE 0),(vK aF)]:=⟨mW zeroValue129 runUnderlying129 (λ_=>by kernel_rfl) rfl⟩
instance avr:l4 prog 164 [(0,2),(2,1),(3,1)] [(hh aF 0 0),(hh aF 0 0),(hh aF 0 0),(hh aF 0 0)]:=⟨mW zeroValue164 runUnderlying164 (λ_=>by kernel_rfl) rfl⟩
instance avs:l4 prog 169 [(0,2),(2,1),(3,1),(4,1)] [(hh aF 0 0),(hh aF 0 0),(hh aF 0 0),(vK aF),(hh aF 0 0)]:=⟨mW zeroValue169 runUnderlying169 (λ_=>by kernel_rfl) rfl⟩
instance avt:l4 prog 203 [(0,1),(1,1),(2,1)] [(eG pR 0),(tj {data:=#[]}),(eG fE 0)]:=⟨mW zeroValue203 runUnderlying203 (λ_=>by kernel_rfl) rfl⟩
instance avu:l4 prog 206 [(0,1),(1,1),(2,1),(3,2)] [(hh aF 0 0),(eG fE 0),(eG fE 0),(hh aF 0 0),(hh aF 0 0)]:=⟨mW zeroValue206 runUnderlying206 (λ_=>by kernel_rfl) rfl⟩
instance avv:l4 prog 226 [(0,1),(1,1)] [(Qp aF),(vK aF)]:=⟨mW zeroValue226 runUnderlying226 (λ_=>by kernel_rfl) rfl⟩
instance avw:l4 prog 229 [(0,1),(1,1),(2,1)] [(eG fE 0),(eG fE 0),(eG fE 0)]:=⟨mW zeroValue229 runUnderlying229 (λ_=>by kernel_rfl) rfl⟩
instance avx:l4 prog 25 [(0,1),(1,1)] [(hh aF 0 0),(hh aF 0 0)]:=⟨mW zeroValue25 runUnderlying25 (λ_=>by kernel_rfl) rfl⟩
instance avy:l4 prog 265 [(0,1),(1,1)] [(eG fE 0),(eG fE 0)]:=⟨mW zeroValue265 runUnderlying265 (λ_=>by kernel_rfl) rfl⟩
instance avz:l4 prog 312 [(0,1),(1,1),(2,1),(3,1)] [(JI aQ),(eG fE 0),(eG fE 0),(hh aF 0 0)]:=⟨mW zeroValue312 runUnderlying312 (λ_=>by kernel_rfl) rfl⟩
instance avA:l4 prog 334 [(0,1),(1,1),(2,1)] [(eG fE 0),(eG fE 0),JH]:=⟨mW zeroValue334 runUnderlying334 (λ_=>by kernel_rfl) rfl⟩
instance avB:l4 prog 361 [(0,1),(1,1),(2,1)] [(vK aF),JH,(JI aQ)]:=⟨mW zeroValue361 runUnderlying361 (λ_=>by kernel_rfl) rfl⟩
instance avC:l4 prog 40 [(0,1),(1,1),(2,1),(3,1),(4,1)] [(eG pR 0),(tj {data:=#[]}),(eG fE 0),(hh aF 0 0),(eG fE 0)]:=⟨mW zeroValue40 runUnderlying40 (λ_=>by kernel_rfl) rfl⟩
instance avD:l4 prog 64 [(0,1),(1,1)] [(eG pR 0),(eG fE 0)]:=⟨mW zeroValue64 runUnderlying64 (λ_=>by kernel_rfl) rfl⟩
instance avE:l4 prog 77 [(0,1)] [(hh aF 0 0)]:=⟨mW zeroValue77 runUnderlying77 (λ_=>by kernel_rfl) rfl⟩
instance avF:l4 prog 80 [(0,1)] [(hh aF 0 0)]:=⟨mW zeroValue80 runUnderlying80 (λ_=>by kernel_rfl) rfl⟩
instance avG:l4 prog 82 [(0,2),(2,1),(3,1),(4,1),(5,1),(6,1),(7,1),(8,1),(9,1)] [(hh aF 0 0),(hh aF 0 0),(hh aF 0 0),(hh aF 0 0),(hh aF 0 0),(hh aF 0 0),(hh aF 0 0),(eG fE 0),(eG fE 0),(eG fE 0)]:=⟨mW zeroValue82 runUnderlying82 (λ_=>by kernel_rfl) rfl⟩
theorem aj6{s:ByteArray}(ar:ρ x=D (cG s)):bE prog (.convert 9 114 x) ty ρ [] [] (bT 1 jJ (zl s)):=ahS (e:=5) (by kernel_rfl) (by kernel_rfl) (by kernel_rfl) ar
theorem aj7:prog.underlying 114=D (.slice 5):=by kernel_rfl
theorem aj8:prog.underlying 149=D (.slice 203):=by kernel_rfl
theorem aj9:prog.underlying 22=D (.slice 40):=by kernel_rfl
theorem JP:prog.underlying 23=D (.slice 3):=by kernel_rfl
theorem Qz:prog.underlying 29=D (.slice 64):=by kernel_rfl
theorem aka:prog.underlying 44=D (.slice 29):=by kernel_rfl
theorem JQ:prog.underlying 78=D (.slice 9):=by kernel_rfl
theorem akb(x:bz):(jy x).length=5:=rfl
theorem to(x:bt):(b7 x).length=2:=rfl
theorem FD(x:bt):(b7 x).all P.one=ah:=rfl
abbrev cd:=List bt
abbrev di:=ByteArray×Int
abbrev gD:=Int×Int×List bz×Nat
abbrev dl:=List ByteArray
abbrev hi:=Int×oi
abbrev nB:=jz×Int
abbrev mH:=Int×(List Int)
abbrev oY:=List (Int×Int)
abbrev oZ:=(List Int)×Int
abbrev Ck:=(List Int)×Int×List bz×Nat×Nat
abbrev Cl:=(List Int)×Int×List bz×Nat
abbrev sh:=Int×Int×Int
abbrev zz:=Int×(List (Int×Bool))
abbrev zA:=Int×Int×Int×Int
abbrev vL:=Int ⊕ Int ⊕ Int
abbrev JR:=Int×List bz×List Int×Nat×Nat
abbrev vM:=List eb
abbrev Cm:=ByteArray×Int×Bool
abbrev QA:=Int ⊕ (Int×List bz×List Int×Nat×Nat×List Int×List Int)
abbrev j6:=List (Int×cd)
abbrev vN:=(List cd)×Int×Int×Int×Nat
abbrev xD:=cd×Int×Int×Int
abbrev QB:=(List bz)×List Int×List Int×dl×List Int×List Int×List cd×Nat×Int×Int×Int
abbrev tp:=cd×Int×Int×Int×j6×List di×List hi×j6
abbrev JS:=Int ⊕ (Int×List bz×List Int×Int×Int×Int×List Int×dl×oY×j6×List di×List hi)
abbrev eH(U:List bz)(aj:List Int)(a6 dg fS:Int)(ja:List Int)(iU:dl)(ji kV kH my:Nat):aG:=.cells 101 [bT 5 jy U,bT 1 cH aj,aI a6,aI dg,aI fS,bT 1 cH ja,bT 1 fk iU,.map ji,.map kV,.map kH,.map my]
abbrev dq(U:vM)(aj a6:Int)(dg:List bz)(fS ja:Nat)(iU:List Int)(ji kV:Nat):aG:=.cells 206 [bT 3 mG U,aI aj,aI a6,cT 5 jy dg fS ja,cT 1 cH iU ji kV]
abbrev dU(U:List bz)(aj:List Int)(a6 dg fS ja iU ji:Nat):aG:=.cells 164 [bT 5 jy U,bT 1 cH aj,.dX a6 0 dg fS,.dX ja 0 iU ji]
abbrev g9(U:List bz)(aj a6:List Int)(dg fS ja iU:Nat):aG:=.cells 169 [bT 5 jy U,bT 1 cH aj,bT 1 cH a6,.map dg,.dX fS 0 ja iU]
abbrev lO(U:List bz)(aj a6:List Int)(dg:dl)(fS ja:List Int)(iU:List cd)(ji kV:Nat)(kH my mz:Int):aG:=.cells 82 [bT 5 jy U,bT 1 cH aj,bT 1 cH a6,bT 1 fk dg,bT 1 cH fS,bT 1 cH ja,cT 1 (kF 2 b7) iU ji kV,aI kH,aI my,aI mz]
abbrev fA(U:Int)(aj:ByteArray)(a6:Int)(dg:List Int)(fS:Int):aG:=.cells 40 [fw U,cG aj,aI a6,bT 1 cH dg,aI fS]
abbrev c4(U:Nat):aG:=.cells 160 [.aR U 0]
abbrev dK(U:Int):aG:=.cells 3 [aI U]
abbrev kK(U aj:Int)(a6:Nat):aG:=.cells 129 [aI U,aI aj,.map a6]
abbrev l8(U:Nat):aG:=.cells 67 [.aR U 0]
abbrev m4:aG:=.cells 105 [.fW 5]
abbrev nC(U:Bool):aG:=.cells 4 [bs U]
abbrev Cn(U:cd):aG:=.cells 29 [bT 2 b7 U]
abbrev Co:aG:=.cells 105 [.fW 0]
abbrev ca{R:Type}(m:Option R)(f:FuncId)(ds:List V)(H:List aG)(n:Nat)(fa:R->V)(iG:R->List aG):Prop:=fC m prog f ds H n fa iG
abbrev bG{R:Type}(m:Option R)(f:FuncId)(ds:List V)(fa:R->V):Prop:=fC m prog f ds [] 0 fa λ_=>[]
abbrev vO{R:Type}(m:Option R)(ds:List V)(H:List aG)(fa:R->V)(iG:R->List aG):Prop:=Jr m prog ds H fa iG
abbrev akc{R:Type}(m:Option R)(f:FuncId)(ds:List V)(H:List aG)(n:Nat)(fa:R->V)(iG:R->List aG):Prop:=JD m prog f ds H fa iG
instance:Yo prog:=⟨Cj⟩
instance:fy prog 103 aQ:=⟨isAgg103⟩
instance:fy prog 105 aQ:=⟨isAgg105⟩
instance:fy prog 107 aQ:=⟨isAgg107⟩
instance:fy prog 111 ah:=⟨isAgg111⟩
instance:fy prog 149 aQ:=⟨isAgg149⟩
instance:fy prog 160 aQ:=⟨isAgg160⟩
instance:fy prog 165 aQ:=⟨isAgg165⟩
instance:fy prog 171 aQ:=⟨isAgg171⟩
instance:fy prog 182 ah:=⟨isAgg182⟩
instance:fy prog 203 ah:=⟨isAgg203⟩
instance:fy prog 22 aQ:=⟨isAgg22⟩
instance:fy prog 224 aQ:=⟨isAgg224⟩
instance:fy prog 226 ah:=⟨isAgg226⟩
instance:fy prog 229 ah:=⟨isAgg229⟩
instance:fy prog 23 aQ:=⟨isAgg23⟩
instance:fy prog 246 aQ:=⟨isAgg246⟩
instance:fy prog 25 ah:=⟨isAgg25⟩
instance:fy prog 265 ah:=⟨isAgg265⟩
instance:fy prog 272 aQ:=⟨isAgg272⟩
instance:fy prog 29 aQ:=⟨isAgg29⟩
instance:fy prog 3 aQ:=⟨isAgg3⟩
instance:fy prog 30 aQ:=⟨isAgg30⟩
instance:fy prog 306 aQ:=⟨isAgg306⟩
instance:fy prog 310 aQ:=⟨isAgg310⟩
instance:fy prog 312 ah:=⟨isAgg312⟩
instance:fy prog 334 ah:=⟨isAgg334⟩
instance:fy prog 357 ah:=⟨isAgg357⟩
instance:fy prog 359 aQ:=⟨isAgg359⟩
instance:fy prog 4 aQ:=⟨isAgg4⟩
instance:fy prog 40 ah:=⟨isAgg40⟩
instance:fy prog 44 aQ:=⟨isAgg44⟩
instance:fy prog 5 aQ:=⟨isAgg5⟩
instance:fy prog 64 ah:=⟨isAgg64⟩
instance:fy prog 67 aQ:=⟨isAgg67⟩
instance:fy prog 77 ah:=⟨isAgg77⟩
instance:fy prog 78 aQ:=⟨isAgg78⟩
instance:fy prog 80 ah:=⟨isAgg80⟩
instance:fy prog 9 aQ:=⟨isAgg9⟩
instance:fy prog 95 ah:=⟨isAgg95⟩
instance:fy prog 96 aQ:=⟨isAgg96⟩
instance:fy prog 97 aQ:=⟨isAgg97⟩
instance:fy prog 98 aQ:=⟨isAgg98⟩
instance:fy prog 99 aQ:=⟨isAgg99⟩
instance:sc prog 203 3 mG:=⟨λ_=>rfl,λ_=>rfl⟩
instance:sc prog 29 1 (kF 2 b7):=⟨λ_=>rfl,λ_=>rfl⟩
instance:sc prog 3 1 cH:=⟨λ_=>rfl,λ_=>rfl⟩
instance:sc prog 334 3 rh:=⟨λ_=>rfl,λ_=>rfl⟩
instance:sc prog 40 5 jy:=⟨λ_=>rfl,λ_=>rfl⟩
instance:sc prog 5 1 jJ:=⟨λ_=>rfl,λ_=>rfl⟩
instance:sc prog 64 2 b7:=⟨λ_=>rfl,λ_=>rfl⟩
instance:sc prog 9 1 fk:=⟨λ_=>rfl,λ_=>rfl⟩
instance:vF prog 114 5 (eG pR 0) 1 1:=⟨aj7,ajO⟩
instance:vF prog 149 203 (lN #[(eG pR 0),(tj {data:=#[]}),(eG fE 0)]) 3 32:=⟨aj8,ajL⟩
instance:vF prog 22 40 (lN #[(eG pR 0),(tj {data:=#[]}),(eG fE 0),(hh aF 0 0),(eG fE 0)]) 5 64:=⟨aj9,ajN⟩
instance:vF prog 23 3 (eG fE 0) 1 8:=⟨JP,JJ⟩
instance:vF prog 29 64 (lN #[(eG pR 0),(eG fE 0)]) 2 16:=⟨Qz,Qw⟩
instance:vF prog 44 29 (hh aF 0 0) 1 24:=⟨aka,ajM⟩
instance:vF prog 78 9 (tj {data:=#[]}) 1 16:=⟨JQ,JK⟩
instance:iw prog 114 (.slice 5):=⟨runUnderlying114⟩
instance:iw prog 124 (.array 2 3):=⟨runUnderlying124⟩
instance:iw prog 149 (.slice 203):=⟨runUnderlying149⟩
instance:iw prog 2 (.int .i64):=⟨runUnderlying2⟩
instance:iw prog 21 (.int .i32):=⟨runUnderlying21⟩
instance:iw prog 22 (.slice 40):=⟨runUnderlying22⟩
instance:iw prog 23 (.slice 3):=⟨runUnderlying23⟩
instance:iw prog 243 (.int .u64):=⟨runUnderlying243⟩
instance:iw prog 272 (.int .u32):=⟨runUnderlying272⟩
instance:iw prog 275 (.int .u64):=⟨runUnderlying275⟩
instance:iw prog 29 (.slice 64):=⟨runUnderlying29⟩
instance:iw prog 3 (.int .i64):=⟨runUnderlying3⟩
instance:iw prog 300 (.array 256 5):=⟨runUnderlying300⟩
instance:iw prog 310 (.slice 334):=⟨runUnderlying310⟩
instance:iw prog 348 (.slice 354):=⟨runUnderlying348⟩
instance:iw prog 349 (.slice 357):=⟨runUnderlying349⟩
instance:iw prog 44 (.slice 29):=⟨runUnderlying44⟩
instance:iw prog 5 (.int .u8):=⟨runUnderlying5⟩
instance:iw prog 78 (.slice 9):=⟨runUnderlying78⟩
instance:iw prog 9 .string:=⟨runUnderlying9⟩
instance:gU prog 107 1:=⟨sizeOf107⟩
instance:gU prog 111 2:=⟨sizeOf111⟩
instance:gU prog 124 2:=⟨sizeOf124⟩
instance:gU prog 171 1:=⟨sizeOf171⟩
instance:gU prog 182 2:=⟨sizeOf182⟩
instance:gU prog 203 3:=⟨sizeOf203⟩
instance:gU prog 22 1:=⟨sizeOf22⟩
instance:gU prog 226 2:=⟨sizeOf226⟩
instance:gU prog 229 3:=⟨sizeOf229⟩
instance:gU prog 23 1:=⟨sizeOf23⟩
instance:gU prog 25 2:=⟨sizeOf25⟩
instance:gU prog 265 2:=⟨sizeOf265⟩
instance:gU prog 29 1:=⟨sizeOf29⟩
instance:gU prog 3 1:=⟨sizeOf3⟩
instance:gU prog 30 1:=⟨sizeOf30⟩
instance:gU prog 310 1:=⟨sizeOf310⟩
instance:gU prog 312 4:=⟨sizeOf312⟩
instance:gU prog 334 3:=⟨sizeOf334⟩
instance:gU prog 357 3:=⟨sizeOf357⟩
instance:gU prog 4 1:=⟨sizeOf4⟩
instance:gU prog 40 5:=⟨sizeOf40⟩
instance:gU prog 44 1:=⟨sizeOf44⟩
instance:gU prog 5 1:=⟨sizeOf5⟩
instance:gU prog 64 2:=⟨sizeOf64⟩
instance:gU prog 77 1:=⟨sizeOf77⟩
instance:gU prog 78 1:=⟨sizeOf78⟩
instance:gU prog 80 1:=⟨sizeOf80⟩
instance:gU prog 9 1:=⟨sizeOf9⟩
instance:gU prog 95 3:=⟨sizeOf95⟩
instance:j5 prog 107 (Qp aF):=⟨zeroValue107⟩
instance:j5 prog 111 (lN #[(hh aF 0 0),(hh aF 0 0)]):=⟨zeroValue111⟩
instance:j5 prog 124 (lN #[(eG fE 0),(eG fE 0)]):=⟨zeroValue124⟩
instance:j5 prog 171 JH:=⟨zeroValue171⟩
instance:j5 prog 182 (lN #[(eG fE 0),(eG fE 0)]):=⟨zeroValue182⟩
instance:j5 prog 203 (lN #[(eG pR 0),(tj {data:=#[]}),(eG fE 0)]):=⟨zeroValue203⟩
instance:j5 prog 226 (lN #[(Qp aF),(vK aF)]):=⟨zeroValue226⟩
instance:j5 prog 229 (lN #[(eG fE 0),(eG fE 0),(eG fE 0)]):=⟨zeroValue229⟩
instance:j5 prog 25 (lN #[(hh aF 0 0),(hh aF 0 0)]):=⟨zeroValue25⟩
instance:j5 prog 265 (lN #[(eG fE 0),(eG fE 0)]):=⟨zeroValue265⟩
instance:j5 prog 29 (hh aF 0 0):=⟨zeroValue29⟩
instance:j5 prog 3 (eG fE 0):=⟨zeroValue3⟩
instance:j5 prog 30 (eG fE 0):=⟨zeroValue30⟩
instance:j5 prog 312 (lN #[(JI aQ),(eG fE 0),(eG fE 0),(hh aF 0 0)]):=⟨zeroValue312⟩
instance:j5 prog 334 (lN #[(eG fE 0),(eG fE 0),JH]):=⟨zeroValue334⟩
instance:j5 prog 357 (lN #[(eG Qo 0),(eG Qo 0),(eG Qo 0)]):=⟨zeroValue357⟩
instance:j5 prog 4 (JI aQ):=⟨zeroValue4⟩
instance:j5 prog 40 (lN #[(eG pR 0),(tj {data:=#[]}),(eG fE 0),(hh aF 0 0),(eG fE 0)]):=⟨zeroValue40⟩
instance:j5 prog 5 (eG pR 0):=⟨zeroValue5⟩
instance:j5 prog 64 (lN #[(eG pR 0),(eG fE 0)]):=⟨zeroValue64⟩
instance:j5 prog 77 (lN #[(hh aF 0 0)]):=⟨zeroValue77⟩
instance:j5 prog 80 (lN #[(hh aF 0 0)]):=⟨zeroValue80⟩
instance:j5 prog 9 (tj {data:=#[]}):=⟨zeroValue9⟩
instance:j5 prog 95 (lN #[(eG fE 0),(eG fE 0),(eG fE 0)]):=⟨zeroValue95⟩
abbrev JT:=vM->Int->Int->Nat->List bz->Nat->List Int->Option gD
abbrev QC(f:JT):Prop:=∀ ⦃ab ag ak ap an al am⦄,ca (f ab ag ak ap an al am) 293 [.aR 0 0] [dq ab ag ak an 1 ap am 2 al,.bl 40 5 ap,.bl 3 1 al] 0 (λr=>aI r.1) (λr=>[dq ab ag r.2.1 r.2.2.1 1 r.2.2.2 am 2 al,.bl 40 5 r.2.2.2,.bl 3 1 al])
abbrev JU:=vM->Int->Int->Nat->List bz->Nat->List Int->Option gD
abbrev QD(f:JU):Prop:=∀ ⦃ab ag ak ap an al am⦄,ca (f ab ag ak ap an al am) 381 [.aR 0 0] [dq ab ag ak an 1 ap am 2 al,.bl 40 5 ap,.bl 3 1 al] 0 (λr=>aI r.1) (λr=>[dq ab ag r.2.1 r.2.2.1 1 r.2.2.2 am 2 al,.bl 40 5 r.2.2.2,.bl 3 1 al])
abbrev JV:=vM->Int->Int->Nat->List bz->Nat->List Int->Option gD
abbrev QE(f:JV):Prop:=∀ ⦃ab ag ak ap an al am⦄,ca (f ab ag ak ap an al am) 368 [.aR 0 0] [dq ab ag ak an 1 ap am 2 al,.bl 40 5 ap,.bl 3 1 al] 0 (λr=>aI r.1) (λr=>[dq ab ag r.2.1 r.2.2.1 1 r.2.2.2 am 2 al,.bl 40 5 r.2.2.2,.bl 3 1 al])
abbrev iH:=vM->Int->Int->Nat->List bz->Nat->List Int->Option gD
abbrev kL(f:iH):Prop:=∀ ⦃ab ag ak ap an al am⦄,ca (f ab ag ak ap an al am) 296 [.aR 0 0] [dq ab ag ak an 1 ap am 2 al,.bl 40 5 ap,.bl 3 1 al] 0 (λr=>aI r.1) (λr=>[dq ab ag r.2.1 r.2.2.1 1 r.2.2.2 am 2 al,.bl 40 5 r.2.2.2,.bl 3 1 al])
abbrev FE:=Int->Int->bf->bf->Int->Option (Bool×Int)
abbrev QF(f:FE):Prop:=∀ ⦃ab ag ak ap an⦄,ca (f ab ag ak ap an) 301 [aI ab,aI ag,.bA (du ak),.aR 0 0,.aR 1 0] [.cells 171 [.fn (.func 301) [] [.bA (du ap),.aR 0 0,.aR 1 0]],dK an] 0 (λr=>bs r.1) (λr=>[.cells 171 [.fn (.func 301) [] [.bA (du ap),.aR 0 0,.aR 1 0]],dK r.2])
abbrev FF:=ByteArray->Option Cm
abbrev JW(f:FF):Prop:=∀ ⦃U⦄,bG (f U) 241 [cG U] (λr=>.cg [cG r.1,aI r.2.1,bs r.2.2])
abbrev FG:=ByteArray->List bz->List Int->List Int->Nat->List di->dl->Option (Int×Bool)
abbrev QG(f:FG):Prop:=∀ ⦃ab ag ak ap an al am⦄,ca (f ab ag ak ap an al am) 181 [.aR 0 0,cG ab] [g9 ag ak ap 1 2 an an,c3 al,.bu 9 (am.map eV)] 0 (λr=>.cg [aI r.1,bs r.2]) (λ_=>[g9 ag ak ap 1 2 an an,c3 al,.bu 9 (am.map eV)])
abbrev FH:=jz->List Int->List bz->List Int->List Int->Nat->List nB->List di->dl->Option (Int×List nB)
abbrev QH(f:FH):Prop:=∀ ⦃ab ag ak ap an al am aD a2⦄,ca (f ab ag ak ap an al am aD a2) 215 [.agg [.aR 0 0,.map 1],.agg ((Cg ab).map .p),bT 1 cH ag] [g9 ak ap an 2 3 al al,m3 am,c3 aD,.bu 9 (a2.map eV)] 0 (λr=>aI r.1) (λr=>[g9 ak ap an 2 3 al al,m3 r.2,c3 aD,.bu 9 (a2.map eV)])
abbrev xE:=jz->List bz->List Int->List Int->Nat->List nB->List di->dl->Option (Int×List nB)
abbrev Cp(f:xE):Prop:=∀ ⦃ab ag ak ap an al am aD⦄,ca (f ab ag ak ap an al am aD) 214 [.agg [.aR 0 0,.map 1],.agg ((Cg ab).map .p)] [g9 ag ak ap 2 3 an an,m3 al,c3 am,.bu 9 (aD.map eV)] 0 (λr=>aI r.1) (λr=>[g9 ag ak ap 2 3 an an,m3 r.2,c3 am,.bu 9 (aD.map eV)])
abbrev JX:=ByteArray->Option (Int×Bool)
abbrev QI(f:JX):Prop:=∀ ⦃ab⦄,ca (f ab) 181 [.p (.v (.pointer aF)),cG ab] [] 0 (λr=>.cg [aI r.1,bs r.2]) (λ_=>[])
abbrev JY:=Int->List bz->List Int->Int->Int->Int->List Int->dl->oY->j6->List di->List hi->Option ByteArray
abbrev QJ(f:JY):Prop:=∀ ⦃ab ag ak ap an al am aD a2 bc ba bm⦄,ca (f ab ag ak ap an al am aD a2 bc ba bm) 124 [.aR 0 0,aI ab] [eH ag ak ap an al am aD 1 2 3 4,e4 a2,dH bc,c3 ba,eW bm] 0 cG (λ_=>[eH ag ak ap an al am aD 1 2 3 4,e4 a2,dH bc,c3 ba,eW bm])
abbrev tq:=Int->List bz->List Int->Int->Int->Int->List Int->dl->Int->Int->oY->j6->List di->List hi->j6->Option tp
abbrev xF(f:tq):Prop:=∀ ⦃ab ag ak ap an al am aD a2 bc ba bm bF ch cS⦄,ca (f ab ag ak ap an al am aD a2 bc ba bm bF ch cS) 61 [.aR 0 0,.aR 1 0,aI ab] [eH ag ak ap an al am aD 2 3 4 5,kK a2 bc 6,e4 ba,dH bm,c3 bF,eW ch,dH cS] 0 (λr=>bT 2 b7 r.1) (λr=>[eH ag ak r.2.1 r.2.2.1 r.2.2.2.1 am aD 2 3 4 5,kK a2 bc 6,e4 ba,dH r.2.2.2.2.1,c3 r.2.2.2.2.2.1,eW r.2.2.2.2.2.2.1,dH r.2.2.2.2.2.2.2])
abbrev uJ:=(List Int)->List bz->List Int->Int->Int->Int->List Int->dl->Int->Int->oY->j6->List di->List hi->j6->Option tp
abbrev xG(f:uJ):Prop:=∀ ⦃ab ag ak ap an al am aD a2 bc ba bm bF ch cS⦄,ca (f ab ag ak ap an al am aD a2 bc ba bm bF ch cS) 68 [.aR 0 0,.aR 1 0,bT 1 cH ab] [eH ag ak ap an al am aD 2 3 4 5,kK a2 bc 6,e4 ba,dH bm,c3 bF,eW ch,dH cS] 0 (λr=>bT 2 b7 r.1) (λr=>[eH ag ak r.2.1 r.2.2.1 r.2.2.2.1 am aD 2 3 4 5,kK a2 bc 6,e4 ba,dH r.2.2.2.2.1,c3 r.2.2.2.2.2.1,eW r.2.2.2.2.2.2.1,dH r.2.2.2.2.2.2.2])
abbrev JZ:=Int->Option ByteArray
abbrev QK(f:JZ):Prop:=∀ ⦃U⦄,bG (f U) 175 [aI U] cG
abbrev J0:=bf->Int->Option ByteArray
abbrev QL(f:J0):Prop:=∀ ⦃U aj⦄,bG (f U aj) 81 [.agg ((du U).map .p),aI aj] cG
abbrev zB:=ByteArray->Option Cm
abbrev J1(f:zB):Prop:=∀ ⦃U⦄,bG (f U) 82 [cG U] (λr=>.cg [cG r.1,aI r.2.1,bs r.2.2])
abbrev FI:=bf->ByteArray->Option Int
abbrev QM(f:FI):Prop:=∀ ⦃U aj⦄,bG (f U aj) 53 [.agg ((du U).map .p),cG aj] aI
abbrev zC:=bf->l5->Int->Int->Int->Option Int
abbrev QN(f:zC):Prop:=∀ ⦃U aj a6 dg fS⦄,bG (f U aj a6 dg fS) 117 [.agg ((du U).map .p),.agg ((Cf aj).map .p),aI a6,aI dg,aI fS] aI
abbrev si:=Int->l6->Int->Int->List bz->List Int->List Int->dl->List Int->List Int->Nat->List cd->Int->Int->Int->Option xD
abbrev Cq(f:si):Prop:=∀ ⦃ab ag ak ap an al am aD a2 bc ba bm bF ch cS⦄,ca (f ab ag ak ap an al am aD a2 bc ba bm bF ch cS) 64 [.aR 0 0,aI ab,.agg ((xA ag).map .p),aI ak,aI ap] [lO an al am aD a2 bc bm 1 ba bF ch cS,.bl 29 1 ba] 0 (λr=>bT 2 b7 r.1) (λr=>[lO an al am aD a2 bc bm 1 ba r.2.1 r.2.2.1 r.2.2.2,.bl 29 1 ba])
def QO(J:ax)(U:bf):Int->Option Bool:=J.b8 λeX=>if decide (eX<(U.nodes.length:Int))then(aL U.nodes eX).bind λZ=>if decide (10<(Z.a3.length:Int))then(D ah).map .inr else(aL U.nodes eX).bind λad=>if decide (40<(ad.bi.size:Int))then(D ah).map .inr else D (.inl (aH (eX+1)))else(D aQ).map .inr
def xH(J:ax)(U:bf):Option Bool:=if decide (200<(U.nodes.length:Int))||decide (200<(U.aX.length:Int))then D ah else QO J U 0
def Y1(U:Int):Option Bool:=if decide (U=10)then D ah else if decide (32<=U)then D (decide (U<=126))else D aQ
def akd(J:ax)(U:ByteArray):Int->Option (Int×Int):=J.b8 λh_=>if decide (h_<(U.size:Int))then(gB U h_).bind λZ=>aw (Y1 Z) λad=>if !ad then(D (h_,4)).map .inr else D (.inl (aH (h_+1)))else(D (0,0)).map .inr
def Y2(J:ax)(U:ByteArray):Option (Int×Int):=if decide (2000<(U.size:Int))then D (2000,5)else akd J U 0
def Y3(U:Int):Option Bool:=D (decide (U=32)||decide (U=10))
def Y4(U:Int):Option Bool:=D (!decide (U=10))
def ake(J:ax)(ab:ByteArray):Int->Option Int:=J.b8 λcb=>if decide (cb<(ab.size:Int))then(gB ab cb).bind λZ=>aw (Y4 Z) λad=>if ad then D (.inl (aH (cb+1)))else(D cb).map .inr else(D cb).map .inr
def Y5(J:ax)(ab:ByteArray):Option Int:=ake J ab 0
def akf(U:ByteArray)(J:ax):Int->Option Int:=J.b8 λeX=>if decide (eX<(U.size:Int))then(gB U eX).bind λZ=>aw (Y3 Z) λad=>if ad then D (.inl (aH (eX+1)))else(gB U eX).bind λaA=>if decide (aA=35)then(hg U eX (U.size:Int)).bind λaN=>aw (Y5 J aN) λa0=>D (.inl (aH (eX+a0)))else(D eX).map .inr else(D eX).map .inr
def QP(J:ax)(U:ByteArray):Option Int:=akf U J 0
def J2(U:Int):Option Bool:=D (decide (97<=U)&&decide (U<=122))
def FJ(U:Int):Option Bool:=D (decide (48<=U)&&decide (U<=57))
def J3(U:Int):Option Bool:=aw (J2 U) λZ=>if Z then D ah else(FJ U).bind λad=>D ad
def Y6(J:ax)(ab:ByteArray):Int->Option Int:=J.b8 λcb=>if decide (cb<(ab.size:Int))then(gB ab cb).bind λZ=>aw (J3 Z) λad=>if ad then D (.inl (aH (cb+1)))else(D cb).map .inr else(D cb).map .inr
def J4(J:ax)(ab:ByteArray):Option Int:=Y6 J ab 0
def Y7(U:ByteArray)(Z:List ByteArray):(Int×Int×dl)->Option dl:=λ(uK,rk,pS)=>if decide (rk<(U.size:Int))then(hg U rk (U.size:Int)).bind λad=>aw (fK Z.length pS uK) λaA=>aw (gH Z.length (pS.set aA.1.1 ad)) λaN=>D aN else(gH Z.length pS).bind λa0=>D a0
def akg(J:ax)(U:ByteArray)(l9:Int)(o0:List ByteArray)(ci:{q:Nat×ByteArray // (o0:List ByteArray)[q.1]? =D q.2})(bJ:ByteArray):Int->Option ((Int×Int×Int×dl) ⊕ dl):=J.b8 λxI=>if decide (xI<(U.size:Int))then(gB U xI).bind λcP=>aw (Cd cP) λdr=>if !decide (dr=0)then D (.inl (aH (xI+1)))else(D (.inl ((aH (l9+1)),xI,xI,(o0.set ci.1.1 bJ)))).map .inr else(D (.inl ((aH (l9+1)),xI,xI,(o0.set ci.1.1 bJ)))).map .inr
def akh(J:ax)(U:ByteArray)(Z:List ByteArray):(Int×Int×Int×dl)->Option dl:=J.b8 λ(l9,J5,tr,o0)=>if decide (tr<(U.size:Int))then(gB U tr).bind λbe=>aw (Cd be) λbL=>if decide (bL=0)then D (.inl (l9,J5,(aH (tr+1)),o0))else(hg U J5 tr).bind λbJ=>aw (fK Z.length o0 l9) λci=>akg J U l9 o0 ci bJ (aH (tr+1))else(Y7 U Z (l9,J5,o0)).map .inr
def QQ(J:ax)(U:ByteArray)(Z:List ByteArray):(Int×dl)->Option dl:=λ(lp,jl)=>akh J U Z (0,lp,lp,jl)
def aki(J:ax)(U:ByteArray)(Z:List ByteArray):Int->Option dl:=J.b8 λCr=>if decide (Cr<(U.size:Int))then(gB U Cr).bind λc5=>aw (Cd c5) λeC=>if !decide (eC=0)then D (.inl (aH (Cr+1)))else(QQ J U Z (Cr,Z)).map .inr else(QQ J U Z (Cr,Z)).map .inr
def Y8(J:ax)(U:ByteArray):(Int×Int)->Option dl:=λ(eX,cb)=>if decide (128<=cb)then aF else(mk eX (⟨#[]⟩:ByteArray)).bind λZ=>aki J U Z 0
def akj(J:ax)(U:ByteArray):zA->Option dl:=J.b8 λ(QR,Y9,QS,sj)=>if decide (sj<(U.size:Int))then(gB U sj).bind λet=>aw (Cd et) λgk=>D (.inl ((aH (QR+(q' .i64 Y9 (zj .i64 (-1) (aH (gk)))))),(aH (gk)),(I' .u8 QS et),(aH (sj+1))))else(Y8 J U (QR,QS)).map .inr
def QT(J:ax)(U:ByteArray):Option dl:=akj J U (0,1,0,0)
def Y_(J:ax):Option dl:=aw (QT J (⟨#[97,110,100,32,97,115,107,32,98,108,97,109,101,32,98,111,111,108,32,98,111,117,110,100,115,32,99,104,111,111,115,101,32,99,111,117,110,116,32,101,108,115,101,32,102,97,108,115,101,32,102,117,110,32,105,102,32,105,110,32,105,110,116,32,108,101,116,32,108,111,111,107,32,109,97,121,32,109,117,115,116,32,110,111,116,32,111,98,115,101,114,118,101,32,111,114,32,114,101,116,114,97,99,116,32,116,104,101,110,32,116,114,117,101,32,116,121,112,101,32,117,112,116,111,32,118,97,108,117,101,115,32,119,104,121]⟩:ByteArray)) λZ=>D Z
def vP:List ByteArray:=[⟨#[97,110,100]⟩,⟨#[97,115,107]⟩,⟨#[98,108,97,109,101]⟩,⟨#[98,111,111,108]⟩,⟨#[98,111,117,110,100,115]⟩,⟨#[99,104,111,111,115,101]⟩,⟨#[99,111,117,110,116]⟩,⟨#[101,108,115,101]⟩,⟨#[102,97,108,115,101]⟩,⟨#[102,117,110]⟩,⟨#[105,102]⟩,⟨#[105,110]⟩,⟨#[105,110,116]⟩,⟨#[108,101,116]⟩,⟨#[108,111,111,107]⟩,⟨#[109,97,121]⟩,⟨#[109,117,115,116]⟩,⟨#[110,111,116]⟩,⟨#[111,98,115,101,114,118,101]⟩,⟨#[111,114]⟩,⟨#[114,101,116,114,97,99,116]⟩,⟨#[116,104,101,110]⟩,⟨#[116,114,117,101]⟩,⟨#[116,121,112,101]⟩,⟨#[117,112,116,111]⟩,⟨#[118,97,108,117,101,115]⟩,⟨#[119,104,121]⟩]
theorem akk:Y_ (Qe 300)=D vP:=by kernel_rfl
def Y':Option dl:=D vP
def Za(J:ax)(U:List ByteArray)(aj:ByteArray):Int->Option Int:=J.b8 λb6=>if decide (b6<(U.length:Int))then(aL U b6).bind λZ=>if decide (aj=Z)then(D b6).map .inr else D (.inl (aH (b6+1)))else(D (-1)).map .inr
def QU(J:ax)(U:List ByteArray)(aj:ByteArray):Option Int:=Za J U aj 0
def FK(J:ax)(U:List ByteArray)(aj:ByteArray):Option Bool:=aw (QU J U aj) λZ=>D (decide (0<=Z))
def Zb(J:ax)(ab:ByteArray):Int->Option Int:=J.b8 λcb=>if decide (cb<(ab.size:Int))then(gB ab cb).bind λZ=>aw (FJ Z) λad=>if ad then D (.inl (aH (cb+1)))else(D cb).map .inr else(D cb).map .inr
def J6(J:ax)(ab:ByteArray):Option Int:=Zb J ab 0
def QV(U:ByteArray):Option Bool:=if decide ((U.size:Int)<=4)then if decide ((U.size:Int)=1)then D ah else(gB U 0).bind λZ=>D (!decide (Z=48))else D aQ
def Zc(J:ax):Option dl:=aw (QT J (⟨#[61,61,32,33,61,32,60,61,32,62,61,32,46,46,32,43,32,45,32,42,32,47,32,37,32,60,32,62,32,61,32,40,32,41,32,91,32,93,32,123,32,125,32,44,32,58,32,59,32,46]⟩:ByteArray)) λZ=>D Z
def FL:List ByteArray:=[⟨#[61,61]⟩,⟨#[33,61]⟩,⟨#[60,61]⟩,⟨#[62,61]⟩,⟨#[46,46]⟩,⟨#[43]⟩,⟨#[45]⟩,⟨#[42]⟩,⟨#[47]⟩,⟨#[37]⟩,⟨#[60]⟩,⟨#[62]⟩,⟨#[61]⟩,⟨#[40]⟩,⟨#[41]⟩,⟨#[91]⟩,⟨#[93]⟩,⟨#[123]⟩,⟨#[125]⟩,⟨#[44]⟩,⟨#[58]⟩,⟨#[59]⟩,⟨#[46]⟩]
theorem akl:Zc (Qe 300)=D FL:=by kernel_rfl
def Zd:Option dl:=D FL
def xJ(U aj:ByteArray):Option Bool:=if decide ((aj.size:Int)<=(U.size:Int))then(hg U 0 (aj.size:Int)).bind λZ=>D (decide (Z=aj))else D aQ
def QW(U aj:ByteArray):Option Bool:=aw (xJ U aj) λZ=>D Z
def Ze(J:ax)(c5:List ByteArray)(U:ByteArray):Int->Option (Int×ByteArray):=J.b8 λJ7=>if decide (J7<(c5.length:Int))then(aL c5 J7).bind λeC=>aw (QW U eC) λet=>if et then(D (4,eC)).map .inr else D (.inl (aH (J7+1)))else(D (0,(⟨#[]⟩:ByteArray))).map .inr
def J8(J:ax)(U:ByteArray):Option (Int×ByteArray):=if decide (U=(⟨#[]⟩:ByteArray))then D (0,(⟨#[]⟩:ByteArray))else(gB U 0).bind λZ=>aw (J2 Z) λad=>if ad then(J4 J U).bind λaA=>aw (hg U 0 aA) λaN=>aw (Y') λa0=>aw (FK J a0 aN) λbe=>if be then D (3,aN)else if decide ((aN.size:Int)<=12)then D (1,aN)else D (0,(⟨#[]⟩:ByteArray))else(gB U 0).bind λbL=>aw (FJ bL) λbJ=>if bJ then(J6 J U).bind λci=>aw (hg U 0 ci) λcP=>aw (QV cP) λdr=>if dr then D (2,cP)else D (0,(⟨#[]⟩:ByteArray))else(Zd).bind λc5=>Ze J c5 U 0
def akm(U:ByteArray)(J:ax):(vM×Int)->Option (vM×Int×Int):=J.b8 λ(J9,eX)=>if decide (eX<(U.size:Int))then(hg U eX (U.size:Int)).bind λaA=>aw (J8 J aA) λaN=>if decide (aN.1=0)then(D ([],eX,4)).map .inr else if decide ((J9.length:Int)=800)then(D ([],eX,5)).map .inr else(eR J9 ([⟨aN.1,aN.2,eX⟩]:List eb)).bind λa0=>aw (hg U (aH (eX+(aN.2.size:Int))) (U.size:Int)) λbe=>aw (QP J be) λbL=>D (.inl (a0,(aH ((aH (eX+(aN.2.size:Int)))+bL))))else(D (J9,0,0)).map .inr
def Zf(J:ax)(U:ByteArray):Option (vM×Int×Int):=aw (Y2 J U) λZ=>if !decide (Z.2=0)then D ([],Z.1,Z.2)else(QP J U).bind λad=>akm U J ([],ad)
def Zg:Option (List (ByteArray×Nat)):=D (d_ (d_ (d_ (d_ (d_ (d_ (d_ ([]:List (ByteArray×Nat)) (⟨#[99,104,111,111,115,101]⟩:ByteArray) (1:Nat)) (⟨#[116,121,112,101]⟩:ByteArray) (2:Nat)) (⟨#[102,117,110]⟩:ByteArray) (3:Nat)) (⟨#[108,101,116]⟩:ByteArray) (4:Nat)) (⟨#[111,98,115,101,114,118,101]⟩:ByteArray) (5:Nat)) (⟨#[114,101,116,114,97,99,116]⟩:ByteArray) (6:Nat)) (⟨#[97,115,107]⟩:ByteArray) (7:Nat))
def nD(ab:List eb)(ag ak:Int)(ap:Nat)(an:List bz)(al:Nat)(am:List Int):Option eb:=if decide (ak=(ab.length:Int))then D (⟨0,(⟨#[]⟩:ByteArray),ag⟩)else(aL ab ak).bind λZ=>D ⟨Z.kind,Z.bi,Z.dx⟩
def rl(ab:List eb)(ag ak:Int)(ap:Nat)(an:List bz)(al:Nat)(am:List Int):Option (eb×Int):=aw (nD ab ag ak ap an al am) λZ=>D (⟨Z.kind,Z.bi,Z.dx⟩,(aH (ak+1)))
def QX(ab:Int)(ag:List eb)(ak ap:Int)(an:Nat)(al:List bz)(am:Nat)(aD:List Int):Option (eb×Int):=aw (nD ag ak ap an al am aD) λZ=>if !decide (Z.kind=ab)then aF else(rl ag ak ap an al am aD).bind λad=>D (⟨ad.1.kind,ad.1.bi,ad.1.dx⟩,ad.2)
def ts(ab:List eb)(ag ak:Int)(ap:Nat)(an:List bz)(al:Nat)(am:List Int):Option (eb×Int):=aw (QX 1 ab ag ak ap an al am) λZ=>D (⟨Z.1.kind,Z.1.bi,Z.1.dx⟩,Z.2)
def FM(J:ax)(ab:List ByteArray)(ag:List eb)(ak ap:Int)(an:Nat)(al:List bz)(am:Nat)(aD:List Int):Option Bool:=aw (nD ag ak ap an al am aD) λZ=>if decide (Z.kind=3)||decide (Z.kind=4)then(FK J ab Z.bi).bind λad=>D ad else D aQ
def km(J:ax)(ab:ByteArray)(ag:List eb)(ak ap:Int)(an:Nat)(al:List bz)(am:Nat)(aD:List Int):Option (eb×Int):=aw (FM J ([ab]:List ByteArray) ag ak ap an al am aD) λZ=>if !Z then aF else(rl ag ak ap an al am aD).bind λad=>D (⟨ad.1.kind,ad.1.bi,ad.1.dx⟩,ad.2)
def l_(J:ax)(ab:ByteArray)(ag:List eb)(ak ap:Int)(an:Nat)(al:List bz)(am:Nat)(aD:List Int):Option (Bool×Int):=aw (FM J ([ab]:List ByteArray) ag ak ap an al am aD) λZ=>if Z then(rl ag ak ap an al am aD).bind λad=>D (Z,ad.2)else D (Z,ap)
def J_(J:ax)(U:ByteArray):Option (Int×Int):=aw (J8 J U) λZ=>if decide (Z.1=0)|| !decide (Z.2=U)then D (0,4)else D (Z.1,0)
def QY:Int->Option Int:=λk2=>D k2
def Zh(ab:ByteArray):Int->Option Int:=λi8=>aw (gB ab 0) λZ=>if decide (Z=45)then QY (aH (-i8))else QY i8
def J'(J:ax)(rm ab:ByteArray):(Int×Int)->Option Int:=J.b8 λ(xK,Ka)=>if decide (Ka<((zl rm).length:Int))then(aL (zl rm) Ka).bind λad=>if decide (9<(w2 (ad- 48)))then aF else D (.inl ((aH ((aH (xK*10))+(aH ((w2 (ad- 48)))))),(aH (Ka+1))))else(Zh ab xK).map .inr
def Kb(J:ax)(ab:ByteArray):ByteArray->Option Int:=λrm=>J' J rm ab (0,0)
def QZ(J:ax)(ab:ByteArray):Option Int:=if decide (0<(ab.size:Int))then if decide ((ab.size:Int)< 19)then(gB ab 0).bind λaA=>if decide (aA=45)then(hg ab 1 (ab.size:Int)).bind λaN=>if decide ((aN.size:Int)< 1)then aF else Kb J ab aN else(gB ab 0).bind λa0=>if decide (a0=43)then(hg ab 1 (ab.size:Int)).bind λbe=>if decide ((be.size:Int)< 1)then aF else Kb J ab be else Kb J ab ab else aF else aF
def FN(J:ax)(ab:ByteArray):Option Int:=aw (QZ J ab) λZ=>D Z
def Zi(J:ax)(U:ByteArray):Option (Int×Int):=aw (J_ J U) λZ=>if !decide (Z.2=0)|| !decide (Z.1=2)then D (0,4)else(FN J U).bind λad=>D (ad,0)
def FO(J:ax)(ab:List eb)(ag ak:Int)(ap:Nat)(an:List bz)(al:Nat)(am:List Int):Option (eb×Int×Int):=aw (QX 2 ab ag ak ap an al am) λZ=>aw (Zi J Z.1.bi) λad=>D (⟨Z.1.kind,Z.1.bi,Z.1.dx⟩,ad.1,Z.2)
def jm(ab:Int)(ag:eb)(ak:ByteArray)(ap:Int)(an:List Int)(al:List eb)(am aD:Int)(a2:Nat)(bc:List bz)(ba:Nat)(bm:List Int):Option (Int×List bz×Nat):=aw (eR bc ([⟨ab,ak,ap,an,ag.dx⟩]:List bz)) λZ=>D ((aH ((Z.length:Int)- 1)),Z,a2+1)
def Q0(J:ax)(ab:List eb)(ag:Int)(ap:Nat)(an:List bz)(al:Nat)(am:List Int)(Z:eb):sh->Option gD:=λ(dV,xL,sk)=>aw (FO J ab ag xL ap an al am) λad=>aw (jm 1 ⟨sk,Z.bi,Z.dx⟩ (⟨#[]⟩:ByteArray) (aH (dV*ad.2.1)) [] ab ag ad.2.2 ap an al am) λaA=>D (aA.1,ad.2.2,aA.2.1,aA.2.2)
def Q1(J:ax)(ab:List eb)(ag ak:Int)(ap:Nat)(an:List bz)(al:Nat)(am:List Int):Option gD:=aw (nD ab ag ak ap an al am) λZ=>aw (l_ J (⟨#[45]⟩:ByteArray) ab ag ak ap an al am) λaN=>if aN.1 then Q0 J ab ag ap an al am Z ((-1),aN.2,Z.kind)else Q0 J ab ag ap an al am Z (1,aN.2,Z.kind)
def Zj(J:ax)(ab:eb)(ag:List eb)(ak ap:Int)(an:Nat)(al:List bz)(am:Nat)(aD:List Int):Option gD:=aw (ts ag ak ap an al am aD) λZ=>aw (km J (⟨#[58]⟩:ByteArray) ag ak Z.2 an al am aD) λad=>aw (Q1 J ag ak ad.2 an al am aD) λaA=>aw (km J (⟨#[46,46]⟩:ByteArray) ag ak aA.2.1 aA.2.2.2 aA.2.2.1 am aD) λaN=>aw (Q1 J ag ak aN.2 aA.2.2.2 aA.2.2.1 am aD) λa0=>aw (jm 40 ab Z.1.bi 0 ([aA.1,a0.1]:List Int) ag ak a0.2.1 a0.2.2.2 a0.2.2.1 am aD) λbe=>D (be.1,a0.2.1,be.2.1,be.2.2)
def Zk(J:ax)(Kc:JT)(ab:List eb)(ag ak:Int)(ap:Nat)(an:List bz)(al:Nat)(am:List Int):Option gD:=aw (nD ab ag ak ap an al am) λZ=>aw (l_ J (⟨#[105,110,116]⟩:ByteArray) ab ag ak ap an al am) λad=>if ad.1 then(jm 30 ⟨Z.kind,Z.bi,Z.dx⟩ (⟨#[]⟩:ByteArray) 0 [] ab ag ad.2 ap an al am).bind λaA=>D (aA.1,ad.2,aA.2.1,aA.2.2)else(l_ J (⟨#[98,111,111,108]⟩:ByteArray) ab ag ad.2 ap an al am).bind λaN=>if aN.1 then(jm 31 ⟨Z.kind,Z.bi,Z.dx⟩ (⟨#[]⟩:ByteArray) 0 [] ab ag aN.2 ap an al am).bind λa0=>D (a0.1,aN.2,a0.2.1,a0.2.2)else(l_ J (⟨#[91]⟩:ByteArray) ab ag aN.2 ap an al am).bind λbe=>if be.1 then(Kc ab ag be.2 ap an al am).bind λbL=>aw (km J (⟨#[59]⟩:ByteArray) ab ag bL.2.1 bL.2.2.2 bL.2.2.1 al am) λbJ=>aw (FO J ab ag bJ.2 bL.2.2.2 bL.2.2.1 al am) λci=>aw (km J (⟨#[93]⟩:ByteArray) ab ag ci.2.2 bL.2.2.2 bL.2.2.1 al am) λcP=>aw (jm 33 ⟨Z.kind,Z.bi,Z.dx⟩ (⟨#[]⟩:ByteArray) ci.2.1 ([bL.1]:List Int) ab ag cP.2 bL.2.2.2 bL.2.2.1 al am) λdr=>D (dr.1,cP.2,dr.2.1,dr.2.2)else(ts ab ag be.2 ap an al am).bind λc5=>aw (jm 32 ⟨Z.kind,Z.bi,Z.dx⟩ c5.1.bi 0 [] ab ag c5.2 ap an al am) λeC=>D (eC.1,c5.2,eC.2.1,eC.2.2)
def Q2(J:ax):Nat->JT
  |0=>λ_ _ _ _ _ _ _=>aF
  |k+1=>Zk J (Q2 J k)
def Q3(J:ax):JT:=Q2 J J.n
def Q4(J:ax)(ab:List eb)(ag ak:Int)(ap:Nat)(an:List bz)(al:Nat)(am:List Int):Option gD:=aw (ts ab ag ak ap an al am) λZ=>aw (km J (⟨#[58]⟩:ByteArray) ab ag Z.2 ap an al am) λad=>aw (Q3 J ab ag ad.2 ap an al am) λaA=>aw (jm 34 ⟨Z.1.kind,Z.1.bi,Z.1.dx⟩ Z.1.bi 0 ([aA.1]:List Int) ab ag aA.2.1 aA.2.2.2 aA.2.2.1 al am) λaN=>D (aN.1,aA.2.1,aN.2.1,aN.2.2)
def akn(J:ax)(ab:List eb)(ag:Int)(al:Nat)(am:List Int):Ck->Option (List Int×Nat×Int×List bz×Nat):=J.b8 λ(cb,jL,hq,gQ,nE)=>aw (l_ J (⟨#[44]⟩:ByteArray) ab ag jL gQ hq al am) λad=>if ad.1 then(Q4 J ab ag ad.2 gQ hq al am).bind λaA=>aw (eR cb ([aA.1]:List Int)) λaN=>D (.inl (aN,aA.2.1,aA.2.2.1,aA.2.2.2,nE+1))else(D (cb,nE,ad.2,hq,gQ)).map .inr
def Zl(J:ax)(ab:List eb)(ag ak:Int)(ap:Nat)(an:List bz)(al:Nat)(am:List Int):Option (List Int×Nat×Int×List bz×Nat):=aw (Q4 J ab ag ak ap an al am) λZ=>akn J ab ag al am (([Z.1]:List Int),Z.2.1,Z.2.2.1,Z.2.2.2,0)
def ako(J:ax)(ab:List eb)(ag:Int)(al:Nat)(am:List Int)(cv:iH):Ck->Option Cl:=J.b8 λ(cb,jL,hq,gQ,nE)=>aw (l_ J (⟨#[44]⟩:ByteArray) ab ag jL gQ hq al am) λad=>if ad.1 then(cv ab ag ad.2 gQ hq al am).bind λaA=>aw (eR cb ([aA.1]:List Int)) λaN=>D (.inl (aN,aA.2.1,aA.2.2.1,aA.2.2.2,nE+1))else(D (cb,ad.2,hq,gQ)).map .inr
def Q5(J:ax)(cv:iH)(ab:List eb)(ag ak:Int)(ap:Nat)(an:List bz)(al:Nat)(am:List Int):Option Cl:=aw (cv ab ag ak ap an al am) λZ=>ako J ab ag al am cv (([Z.1]:List Int),Z.2.1,Z.2.2.1,Z.2.2.2,0)
def Q6(J:ax)(cv:iH)(ab:List eb)(ag ak:Int)(ap:Nat)(an:List bz)(al:Nat)(am:List Int):Option gD:=aw (ts ab ag ak ap an al am) λZ=>aw (km J (⟨#[58]⟩:ByteArray) ab ag Z.2 ap an al am) λad=>aw (cv ab ag ad.2 ap an al am) λaA=>aw (jm 25 ⟨Z.1.kind,Z.1.bi,Z.1.dx⟩ Z.1.bi 0 ([aA.1]:List Int) ab ag aA.2.1 aA.2.2.2 aA.2.2.1 al am) λaN=>D (aN.1,aA.2.1,aN.2.1,aN.2.2)
def akp(J:ax)(ab:List eb)(ag:Int)(al:Nat)(am:List Int)(cv:iH):Ck->Option Cl:=J.b8 λ(cb,jL,hq,gQ,nE)=>aw (l_ J (⟨#[44]⟩:ByteArray) ab ag jL gQ hq al am) λad=>if ad.1 then(Q6 J cv ab ag ad.2 gQ hq al am).bind λaA=>aw (eR cb ([aA.1]:List Int)) λaN=>D (.inl (aN,aA.2.1,aA.2.2.1,aA.2.2.2,nE+1))else(D (cb,ad.2,hq,gQ)).map .inr
def Zm(J:ax)(cv:iH)(ab:List eb)(ag ak:Int)(ap:Nat)(an:List bz)(al:Nat)(am:List Int):Option Cl:=aw (Q6 J cv ab ag ak ap an al am) λZ=>akp J ab ag al am cv (([Z.1]:List Int),Z.2.1,Z.2.2.1,Z.2.2.2,0)
def Q7(J:ax)(ag:List eb)(ak:Int)(am:Nat)(aD:List Int)(ab:eb):Cl->Option gD:=λ(cb,xL,Q8,FP)=>aw (km J (⟨#[41]⟩:ByteArray) ag ak xL FP Q8 am aD) λad=>aw (jm 21 ab ab.bi 0 cb ag ak ad.2 FP Q8 am aD) λaA=>D (aA.1,ad.2,aA.2.1,aA.2.2)
def Zn(J:ax)(cv:iH)(ab:eb)(ag:List eb)(ak ap:Int)(an:Nat)(al:List bz)(am:Nat)(aD:List Int):Option gD:=aw (l_ J (⟨#[40]⟩:ByteArray) ag ak ap an al am aD) λZ=>if Z.1 then(FM J ([(⟨#[41]⟩:ByteArray)]:List ByteArray) ag ak Z.2 an al am aD).bind λaN=>if !aN then(Q5 J cv ag ak Z.2 an al am aD).bind λa0=>Q7 J ag ak am aD ab (a0.1,a0.2.1,a0.2.2.1,a0.2.2.2)else Q7 J ag ak am aD ab ([],Z.2,al,an)else(l_ J (⟨#[123]⟩:ByteArray) ag ak Z.2 an al am aD).bind λbe=>if be.1 then(Zm J cv ag ak be.2 an al am aD).bind λbL=>aw (km J (⟨#[125]⟩:ByteArray) ag ak bL.2.1 bL.2.2.2 bL.2.2.1 am aD) λbJ=>aw (jm 24 ab ab.bi 0 bL.1 ag ak bJ.2 bL.2.2.2 bL.2.2.1 am aD) λci=>D (ci.1,bJ.2,ci.2.1,ci.2.2)else(jm 3 ab ab.bi 0 [] ag ak be.2 an al am aD).bind λcP=>D (cP.1,be.2,cP.2.1,cP.2.2)
def Zo(J:ax)(cv:iH)(ab:List eb)(ag ak:Int)(ap:Nat)(an:List bz)(al:Nat)(am:List Int):Option gD:=aw (nD ab ag ak ap an al am) λZ=>if decide (Z.kind=2)then(FO J ab ag ak ap an al am).bind λad=>aw (jm 1 ⟨Z.kind,Z.bi,Z.dx⟩ (⟨#[]⟩:ByteArray) ad.2.1 [] ab ag ad.2.2 ap an al am) λaA=>D (aA.1,ad.2.2,aA.2.1,aA.2.2)else(l_ J (⟨#[116,114,117,101]⟩:ByteArray) ab ag ak ap an al am).bind λaN=>if aN.1 then(jm 2 ⟨Z.kind,Z.bi,Z.dx⟩ (⟨#[]⟩:ByteArray) 1 [] ab ag aN.2 ap an al am).bind λa0=>D (a0.1,aN.2,a0.2.1,a0.2.2)else(l_ J (⟨#[102,97,108,115,101]⟩:ByteArray) ab ag aN.2 ap an al am).bind λbe=>if be.1 then(jm 2 ⟨Z.kind,Z.bi,Z.dx⟩ (⟨#[]⟩:ByteArray) 0 [] ab ag be.2 ap an al am).bind λbL=>D (bL.1,be.2,bL.2.1,bL.2.2)else(l_ J (⟨#[40]⟩:ByteArray) ab ag be.2 ap an al am).bind λbJ=>if bJ.1 then(cv ab ag bJ.2 ap an al am).bind λci=>aw (km J (⟨#[41]⟩:ByteArray) ab ag ci.2.1 ci.2.2.2 ci.2.2.1 al am) λcP=>D (ci.1,cP.2,ci.2.2.1,ci.2.2.2)else(l_ J (⟨#[91]⟩:ByteArray) ab ag bJ.2 ap an al am).bind λdr=>if dr.1 then(Q5 J cv ab ag dr.2 ap an al am).bind λc5=>aw (km J (⟨#[93]⟩:ByteArray) ab ag c5.2.1 c5.2.2.2 c5.2.2.1 al am) λeC=>aw (jm 26 ⟨Z.kind,Z.bi,Z.dx⟩ (⟨#[]⟩:ByteArray) 0 c5.1 ab ag eC.2 c5.2.2.2 c5.2.2.1 al am) λet=>D (et.1,eC.2,et.2.1,et.2.2)else(ts ab ag dr.2 ap an al am).bind λgk=>aw (Zn J cv gk.1 ab ag gk.2 ap an al am) λfo=>D (fo.1,fo.2.1,fo.2.2.1,fo.2.2.2)
def akq(ab:List eb)(ag:Int)(al:Nat)(am:List Int)(J:ax)(cv:iH):gD->Option gD:=J.b8 λ(eX,jL,hq,gQ)=>aw (nD ab ag jL gQ hq al am) λad=>aw (l_ J (⟨#[46]⟩:ByteArray) ab ag jL gQ hq al am) λaA=>if aA.1 then(ts ab ag aA.2 gQ hq al am).bind λaN=>aw (jm 22 ⟨ad.kind,ad.bi,ad.dx⟩ aN.1.bi 0 ([eX]:List Int) ab ag aN.2 gQ hq al am) λa0=>D (.inl (a0.1,aN.2,a0.2.1,a0.2.2))else(l_ J (⟨#[91]⟩:ByteArray) ab ag aA.2 gQ hq al am).bind λbe=>if be.1 then(cv ab ag be.2 gQ hq al am).bind λbL=>aw (km J (⟨#[93]⟩:ByteArray) ab ag bL.2.1 bL.2.2.2 bL.2.2.1 al am) λbJ=>aw (jm 23 ⟨ad.kind,ad.bi,ad.dx⟩ (⟨#[]⟩:ByteArray) 0 ([eX,bL.1]:List Int) ab ag bJ.2 bL.2.2.2 bL.2.2.1 al am) λci=>D (.inl (ci.1,bJ.2,ci.2.1,ci.2.2))else(D (eX,be.2,hq,gQ)).map .inr
def Zp(J:ax)(cv:iH)(ab:List eb)(ag ak:Int)(ap:Nat)(an:List bz)(al:Nat)(am:List Int):Option gD:=aw (Zo J cv ab ag ak ap an al am) λZ=>akq ab ag al am J cv (Z.1,Z.2.1,Z.2.2.1,Z.2.2.2)
def Zq(J:ax)(cv:iH)(Kd:JU)(ab:List eb)(ag ak:Int)(ap:Nat)(an:List bz)(al:Nat)(am:List Int):Option gD:=aw (nD ab ag ak ap an al am) λZ=>aw (l_ J (⟨#[45]⟩:ByteArray) ab ag ak ap an al am) λad=>if ad.1 then(Kd ab ag ad.2 ap an al am).bind λaA=>aw (jm 4 ⟨Z.kind,Z.bi,Z.dx⟩ (⟨#[]⟩:ByteArray) 0 ([aA.1]:List Int) ab ag aA.2.1 aA.2.2.2 aA.2.2.1 al am) λaN=>D (aN.1,aA.2.1,aN.2.1,aN.2.2)else(Zp J cv ab ag ad.2 ap an al am).bind λa0=>D (a0.1,a0.2.1,a0.2.2.1,a0.2.2.2)
def Q9(J:ax)(cv:iH):Nat->JU
  |0=>λ_ _ _ _ _ _ _=>aF
  |k+1=>Zq J cv (Q9 J cv k)
def Q_(J:ax)(cv:iH):JU:=Q9 J cv J.n
def akr(ak:List eb)(ap:Int)(aD:Nat)(a2:List Int)(ag:List di)(J:ax)(cv:iH)(ab:Bool):gD->Option gD:=J.b8 λ(cb,k3,jA,fi)=>aw (nD ak ap k3 fi jA aD a2) λad=>if decide (((dP ag ad.bi).getD (0:Int))=0)then(D (cb,k3,jA,fi)).map .inr else(rl ak ap k3 fi jA aD a2).bind λaA=>aw (Q_ J cv ak ap aA.2 fi jA aD a2) λaN=>aw (jm ((dP ag ad.bi).getD (0:Int)) ⟨ad.kind,ad.bi,ad.dx⟩ (⟨#[]⟩:ByteArray) 0 ([cb,aN.1]:List Int) ak ap aN.2.1 aN.2.2.2 aN.2.2.1 aD a2) λa0=>if ab then(D (a0.1,aN.2.1,a0.2.1,a0.2.2)).map .inr else D (.inl (a0.1,aN.2.1,a0.2.1,a0.2.2))
def Zr(J:ax)(cv:iH)(ab:Bool)(ag:List di)(ak:List eb)(ap an:Int)(al:Nat)(am:List bz)(aD:Nat)(a2:List Int):Option gD:=aw (Q_ J cv ak ap an al am aD a2) λZ=>akr ak ap aD a2 ag J cv ab (Z.1,Z.2.1,Z.2.2.1,Z.2.2.2)
def Q'(J:ax)(cv:iH)(ab:List eb)(ag ak:Int)(ap:Nat)(an:List bz)(al:Nat)(am:List Int):Option gD:=aw (Zr J cv aQ (d_ (d_ (d_ ([]:List di) (⟨#[42]⟩:ByteArray) 8) (⟨#[47]⟩:ByteArray) 9) (⟨#[37]⟩:ByteArray) 10) ab ag ak ap an al am) λZ=>D (Z.1,Z.2.1,Z.2.2.1,Z.2.2.2)
def aks(ak:List eb)(ap:Int)(aD:Nat)(a2:List Int)(ag:List di)(J:ax)(cv:iH)(ab:Bool):gD->Option gD:=J.b8 λ(cb,k3,jA,fi)=>aw (nD ak ap k3 fi jA aD a2) λad=>if decide (((dP ag ad.bi).getD (0:Int))=0)then(D (cb,k3,jA,fi)).map .inr else(rl ak ap k3 fi jA aD a2).bind λaA=>aw (Q' J cv ak ap aA.2 fi jA aD a2) λaN=>aw (jm ((dP ag ad.bi).getD (0:Int)) ⟨ad.kind,ad.bi,ad.dx⟩ (⟨#[]⟩:ByteArray) 0 ([cb,aN.1]:List Int) ak ap aN.2.1 aN.2.2.2 aN.2.2.1 aD a2) λa0=>if ab then(D (a0.1,aN.2.1,a0.2.1,a0.2.2)).map .inr else D (.inl (a0.1,aN.2.1,a0.2.1,a0.2.2))
def Zs(J:ax)(cv:iH)(ab:Bool)(ag:List di)(ak:List eb)(ap an:Int)(al:Nat)(am:List bz)(aD:Nat)(a2:List Int):Option gD:=aw (Q' J cv ak ap an al am aD a2) λZ=>aks ak ap aD a2 ag J cv ab (Z.1,Z.2.1,Z.2.2.1,Z.2.2.2)
def Ra(J:ax)(cv:iH)(ab:List eb)(ag ak:Int)(ap:Nat)(an:List bz)(al:Nat)(am:List Int):Option gD:=aw (Zs J cv aQ (d_ (d_ ([]:List di) (⟨#[43]⟩:ByteArray) 6) (⟨#[45]⟩:ByteArray) 7) ab ag ak ap an al am) λZ=>D (Z.1,Z.2.1,Z.2.2.1,Z.2.2.2)
def akt(ak:List eb)(ap:Int)(aD:Nat)(a2:List Int)(ag:List di)(J:ax)(cv:iH)(ab:Bool):gD->Option gD:=J.b8 λ(cb,k3,jA,fi)=>aw (nD ak ap k3 fi jA aD a2) λad=>if decide (((dP ag ad.bi).getD (0:Int))=0)then(D (cb,k3,jA,fi)).map .inr else(rl ak ap k3 fi jA aD a2).bind λaA=>aw (Ra J cv ak ap aA.2 fi jA aD a2) λaN=>aw (jm ((dP ag ad.bi).getD (0:Int)) ⟨ad.kind,ad.bi,ad.dx⟩ (⟨#[]⟩:ByteArray) 0 ([cb,aN.1]:List Int) ak ap aN.2.1 aN.2.2.2 aN.2.2.1 aD a2) λa0=>if ab then(D (a0.1,aN.2.1,a0.2.1,a0.2.2)).map .inr else D (.inl (a0.1,aN.2.1,a0.2.1,a0.2.2))
def Zt(J:ax)(cv:iH)(ab:Bool)(ag:List di)(ak:List eb)(ap an:Int)(al:Nat)(am:List bz)(aD:Nat)(a2:List Int):Option gD:=aw (Ra J cv ak ap an al am aD a2) λZ=>akt ak ap aD a2 ag J cv ab (Z.1,Z.2.1,Z.2.2.1,Z.2.2.2)
def Zu(J:ax)(cv:iH)(ab:List eb)(ag ak:Int)(ap:Nat)(an:List bz)(al:Nat)(am:List Int):Option gD:=aw (Zt J cv ah (d_ (d_ (d_ (d_ (d_ (d_ ([]:List di) (⟨#[61,61]⟩:ByteArray) 11) (⟨#[33,61]⟩:ByteArray) 12) (⟨#[60]⟩:ByteArray) 13) (⟨#[60,61]⟩:ByteArray) 14) (⟨#[62]⟩:ByteArray) 15) (⟨#[62,61]⟩:ByteArray) 16) ab ag ak ap an al am) λZ=>D (Z.1,Z.2.1,Z.2.2.1,Z.2.2.2)
def Zv(J:ax)(cv:iH)(Ke:JV)(ab:List eb)(ag ak:Int)(ap:Nat)(an:List bz)(al:Nat)(am:List Int):Option gD:=aw (nD ab ag ak ap an al am) λZ=>aw (l_ J (⟨#[110,111,116]⟩:ByteArray) ab ag ak ap an al am) λad=>if ad.1 then(Ke ab ag ad.2 ap an al am).bind λaA=>aw (jm 5 ⟨Z.kind,Z.bi,Z.dx⟩ (⟨#[]⟩:ByteArray) 0 ([aA.1]:List Int) ab ag aA.2.1 aA.2.2.2 aA.2.2.1 al am) λaN=>D (aN.1,aA.2.1,aN.2.1,aN.2.2)else(Zu J cv ab ag ad.2 ap an al am).bind λa0=>D (a0.1,a0.2.1,a0.2.2.1,a0.2.2.2)
def Rb(J:ax)(cv:iH):Nat->JV
  |0=>λ_ _ _ _ _ _ _=>aF
  |k+1=>Zv J cv (Rb J cv k)
def Rc(J:ax)(cv:iH):JV:=Rb J cv J.n
def aku(ak:List eb)(ap:Int)(aD:Nat)(a2:List Int)(ag:List di)(J:ax)(cv:iH)(ab:Bool):gD->Option gD:=J.b8 λ(cb,k3,jA,fi)=>aw (nD ak ap k3 fi jA aD a2) λad=>if decide (((dP ag ad.bi).getD (0:Int))=0)then(D (cb,k3,jA,fi)).map .inr else(rl ak ap k3 fi jA aD a2).bind λaA=>aw (Rc J cv ak ap aA.2 fi jA aD a2) λaN=>aw (jm ((dP ag ad.bi).getD (0:Int)) ⟨ad.kind,ad.bi,ad.dx⟩ (⟨#[]⟩:ByteArray) 0 ([cb,aN.1]:List Int) ak ap aN.2.1 aN.2.2.2 aN.2.2.1 aD a2) λa0=>if ab then(D (a0.1,aN.2.1,a0.2.1,a0.2.2)).map .inr else D (.inl (a0.1,aN.2.1,a0.2.1,a0.2.2))
def Zw(J:ax)(cv:iH)(ab:Bool)(ag:List di)(ak:List eb)(ap an:Int)(al:Nat)(am:List bz)(aD:Nat)(a2:List Int):Option gD:=aw (Rc J cv ak ap an al am aD a2) λZ=>aku ak ap aD a2 ag J cv ab (Z.1,Z.2.1,Z.2.2.1,Z.2.2.2)
def Rd(J:ax)(cv:iH)(ab:List eb)(ag ak:Int)(ap:Nat)(an:List bz)(al:Nat)(am:List Int):Option gD:=aw (Zw J cv aQ (d_ ([]:List di) (⟨#[97,110,100]⟩:ByteArray) 17) ab ag ak ap an al am) λZ=>D (Z.1,Z.2.1,Z.2.2.1,Z.2.2.2)
def akv(ak:List eb)(ap:Int)(aD:Nat)(a2:List Int)(ag:List di)(J:ax)(cv:iH)(ab:Bool):gD->Option gD:=J.b8 λ(cb,k3,jA,fi)=>aw (nD ak ap k3 fi jA aD a2) λad=>if decide (((dP ag ad.bi).getD (0:Int))=0)then(D (cb,k3,jA,fi)).map .inr else(rl ak ap k3 fi jA aD a2).bind λaA=>aw (Rd J cv ak ap aA.2 fi jA aD a2) λaN=>aw (jm ((dP ag ad.bi).getD (0:Int)) ⟨ad.kind,ad.bi,ad.dx⟩ (⟨#[]⟩:ByteArray) 0 ([cb,aN.1]:List Int) ak ap aN.2.1 aN.2.2.2 aN.2.2.1 aD a2) λa0=>if ab then(D (a0.1,aN.2.1,a0.2.1,a0.2.2)).map .inr else D (.inl (a0.1,aN.2.1,a0.2.1,a0.2.2))
def Zx(J:ax)(cv:iH)(ab:Bool)(ag:List di)(ak:List eb)(ap an:Int)(al:Nat)(am:List bz)(aD:Nat)(a2:List Int):Option gD:=aw (Rd J cv ak ap an al am aD a2) λZ=>akv ak ap aD a2 ag J cv ab (Z.1,Z.2.1,Z.2.2.1,Z.2.2.2)
def Zy(J:ax)(cv:iH)(ab:List eb)(ag ak:Int)(ap:Nat)(an:List bz)(al:Nat)(am:List Int):Option gD:=aw (Zx J cv aQ (d_ ([]:List di) (⟨#[111,114]⟩:ByteArray) 18) ab ag ak ap an al am) λZ=>D (Z.1,Z.2.1,Z.2.2.1,Z.2.2.2)
def Zz(J:ax)(cv:iH)(ab:List eb)(ag ak:Int)(ap:Nat)(an:List bz)(al:Nat)(am:List Int):Option gD:=aw (nD ab ag ak ap an al am) λZ=>aw (l_ J (⟨#[105,102]⟩:ByteArray) ab ag ak ap an al am) λad=>if ad.1 then(cv ab ag ad.2 ap an al am).bind λaA=>aw (km J (⟨#[116,104,101,110]⟩:ByteArray) ab ag aA.2.1 aA.2.2.2 aA.2.2.1 al am) λaN=>aw (cv ab ag aN.2 aA.2.2.2 aA.2.2.1 al am) λa0=>aw (km J (⟨#[101,108,115,101]⟩:ByteArray) ab ag a0.2.1 a0.2.2.2 a0.2.2.1 al am) λbe=>aw (cv ab ag be.2 a0.2.2.2 a0.2.2.1 al am) λbL=>aw (jm 19 ⟨Z.kind,Z.bi,Z.dx⟩ (⟨#[]⟩:ByteArray) 0 ([aA.1,a0.1,bL.1]:List Int) ab ag bL.2.1 bL.2.2.2 bL.2.2.1 al am) λbJ=>D (bJ.1,bL.2.1,bJ.2.1,bJ.2.2)else(l_ J (⟨#[108,101,116]⟩:ByteArray) ab ag ad.2 ap an al am).bind λci=>if ci.1 then(ts ab ag ci.2 ap an al am).bind λcP=>aw (km J (⟨#[61]⟩:ByteArray) ab ag cP.2 ap an al am) λdr=>aw (cv ab ag dr.2 ap an al am) λc5=>aw (km J (⟨#[105,110]⟩:ByteArray) ab ag c5.2.1 c5.2.2.2 c5.2.2.1 al am) λeC=>aw (cv ab ag eC.2 c5.2.2.2 c5.2.2.1 al am) λet=>aw (jm 20 ⟨Z.kind,Z.bi,Z.dx⟩ cP.1.bi 0 ([c5.1,et.1]:List Int) ab ag et.2.1 et.2.2.2 et.2.2.1 al am) λgk=>D (gk.1,et.2.1,gk.2.1,gk.2.2)else(Zy J cv ab ag ci.2 ap an al am).bind λfo=>D (fo.1,fo.2.1,fo.2.2.1,fo.2.2.2)
def Re(J:ax):Nat->iH
  |0=>λ_ _ _ _ _ _ _=>aF
  |k+1=>Zz J (Re J k)
def Kf(J:ax):iH:=Re J J.n
def Rf(J:ax)(ag:List eb)(ak:Int)(bL:Int×Int×List bz×Nat)(am:Nat)(aD bJ:List Int)(ab:eb)(Z:eb×Int):sh->Option gD:=λ(gt,xL,sk)=>aw (km J (⟨#[61]⟩:ByteArray) ag ak xL bL.2.2.2 bL.2.2.1 am aD) λci=>aw (Kf J ag ak ci.2 bL.2.2.2 bL.2.2.1 am aD) λcP=>aw (eR bJ ([cP.1]:List Int)) λdr=>aw (jm 42 ab Z.1.bi gt dr ag ak cP.2.1 cP.2.2.2 cP.2.2.1 am aD) λc5=>D (c5.1,cP.2.1,c5.2.1,c5.2.2)
def ZA(J:ax)(ab:eb)(ag:List eb)(ak ap:Int)(an:Nat)(al:List bz)(am:Nat)(aD:List Int):Option gD:=aw (ts ag ak ap an al am aD) λZ=>aw (km J (⟨#[40]⟩:ByteArray) ag ak Z.2 an al am aD) λad=>aw (FM J ([(⟨#[41]⟩:ByteArray)]:List ByteArray) ag ak ad.2 an al am aD) λaA=>if !aA then(Zl J ag ak ad.2 an al am aD).bind λaN=>aw (km J (⟨#[41]⟩:ByteArray) ag ak aN.2.2.1 aN.2.2.2.2 aN.2.2.2.1 am aD) λa0=>aw (km J (⟨#[58]⟩:ByteArray) ag ak a0.2 aN.2.2.2.2 aN.2.2.2.1 am aD) λbe=>aw (Q3 J ag ak be.2 aN.2.2.2.2 aN.2.2.2.1 am aD) λbL=>aw (eR aN.1 ([bL.1]:List Int)) λbJ=>aw (l_ J (⟨#[117,112,116,111]⟩:ByteArray) ag ak bL.2.1 bL.2.2.2 bL.2.2.1 am aD) λeC=>if eC.1 then(nD ag ak eC.2 bL.2.2.2 bL.2.2.1 am aD).bind λet=>if decide (et.bi=(⟨#[48]⟩:ByteArray))then aF else(FO J ag ak eC.2 bL.2.2.2 bL.2.2.1 am aD).bind λgk=>Rf J ag ak bL am aD bJ ab Z (gk.2.1,gk.2.2,Z.1.kind)else Rf J ag ak bL am aD bJ ab Z (0,eC.2,Z.1.kind)else aF
def ZB(J:ax)(ab:eb)(ag:List eb)(ak ap:Int)(an:Nat)(al:List bz)(am:Nat)(aD:List Int):Option gD:=aw (ts ag ak ap an al am aD) λZ=>aw (km J (⟨#[61]⟩:ByteArray) ag ak Z.2 an al am aD) λad=>aw (Kf J ag ak ad.2 an al am aD) λaA=>aw (jm 43 ab Z.1.bi 0 ([aA.1]:List Int) ag ak aA.2.1 aA.2.2.2 aA.2.2.1 am aD) λaN=>D (aN.1,aA.2.1,aN.2.1,aN.2.2)
def ZC(J:ax)(ab:eb)(ag:List eb)(ak ap:Int)(an:Nat)(al:List bz)(am:Nat)(aD:List Int):Option gD:=aw (ts ag ak ap an al am aD) λZ=>aw (km J (⟨#[58]⟩:ByteArray) ag ak Z.2 an al am aD) λad=>aw (Kf J ag ak ad.2 an al am aD) λaA=>aw (jm 44 ab Z.1.bi 0 ([aA.1]:List Int) ag ak aA.2.1 aA.2.2.2 aA.2.2.1 am aD) λaN=>D (aN.1,aA.2.1,aN.2.1,aN.2.2)
def akw(ab:List eb)(ag:Int)(Z:(List (ByteArray×Nat)))(J:ax):JR->Option JR:=J.b8 λ(jL,hq,ix,gQ,fi)=>if decide (jL<(ab.length:Int))then(nD ab ag jL gQ hq fi ix).bind λad=>if decide (ad.bi=(⟨#[99,104,111,111,115,101]⟩:ByteArray))then(if decide (dP Z (⟨#[99,104,111,111,115,101]⟩:ByteArray)=D 1)then if !decide (ad.kind=3)then aF else(rl ab ag jL gQ hq fi ix).bind λaA=>aw (Zj J ⟨ad.kind,ad.bi,ad.dx⟩ ab ag aA.2 gQ hq fi ix) λaN=>aw (eR ix ([aN.1]:List Int)) λa0=>aw (km J (⟨#[59]⟩:ByteArray) ab ag aN.2.1 aN.2.2.2 aN.2.2.1 (fi+1) a0) λbe=>D (.inl (be.2,aN.2.2.1,a0,aN.2.2.2,fi+1))else aF)else if decide (ad.bi=(⟨#[102,117,110]⟩:ByteArray))then(if decide (dP Z (⟨#[102,117,110]⟩:ByteArray)=D 3)then if !decide (ad.kind=3)then aF else(rl ab ag jL gQ hq fi ix).bind λbL=>aw (ZA J ⟨ad.kind,ad.bi,ad.dx⟩ ab ag bL.2 gQ hq fi ix) λbJ=>aw (eR ix ([bJ.1]:List Int)) λci=>aw (km J (⟨#[59]⟩:ByteArray) ab ag bJ.2.1 bJ.2.2.2 bJ.2.2.1 (fi+1) ci) λcP=>D (.inl (cP.2,bJ.2.2.1,ci,bJ.2.2.2,fi+1))else aF)else if decide (ad.bi=(⟨#[108,101,116]⟩:ByteArray))then(if decide (dP Z (⟨#[108,101,116]⟩:ByteArray)=D 4)then if !decide (ad.kind=3)then aF else(rl ab ag jL gQ hq fi ix).bind λdr=>aw (ZB J ⟨ad.kind,ad.bi,ad.dx⟩ ab ag dr.2 gQ hq fi ix) λc5=>aw (eR ix ([c5.1]:List Int)) λeC=>aw (km J (⟨#[59]⟩:ByteArray) ab ag c5.2.1 c5.2.2.2 c5.2.2.1 (fi+1) eC) λet=>D (.inl (et.2,c5.2.2.1,eC,c5.2.2.2,fi+1))else aF)else if decide (ad.bi=(⟨#[111,98,115,101,114,118,101]⟩:ByteArray))then(if decide (dP Z (⟨#[111,98,115,101,114,118,101]⟩:ByteArray)=D 5)then if !decide (ad.kind=3)then aF else(rl ab ag jL gQ hq fi ix).bind λgk=>aw (ZC J ⟨ad.kind,ad.bi,ad.dx⟩ ab ag gk.2 gQ hq fi ix) λfo=>aw (eR ix ([fo.1]:List Int)) λiI=>aw (km J (⟨#[59]⟩:ByteArray) ab ag fo.2.1 fo.2.2.2 fo.2.2.1 (fi+1) iI) λh'=>D (.inl (h'.2,fo.2.2.1,iI,fo.2.2.2,fi+1))else aF)else aF else(D (jL,hq,ix,gQ,fi)).map .inr
def ZD(J:ax)(ab:List eb)(ag ak:Int)(ap:Nat)(an:List bz)(al:Nat)(am:List Int):Option JR:=aw (Zg) λZ=>akw ab ag Z J (ak,an,am,ap,al)
def ZE(J:ax)(U:List eb)(aj:Int):Option (bf×Int×Int):=aw (ZD J U aj 0 0 [] 0 []) λad=>D (⟨ad.2.1,ad.2.2.1⟩,0,0)
def Kg(U:bf):Option Bool:=D (decide (800<(U.nodes.length:Int))||decide (60<(U.aX.length:Int)))
def ZF(J:ax)(ad:bz)(Z:List Int)(dV:Int):mH->Option (mH ⊕ List Int):=J.b8 λ(Kh,vQ)=>if decide (Kh<(ad.a3.length:Int))then(aL ad.a3 Kh).bind λaA=>aw (fK Z.length vQ dV) λaN=>aw (fK Z.length vQ aA) λa0=>D (.inl ((aH (Kh+1)),(vQ.set a0.1.1 (aH (aN.1.2+1)))))else(D (.inl ((aH (dV- 1)),vQ))).map .inr
def FQ(U:bf)(dV:Int)(J:ax)(Z:List Int):List Int->Option (mH ⊕ List Int):=λjl=>aw (aL U.nodes dV) λad=>ZF J ad Z dV (0,jl)
def ZG(J:ax)(Z:List Int)(U:bf):mH->Option (List Int):=J.b8 λ(dV,jl)=>if decide (0<=dV)then(fK Z.length jl dV).bind λbe=>if decide (be.1.2=0)then(fK Z.length jl dV).bind λbL=>FQ U dV J Z (jl.set bL.1.1 1)else FQ U dV J Z jl else(aw (gH Z.length jl) λbJ=>D bJ).map .inr
def FR(J:ax)(U:bf):Option (List Int):=aw (mk (U.nodes.length:Int) (0:Int)) λZ=>ZG J Z U ((aH ((U.nodes.length:Int)- 1)),Z)
def ZH(J:ax)(U:List Int):(Int×Int)->Option Int:=J.b8 λ(eX,dV)=>if decide (dV<(U.length:Int))then(aL U dV).bind λad=>D (.inl ((fR eX ad),(aH (dV+1))))else(D eX).map .inr
def Ki(J:ax)(U:List Int):Option Int:=if decide ((U.length:Int)< 1)then aF else(aL U 0).bind λZ=>ZH J U (Z,1)
def zD(J:ax)(U:bf):Option Int:=if decide ((U.nodes.length:Int)=0)then D 0 else(FR J U).bind λZ=>aw (Ki J Z) λad=>D ad
def uL(U aj a6:Int):Option Bool:=D (decide (aj<=U)&&decide (U<=a6))
def ZI(U:bz):Option Int:=D (aH ((U.a3.length:Int)- 2))
def xM(U:bf)(aj:bz):Option Bool:=if decide (aj.kind=40)then(aL aj.a3 0).bind λZ=>aw (aL U.nodes Z) λad=>aw (aL aj.a3 1) λaA=>aw (aL U.nodes aA) λaN=>aw (uL (aH ((aH (aN.n-ad.n))+1)) 1 12) λa0=>D a0 else if decide (aj.kind=41)then D (decide ((aj.a3.length:Int)<=6))else if decide (aj.kind=42)then(ZI aj).bind λbe=>D (decide (be<=4)&&decide (aj.n<=8))else if decide (aj.kind=33)then(uL aj.n 1 6).bind λbL=>D bL else if decide (aj.kind=26)then D (decide ((aj.a3.length:Int)<=6))else if decide (aj.kind=46)then D (!decide (aj.n=8)||decide ((aj.a3.length:Int)<=4))else D ah
def Rg(ab:bz)(ag:bf):Option Bool:=aw (xM ag ab) λZ=>D (!Z)
def ZJ(J:ax)(ab:List bz)(ag:bf):Int->Option Int:=J.b8 λb6=>if decide (b6<(ab.length:Int))then(aL ab b6).bind λZ=>aw (Rg Z ag) λad=>if ad then(D b6).map .inr else D (.inl (aH (b6+1)))else(D (-1)).map .inr
def Rh(J:ax)(ab:List bz)(ag:bf):Option Int:=ZJ J ab ag 0
def xN(J:ax)(U:bf):Option Int:=aw (Rh J U.nodes U) λZ=>D Z
def ZK(J:ax)(U:ByteArray):Option (bf×Int×Int):=aw (Zf J U) λZ=>if !decide (Z.2.2=0)then D (⟨[],[]⟩,Z.2.1,Z.2.2)else(ZE J Z.1 (U.size:Int)).bind λad=>if !decide (ad.2.2=0)then D (⟨[],[]⟩,ad.2.1,ad.2.2)else(Kg ⟨ad.1.nodes,ad.1.aX⟩).bind λaA=>if aA then D (⟨[],[]⟩,0,5)else(zD J ⟨ad.1.nodes,ad.1.aX⟩).bind λaN=>if decide (30<aN)then D (⟨[],[]⟩,0,5)else(xN J ⟨ad.1.nodes,ad.1.aX⟩).bind λa0=>if decide (0<=a0)then(aL ad.1.nodes a0).bind λbe=>D (⟨[],[]⟩,be.dx,3)else D (⟨ad.1.nodes,ad.1.aX⟩,0,0)
def ZL(J:ax)(U:ByteArray):Option (bf×Bool):=aw (ZK J U) λZ=>D (⟨Z.1.nodes,Z.1.aX⟩,(decide (Z.2.2=0)))
def zE(ab:Int):Option h9:=D ⟨ab,ab,1⟩
def vR(U:List h9):Option ri:=D ⟨ah,0,0,U⟩
def Cs(U:List h9):Option ri:=D ⟨aQ,0,0,U⟩
def Kj(ab:Int):Option h9:=D ⟨ab,ab,3⟩
def ZM(ab:Int):Option h9:=D ⟨ab,ab,4⟩
def FS(U:Int):Option ri:=aw (zE 1) λZ=>if decide (U=7)then D ⟨aQ,1,8,[]⟩else if decide (U=8)then D (⟨aQ,1,8,([⟨1,801,1⟩]:List h9)⟩)else D ⟨aQ,1,8,([Z]:List h9)⟩
def zF(U:bz):Option (ri×Bool):=aw (zE 1) λZ=>aw (zE 2) λad=>aw (zE 3) λaA=>if decide (U.kind=1)then D (⟨aQ,0,9999,[]⟩,ah)else if decide (U.kind=2)then D (⟨aQ,0,1,[]⟩,ah)else if decide (U.kind=3)||(decide (U.kind=32)||decide (U.kind=45))then(vR []).bind λaN=>D (⟨aN.named,aN.low,aN.high,aN.parts⟩,ah)else if decide (U.kind=4)||decide (U.kind=5)then(Cs ([⟨Z.ke,Z.og,Z.oh⟩]:List h9)).bind λa0=>D (⟨a0.named,a0.low,a0.high,a0.parts⟩,ah)else if decide (U.kind=19)then(Cs ([⟨aA.ke,aA.og,aA.oh⟩]:List h9)).bind λbe=>D (⟨be.named,be.low,be.high,be.parts⟩,ah)else if decide (U.kind=20)then(vR ([⟨ad.ke,ad.og,ad.oh⟩]:List h9)).bind λbL=>D (⟨bL.named,bL.low,bL.high,bL.parts⟩,ah)else if decide (U.kind=21)then(vR ([⟨0,801,1⟩]:List h9)).bind λbJ=>D (⟨bJ.named,bJ.low,bJ.high,bJ.parts⟩,ah)else if decide (U.kind=22)||(decide (U.kind=25)||(decide (U.kind=43)||decide (U.kind=44)))then(vR ([⟨Z.ke,Z.og,Z.oh⟩]:List h9)).bind λci=>D (⟨ci.named,ci.low,ci.high,ci.parts⟩,ah)else if decide (U.kind=24)then(vR ([⟨1,801,2⟩]:List h9)).bind λcP=>D (⟨cP.named,cP.low,cP.high,cP.parts⟩,ah)else if decide (U.kind=26)then(Cs ([⟨1,801,1⟩]:List h9)).bind λdr=>D (⟨dr.named,dr.low,dr.high,dr.parts⟩,ah)else if decide (U.kind=30)||decide (U.kind=31)then D (⟨aQ,0,0,[]⟩,ah)else if decide (U.kind=33)then(Kj 1).bind λc5=>D (⟨aQ,(-9223372036854775808),9223372036854775807,([c5]:List h9)⟩,ah)else if decide (U.kind=34)then(Kj 1).bind λeC=>aw (vR ([eC]:List h9)) λet=>D (⟨et.named,et.low,et.high,et.parts⟩,ah)else if decide (U.kind=40)then(ZM 2).bind λgk=>aw (vR ([gk]:List h9)) λfo=>D (⟨fo.named,fo.low,fo.high,fo.parts⟩,ah)else if decide (U.kind=41)then(vR ([⟨1,801,5⟩]:List h9)).bind λiI=>D (⟨iI.named,iI.low,iI.high,iI.parts⟩,ah)else if decide (U.kind=42)then(Kj 1).bind λh'=>D (⟨ah,0,9223372036854775807,([⟨0,801,5⟩,h',⟨Z.ke,Z.og,Z.oh⟩]:List h9)⟩,ah)else if decide (U.kind=46)then(FS U.n).bind λiJ=>D (⟨iJ.named,iJ.low,iJ.high,iJ.parts⟩,ah)else(Cs ([⟨ad.ke,ad.og,ad.oh⟩]:List h9)).bind λiK=>if decide (6<=U.kind)then if decide (U.kind<=18)then D (⟨iK.named,iK.low,iK.high,iK.parts⟩,ah)else D (⟨iK.named,iK.low,iK.high,iK.parts⟩,(decide (U.kind=23)))else D (⟨iK.named,iK.low,iK.high,iK.parts⟩,(decide (U.kind=23)))
def Ct(J:ax)(U:ByteArray):Option Bool:=aw (J_ J U) λZ=>D (decide (Z.2=0)&&decide (Z.1=1))
def ZN(U:Int):Option Bool:=D ((decide (1<=U)&&decide (U<=26))&& !decide (U=25))
def ZO(U:Int):Option Bool:=D (decide (U=25))
def ZP(U:Int):Option Bool:=D (decide (30<=U)&&decide (U<=33))
def ZQ(U:Int):Option Bool:=D (decide (U=1))
def ZR(U:Int):Option Bool:=D (decide (U=34))
def Cu(z:Nat)(U:Int):Option Bool:=if z=1 then ZN U else if z=2 then ZO U else if z=3 then ZP U else if z=4 then ZQ U else if z=5 then ZR U else aF
def Ri(ab ag ak:Int)(ap:Nat):Option Bool:=aw (Cu ap ab) λZ=>D (!Z)
def ZS(J:ax)(ab:List Int)(ag ak:Int)(ap:Nat):Int->Option Int:=J.b8 λb6=>if decide (b6<(ab.length:Int))then(aL ab b6).bind λZ=>aw (Ri Z ag ak ap) λad=>if ad then(D b6).map .inr else D (.inl (aH (b6+1)))else(D (-1)).map .inr
def Kk(J:ax)(ab:List Int)(ag ak:Int)(ap:Nat):Option Int:=ZS J ab ag ak ap 0
def Kl(J:ax)(ab:List Int)(ag ak:Int)(ap:Nat):Option Bool:=aw (Kk J ab ag ak ap) λZ=>D (decide (0<=Z))
def Rj(ma:List Int)(Z:h9)(J:ax)(mb:Int):Int->Option (oZ ⊕ Bool):=λm5=>aw (uL (aH ((ma.length:Int)-m5)) Z.ke Z.og) λad=>if !ad then(D aQ).map .inr else(hG ma 0 (aH ((ma.length:Int)-m5))).bind λaA=>aw (Kl J aA Z.ke Z.og Z.oh) λaN=>if aN then(D aQ).map .inr else(hG ma (aH ((ma.length:Int)-m5)) (ma.length:Int)).bind λa0=>D (.inl (a0,(aH (mb+1))))
def ZT(J:ax)(be:List h9)(ma:List Int)(Z:h9)(mb:Int):(Int×Int)->Option (oZ ⊕ Bool):=J.b8 λ(k4,FT)=>if decide (FT<(be.length:Int))then(aL be FT).bind λbL=>D (.inl ((aH (k4+bL.ke)),(aH (FT+1))))else(Rj ma Z J mb k4).map .inr
def ZU(J:ax)(U:ri):oZ->Option Bool:=J.b8 λ(ma,mb)=>if decide (mb<(U.parts.length:Int))then(aL U.parts mb).bind λZ=>aw (hG U.parts (aH (mb+1)) (U.parts.length:Int)) λbe=>ZT J be ma Z mb (0,0)else(D (decide ((ma.length:Int)=0))).map .inr
def Km(J:ax)(U:ri)(aj:List Int):Option Bool:=ZU J U (aj,0)
def Rk(J:ax)(ad:ri×Bool)(Z:bz):oZ->Option Bool:=λ(uM,o1)=>aw (Km J ⟨ad.1.named,ad.1.low,ad.1.high,ad.1.parts⟩ uM) λaA=>if aA then(uL Z.n ad.1.low ad.1.high).bind λaN=>if aN then D ah else if decide (o1=1)then(uL Z.n (-9999) (-1)).bind λa0=>D a0 else D aQ else D aQ
def ZV(J:ax)(Z:bz)(aj:Int)(U:bf)(ad:ri×Bool):oZ->Option Bool:=J.b8 λ(Kn,Ko)=>if decide (Ko<(Z.a3.length:Int))then(aL Z.a3 Ko).bind λbe=>aw (uL be 0 (aH (aj- 1))) λbL=>if !bL then(D aQ).map .inr else(aL U.nodes be).bind λbJ=>aw (eR Kn ([bJ.kind]:List Int)) λci=>D (.inl (ci,(aH (Ko+1))))else(Rk J ad Z (Kn,Z.kind)).map .inr
def FU(J:ax)(Z:bz)(aj:Int)(U:bf)(ad:ri×Bool):Unit->Option Bool:=λ_=>ZV J Z aj U ad ([],0)
def Kp(J:ax)(U:bf)(aj:Int):Option Bool:=aw (aL U.nodes aj) λZ=>aw (zF ⟨Z.kind,Z.bi,Z.n,Z.a3,Z.dx⟩) λad=>if !ad.2 then D aQ else(uL Z.dx 0 2000).bind λcP=>if !cP||(!(ad.1.named==(!decide (Z.bi=(⟨#[]⟩:ByteArray)))))then D aQ else if ad.1.named then(Ct J Z.bi).bind λdr=>if !dr then D aQ else FU J Z aj U ad ()else FU J Z aj U ad ()
def ZW(U:Int):Option Bool:=D (decide (40<=U)&&decide (U<=46))
def Rl(ab:Int)(ak:bf)(ag:Int):Int->Option (Bool×Int):=λo2=>if !decide (ab=o2)then D (aQ,o2)else(aL ak.nodes ab).bind λZ=>aw (ZW Z.kind) λad=>D ((ad==(decide (ag=1))),(aH (o2+1)))
def ZX(J:ax)(aA:bz)(Cv:FE)(ag:Int)(ap:bf)(ab:Int)(ak:bf):(Int×Int)->Option (Bool×Int):=J.b8 λ(Kq,Rm)=>if decide (Kq<(aA.a3.length:Int))then(aL aA.a3 Kq).bind λaN=>aw (Cv aN (aH (ag+1)) ap ap Rm) λa0=>if !a0.1 then(D (aQ,a0.2)).map .inr else D (.inl ((aH (Kq+1)),a0.2))else(Rl ab ak ag Rm).map .inr
def Kr(J:ax)(Cv:FE)(ab ag:Int)(ak ap:bf)(an:Int):Option (Bool×Int):=aw (aL ak.nodes ab) λaA=>ZX J aA Cv ag ap ab ak (0,an)
def Cw(J:ax):Nat->FE
  |0=>λ_ _ _ _ _=>aF
  |k+1=>Kr J (Cw J k)
def Rn(J:ax):FE:=Cw J J.n
def Ro(U:bf):Int->Option Bool:=λjd=>D (decide (jd=(U.nodes.length:Int)))
def ZY(U:bf)(J:ax):(Int×Int)->Option Bool:=J.b8 λ(m6,Ks)=>if decide (m6<(U.aX.length:Int))then(aL U.aX m6).bind λZ=>aw (uL Z Ks (aH ((U.nodes.length:Int)- 1))) λad=>if !ad then(D aQ).map .inr else(Rn J Z 1 U U Ks).bind λaA=>if !aA.1 then(D aQ).map .inr else D (.inl ((aH (m6+1)),aA.2))else(Ro U Ks).map .inr
def Cx(J:ax)(U:bf):Option Bool:=ZY U J (0,0)
def ZZ(J:ax)(aA:bz)(zG:Int):zz->Option (zz ⊕ Bool):=J.b8 λ(Kt,vQ)=>if decide (Kt<(aA.a3.length:Int))then(aL aA.a3 Kt).bind λaN=>D (.inl ((aH (Kt+1)),(mB vQ aN)))else(D (.inl ((aH (zG+1)),vQ))).map .inr
def Z0(J:ax)(U:bf):zz->Option Bool:=J.b8 λ(zG,pS)=>if decide (zG<(U.aX.length:Int))then(aL U.aX zG).bind λZ=>aw (aL U.nodes Z) λad=>if !decide (ad.kind=40)then D (.inl ((aH (zG+1)),pS))else(aL U.nodes Z).bind λaA=>ZZ J aA zG (0,pS)else(D (decide ((pS.length:Int)=0))).map .inr
def Rp(J:ax)(U:bf):((List (Int×Bool)))->Option Bool:=λZ1=>Z0 J U (0,Z1)
def Z2(J:ax)(U:bf):zz->Option Bool:=J.b8 λ(uN,o0)=>if decide (uN<(U.nodes.length:Int))then(aL U.nodes uN).bind λa0=>if decide (a0.kind=1)&&decide (a0.n< 0)then D (.inl ((aH (uN+1)),(d_ o0 uN ah)))else D (.inl ((aH (uN+1)),o0))else(Rp J U o0).map .inr
def Cy(J:ax)(U:bf):Option Bool:=Z2 J U (0,([]:List (Int×Bool)))
def Cz(J:ax)(U:bf):Unit->Option Int:=λ_=>aw (Cx J U) λad=>if !ad then D 4 else(Cy J U).bind λaA=>if !aA then D 4 else(zD J U).bind λaN=>if decide (30<aN)then D 5 else(xN J U).bind λa0=>if decide (0<=a0)then D 3 else D 0
def Rq(U:bf)(J:ax):Int->Option Int:=J.b8 λrn=>if decide (rn<(U.nodes.length:Int))then(Kp J U rn).bind λbe=>if !be then(D 4).map .inr else D (.inl (aH (rn+1)))else(Cz J U ()).map .inr
def Ku(J:ax)(U:bf):Option Int:=aw (Kg U) λZ=>if Z then D 5 else Rq U J 0
def Z3(U aj:Int):Option (Int×Int):=D ((IntKind.u64.wrap ((IntKind.u64.wrap ((IntKind.u64.wrap ((shr .u64 U 32)*(shr .u64 aj 32)))+(shr .u64 (IntKind.u64.wrap ((IntKind.u64.wrap ((shr .u64 U 32)*(q' .u64 aj 4294967295)))+(shr .u64 (IntKind.u64.wrap ((q' .u64 U 4294967295)*(q' .u64 aj 4294967295))) 32))) 32)))+(shr .u64 (IntKind.u64.wrap ((q' .u64 (IntKind.u64.wrap ((IntKind.u64.wrap ((shr .u64 U 32)*(q' .u64 aj 4294967295)))+(shr .u64 (IntKind.u64.wrap ((q' .u64 U 4294967295)*(q' .u64 aj 4294967295))) 32))) 4294967295)+(IntKind.u64.wrap ((q' .u64 U 4294967295)*(shr .u64 aj 32))))) 32))),(IntKind.u64.wrap (U*aj)))
def CA(U aj:Int):Option (Int×Int):=aw (Z3 U aj) λZ=>D (Z.1,Z.2)
def Z4(J:ax)(ad:List Int):mH->Option (Nat×List Int):=J.b8 λ(b6,jl)=>if decide (b6<(ad.length:Int))then(xm ad.length ad.length b6).bind λ_=>aw (xn ad.length b6) λ_=>aw (te jl (0+b6.toNat) (ad.length-b6.toNat) 0 b6.toNat) λbe=>D (.inl ((aH (b6+((min b6.toNat (ad.length-b6.toNat):Nat):Int))),be))else(D (ad.length,jl)).map .inr
def FV(J:ax)(ab:List Int)(ag:Int):Option (Nat×List Int):=if decide (ag< 0)then aF else(CA (IntKind.u64.wrap ((ab.length:Int))) (IntKind.u64.wrap (ag))).bind λZ=>if decide (0<Z.1)||decide (9223372036854775807<Z.2)then aF else(mk (aH (Z.2)) (0:Int)).bind λad=>aw (mD ad 0 ad.length ab) λaA=>Z4 J ad (((min ab.length ad.length:Nat):Int),aA)
def Z5(J:ax)(aN:bz)(ad:Nat×List Int)(xO:Int):mH->Option (mH ⊕ QA):=J.b8 λ(Kv,FW)=>if decide (Kv<(aN.a3.length:Int))then(aL aN.a3 Kv).bind λa0=>aw (fK ad.1 FW a0) λbe=>D (.inl ((aH (Kv+1)),(FW.set be.1.1 xO)))else(D (.inl ((aH (xO+1)),FW))).map .inr
def Rr(J:ax)(ab:bf)(ad aA:Nat×List Int):mH->Option QA:=J.b8 λ(xO,pT)=>if decide (xO<(ab.nodes.length:Int))then(aL ab.nodes xO).bind λaN=>Z5 J aN ad xO (0,pT)else(D (.inr (0,ab.nodes,ab.aX,ad.1,aA.1,pT,aA.2))).map .inr
def FX(J:ax)(ab:bf):Option QA:=aw (Ku J ab) λZ=>if !decide (Z=0)then D (.inl Z)else(FV J ([(-1)]:List Int) (ab.nodes.length:Int)).bind λad=>aw (FV J ([(-1)]:List Int) (ab.nodes.length:Int)) λaA=>Rr J ab ad aA (0,ad.2)
def Kw(ab:Int)(ag:List bz)(ak:List Int)(ap an:Nat)(al am:List Int):Option Bool:=aw (fK ap al ab) λZ=>aw (aL ag ab) λad=>if decide (ad.kind=34)&& !decide (Z.1.2=-1)then(aL ag Z.1.2).bind λaA=>D (decide (aA.kind=42))else D aQ
def xP(ab:Int)(ag:List bz)(ak:List Int)(ap an:Nat)(al am:List Int):Option Bool:=aw (aL ag ab) λZ=>if decide (Z.kind=40)||(decide (Z.kind=41)||(decide (Z.kind=42)||(decide (Z.kind=43)||(decide (Z.kind=44)||decide (Z.kind=20)))))then D ah else(Kw ab ag ak ap an al am).bind λad=>D ad
def Kx(ab ag:Int)(ak:List bz)(ap:List Int)(an al:Nat)(am aD:List Int):Option Bool:=aw (aL ak ab) λZ=>if decide (ab<ag)then(aL ak ag).bind λad=>if decide (Z.bi=ad.bi)then if decide (Z.kind=34)then D ah else(xP ab ak ap an al am aD).bind λaA=>D aA else D aQ else D aQ
def Z6(J:ax)(ab:List Int)(ag:Int)(ak:List bz)(ap:List Int)(an al:Nat)(am aD:List Int):Int->Option Int:=J.b8 λb6=>if decide (b6<(ab.length:Int))then(aL ab b6).bind λZ=>aw (Kx Z ag ak ap an al am aD) λad=>if ad then(D b6).map .inr else D (.inl (aH (b6+1)))else(D (-1)).map .inr
def Ky(J:ax)(ab:List Int)(ag:Int)(ak:List bz)(ap:List Int)(an al:Nat)(am aD:List Int):Option Int:=Z6 J ab ag ak ap an al am aD 0
def Rs(J:ax)(ab:List Int)(ag:Int)(ak:List bz)(ap:List Int)(an al:Nat)(am aD:List Int):Option Bool:=aw (Ky J ab ag ak ap an al am aD) λZ=>D (decide (0<=Z))
def tt(J:ax)(ab:Int)(ag:List bz)(ak:List Int)(ap an:Nat):(List Int×List Int×List Int)->Option (Bool×List Int×List Int):=λ(cb,uO,nF)=>aw (Rs J cb ab ag ak ap an uO nF) λZ=>D (Z,uO,nF)
def Kz(J:ax)(ab:Int)(ag:List bz)(ak:List Int)(ap an:Nat)(al am:List Int):Option (Bool×List Int×List Int):=aw (fK ap al ab) λad=>if !decide (ad.1.2=-1)then(aL ag ab).bind λaA=>if decide (aA.kind=34)then(aL ag ad.1.2).bind λaN=>tt J ab ag ak ap an (aN.a3,al,am)else if decide (ad.1.2=-1)then(xP ab ag ak ap an al am).bind λa0=>if a0 then tt J ab ag ak ap an (ak,al,am)else tt J ab ag ak ap an ([],al,am)else tt J ab ag ak ap an ([],al,am)else if decide (ad.1.2=-1)then(xP ab ag ak ap an al am).bind λbe=>if be then tt J ab ag ak ap an (ak,al,am)else tt J ab ag ak ap an ([],al,am)else tt J ab ag ak ap an ([],al,am)
def KA(U:Int):Option Bool:=if decide (U=3)||(decide (U=21)||(decide (U=24)||(decide (U=32)||decide (U=45))))then D ah else D aQ
def Rt(ab:Int)(ag:List bz)(ak:List Int)(ap an:Nat)(al am:List Int):Option Int:=D ab
def FY(ab:Int)(ag:List bz)(ak:List Int)(ap an:Nat)(al am:List Int):Option Int:=D ab
def Ru(ab ag:Int)(ak:List bz)(ap:List Int)(an al:Nat)(am aD:List Int):Option (Int×Int):=D (ag,ab)
def Z7(J:ax)(U:List Int)(aj:Int):Int->Option Int:=J.b8 λb6=>if decide (b6<(U.length:Int))then(aL U b6).bind λZ=>if decide (aj=Z)then(D b6).map .inr else D (.inl (aH (b6+1)))else(D (-1)).map .inr
def Rv(J:ax)(U:List Int)(aj:Int):Option Int:=Z7 J U aj 0
def zH(J:ax)(U:List Int)(aj:Int):Option Bool:=aw (Rv J U aj) λZ=>D (decide (0<=Z))
def KB(J:ax)(U aj:Int):Option Bool:=if decide (U=3)then(zH J ([40,43,20,34]:List Int) aj).bind λZ=>D Z else if decide (U=21)then D (decide (aj=42))else if decide (U=45)then D (decide (aj=44))else D (decide (aj=41))
def FZ(J:ax)(ab ag ak:Int)(ap:ByteArray)(an:Int)(al:List Int)(am:Int)(aD:List bz)(a2:List Int)(bc ba:Nat)(bm bF:List Int):Option vL:=aw (aL aD ab) λZ=>if decide (Z.bi=ap)then(KB J ak Z.kind).bind λad=>if ad then D (.inl ab)else D (.inr (.inl ag))else D (.inr (.inr ag))
def CB(J:ax)(ab ag ak:Int)(ap:ByteArray)(an:Int)(al:List Int)(am:Int)(aD:List bz)(a2:List Int)(bc ba:Nat)(bm bF:List Int):Option vL:=(FZ J ab ag ak ap an al am aD a2 bc ba bm bF).bind (dQ (λZ=>D (.inl Z)) (dQ (λad=>D (.inr (.inl ad))) (λaA=>D (.inr (.inr aA)))))
def Z8(be:List Int)(J:ax)(bc:Int)(ba:ByteArray)(bm:Int)(bF:List Int)(ch:Int)(ak:List bz)(ap:List Int)(an al:Nat)(am aD:List Int)(ab:Int):(Int×Int)->Option vL:=J.b8 λ(KC,zI)=>if decide (KC<(be.length:Int))then(aL be KC).bind λbL=>(CB J bL zI bc ba bm bF ch ak ap an al am aD).bind (dQ (λbJ=>(D (.inr (.inl bJ))).map .inr) (dQ (λci=>(D (.inr (.inr ci))).map .inr) (λcP=>D (.inl ((aH (KC+1)),cP)))))else((CB J ab zI bc ba bm bF ch ak ap an al am aD).bind (dQ (λdr=>D (.inr (.inl dr))) (dQ (λc5=>D (.inr (.inr c5))) (λeC=>D (.inl eC))))).map .inr
def KD(J:ax)(ab ag:Int)(ak:List bz)(ap:List Int)(an al:Nat)(am aD:List Int)(a2 bc:Int)(ba:ByteArray)(bm:Int)(bF:List Int)(ch:Int):Option vL:=aw (aL ak ab) λZ=>if decide ((Z.a3.length:Int)=0)then D (.inl a2)else(aL Z.a3 (aH ((Z.a3.length:Int)- 1))).bind λad=>if !decide (ad=ag)then D (.inl a2)else if decide (Z.kind=20)then(CB J ab a2 bc ba bm bF ch ak ap an al am aD).bind (dQ (λaA=>D (.inr (.inl aA))) (dQ (λaN=>D (.inr (.inr aN))) (λa0=>D (.inl a0))))else if decide (Z.kind=42)then(hG Z.a3 0 (aH ((Z.a3.length:Int)- 2))).bind λbe=>Z8 be J bc ba bm bF ch ak ap an al am aD ab (0,a2)else D (.inl a2)
def Rw(J:ax)(ab ag:Int)(ak:List bz)(ap:List Int)(an al:Nat)(am aD:List Int)(a2 bc:Int)(ba:ByteArray)(bm:Int)(bF:List Int)(ch:Int):Option vL:=aw (Ru ab ag ak ap an al am aD) λZ=>(KD J Z.1 Z.2 ak ap an al am aD a2 bc ba bm bF ch).bind (dQ (λad=>D (.inl ad)) (dQ (λaA=>D (.inr (.inl aA))) (λaN=>D (.inr (.inr aN)))))
def Z9(J:ax)(ag:List bz)(ak:List Int)(ap an:Nat)(al am:List Int)(a2:Int)(bc:ByteArray)(ba:Int)(bm:List Int)(bF:Int):sh->Option ((Int×Int) ⊕ (Int×Int) ⊕ (Int×Int)):=J.b8 λ(dV,jM,Rx)=>if !decide (dV=-1)then(Rw J jM dV ag ak ap an al am Rx a2 bc ba bm bF).bind (dQ (λad=>aw (fK ap al dV) λa0=>D (.inl (a0.1.2,dV,ad))) (dQ (λaA=>(D (.inl (aA,jM))).map .inr) (λaN=>(D (.inr (.inl (aN,jM)))).map .inr)))else(D (.inr (.inr (Rx,jM)))).map .inr
def KE(J:ax)(ab:Int)(ag:List bz)(ak:List Int)(ap an:Nat)(al am:List Int)(aD a2:Int)(bc:ByteArray)(ba:Int)(bm:List Int)(bF:Int):Option ((Int×Int) ⊕ (Int×Int) ⊕ (Int×Int)):=aw (fK ap al ab) λZ=>Z9 J ag ak ap an al am a2 bc ba bm bF (Z.1.2,ab,aD)
def Ry(ab:List Int):Option (List Int):=D ab
def Rz(J:ax)(ab ag ak:Int)(ap:List bz)(an:List Int)(al am:Nat)(aD a2:List Int)(bc ba:Int)(bm:ByteArray)(bF:Int)(ch:List Int)(cS:Int):Option vL:=if decide (ag<ak)then(xP ag ap an al am aD a2).bind λZ=>if Z then(FZ J ag bc ba bm bF ch cS ap an al am aD a2).bind (dQ (λad=>D (.inl ad)) (dQ (λaA=>D (.inr (.inl aA))) (λaN=>D (.inr (.inr aN)))))else D (.inr (.inr bc))else D (.inr (.inr bc))
def Z_(ab:List Int)(J:ax)(ag:Int)(ak:List bz)(ap:List Int)(an al:Nat)(am aD:List Int)(bc:Int)(ba:ByteArray)(bm:Int)(bF:List Int)(ch:Int):(Int×Int)->Option vL:=J.b8 λ(eX,zI)=>if decide (0<=eX)then(aL ab eX).bind λZ=>(Rz J eX Z ag ak ap an al am aD zI bc ba bm bF ch).bind (dQ (λad=>(D (.inl ad)).map .inr) (dQ (λaA=>(D (.inr (.inl aA))).map .inr) (λaN=>D (.inl ((aH (eX- 1)),aN)))))else(D (.inr (.inr zI))).map .inr
def KF(J:ax)(ab:List Int)(ag:Int)(ak:List bz)(ap:List Int)(an al:Nat)(am aD:List Int)(a2 bc:Int)(ba:ByteArray)(bm:Int)(bF:List Int)(ch:Int):Option vL:=Z_ ab J ag ak ap an al am aD bc ba bm bF ch ((aH ((ab.length:Int)- 1)),a2)
def RA(J:ax)(ab ag ak:Int)(ap:ByteArray)(an:Int)(al:List Int)(am:Int)(aD:List bz)(a2:List Int)(bc ba:Nat)(bm bF:List Int):Option vL:=aw (FY ab aD a2 bc ba bm bF) λZ=>(KE J Z aD a2 bc ba bm bF ag ak ap an al am).bind (dQ (λad=>D (.inl ad.1)) (dQ (λaA=>D (.inr (.inl aA.1))) (λaN=>aw (Ry a2) λbJ=>(KF J bJ ab aD a2 bc ba bm bF aN.1 ak ap an al am).bind (dQ (λci=>D (.inl ci)) (dQ (λcP=>D (.inr (.inl cP))) (λdr=>D (.inr (.inr dr))))))))
def KG(J:ax)(ab:Int)(ag:List bz)(ak:List Int)(ap an:Nat)(al am:List Int):Option Int:=aw (aL ag ab) λZ=>aw (Rt ab ag ak ap an al am) λad=>(RA J ad 0 Z.kind Z.bi Z.n Z.a3 Z.dx ag ak ap an al am).bind (dQ (λaA=>D aA) (dQ (λaN=>D (-1)) (λa0=>D (-1))))
def RB(ab ag ak:Int)(ap:Bool)(an:List bz)(al:List Int)(am aD:Nat)(a2 bc:List Int):Option (Bool ⊕ Bool):=if decide (ag=ak)then(aL an ak).bind λZ=>aw (aL an ak) λad=>aw (aL Z.a3 (aH ((ad.a3.length:Int)- 1))) λaA=>D (.inl (decide (aA=ab)))else D (.inr ap)
def Z'(J:ax)(ab:Int)(ap:List bz)(an:List Int)(al am:Nat)(aD a2:List Int):(Int×Int×Bool)->Option ((Int×Bool) ⊕ (Int×Bool)):=J.b8 λ(dV,jM,vS)=>if !decide (dV=-1)then(RB jM dV ab vS ap an al am aD a2).bind (dQ (λad=>(D (.inl (jM,ad))).map .inr) (λaA=>aw (fK al aD dV) λaN=>D (.inl (aN.1.2,dV,aA))))else(D (.inr (jM,vS))).map .inr
def RC(J:ax)(ab ag:Int)(ak:Bool)(ap:List bz)(an:List Int)(al am:Nat)(aD a2:List Int):Option ((Int×Bool) ⊕ (Int×Bool)):=aw (fK al aD ag) λZ=>Z' J ab ap an al am aD a2 (Z.1.2,ag,ak)
def KH(J:ax)(ab ag:Int)(ak:List bz)(ap:List Int)(an al:Nat)(am aD:List Int):Option Bool:=aw (FY ab ak ap an al am aD) λZ=>(RC J ag Z aQ ak ap an al am aD).bind (dQ (λad=>D ad.2) (λaA=>D aQ))
def aaa(J:ax)(ab:Nat)(ak:List Int)(ag:Int):Int->Option Int:=J.b8 λb6=>if decide (b6<(ab:Int))then(fK ab ak b6).bind λZ=>if decide (ag=Z.1.2)then(D b6).map .inr else D (.inl (aH (b6+1)))else(D (-1)).map .inr
def RD(J:ax)(ab:Nat)(ag:Int)(ak:List Int):Option Int:=aaa J ab ak ag 0
def CC(J:ax)(ab:Nat)(ag:Int)(ak:List Int):Option Bool:=aw (RD J ab ag ak) λZ=>D (decide (0<=Z))
def vT(an:Nat)(ab aN:Int):(List Int×List Int)->Option (Int×List Int×List Int):=λ(uO,nF)=>aw (fK an nF ab) λa0=>D (0,uO,(nF.set a0.1.1 aN))
def KI(J:ax)(ab:Int)(ag:List bz)(ak:List Int)(ap an:Nat)(al am:List Int):Option (Int×List Int×List Int):=aw (aL ag ab) λZ=>aw (Kz J ab ag ak ap an al am) λad=>if ad.1 then D (6,ad.2.1,ad.2.2)else(KA Z.kind).bind λaA=>if !aA then D (0,ad.2.1,ad.2.2)else(KG J ab ag ak ap an ad.2.1 ad.2.2).bind λaN=>if decide (aN=-1)then D (10,ad.2.1,ad.2.2)else if decide (Z.kind=21)then(aL ag aN).bind λbe=>if decide (be.n=0)then(KH J ab aN ag ak ap an ad.2.1 ad.2.2).bind λbL=>if bL then D (9,ad.2.1,ad.2.2)else if decide (Z.kind=45)then(CC J an aN ad.2.2).bind λbJ=>if bJ then D (9,ad.2.1,ad.2.2)else vT an ab aN (ad.2.1,ad.2.2)else vT an ab aN (ad.2.1,ad.2.2)else if decide (Z.kind=45)then(CC J an aN ad.2.2).bind λci=>if ci then D (9,ad.2.1,ad.2.2)else vT an ab aN (ad.2.1,ad.2.2)else vT an ab aN (ad.2.1,ad.2.2)else if decide (Z.kind=45)then(CC J an aN ad.2.2).bind λcP=>if cP then D (9,ad.2.1,ad.2.2)else vT an ab aN (ad.2.1,ad.2.2)else vT an ab aN (ad.2.1,ad.2.2)
def RE(ad:Int×List bz×List Int×Nat×Nat×List Int×List Int)(J:ax):(Int×List Int×List Int)->Option ((Int×Int) ⊕ (Int×Int×List bz×List Int×Nat×Nat×List Int×List Int)):=J.b8 λ(xQ,pT,uP)=>if decide (xQ<(ad.2.1.length:Int))then(KI J xQ ad.2.1 ad.2.2.1 ad.2.2.2.1 ad.2.2.2.2.1 pT uP).bind λaA=>if !decide (aA.1=0)then(D (.inl (xQ,aA.1))).map .inr else D (.inl ((aH (xQ+1)),aA.2.1,aA.2.2))else(D (.inr (0,0,ad.2.1,ad.2.2.1,ad.2.2.2.1,ad.2.2.2.2.1,pT,uP))).map .inr
def F0(J:ax)(ab:bf):Option ((Int×Int) ⊕ (Int×Int×List bz×List Int×Nat×Nat×List Int×List Int)):=(FX J ab).bind (dQ (λZ=>if !decide (Z=0)then D (.inl (0,Z))else aF) (λad=>if !decide (ad.1=0)then D (.inl (0,ad.1))else RE ad J (0,ad.2.2.2.2.2.1,ad.2.2.2.2.2.2)))
def xR(J:ax)(U:bf):Option (l5×Int×Int):=(F0 J U).bind (dQ (λZ=>if !decide (Z.2=0)then D (⟨[]⟩,Z.1,Z.2)else aF) (λad=>if !decide (ad.2.1=0)then D (⟨[]⟩,ad.1,ad.2.1)else(gH ad.2.2.2.2.2.1 ad.2.2.2.2.2.2.2).bind λaA=>D (⟨aA⟩,0,0)))
def aab(J:ax)(ab:List Int)(an:Nat)(am:List ByteArray):(dl×Int×Nat)->Option (dl×Nat):=J.b8 λ(dV,gE,nE)=>if decide (gE<(ab.length:Int))then(aL ab gE).bind λZ=>aw (fK an am Z) λad=>aw (eR dV ([ad.1.2]:List ByteArray)) λaA=>D (.inl (aA,(aH (gE+1)),nE+1))else(D (dV,nE)).map .inr
def KJ(J:ax)(ab:List Int)(ag:List bz)(ak ap:List Int)(an:Nat)(al:List di)(am:List ByteArray):Option (dl×Nat):=aab J ab an am ([],0,0)
def qs(U:Int):Option Bool:=D (decide (U<=26)&& !decide (U=25))
def aac(J:ax)(ab:List Int)(an:Nat)(am:List ByteArray):(dl×Int)->Option dl:=J.b8 λ(dV,gE)=>if decide (gE<(ab.length:Int))then(aL ab gE).bind λZ=>aw (fK an am Z) λad=>aw (eR dV ([ad.1.2]:List ByteArray)) λaA=>D (.inl (aA,(aH (gE+1))))else(D dV).map .inr
def CD(J:ax)(ab:List Int)(ag:List bz)(ak ap:List Int)(an:Nat)(al:List di)(am:List ByteArray):Option dl:=aac J ab an am ([],0)
def CE(ab:Int)(ag:List bz)(ak ap:List Int)(an:Nat)(al:List di)(am:List ByteArray):Option ByteArray:=aw (aL ap ab) λZ=>aw (aL ag Z) λad=>if decide (ad.kind=43)||decide (ad.kind=20)then(aL ad.a3 0).bind λaA=>aw (fK an am aA) λaN=>D aN.1.2 else if decide (ad.kind=34)then(fK an am Z).bind λa0=>D a0.1.2 else D (⟨#[105,110,116]⟩:ByteArray)
def RF(ab ag:ByteArray):Option Bool:=D (!decide (ab=ag))
def aad(J:ax)(ab:List ByteArray)(ag:ByteArray):Int->Option Int:=J.b8 λb6=>if decide (b6<(ab.length:Int))then(aL ab b6).bind λZ=>aw (RF Z ag) λad=>if ad then(D b6).map .inr else D (.inl (aH (b6+1)))else(D (-1)).map .inr
def RG(J:ax)(ab:List ByteArray)(ag:ByteArray):Option Int:=aad J ab ag 0
def RH(J:ax)(ab:List ByteArray)(ag:ByteArray):Option Bool:=aw (RG J ab ag) λZ=>D (decide (0<=Z))
def sl(J:ax)(U:ByteArray)(aj:List ByteArray):Option Bool:=aw (RH J aj U) λZ=>D (!Z)
def KK(J:ax)(ab:Int)(ag:List bz)(ak ap:List Int)(an:Nat)(al:List di)(am:List ByteArray):Option (dl×ByteArray):=aw (aL ag ab) λZ=>aw (hG Z.a3 0 (aH ((Z.a3.length:Int)- 2))) λad=>aw (CD J ad ag ak ap an al am) λaA=>aw (aL Z.a3 (aH ((Z.a3.length:Int)- 2))) λaN=>aw (fK an am aN) λa0=>D (aA,a0.1.2)
def akx(J:ax)(U aj:List ByteArray):Int->Option Bool:=J.b8 λh0=>if decide (h0<(U.length:Int))then(aL U h0).bind λZ=>aw (aL aj h0) λad=>if !decide (Z=ad)then(D aQ).map .inr else D (.inl (aH (h0+1)))else(D ah).map .inr
def RI(J:ax)(U aj:List ByteArray):Option Bool:=if !decide ((U.length:Int)=(aj.length:Int))then D aQ else akx J U aj 0
def aae(J:ax)(Z:bz)(ak:List bz)(ag:ByteArray)(al:Nat)(aD:List ByteArray):Int->Option ByteArray:=J.b8 λKL=>if decide (KL<(Z.a3.length:Int))then(aL Z.a3 KL).bind λad=>aw (aL ak ad) λaA=>if decide (aA.bi=ag)then(fK al aD ad).bind λaN=>(D aN.1.2).map .inr else D (.inl (aH (KL+1)))else(D (⟨#[]⟩:ByteArray)).map .inr
def RJ(J:ax)(ab ag:ByteArray)(ak:List bz)(ap an:List Int)(al:Nat)(am:List di)(aD:List ByteArray):Option ByteArray:=if !(dP am ab).isSome then D (⟨#[]⟩:ByteArray)else(aL ak ((dP am ab).getD (0:Int))).bind λZ=>aae J Z ak ag al aD 0
def KM(U aj:ByteArray):Option (ByteArray×Bool):=aw (xJ U aj) λZ=>if !Z then D (U,aQ)else(hg U (aj.size:Int) (U.size:Int)).bind λad=>D (ad,ah)
def CF(U aj:ByteArray):Option (ByteArray×Bool):=aw (KM U aj) λZ=>D (Z.1,Z.2)
def CG(U aj:ByteArray):Option Bool:=if decide ((aj.size:Int)<=(U.size:Int))then(hg U (aH ((U.size:Int)-(aj.size:Int))) (U.size:Int)).bind λZ=>D (decide (Z=aj))else D aQ
def KN(U aj:ByteArray):Option (ByteArray×Bool):=aw (CG U aj) λZ=>if !Z then D (U,aQ)else(hg U 0 (aH ((U.size:Int)-(aj.size:Int)))).bind λad=>D (ad,ah)
def F1(U aj:ByteArray):Option (ByteArray×Bool):=aw (KN U aj) λZ=>D (Z.1,Z.2)
def aky(J:ax)(U:ByteArray)(aj:Int):Int->Option Int:=J.b8 λcb=>if decide (0<=cb)then(gB U cb).bind λZ=>if decide (Z=aj)then(D cb).map .inr else D (.inl (aH (cb- 1)))else(D (-1)).map .inr
def aaf(J:ax)(U:ByteArray)(aj:Int):Option Int:=aky J U aj (aH ((U.size:Int)- 1))
def aag(J:ax)(dV:Int):sh->Option (Int×Int):=J.b8 λ(i8,m5,uM)=>if decide (0<uM)then if !decide ((q' .i64 uM 1)=0)then D (.inl ((IntKind.u32.wrap (i8*m5)),(IntKind.u32.wrap (m5*m5)),(shr .i64 uM 1)))else D (.inl (i8,(IntKind.u32.wrap (m5*m5)),(shr .i64 uM 1)))else(D (dV,i8)).map .inr
def KO(U:ByteArray)(J:ax):Int->Option (Int×Int):=λdV=>aag J dV (1,16777619,(U.size:Int))
def aah(J:ax)(U:ByteArray):(Int×Int)->Option (Int×Int):=J.b8 λ(ro,j7)=>if decide (0<=j7)then(gB U j7).bind λZ=>D (.inl ((IntKind.u32.wrap ((IntKind.u32.wrap (ro*16777619))+(IntKind.u32.wrap (Z)))),(aH (j7- 1))))else(KO U J ro).map .inr
def KP(J:ax)(U:ByteArray):Option (Int×Int):=aah J U (0,(aH ((U.size:Int)- 1)))
def RK(J:ax)(U aj:ByteArray)(Z:Int×Int):(Int×Int)->Option Int:=J.b8 λ(KQ,rk)=>if decide (0<=rk)then(gB U rk).bind λad=>aw (gB U (aH (rk+(aj.size:Int)))) λaA=>if decide ((IntKind.u32.wrap ((IntKind.u32.wrap ((IntKind.u32.wrap (KQ*16777619))+(IntKind.u32.wrap (ad))))-(IntKind.u32.wrap (Z.2*(IntKind.u32.wrap (aA))))))=Z.1)then(hg U rk (aH (rk+(aj.size:Int)))).bind λaN=>if decide (aN=aj)then(D rk).map .inr else D (.inl ((IntKind.u32.wrap ((IntKind.u32.wrap ((IntKind.u32.wrap (KQ*16777619))+(IntKind.u32.wrap (ad))))-(IntKind.u32.wrap (Z.2*(IntKind.u32.wrap (aA)))))),(aH (rk- 1))))else D (.inl ((IntKind.u32.wrap ((IntKind.u32.wrap ((IntKind.u32.wrap (KQ*16777619))+(IntKind.u32.wrap (ad))))-(IntKind.u32.wrap (Z.2*(IntKind.u32.wrap (aA)))))),(aH (rk- 1))))else(D (-1)).map .inr
def CH(gE:Int)(U aj:ByteArray)(J:ax)(Z:Int×Int):Unit->Option Int:=λ_=>RK J U aj Z (gE,(aH ((aH ((U.size:Int)-(aj.size:Int)))- 1)))
def KR(Z:Int×Int)(U aj:ByteArray)(J:ax):Int->Option Int:=λgE=>if decide (gE=Z.1)then(hg U (aH ((U.size:Int)-(aj.size:Int))) (U.size:Int)).bind λa0=>if decide (a0=aj)then D (aH ((U.size:Int)-(aj.size:Int)))else CH gE U aj J Z ()else CH gE U aj J Z ()
def RL(J:ax)(U aj:ByteArray)(Z:Int×Int):(Int×Int)->Option Int:=J.b8 λ(RM,l9)=>if decide ((aH ((U.size:Int)-(aj.size:Int)))<=l9)then(gB U l9).bind λbe=>D (.inl ((IntKind.u32.wrap ((IntKind.u32.wrap (RM*16777619))+(IntKind.u32.wrap (be)))),(aH (l9- 1))))else(KR Z U aj J RM).map .inr
def CI(J:ax)(U aj:ByteArray):Option Int:=aw (KP J aj) λZ=>RL J U aj Z (0,(aH ((U.size:Int)- 1)))
def CJ(J:ax)(U aj:ByteArray):Option Int:=if decide ((aj.size:Int)=0)then D (U.size:Int)else if decide ((aj.size:Int)=1)then(gB aj 0).bind λZ=>aw (aaf J U Z) λad=>D ad else if decide ((aj.size:Int)=(U.size:Int))then if decide (aj=U)then D 0 else D (-1)else if decide ((U.size:Int)<(aj.size:Int))then D (-1)else(CI J U aj).bind λaA=>D aA
def aai(U:Int):Option ByteArray:=if decide (U< 10)then(hg (⟨#[48,49,50,51,52,53,54,55,56,57,97,98,99,100,101,102,103,104,105,106,107,108,109,110,111,112,113,114,115,116,117,118,119,120,121,122]⟩:ByteArray) U (aH (U+1))).bind λZ=>D Z else(hg (⟨#[48,48,48,49,48,50,48,51,48,52,48,53,48,54,48,55,48,56,48,57,49,48,49,49,49,50,49,51,49,52,49,53,49,54,49,55,49,56,49,57,50,48,50,49,50,50,50,51,50,52,50,53,50,54,50,55,50,56,50,57,51,48,51,49,51,50,51,51,51,52,51,53,51,54,51,55,51,56,51,57,52,48,52,49,52,50,52,51,52,52,52,53,52,54,52,55,52,56,52,57,53,48,53,49,53,50,53,51,53,52,53,53,53,54,53,55,53,56,53,57,54,48,54,49,54,50,54,51,54,52,54,53,54,54,54,55,54,56,54,57,55,48,55,49,55,50,55,51,55,52,55,53,55,54,55,55,55,56,55,57,56,48,56,49,56,50,56,51,56,52,56,53,56,54,56,55,56,56,56,57,57,48,57,49,57,50,57,51,57,52,57,53,57,54,57,55,57,56,57,57]⟩:ByteArray) (aH (U*2)) (aH ((aH (U*2))+2))).bind λad=>D ad
def aaj(J:ax)(U:List Int)(aj a6:Int)(dg fS:Bool):Option (List Int×ByteArray):=if(decide (a6< 2)||decide (a6=10))||decide (36<a6)then aF else aF
def aak(J:ax)(U aj:Int):Option ByteArray:=if decide (aj=10)then if decide (0<=U)&&decide (U< 100)then(aai U).bind λZ=>D Z else aF else(aaj J [] (IntKind.u64.wrap (U)) aj (decide (U< 0)) aQ).bind λad=>D ad.2
def aal(J:ax)(U:Int):Option ByteArray:=aw (aak J U 10) λZ=>D Z
def KS(J:ax)(U:Int):Option ByteArray:=aw (aal J U) λZ=>D Z
def CK(J:ax)(vU:FF)(U:ByteArray):Option Bool:=if decide (U=(⟨#[105,110,116]⟩:ByteArray))||decide (U=(⟨#[98,111,111,108]⟩:ByteArray))then D ah else(Ct J U).bind λZ=>if Z then D ah else(vU U).bind λad=>D ad.2.2
def KT(J:ax)(vU:FF)(U:ByteArray):Option Cm:=aw (CF U (⟨#[91]⟩:ByteArray)) λZ=>aw (F1 Z.1 (⟨#[93]⟩:ByteArray)) λad=>aw (CJ J ad.1 (⟨#[59,32]⟩:ByteArray)) λaA=>if(!Z.2|| !ad.2)||decide (aA< 0)then D ((⟨#[]⟩:ByteArray),0,aQ)else(hg ad.1 (aH (aA+2)) (ad.1.size:Int)).bind λaN=>aw (FN J aN) λa0=>aw (hg ad.1 0 aA) λbe=>if decide (1<=a0)then if decide (a0<=6)then(KS J a0).bind λbL=>aw (hg ad.1 (aH (aA+2)) (ad.1.size:Int)) λbJ=>if decide (bL=bJ)then(CK J vU be).bind λci=>D (be,a0,ci)else D (be,a0,aQ)else D (be,a0,aQ)else D (be,a0,aQ)
def F2(J:ax):Nat->FF
  |0=>λ_=>aF
  |k+1=>KT J (F2 J k)
def xS(J:ax):FF:=F2 J J.n
def RN(ab ag:Int)(ak:List bz)(ap an:List Int)(al:Nat)(am:List di)(aD:List ByteArray):Option Bool:=aw (aL ak ab) λZ=>aw (aL ak ag) λad=>if decide (Z.bi=ad.bi)then(fK al aD ab).bind λaA=>aw (fK al aD ag) λaN=>D (decide (aA.1.2=aN.1.2))else D aQ
def aam(J:ax)(ab ag:List Int)(ak:List bz)(ap an:List Int)(al:Nat)(am:List di)(aD:List ByteArray):Int->Option Bool:=J.b8 λF3=>if decide (F3<(ab.length:Int))then(aL ab F3).bind λZ=>aw (aL ag F3) λad=>aw (RN Z ad ak ap an al am aD) λaA=>if !aA then(D aQ).map .inr else D (.inl (aH (F3+1)))else(D ah).map .inr
def KU(J:ax)(ab ag:List Int)(ak:List bz)(ap an:List Int)(al:Nat)(am:List di)(aD:List ByteArray):Option Bool:=if !decide ((ab.length:Int)=(ag.length:Int))then D aQ else aam J ab ag ak ap an al am aD 0
def CL(J:ax)(U:ByteArray)(aj:Int):Option ByteArray:=aw (nr (⟨#[91]⟩:ByteArray) U) λZ=>aw (nr Z (⟨#[59,32]⟩:ByteArray)) λad=>aw (KS J aj) λaA=>aw (nr ad aA) λaN=>aw (nr aN (⟨#[93]⟩:ByteArray)) λa0=>D a0
def zJ(J:ax)(ab:Int)(ag:List ByteArray)(ak:List bz)(ap an:List Int)(al:Nat)(am:List di)(aD:List ByteArray):Option ByteArray:=aw (aL ak ab) λZ=>if decide (Z.kind=21)then(aL an ab).bind λad=>aw (KK J ad ak ap an al am aD) λaA=>aw (RI J aA.1 ag) λaN=>if aN then D aA.2 else D (⟨#[]⟩:ByteArray)else if decide (Z.kind=22)then(aL ag 0).bind λa0=>aw (RJ J a0 Z.bi ak ap an al am aD) λbe=>D be else if decide (Z.kind=23)then(aL ag 0).bind λbL=>aw (xS J bL) λbJ=>if bJ.2.2 then(aL ag 1).bind λci=>if decide (ci=(⟨#[105,110,116]⟩:ByteArray))then D bJ.1 else D (⟨#[]⟩:ByteArray)else D (⟨#[]⟩:ByteArray)else if decide (Z.kind=24)then(aL an ab).bind λcP=>aw (aL ak cP) λdr=>aw (KU J Z.a3 dr.a3 ak ap an al am aD) λc5=>if c5 then D Z.bi else D (⟨#[]⟩:ByteArray)else if decide (Z.kind=26)then(aL ag 0).bind λeC=>aw (sl J eC ag) λet=>if et then(aL ag 0).bind λgk=>aw (CL J gk (ag.length:Int)) λfo=>D fo else D (⟨#[]⟩:ByteArray)else D (⟨#[]⟩:ByteArray)
def rp:(ByteArray×Bool×dl×Int)->Option (ByteArray×dl):=λ(hT,b6,nF,sk)=>if !b6 then D ((⟨#[]⟩:ByteArray),nF)else D (hT,nF)
def nG(J:ax)(ab:Int)(ag:List bz)(ak ap:List Int)(an:Nat)(al:List di)(am:List ByteArray):Option (ByteArray×dl):=aw (aL ag ab) λZ=>aw (CD J Z.a3 ag ak ap an al am) λad=>if decide (Z.kind=1)then rp ((⟨#[105,110,116]⟩:ByteArray),ah,am,Z.kind)else if decide (Z.kind=2)then rp ((⟨#[98,111,111,108]⟩:ByteArray),ah,am,Z.kind)else if decide (Z.kind=3)then(CE ab ag ak ap an al am).bind λaA=>rp (aA,ah,am,Z.kind)else if decide (Z.kind=4)||(decide (Z.kind=6)||(decide (Z.kind=7)||(decide (Z.kind=8)||(decide (Z.kind=9)||decide (Z.kind=10)))))then(sl J (⟨#[105,110,116]⟩:ByteArray) ad).bind λaN=>rp ((⟨#[105,110,116]⟩:ByteArray),aN,am,Z.kind)else if decide (Z.kind=5)||(decide (Z.kind=17)||decide (Z.kind=18))then(sl J (⟨#[98,111,111,108]⟩:ByteArray) ad).bind λa0=>rp ((⟨#[98,111,111,108]⟩:ByteArray),a0,am,Z.kind)else if decide (Z.kind=11)||decide (Z.kind=12)then(sl J (⟨#[105,110,116]⟩:ByteArray) ad).bind λbe=>if be then rp ((⟨#[98,111,111,108]⟩:ByteArray),ah,am,Z.kind)else(sl J (⟨#[98,111,111,108]⟩:ByteArray) ad).bind λbL=>rp ((⟨#[98,111,111,108]⟩:ByteArray),bL,am,Z.kind)else if decide (Z.kind=13)||(decide (Z.kind=14)||(decide (Z.kind=15)||decide (Z.kind=16)))then(sl J (⟨#[105,110,116]⟩:ByteArray) ad).bind λbJ=>rp ((⟨#[98,111,111,108]⟩:ByteArray),bJ,am,Z.kind)else if decide (Z.kind=19)then(aL ad 1).bind λci=>aw (aL ad 0) λcP=>if decide (cP=(⟨#[98,111,111,108]⟩:ByteArray))then(aL ad 1).bind λdr=>aw (aL ad 2) λc5=>rp (ci,(decide (dr=c5)),am,Z.kind)else rp (ci,aQ,am,Z.kind)else if decide (Z.kind=20)then(aL ad 1).bind λeC=>rp (eC,ah,am,Z.kind)else(zJ J ab ad ag ak ap an al am).bind λet=>D (et,am)
def aan(J:ax)(aA:bz)(an:Nat)(am:List ByteArray)(zK:FG)(ag:List bz)(ak ap:List Int)(al:List di):(Int×Int)->Option (Int×Bool):=J.b8 λ(dV,KV)=>if decide (KV<(aA.a3.length:Int))then(aL aA.a3 KV).bind λaN=>aw (fK an am aN) λa0=>aw (zK a0.1.2 ag ak ap an al am) λbe=>D (.inl ((ih 10000 (aH (dV+be.1))),(aH (KV+1))))else(D (dV,ah)).map .inr
def KW(J:ax)(zK:FG)(ab:ByteArray)(ag:List bz)(ak ap:List Int)(an:Nat)(al:List di)(am:List ByteArray):Option (Int×Bool):=if decide (ab=(⟨#[105,110,116]⟩:ByteArray))||decide (ab=(⟨#[98,111,111,108]⟩:ByteArray))then D (1,ah)else(xS J ab).bind λZ=>if Z.2.2 then(zK Z.1 ag ak ap an al am).bind λad=>D ((ih 10000 (aH (ad.1*Z.2.1))),ad.2)else if !(dP al ab).isSome then D (0,aQ)else(aL ag ((dP al ab).getD (0:Int))).bind λaA=>aan J aA an am zK ag ak ap al (0,0)
def F4(J:ax):Nat->FG
  |0=>λ_ _ _ _ _ _ _=>aF
  |k+1=>KW J (F4 J k)
def zL(J:ax):FG:=F4 J J.n
def uQ(J:ax)(ab:ByteArray)(ag:List bz)(ak ap:List Int)(an:Nat)(al:List di)(am:List ByteArray):Option Bool:=aw (zL J ab ag ak ap an al am) λZ=>D (decide (8<Z.1))
def RO(U:ByteArray):Option Bool:=D (!decide (U=(⟨#[105,110,116]⟩:ByteArray))&& !decide (U=(⟨#[98,111,111,108]⟩:ByteArray)))
def aao(J:ax)(ab:List ByteArray):Int->Option Int:=J.b8 λb6=>if decide (b6<(ab.length:Int))then(aL ab b6).bind λZ=>aw (RO Z) λad=>if ad then(D b6).map .inr else D (.inl (aH (b6+1)))else(D (-1)).map .inr
def RP(J:ax)(ab:List ByteArray):Option Int:=aao J ab 0
def F5(J:ax)(ab:List ByteArray):Option Bool:=aw (RP J ab) λZ=>D (decide (0<=Z))
def KX(J:ax)(U:Int)(aj:List ByteArray):Option Bool:=if decide (U=4)||decide (U=5)then(sl J (⟨#[105,110,116]⟩:ByteArray) aj).bind λZ=>D Z else if decide (U=8)then(F5 J aj).bind λad=>D (!ad)else(sl J (⟨#[98,111,111,108]⟩:ByteArray) aj).bind λaA=>D aA
def CM:(Bool×List di×dl×Int)->Option (Int×List di×dl):=λ(b6,uO,nF,sk)=>if !b6 then D (11,uO,nF)else D (0,uO,nF)
def zM(J:ax)(ab:Int)(ag:List ByteArray)(ak:List bz)(ap an:List Int)(al:Nat)(am:List di)(aD:List ByteArray):Option (Int×List di×dl):=aw (aL ak ab) λZ=>if decide (Z.kind=41)then(uQ J Z.bi ak ap an al (d_ am Z.bi ab) aD).bind λad=>if ad then D (5,(d_ am Z.bi ab),aD)else CM (ah,(d_ am Z.bi ab),aD,Z.kind)else if decide (Z.kind=42)then(aL ag (aH ((ag.length:Int)- 1))).bind λaA=>aw (aL ag (aH ((ag.length:Int)- 2))) λaN=>CM ((decide (aA=aN)),am,aD,Z.kind)else if decide (Z.kind=44)then(aL ag 0).bind λa0=>CM ((decide (a0=(⟨#[98,111,111,108]⟩:ByteArray))),am,aD,Z.kind)else if decide (Z.kind=46)then(KX J Z.n ag).bind λbe=>CM (be,am,aD,Z.kind)else CM (ah,am,aD,Z.kind)
def qt(J:ax)(ab:Int)(ad:dl×Nat)(ag:List bz)(ak ap:List Int)(an:Nat)(al:List di):(dl×Int)->Option (Int×List di×dl):=λ(nF,sk)=>aw (zM J ab ad.1 ag ak ap an al nF) λaA=>D (aA.1,aA.2.1,aA.2.2)
def sm(J:ax)(ab:Int)(ag:List bz)(ak ap:List Int)(an:Nat)(al:List di)(am:List ByteArray):Option (Int×List di×dl):=aw (aL ag ab) λZ=>aw (KJ J Z.a3 ag ak ap an al am) λad=>aw (qs Z.kind) λaN=>if aN then(nG J ab ag ak ap an al am).bind λa0=>aw (fK an a0.2 ab) λbe=>aw (fK an (a0.2.set be.1.1 a0.1) ab) λbL=>if decide (bL.1.2=(⟨#[]⟩:ByteArray))then D (11,al,(a0.2.set be.1.1 a0.1))else if decide (Z.kind=26)then(fK an (a0.2.set be.1.1 a0.1) ab).bind λbJ=>aw (uQ J bJ.1.2 ag ak ap an al (a0.2.set be.1.1 a0.1)) λci=>if ci then D (5,al,(a0.2.set be.1.1 a0.1))else D (0,al,(a0.2.set be.1.1 a0.1))else D (0,al,(a0.2.set be.1.1 a0.1))else if decide (Z.kind=30)then(fK an am ab).bind λcP=>qt J ab ad ag ak ap an al ((am.set cP.1.1 (⟨#[105,110,116]⟩:ByteArray)),Z.kind)else if decide (Z.kind=31)then(fK an am ab).bind λdr=>qt J ab ad ag ak ap an al ((am.set dr.1.1 (⟨#[98,111,111,108]⟩:ByteArray)),Z.kind)else if decide (Z.kind=32)then(fK an am ab).bind λc5=>qt J ab ad ag ak ap an al ((am.set c5.1.1 Z.bi),Z.kind)else if decide (Z.kind=25)||decide (Z.kind=34)then(aL ad.1 0).bind λeC=>aw (fK an am ab) λet=>qt J ab ad ag ak ap an al ((am.set et.1.1 eC),Z.kind)else if decide (Z.kind=33)then(aL ad.1 0).bind λgk=>aw (CL J gk Z.n) λfo=>aw (fK an am ab) λiI=>aw (fK an (am.set iI.1.1 fo) ab) λh'=>aw (uQ J h'.1.2 ag ak ap an al (am.set iI.1.1 fo)) λiJ=>if iJ then D (5,al,(am.set iI.1.1 fo))else qt J ab ad ag ak ap an al ((am.set iI.1.1 fo),Z.kind)else qt J ab ad ag ak ap an al (am,Z.kind)
def aap(ab:bf)(J:ax)(Z:l5×Int×Int)(ad:List ByteArray):(Int×List di×dl)->Option ((Int×Int) ⊕ (Int×Int×List bz×List Int×List Int×Nat×List di×dl)):=J.b8 λ(F6,pT,uP)=>if decide (F6<(ab.nodes.length:Int))then(sm J F6 ab.nodes ab.aX Z.1.jk ad.length pT uP).bind λaA=>if !decide (aA.1=0)then(D (.inl (F6,aA.1))).map .inr else D (.inl ((aH (F6+1)),aA.2.1,aA.2.2))else(D (.inr (0,0,ab.nodes,ab.aX,Z.1.jk,ad.length,pT,uP))).map .inr
def sn(J:ax)(ab:bf):Option ((Int×Int) ⊕ (Int×Int×List bz×List Int×List Int×Nat×List di×dl)):=aw (xR J ab) λZ=>if !decide (Z.2.2=0)then D (.inl (Z.2.1,Z.2.2))else(mk (ab.nodes.length:Int) (⟨#[]⟩:ByteArray)).bind λad=>aap ab J Z ad (0,([]:List di),ad)
def RQ(ab:List bz)(ag ak:List Int)(ap:Nat)(an:List di)(al:List ByteArray):Option (List nB):=D ([]:List nB)
def zN(ab:bf)(ag ak ap an:Int):Option sh:=aw (aL ab.nodes ag) λZ=>if decide (Z.kind=40)then(aL Z.a3 1).bind λad=>aw (aL ab.nodes ad) λaA=>aw (aL Z.a3 0) λaN=>aw (aL ab.nodes aN) λa0=>D ((aH (ak+1)),(ih 2001 (aH (ap*(aH ((aH (aA.n-a0.n))+1))))),an)else if decide (Z.kind=44)then D (ak,ap,(aH (an+1)))else if decide (Z.kind=45)then D (ak,ap,(aH (an- 1)))else D (ak,ap,an)
def RR(U:YI):Option Bool:=D ((decide (6<U.YJ)||decide (2000<U.YK))||decide (8<U.YL))
def KY(ab:jz)(ag:Int)(ak:List bz)(ap an:List Int)(al:Nat)(am:List nB)(aD:List di)(a2:List ByteArray):Option (jz×Bool):=aw (aL an ag) λZ=>if !decide (Z=ab.uH)then D (⟨Z,0⟩,ah)else(aL ak Z).bind λad=>D (⟨Z,(aH (ab.depth+1))⟩,(decide (ab.depth<ad.n)))
def aaq(J:ax)(ag:List Int)(ak:List bz)(CN:FH)(ab:jz)(ap an:List Int)(al:Nat)(aD:List di)(a2:List ByteArray)(lP:xE):(Int×Int×List nB)->Option (Int×List nB):=J.b8 λ(gt,mb,pT)=>if decide (mb<(ag.length:Int))then(aL ag mb).bind λZ=>aw (aL ak Z) λad=>aw (CN ab ad.a3 ak ap an al pT aD a2) λaA=>if !decide (ad.kind=21)then D (.inl ((aH (gt+(aH (1+aA.1)))),(aH (mb+1)),aA.2))else(KY ab Z ak ap an al aA.2 aD a2).bind λaN=>if aN.2 then(lP ⟨aN.1.uH,aN.1.depth⟩ ak ap an al aA.2 aD a2).bind λa0=>D (.inl ((ih (aH ((aH (gt+(aH (1+aA.1))))+a0.1)) 3001),(aH (mb+1)),a0.2))else D (.inl ((ih (aH (gt+(aH (1+aA.1)))) 3001),(aH (mb+1)),aA.2))else(D ((ih gt 3001),pT)).map .inr
def KZ(J:ax)(lP:xE)(CN:FH)(ab:jz)(ag:List Int)(ak:List bz)(ap an:List Int)(al:Nat)(am:List nB)(aD:List di)(a2:List ByteArray):Option (Int×List nB):=aaq J ag ak CN ab ap an al aD a2 lP (0,0,am)
def F7(J:ax)(lP:xE):Nat->FH
  |0=>λ_ _ _ _ _ _ _ _ _=>aF
  |k+1=>KZ J lP (F7 J lP k)
def RS(J:ax)(lP:xE):FH:=F7 J lP J.n
def K0(J:ax)(lP:xE)(ab:jz)(ag:List bz)(ak ap:List Int)(an:Nat)(al:List nB)(am:List di)(aD:List ByteArray):Option (Int×List nB):=if !(dP al ab).isSome then(aL ag ab.uH).bind λZ=>aw (aL Z.a3 (aH ((Z.a3.length:Int)- 1))) λad=>aw (RS J lP ab ([ad]:List Int) ag ak ap an al am aD) λaA=>D (aA.1,(d_ aA.2 ab aA.1))else D (((dP al ab).getD (0:Int)),al)
def CO(J:ax):Nat->xE
  |0=>λ_ _ _ _ _ _ _ _=>aF
  |k+1=>K0 J (CO J k)
def K1(J:ax):xE:=CO J J.n
def K2(J:ax)(ab:Int)(ag:List bz)(ak ap:List Int)(an:Nat)(al:List nB)(am:List di)(aD:List ByteArray):Option (Int×List nB):=aw (aL ag ab) λZ=>if decide (Z.kind=42)then(K1 J ⟨ab,0⟩ ag ak ap an al am aD).bind λad=>D (ad.1,ad.2)else if decide (Z.kind=43)||(decide (Z.kind=44)||decide (Z.kind=46))then(RS J (K1 J) ⟨(-1),0⟩ Z.a3 ag ak ap an al am aD).bind λaA=>D (aA.1,aA.2)else D (0,al)
def RT(ad:Int×Int×List bz×List Int×List Int×Nat×List di×dl)(J:ax):(Int×List nB×Int×Int×Int)->Option (Int×Int):=J.b8 λ(K3,oj,aar,aas,aat)=>if decide (K3<(ad.2.2.2.1.length:Int))then(aL ad.2.2.2.1 K3).bind λaN=>aw (zN ⟨ad.2.2.1,ad.2.2.2.1⟩ aN aar aas aat) λa0=>aw (RR ⟨a0.1,a0.2.1,a0.2.2⟩) λbe=>if be then(D (aN,5)).map .inr else(K2 J aN ad.2.2.1 ad.2.2.2.1 ad.2.2.2.2.1 ad.2.2.2.2.2.1 oj ad.2.2.2.2.2.2.1 ad.2.2.2.2.2.2.2).bind λbL=>if decide (bL.1=3001)then(D (aN,5)).map .inr else D (.inl ((aH (K3+1)),bL.2,a0.1,a0.2.1,a0.2.2))else(D (0,0)).map .inr
def K4(J:ax)(U:bf):Option (Int×Int):=(sn J U).bind (dQ (λZ=>if !decide (Z.2=0)then D (Z.1,Z.2)else aF) (λad=>if !decide (ad.2.1=0)then D (ad.1,ad.2.1)else(RQ ad.2.2.1 ad.2.2.2.1 ad.2.2.2.2.1 ad.2.2.2.2.2.1 ad.2.2.2.2.2.2.1 ad.2.2.2.2.2.2.2).bind λaA=>RT ad J (0,aA,0,1,0)))
def vV(J:ax)(U:bf):Option Int:=aw (K4 J U) λZ=>D Z.2
def RU(J:ax)(ad:Int×Int×List bz×List Int×List Int×Nat×List di×dl):(Int×dl)->Option (sg×Int×Int):=J.b8 λ(rq,oj)=>if decide (rq<(ad.2.2.1.length:Int))then(aL ad.2.2.1 rq).bind λaA=>aw (qs aA.kind) λaN=>if !aN then(fK ad.2.2.2.2.2.1 oj rq).bind λa0=>D (.inl ((aH (rq+1)),(oj.set a0.1.1 (⟨#[]⟩:ByteArray))))else D (.inl ((aH (rq+1)),oj))else(aw (gH ad.2.2.2.2.2.1 oj) λbe=>D (⟨be⟩,0,0)).map .inr
def vW(J:ax)(U:bf):Option (sg×Int×Int):=(sn J U).bind (dQ (λZ=>if !decide (Z.2=0)then D (⟨[]⟩,Z.1,Z.2)else aF) (λad=>if !decide (ad.2.1=0)then D (⟨[]⟩,ad.1,ad.2.1)else RU J ad (0,ad.2.2.2.2.2.2.2)))
def xT(J:ax)(ab:bf):Option JS:=aw (vV J ab) λZ=>if !decide (Z=0)then D (.inl Z)else(xR J ab).bind λad=>aw (vW J ab) λaA=>D (.inr (0,ab.nodes,ab.aX,0,0,0,ad.1.jk,aA.1.Ch,([]:List (Int×Int)),([]:List (Int×cd)),([]:List di),([]:List hi)))
def aau(ab:Int)(ag:List bz)(ak:List Int)(ap an al:Int)(am:List Int)(aD:List ByteArray)(a2:List (Int×Int))(bc:List (Int×cd))(ba:List di)(bm:List hi):Option Int:=D ab
def CP(ab:Int)(ag:YO)(ak:List Int)(ap:Bool)(an:Int)(al:List bz)(am:List Int)(aD a2 bc:Int)(ba:List Int)(bm:List ByteArray)(bF:List (Int×Int))(ch:List (Int×cd))(cS:List di)(i9:List hi):Option ((Bool×Int×oY) ⊕ (Bool×Int×oY)):=if decide (an=(ak.length:Int))then D (.inl (aQ,an,bF))else(aL ak an).bind λZ=>if decide (Z<ag.U)then D (.inl (aQ,an,bF))else(aL ak an).bind λad=>if decide (ag.aj<ad)then D (.inl (aQ,an,bF))else(aL ak an).bind λaA=>D (.inr (ap,(aH (an+1)),(d_ bF ab aA)))
def aav(J:ax)(Z:List Int)(an:List bz)(ag al:List Int)(am aD a2:Int)(bc:List Int)(ba:List ByteArray)(bF:List (Int×cd))(ch:List di)(cS:List hi):(Int×Bool×Int×oY)->Option ((Bool×Int×oY) ⊕ (Bool×Int×oY)):=J.b8 λ(zO,F8,vS,uR)=>if decide (zO<(Z.length:Int))then(aL Z zO).bind λad=>aw (aL an ad) λaA=>if decide (aA.kind=40)then(aL aA.a3 0).bind λaN=>aw (aL an aN) λa0=>aw (aL aA.a3 1) λbe=>aw (aL an be) λbL=>(CP ad ⟨a0.n,bL.n⟩ ag F8 vS an al am aD a2 bc ba uR bF ch cS).bind (dQ (λbJ=>(D (.inl (bJ.1,bJ.2.1,bJ.2.2))).map .inr) (λci=>D (.inl ((aH (zO+1)),ci.1,ci.2.1,ci.2.2))))else D (.inl ((aH (zO+1)),F8,vS,uR))else(D (.inr (F8,vS,uR))).map .inr
def RV(J:ax)(ab:Int)(ag:List Int)(ak:Bool)(ap:Int)(an:List bz)(al:List Int)(am aD a2:Int)(bc:List Int)(ba:List ByteArray)(bm:List (Int×Int))(bF:List (Int×cd))(ch:List di)(cS:List hi):Option ((Bool×Int×oY) ⊕ (Bool×Int×oY)):=aw (hG al 0 (aH (ab+1))) λZ=>aav J Z an ag al am aD a2 bc ba bF ch cS (0,ak,ap,bm)
def xU(J:ax)(ab:Int)(ag:List Int)(ak:List bz)(ap:List Int)(an al am:Int)(aD:List Int)(a2:List ByteArray)(bc:List (Int×Int))(ba:List (Int×cd))(bm:List di)(bF:List hi):Option (Bool×oY):=aw (aau ab ak ap an al am aD a2 bc ba bm bF) λZ=>(RV J Z ag aQ 0 ak ap an al am aD a2 bc ba bm bF).bind (dQ (λad=>D (ad.1,ad.2.2)) (λaA=>D ((decide (aA.2.1=(ag.length:Int))),aA.2.2)))
def K5:Bool->Option JS:=λxQ=>if xQ then D (.inl 7)else aF
def zP(J:ax)(ag:Int)(ak:List Int)(ad:Int×List bz×List Int×Int×Int×Int×List Int×dl×oY×j6×List di×List hi):Bool->Option JS:=λaaw=>if aaw then D (.inl 7)else(xU J ag ak ad.2.1 ad.2.2.1 ad.2.2.2.1 ad.2.2.2.2.1 ad.2.2.2.2.2.1 ad.2.2.2.2.2.2.1 ad.2.2.2.2.2.2.2.1 ad.2.2.2.2.2.2.2.2.1 ad.2.2.2.2.2.2.2.2.2.1 ad.2.2.2.2.2.2.2.2.2.2.1 ad.2.2.2.2.2.2.2.2.2.2.2).bind λbe=>if !be.1 then D (.inl 3)else D (.inr (0,ad.2.1,ad.2.2.1,ad.2.2.2.1,ad.2.2.2.2.1,ad.2.2.2.2.2.1,ad.2.2.2.2.2.2.1,ad.2.2.2.2.2.2.2.1,be.2,ad.2.2.2.2.2.2.2.2.2.1,ad.2.2.2.2.2.2.2.2.2.2.1,ad.2.2.2.2.2.2.2.2.2.2.2))
def o3(J:ax)(ab:bf)(ag:Int)(ak ap:List Int):Option JS:=(xT J ab).bind (dQ (λZ=>if !decide (Z=0)then D (.inl Z)else if decide (ag< 0)||decide ((ab.aX.length:Int)<=ag)then K5 (decide (ag< 0)||decide ((ab.aX.length:Int)<=ag))else if decide (0<(ap.length:Int))then(aL ab.aX ag).bind λaA=>aw (aL ab.nodes aA) λaN=>aw (zH J ap aN.kind) λa0=>K5 (!a0)else K5 aQ) (λad=>if !decide (ad.1=0)then D (.inl ad.1)else if decide (ag< 0)||decide ((ab.aX.length:Int)<=ag)then zP J ag ak ad (decide (ag< 0)||decide ((ab.aX.length:Int)<=ag))else if decide (0<(ap.length:Int))then(aL ab.aX ag).bind λbL=>aw (aL ab.nodes bL) λbJ=>aw (zH J ap bJ.kind) λci=>zP J ag ak ad (!ci)else zP J ag ak ad aQ))
def F9(ab ag ak:Int):Option Bool:=D (decide (ab<ag)||decide (ak<ab))
def RW(J:ax)(ab:List Int)(ag ak:Int):Int->Option Int:=J.b8 λb6=>if decide (b6<(ab.length:Int))then(aL ab b6).bind λZ=>aw (F9 Z ag ak) λad=>if ad then(D b6).map .inr else D (.inl (aH (b6+1)))else(D (-1)).map .inr
def K6(J:ax)(ab:List Int)(ag ak:Int):Option Int:=RW J ab ag ak 0
def K7(J:ax)(ab:List Int)(ag ak:Int):Option Bool:=aw (K6 J ab ag ak) λZ=>D (decide (0<=Z))
def xV(J:ax)(U aj:Int)(a6:List Int):Option Bool:=aw (K7 J a6 U aj) λZ=>D (!Z)
def F_(U:Int):Option bt:=D ⟨U,0⟩
def mc(J:ax)(U:Int):Option bt:=aw (xV J (-9999) 9999 ([U]:List Int)) λZ=>if !Z then(F_ 2).bind λad=>D ⟨ad.fault,ad.n⟩else D ⟨0,U⟩
def zQ(U:Int):Option Bool:=D ((decide (U=43)||decide (U=44))||decide (U=46))
def zR:Option (Int×Int×j6):=D ((-1),0,([]:List (Int×cd)))
def CQ(U:Int):Option (Int×Bool×Bool):=if decide (U=4)||decide (U=5)then D ((w2 ((w2 (U- 4))+5)),aQ,ah)else if decide (U=6)||(decide (U=7)||(decide (U=8)||(decide (U=9)||decide (U=10))))then D ((w2 ((w2 (U- 6))+7)),aQ,ah)else if decide (U=11)then D (12,aQ,ah)else if decide (U=12)then D (12,ah,ah)else if decide (U=13)then D (13,aQ,ah)else if decide (U=16)then D (13,ah,ah)else if decide (U=14)then D (14,aQ,ah)else if decide (U=15)then D (14,ah,ah)else D (0,aQ,aQ)
def RX(U:Int):Option Nat:=if decide (U=5)then D 1 else if decide (U=6)then D 2 else D 0
def vX(J:ax)(U:bt):Option Bool:=if decide (U.fault=0)then(xV J (-9999) 9999 ([U.n]:List Int)).bind λZ=>D Z else D (decide (U.fault<=4)&&decide (U.n=0))
def K8(U:bt):Option Bool:=D (!decide (U.fault=0))
def RY(J:ax)(ab:List bt):Int->Option Int:=J.b8 λb6=>if decide (b6<(ab.length:Int))then(aL ab b6).bind λZ=>aw (K8 Z) λad=>if ad then(D b6).map .inr else D (.inl (aH (b6+1)))else(D (-1)).map .inr
def K9(J:ax)(ab:List bt):Option Int:=RY J ab 0
def xW(J:ax)(U:List bt):Option (bt×Bool):=aw (K9 J U) λZ=>if decide (Z< 0)then D (⟨0,0⟩,aQ)else(aL U Z).bind λad=>D (⟨ad.fault,ad.n⟩,ah)
def RZ(J:ax)(U:Int):Option bt:=aw (mc J (aH (-U))) λZ=>D ⟨Z.fault,Z.n⟩
def xX(J:ax)(U:Bool):Option bt:=if U then(mc J 1).bind λZ=>D ⟨Z.fault,Z.n⟩else(mc J 0).bind λad=>D ⟨ad.fault,ad.n⟩
def R0(J:ax)(U:Int):Option bt:=aw (xX J (decide (U=0))) λZ=>D ⟨Z.fault,Z.n⟩
def zS(J:ax)(z:Nat)(U:Int):Option bt:=if z=1 then RZ J U else if z=2 then R0 J U else aF
def CR(J:ax)(U:Int)(aj:bt):Option (bt×Int):=aw (RX U) λZ=>if decide (Z=0)then D (⟨0,0⟩,2)else(vX J aj).bind λad=>if !ad then D (⟨0,0⟩,2)else(xW J ([aj]:List bt)).bind λaA=>if aA.2 then D (⟨aA.1.fault,aA.1.n⟩,0)else(zS J Z aj.n).bind λaN=>D (⟨aN.fault,aN.n⟩,0)
def K_(J:ax)(U:bt):Option Bool:=aw (vX J U) λZ=>D (!Z)
def aax(ab:List bt)(J:ax):Int->Option Int:=J.b8 λb6=>if decide (b6<(ab.length:Int))then(aL ab b6).bind λZ=>aw (K_ J Z) λad=>if ad then(D b6).map .inr else D (.inl (aH (b6+1)))else(D (-1)).map .inr
def R1(J:ax)(ab:List bt):Option Int:=aax ab J 0
def R2(J:ax)(ab:List bt):Option Bool:=aw (R1 J ab) λZ=>D (decide (0<=Z))
def zT(J:ax)(U:List bt):Option Bool:=aw (R2 J U) λZ=>D (!Z)
def R3(J:ax)(U aj a6:bt):Option (bt×Int):=aw (zT J ([U,aj,a6]:List bt)) λZ=>if !Z then D (⟨0,0⟩,2)else if !decide (U.fault=0)then D (⟨U.fault,U.n⟩,0)else if decide (U.n=0)then D (⟨a6.fault,a6.n⟩,0)else D (⟨aj.fault,aj.n⟩,0)
def aay:Option Nat:=D 4
def aaz:Option Nat:=D 5
def aaA:Option Nat:=D 6
def aaB:Option Nat:=D 7
def aaC:Option Nat:=D 8
def R4(U:Int):Option Nat:=if decide (U=7)then D 1 else if decide (U=8)then D 2 else if decide (U=9)then D 3 else if decide (U=10)then(aay).bind λZ=>D Z else if decide (U=11)then(aaz).bind λad=>D ad else if decide (U=12)then(aaA).bind λaA=>D aA else if decide (U=13)then(aaB).bind λaN=>D aN else if decide (U=14)then(aaC).bind λa0=>D a0 else D 0
def aaD(J:ax)(U aj:Int):Option bt:=aw (mc J (aH (U+aj))) λZ=>D ⟨Z.fault,Z.n⟩
def aaE(J:ax)(U aj:Int):Option bt:=aw (mc J (aH (U-aj))) λZ=>D ⟨Z.fault,Z.n⟩
def aaF(J:ax)(U aj:Int):Option bt:=aw (mc J (aH (U*aj))) λZ=>D ⟨Z.fault,Z.n⟩
def F'(U aj:Int):Option (Int×Int):=aw (uq U aj) λZ=>aw (ur U aj) λad=>if !decide (ad=0)&&(!((decide (ad< 0))==(decide (aj< 0))))then D ((aH ((aH (Z))- 1)),(aH (ad+aj)))else D ((aH (Z)),ad)
def R5(U aj:Int):Option Int:=D U
def K'(J:ax)(ab ag:Int):Option bt:=if decide (ag=0)then(F_ 1).bind λZ=>D ⟨Z.fault,Z.n⟩else(F' ab ag).bind λad=>aw (R5 ad.1 ad.2) λaA=>aw (mc J aA) λaN=>D ⟨aN.fault,aN.n⟩
def R6(U aj:Int):Option Int:=D aj
def La(J:ax)(ab ag:Int):Option bt:=if decide (ag=0)then(F_ 1).bind λZ=>D ⟨Z.fault,Z.n⟩else(F' ab ag).bind λad=>aw (R6 ad.1 ad.2) λaA=>aw (mc J aA) λaN=>D ⟨aN.fault,aN.n⟩
def Lb(U:Int):Option Bool:=D (!decide (U=U))
def CS(U aj:Int):Option Int:=aw (Lb U) λZ=>aw (Lb aj) λad=>if Z then if ad then D 0 else D (-1)else if ad then D 1 else if decide (U<aj)then D (-1)else if decide (aj<U)then D 1 else D 0
def R7(U:Int):Option Bool:=D (decide (U=0))
def Lc(J:ax)(ab ag:Int):Option bt:=aw (CS ab ag) λZ=>aw (R7 Z) λad=>aw (xX J ad) λaA=>D ⟨aA.fault,aA.n⟩
def R8(U:Int):Option Bool:=D (decide (U< 0))
def Ld(J:ax)(ab ag:Int):Option bt:=aw (CS ab ag) λZ=>aw (R8 Z) λad=>aw (xX J ad) λaA=>D ⟨aA.fault,aA.n⟩
def R9(U:Int):Option Bool:=D (decide (U<=0))
def Le(J:ax)(ab ag:Int):Option bt:=aw (CS ab ag) λZ=>aw (R9 Z) λad=>aw (xX J ad) λaA=>D ⟨aA.fault,aA.n⟩
def Lf(J:ax)(z:Nat)(U aj:Int):Option bt:=if z=1 then aaD J U aj else if z=2 then aaE J U aj else if z=3 then aaF J U aj else if z=4 then K' J U aj else if z=5 then La J U aj else if z=6 then Lc J U aj else if z=7 then Ld J U aj else if z=8 then Le J U aj else aF
def Lg(J:ax)(U:Int)(aj a6:bt):Option (bt×Int):=if decide (U=15)then(mc J 0).bind λZ=>aw (R3 J aj a6 Z) λad=>D (⟨ad.1.fault,ad.1.n⟩,ad.2)else if decide (U=16)then(mc J 1).bind λaA=>aw (R3 J aj aA a6) λaN=>D (⟨aN.1.fault,aN.1.n⟩,aN.2)else(R4 U).bind λa0=>if decide (a0=0)then D (⟨0,0⟩,2)else(zT J ([aj,a6]:List bt)).bind λbe=>if !be then D (⟨0,0⟩,2)else(xW J ([aj,a6]:List bt)).bind λbL=>if bL.2 then D (⟨bL.1.fault,bL.1.n⟩,0)else(Lf J a0 aj.n a6.n).bind λbJ=>D (⟨bJ.fault,bJ.n⟩,0)
def Lh(J:ax)(iL:uJ)(ab ag:Int)(ak:Bool)(ap:List bz)(an:List Int)(al am aD:Int)(a2:List Int)(bc:List ByteArray)(ba bm:Int)(bF:List (Int×Int))(ch:List (Int×cd))(cS:List di)(i9:List hi)(Li:List (Int×cd)):Option tp:=aw (aL ap ab) λZ=>aw (iL Z.a3 ap an al am aD a2 bc ba bm bF ch cS i9 Li) λad=>if decide ((ad.1.length:Int)=1)then(aL ad.1 0).bind λaA=>aw (CR J ag aA) λaN=>if ak then(CR J 6 ⟨aN.1.fault,aN.1.n⟩).bind λa0=>D (([⟨a0.1.fault,a0.1.n⟩]:List bt),ad.2.1,ad.2.2.1,ad.2.2.2.1,ad.2.2.2.2.1,ad.2.2.2.2.2.1,ad.2.2.2.2.2.2.1,ad.2.2.2.2.2.2.2)else D (([⟨aN.1.fault,aN.1.n⟩]:List bt),ad.2.1,ad.2.2.1,ad.2.2.2.1,ad.2.2.2.2.1,ad.2.2.2.2.2.1,ad.2.2.2.2.2.2.1,ad.2.2.2.2.2.2.2)else(aL ad.1 0).bind λbe=>aw (aL ad.1 1) λbL=>aw (Lg J ag be bL) λbJ=>if ak then(CR J 6 ⟨bJ.1.fault,bJ.1.n⟩).bind λci=>D (([⟨ci.1.fault,ci.1.n⟩]:List bt),ad.2.1,ad.2.2.1,ad.2.2.2.1,ad.2.2.2.2.1,ad.2.2.2.2.2.1,ad.2.2.2.2.2.2.1,ad.2.2.2.2.2.2.2)else D (([⟨bJ.1.fault,bJ.1.n⟩]:List bt),ad.2.1,ad.2.2.1,ad.2.2.2.1,ad.2.2.2.2.1,ad.2.2.2.2.2.1,ad.2.2.2.2.2.2.1,ad.2.2.2.2.2.2.2)
def Lj(J:ax)(gV:tq)(ab:Int)(ag:List bz)(ak:List Int)(ap an al:Int)(am:List Int)(aD:List ByteArray)(a2 bc:Int)(ba:List (Int×Int))(bm:List (Int×cd))(bF:List di)(ch:List hi)(cS:List (Int×cd)):Option (cd×j6×List di×List hi):=aw (aL am ab) λZ=>aw (aL ag Z) λad=>if decide (ad.kind=40)then(mc J ((dP ba Z).getD (0:Int))).bind λaA=>D (([aA]:List bt),bm,bF,ch)else if decide (ad.kind=43)then if !(dP bm Z).isSome then(zR).bind λaN=>aw (aL ad.a3 0) λa0=>aw (gV a0 ag ak ap an al am aD aN.1 aN.2.1 ba bm bF ch aN.2.2) λbe=>D (be.1,(d_ be.2.2.2.2.1 Z be.1),be.2.2.2.2.2.1,be.2.2.2.2.2.2.1)else D (((dP bm Z).getD ([]:List bt)),bm,bF,ch)else D (((dP cS Z).getD ([]:List bt)),bm,bF,ch)
def R_(U:bt):Option Bool:=D (decide (U.fault=0)&& !decide (U.n=0))
def aaG(J:ax)(Lk:JX)(ab:ByteArray):Option (Int×Bool):=if decide (ab=(⟨#[105,110,116]⟩:ByteArray))||decide (ab=(⟨#[98,111,111,108]⟩:ByteArray))then D (1,ah)else(xS J ab).bind λZ=>if Z.2.2 then(Lk Z.1).bind λad=>D ((ih 10000 (aH (ad.1*Z.2.1))),ad.2)else aF
def R'(J:ax):Nat->JX
  |0=>λ_=>aF
  |k+1=>aaG J (R' J k)
def aaH(J:ax):JX:=R' J J.n
def Ll(J:ax)(U:bf)(aj:ByteArray):Option (Int×Int):=(sn J U).bind (dQ (λZ=>if !decide (Z.2=0)then D (0,Z.2)else(CK J (xS J) aj).bind λaA=>if !aA then D (0,4)else(aaH J aj).bind λaN=>if !aN.2 then D (0,7)else if decide (aN.1=10000)then D (0,5)else D (aN.1,0)) (λad=>if !decide (ad.2.1=0)then D (0,ad.2.1)else(CK J (xS J) aj).bind λa0=>if !a0 then D (0,4)else(zL J aj ad.2.2.1 ad.2.2.2.1 ad.2.2.2.2.1 ad.2.2.2.2.2.1 ad.2.2.2.2.2.2.1 ad.2.2.2.2.2.2.2).bind λbe=>if !be.2 then D (0,7)else if decide (be.1=10000)then D (0,5)else D (be.1,0)))
def xY(J:ax)(ab:ByteArray)(ag:List bz)(ak:List Int)(ap an al:Int)(am:List Int)(aD:List ByteArray)(a2:List (Int×Int))(bc:List (Int×cd))(ba:List di)(bm:List hi):Option (Int×List di):=if !(dP ba ab).isSome then(Ll J ⟨ag,ak⟩ ab).bind λZ=>D (Z.1,(d_ ba ab Z.1))else D (((dP ba ab).getD (0:Int)),ba)
def Sa(J:ax)(ad:List bt):(Int×cd)->Option cd:=J.b8 λ(b6,jl)=>if decide (b6<(ad.length:Int))then(xm ad.length ad.length b6).bind λ_=>aw (xn ad.length b6) λ_=>aw (te jl (0+b6.toNat) (ad.length-b6.toNat) 0 b6.toNat) λbe=>D (.inl ((aH (b6+((min b6.toNat (ad.length-b6.toNat):Nat):Int))),be))else(aw (gH ad.length jl) λbL=>D bL).map .inr
def Lm(J:ax)(U:List bt)(aj:Int):Option cd:=if decide (aj< 0)then aF else(CA (IntKind.u64.wrap ((U.length:Int))) (IntKind.u64.wrap (aj))).bind λZ=>if decide (0<Z.1)||decide (9223372036854775807<Z.2)then aF else(mk (aH (Z.2)) (⟨0,0⟩:bt)).bind λad=>aw (mD ad 0 ad.length U) λaA=>Sa J ad (((min U.length ad.length:Nat):Int),aA)
def Ga(J:ax)(ab:Int)(ag:bt)(ak:List bz)(ap:List Int)(an al am:Int)(aD:List Int)(a2:List ByteArray)(bc:List (Int×Int))(ba:List (Int×cd))(bm:List di)(bF:List hi):Option (cd×List di):=aw (aL a2 ab) λZ=>aw (xY J Z ak ap an al am aD a2 bc ba bm bF) λad=>aw (Lm J ([ag]:List bt) ad.1) λaA=>D (aA,ad.2)
def Ln(J:ax)(gV:tq)(ab:Int)(ag:List bz)(ak:List Int)(ap an al:Int)(am:List Int)(aD:List ByteArray)(a2 bc:Int)(ba:List (Int×Int))(bm:List (Int×cd))(bF:List di)(ch:List hi)(cS:List (Int×cd)):Option tp:=aw (aL ag ab) λZ=>aw (aL Z.a3 0) λad=>aw (gV ad ag ak ap an al am aD a2 bc ba bm bF ch cS) λaA=>aw (aL aA.1 0) λaN=>aw (R_ ⟨aN.fault,aN.n⟩) λa0=>if !decide (aN.fault=0)then(Ga J ab ⟨aN.fault,aN.n⟩ ag ak aA.2.1 aA.2.2.1 aA.2.2.2.1 am aD ba aA.2.2.2.2.1 aA.2.2.2.2.2.1 aA.2.2.2.2.2.2.1).bind λbe=>D (be.1,aA.2.1,aA.2.2.1,aA.2.2.2.1,aA.2.2.2.2.1,be.2,aA.2.2.2.2.2.2.1,aA.2.2.2.2.2.2.2)else if(decide (Z.kind=19)&&a0)||((decide (Z.kind=17)&&a0)||(decide (Z.kind=18)&& !a0))then(aL Z.a3 1).bind λbL=>aw (gV bL ag ak aA.2.1 aA.2.2.1 aA.2.2.2.1 am aD a2 bc ba aA.2.2.2.2.1 aA.2.2.2.2.2.1 aA.2.2.2.2.2.2.1 aA.2.2.2.2.2.2.2) λbJ=>D (bJ.1,bJ.2.1,bJ.2.2.1,bJ.2.2.2.1,bJ.2.2.2.2.1,bJ.2.2.2.2.2.1,bJ.2.2.2.2.2.2.1,bJ.2.2.2.2.2.2.2)else if decide (Z.kind=19)then(aL Z.a3 2).bind λci=>aw (gV ci ag ak aA.2.1 aA.2.2.1 aA.2.2.2.1 am aD a2 bc ba aA.2.2.2.2.1 aA.2.2.2.2.2.1 aA.2.2.2.2.2.2.1 aA.2.2.2.2.2.2.2) λcP=>D (cP.1,cP.2.1,cP.2.2.1,cP.2.2.2.1,cP.2.2.2.2.1,cP.2.2.2.2.2.1,cP.2.2.2.2.2.2.1,cP.2.2.2.2.2.2.2)else if a0 then(mc J 1).bind λdr=>D (([dr]:List bt),aA.2.1,aA.2.2.1,aA.2.2.2.1,aA.2.2.2.2.1,aA.2.2.2.2.2.1,aA.2.2.2.2.2.2.1,aA.2.2.2.2.2.2.2)else(mc J 0).bind λc5=>D (([c5]:List bt),aA.2.1,aA.2.2.1,aA.2.2.2.1,aA.2.2.2.2.1,aA.2.2.2.2.2.1,aA.2.2.2.2.2.2.1,aA.2.2.2.2.2.2.2)
def Sb(ab:Int)(ag:List bz)(ak:List Int)(ap an al:Int)(am:List Int)(aD:List ByteArray)(a2:List (Int×Int))(bc:List (Int×cd))(ba:List di)(bm:List hi):Option Int:=D ab
def Lo(J:ax)(Lp:JY)(ab:Int)(ag:List bz)(ak:List Int)(ap an al:Int)(am:List Int)(aD:List ByteArray)(a2:List (Int×Int))(bc:List (Int×cd))(ba:List di)(bm:List hi):Option ByteArray:=aw (aL ag ab) λZ=>if decide (Z.kind=30)then D (⟨#[105,110,116]⟩:ByteArray)else if decide (Z.kind=31)then D (⟨#[98,111,111,108]⟩:ByteArray)else if decide (Z.kind=32)then D Z.bi else(aL Z.a3 0).bind λad=>aw (Lp ad ag ak ap an al am aD a2 bc ba bm) λaA=>aw (nr (⟨#[91]⟩:ByteArray) aA) λaN=>aw (nr aN (⟨#[59,32]⟩:ByteArray)) λa0=>aw (nr a0 (Utf8.encode (IntKind.i32.wrap ((aH (48+Z.n)))))) λbe=>aw (nr be (⟨#[93]⟩:ByteArray)) λbL=>D bL
def Gb(J:ax):Nat->JY
  |0=>λ_ _ _ _ _ _ _ _ _ _ _ _=>aF
  |k+1=>Lo J (Gb J k)
def Gc(J:ax):JY:=Gb J J.n
def Lq(ab ag:Int)(ak:List bt)(ap an:Int)(al:List (Int×cd)):Option (cd×j6):=aw (hG ak 0 ag) λad=>aw (hG ak ag (ak.length:Int)) λaA=>D (aA,(d_ al ab ad))
def aaI(ad:List Int)(ak:List bz)(J:ax)(ap:List Int)(an al am:Int)(aD:List Int)(a2:List ByteArray)(bm:List (Int×Int))(bF:List (Int×cd))(cS:List hi)(bc ba:Int):(Int×cd×List di×j6)->Option (cd×j6×List di):=J.b8 λ(vY,jM,Lr,Sc)=>if decide (vY<(ad.length:Int))then(aL ad vY).bind λaA=>aw (aL ak aA) λaN=>aw (aL aN.a3 0) λa0=>aw (Gc J a0 ak ap an al am aD a2 bm bF Lr cS) λbe=>aw (xY J be ak ap an al am aD a2 bm bF Lr cS) λbL=>aw (Lq aA bL.1 jM bc ba Sc) λbJ=>D (.inl ((aH (vY+1)),bJ.1,bL.2,bJ.2))else(D (jM,Sc,Lr)).map .inr
def Ls(J:ax)(ab:Int)(ag:List bt)(ak:List bz)(ap:List Int)(an al am:Int)(aD:List Int)(a2:List ByteArray)(bc ba:Int)(bm:List (Int×Int))(bF:List (Int×cd))(ch:List di)(cS:List hi)(i9:List (Int×cd)):Option (cd×j6×List di):=aw (aL ak ab) λZ=>aw (hG Z.a3 0 (aH ((Z.a3.length:Int)- 2))) λad=>aaI ad ak J ap an al am aD a2 bm bF cS bc ba (0,ag,ch,i9)
def aaJ(ab:List bz)(ag:List Int)(ak ap an:Int)(al:List Int)(am:List ByteArray)(aD:List (Int×Int))(a2:List (Int×cd))(bc:List di)(ba:List hi):Option (Int×Int):=D ((aH (ap+1)),(fR an (aH (ap+1))))
def Sd(ab:List bz)(ag:List Int)(ak ap an:Int)(al:List Int)(am:List ByteArray)(aD:List (Int×Int))(a2:List (Int×cd))(bc:List di)(ba:List hi):Option Int:=D (aH (ap- 1))
def xZ(J:ax)(gV:tq)(ab ag:Int)(ak:List bt)(ap:List bz)(an:List Int)(al am aD:Int)(a2:List Int)(bc:List ByteArray)(ba:List (Int×Int))(bm:List (Int×cd))(bF:List di)(ch:List hi):Option (cd×Int×Int×Int×j6×List di×List hi):=aw (Sb ab ap an al am aD a2 bc ba bm bF ch) λZ=>(Ls J Z ak ap an al am aD a2 bc ab ag ba bm bF ch ([]:List (Int×cd))).bind (λad=>aw (aaJ ap an al am aD a2 bc ba bm ad.2.2 ch) λaN=>aw (aL ap ab) λbe=>aw (aL be.a3 (aH ((be.a3.length:Int)- 1))) λbL=>aw (gV bL ap an al aN.1 aN.2 a2 bc ab ag ba bm ad.2.2 ch ad.2.1) λbJ=>aw (Sd ap an bJ.2.1 bJ.2.2.1 bJ.2.2.2.1 a2 bc ba bJ.2.2.2.2.1 bJ.2.2.2.2.2.1 bJ.2.2.2.2.2.2.1) λci=>D (bJ.1,bJ.2.1,ci,bJ.2.2.2.1,bJ.2.2.2.2.1,bJ.2.2.2.2.2.1,bJ.2.2.2.2.2.2.1))
def Gd(ag:List bz)(aA:Int)(J:ax)(ab:Int)(ak:List Int)(ad:cd×Int×Int×Int×j6×List di×List hi×j6)(am:List Int)(aD:List ByteArray)(ba:List (Int×Int))(gV:tq):Int->Option tp:=λgE=>aw (aL ag aA) λaN=>if decide (aN.n<gE)then(Ga J ab ⟨4,0⟩ ag ak ad.2.1 ad.2.2.1 ad.2.2.2.1 am aD ba ad.2.2.2.2.1 ad.2.2.2.2.2.1 ad.2.2.2.2.2.2.1).bind λa0=>D (a0.1,ad.2.1,ad.2.2.1,ad.2.2.2.1,ad.2.2.2.2.1,a0.2,ad.2.2.2.2.2.2.1,ad.2.2.2.2.2.2.2)else(xZ J gV aA gE ad.1 ag ak ad.2.1 ad.2.2.1 ad.2.2.2.1 am aD ba ad.2.2.2.2.1 ad.2.2.2.2.2.1 ad.2.2.2.2.2.2.1).bind λbe=>D (be.1,be.2.1,be.2.2.1,be.2.2.2.1,be.2.2.2.2.1,be.2.2.2.2.2.1,be.2.2.2.2.2.2,ad.2.2.2.2.2.2.2)
def Se(J:ax)(gV:tq)(iL:uJ)(ab:Int)(ag:List bz)(ak:List Int)(ap an al:Int)(am:List Int)(aD:List ByteArray)(a2 bc:Int)(ba:List (Int×Int))(bm:List (Int×cd))(bF:List di)(ch:List hi)(cS:List (Int×cd)):Option tp:=aw (aL ag ab) λZ=>aw (iL Z.a3 ag ak ap an al am aD a2 bc ba bm bF ch cS) λad=>aw (aL am ab) λaA=>if decide (aA=a2)then Gd ag aA J ab ak ad am aD ba gV (aH (bc+1))else Gd ag aA J ab ak ad am aD ba gV 0
def Sf(J:ax)(ab:bf)(ag:ByteArray):Option (oZ ⊕ (List Int×Int×List bz×List Int×List Int×Nat×List di×dl)):=(sn J ab).bind (dQ (λZ=>if !decide (Z.2=0)then D (.inl ([],Z.2))else aF) (λad=>if !decide (ad.2.1=0)then D (.inl ([],ad.2.1))else if !(dP ad.2.2.2.2.2.2.1 ag).isSome then D (.inl ([],7))else(aL ad.2.2.1 ((dP ad.2.2.2.2.2.2.1 ag).getD (0:Int))).bind λaA=>D (.inr (aA.a3,0,ad.2.2.1,ad.2.2.2.1,ad.2.2.2.2.1,ad.2.2.2.2.2.1,ad.2.2.2.2.2.2.1,ad.2.2.2.2.2.2.2))))
def akz(J:ax)(Z:List Int×Int):(Int×Int)->Option sh:=J.b8 λ(gt,aaK)=>if decide (aaK<(Z.1.length:Int))then aF else(D (0,0,7)).map .inr
def aaL(ad:List Int×Int×List bz×List Int×List Int×Nat×List di×dl)(J:ax)(a6:ByteArray):(Int×Int)->Option sh:=J.b8 λ(i8,Lt)=>if decide (Lt<(ad.1.length:Int))then(aL ad.1 Lt).bind λaA=>aw (fK ad.2.2.2.2.2.1 ad.2.2.2.2.2.2.2 aA) λaN=>aw (zL J aN.1.2 ad.2.2.1 ad.2.2.2.1 ad.2.2.2.2.1 ad.2.2.2.2.2.1 ad.2.2.2.2.2.2.1 ad.2.2.2.2.2.2.2) λa0=>aw (aL ad.2.2.1 aA) λbe=>if decide (be.bi=a6)then(D (i8,a0.1,0)).map .inr else D (.inl ((aH (i8+a0.1)),(aH (Lt+1))))else(D (0,0,7)).map .inr
def Lu(J:ax)(U:bf)(aj a6:ByteArray):Option sh:=(Sf J U aj).bind (dQ (λZ=>if !decide (Z.2=0)then D (0,0,Z.2)else akz J Z (0,0)) (λad=>if !decide (ad.2.1=0)then D (0,0,ad.2.1)else aaL ad J a6 (0,0)))
def Ge(Z:bz)(gV:tq)(ag:List bz)(ak:List Int)(ap an al:Int)(am:List Int)(aD:List ByteArray)(a2 bc:Int)(ba:List (Int×Int))(bm:List (Int×cd))(bF:List di)(cS:List (Int×cd)):(List hi×Int×Int×Int)->Option tp:=λ(aaM,akA,aaN,Sg)=>aw (aL Z.a3 0) λad=>aw (gV ad ag ak ap an al am aD a2 bc ba bm bF aaM cS) λaA=>aw (hG aA.1 aaN (aA.1.length:Int)) λaN=>aw (uv aN 0 Sg Sg) λa0=>D (a0,aA.2.1,aA.2.2.1,aA.2.2.2.1,aA.2.2.2.2.1,aA.2.2.2.2.2.1,aA.2.2.2.2.2.2.1,aA.2.2.2.2.2.2.2)
def Lv(J:ax)(gV:tq)(ab:Int)(ag:List bz)(ak:List Int)(ap an al:Int)(am:List Int)(aD:List ByteArray)(a2 bc:Int)(ba:List (Int×Int))(bm:List (Int×cd))(bF:List di)(ch:List hi)(cS:List (Int×cd)):Option tp:=aw (aL ag ab) λZ=>if !(dP ch ab).isSome then(aL Z.a3 0).bind λbe=>aw (aL aD be) λbL=>aw (Lu J ⟨ag,ak⟩ bL Z.bi) λbJ=>Ge Z gV ag ak ap an al am aD a2 bc ba bm bF cS ((d_ ch ab (⟨bJ.1,bJ.2.1⟩:oi)),Z.kind,bJ.1,bJ.2.1)else Ge Z gV ag ak ap an al am aD a2 bc ba bm bF cS (ch,Z.kind,((dP ch ab).getD (⟨0,0⟩:oi)).YN,((dP ch ab).getD (⟨0,0⟩:oi)).zx)
def Sh(J:ax)(ad:List bt):(Int×cd)->Option (Nat×cd):=J.b8 λ(b6,jl)=>if decide (b6<(ad.length:Int))then(xm ad.length ad.length b6).bind λ_=>aw (xn ad.length b6) λ_=>aw (te jl (0+b6.toNat) (ad.length-b6.toNat) 0 b6.toNat) λbe=>D (.inl ((aH (b6+((min b6.toNat (ad.length-b6.toNat):Nat):Int))),be))else(D (ad.length,jl)).map .inr
def CT(J:ax)(ab:List bt)(ag:Int):Option (Nat×cd):=if decide (ag< 0)then aF else(CA (IntKind.u64.wrap ((ab.length:Int))) (IntKind.u64.wrap (ag))).bind λZ=>if decide (0<Z.1)||decide (9223372036854775807<Z.2)then aF else(mk (aH (Z.2)) (⟨0,0⟩:bt)).bind λad=>aw (mD ad 0 ad.length ab) λaA=>Sh J ad (((min ab.length ad.length:Nat):Int),aA)
def Lw(ab:List bt)(ag:Int):Option (cd×Int):=if decide (ag< 1)then aF else D (ab,ag)
def Si(ab:List bt)(ag:bt)(ak:Nat)(ap:Int)(an:List bt):Option (Int×cd):=if decide (ap=ag.n)then(mD an 0 ak ab).bind λZ=>D ((aH (ap+1)),Z)else D ((aH (ap+1)),an)
def aaO(J:ax)(ab:List bt)(ag:Int)(ak:bt)(ap:Nat):(Int×Int×cd)->Option (Int×cd):=J.b8 λ(dV,jM,uS)=>if decide (dV<(ab.length:Int))then(hG ab dV (ab.length:Int)).bind λZ=>aw (uv ab dV (aH (dV+(ih ag (Z.length:Int)))) (aH (dV+(ih ag (Z.length:Int))))) λad=>aw (Si ad ak ap jM uS) λaA=>D (.inl ((aH (dV+ag)),aA.1,aA.2))else(D (jM,uS)).map .inr
def Lx(J:ax)(ab:List bt)(ag:Int)(ak:bt)(ap:Nat)(an:Int)(al:List bt):Option (Int×cd):=aaO J ab ag ak ap (0,an,al)
def Ly(J:ax)(U:List bt)(aj:Int)(a6:bt):Option (cd×Int):=aw (xV J 1 8 ([aj,(U.length:Int)]:List Int)) λZ=>if !Z then D ([],4)else(ur (U.length:Int) aj).bind λad=>if !decide (ad=0)then D ([],4)else(uq (U.length:Int) aj).bind λaA=>if decide (6<(aH (aA)))then D ([],4)else(zT J ([a6]:List bt)).bind λaN=>if !aN then D ([],2)else(zT J U).bind λa0=>if !a0 then D ([],2)else(F_ 3).bind λbe=>aw (CT J ([be]:List bt) aj) λbL=>aw (xW J ([a6]:List bt)) λbJ=>if bJ.2 then(CT J ([⟨bJ.1.fault,bJ.1.n⟩]:List bt) aj).bind λci=>aw (gH ci.1 ci.2) λcP=>D (cP,0)else(Lw U aj).bind λdr=>(Lx J dr.1 dr.2 a6 bL.1 0 bL.2).bind (λc5=>aw (gH bL.1 c5.2) λet=>D (et,0))
def Lz(J:ax)(gV:tq)(iL:uJ)(ab:Int)(ag:List bz)(ak:List Int)(ap an al:Int)(am:List Int)(aD:List ByteArray)(a2 bc:Int)(ba:List (Int×Int))(bm:List (Int×cd))(bF:List di)(ch:List hi)(cS:List (Int×cd)):Option tp:=aw (aL ag ab) λZ=>aw (CQ Z.kind) λad=>if ad.2.2 then(Lh J iL ab ad.1 ad.2.1 ag ak (aH (ap+1)) an al am aD a2 bc ba bm bF ch cS).bind λaA=>D (aA.1,aA.2.1,aA.2.2.1,aA.2.2.2.1,aA.2.2.2.2.1,aA.2.2.2.2.2.1,aA.2.2.2.2.2.2.1,aA.2.2.2.2.2.2.2)else if decide (Z.kind=1)||decide (Z.kind=2)then(mc J Z.n).bind λaN=>D (([aN]:List bt),(aH (ap+1)),an,al,bm,bF,ch,cS)else if decide (Z.kind=3)then(Lj J gV ab ag ak (aH (ap+1)) an al am aD a2 bc ba bm bF ch cS).bind λa0=>D (a0.1,(aH (ap+1)),an,al,a0.2.1,a0.2.2.1,a0.2.2.2,cS)else if decide (Z.kind=19)||(decide (Z.kind=17)||decide (Z.kind=18))then(Ln J gV ab ag ak (aH (ap+1)) an al am aD a2 bc ba bm bF ch cS).bind λbe=>D (be.1,be.2.1,be.2.2.1,be.2.2.2.1,be.2.2.2.2.1,be.2.2.2.2.2.1,be.2.2.2.2.2.2.1,be.2.2.2.2.2.2.2)else if decide (Z.kind=20)then(aL Z.a3 0).bind λbL=>aw (gV bL ag ak (aH (ap+1)) an al am aD a2 bc ba bm bF ch cS) λbJ=>aw (aL Z.a3 1) λci=>aw (gV ci ag ak bJ.2.1 bJ.2.2.1 bJ.2.2.2.1 am aD a2 bc ba bJ.2.2.2.2.1 bJ.2.2.2.2.2.1 bJ.2.2.2.2.2.2.1 (d_ bJ.2.2.2.2.2.2.2 ab bJ.1)) λcP=>D (cP.1,cP.2.1,cP.2.2.1,cP.2.2.2.1,cP.2.2.2.2.1,cP.2.2.2.2.2.1,cP.2.2.2.2.2.2.1,cP.2.2.2.2.2.2.2)else if decide (Z.kind=21)then(Se J gV iL ab ag ak (aH (ap+1)) an al am aD a2 bc ba bm bF ch cS).bind λdr=>D (dr.1,dr.2.1,dr.2.2.1,dr.2.2.2.1,dr.2.2.2.2.1,dr.2.2.2.2.2.1,dr.2.2.2.2.2.2.1,dr.2.2.2.2.2.2.2)else if decide (Z.kind=22)then(Lv J gV ab ag ak (aH (ap+1)) an al am aD a2 bc ba bm bF ch cS).bind λc5=>D (c5.1,c5.2.1,c5.2.2.1,c5.2.2.2.1,c5.2.2.2.2.1,c5.2.2.2.2.2.1,c5.2.2.2.2.2.2.1,c5.2.2.2.2.2.2.2)else if decide (Z.kind=23)then(aL Z.a3 0).bind λeC=>aw (gV eC ag ak (aH (ap+1)) an al am aD a2 bc ba bm bF ch cS) λet=>aw (aL aD ab) λgk=>aw (xY J gk ag ak et.2.1 et.2.2.1 et.2.2.2.1 am aD ba et.2.2.2.2.1 et.2.2.2.2.2.1 et.2.2.2.2.2.2.1) λfo=>aw (aL Z.a3 1) λiI=>aw (gV iI ag ak et.2.1 et.2.2.1 et.2.2.2.1 am aD a2 bc ba et.2.2.2.2.1 fo.2 et.2.2.2.2.2.2.1 et.2.2.2.2.2.2.2) λh'=>aw (aL h'.1 0) λiJ=>aw (Ly J et.1 fo.1 iJ) λiK=>D (iK.1,h'.2.1,h'.2.2.1,h'.2.2.2.1,h'.2.2.2.2.1,h'.2.2.2.2.2.1,h'.2.2.2.2.2.2.1,h'.2.2.2.2.2.2.2)else(iL Z.a3 ag ak (aH (ap+1)) an al am aD a2 bc ba bm bF ch cS).bind λlQ=>D (lQ.1,lQ.2.1,lQ.2.2.1,lQ.2.2.2.1,lQ.2.2.2.2.1,lQ.2.2.2.2.2.1,lQ.2.2.2.2.2.2.1,lQ.2.2.2.2.2.2.2)
def LA(J:ax)(iL:uJ):Nat->tq
  |0=>λ_ _ _ _ _ _ _ _ _ _ _ _ _ _ _=>aF
  |k+1=>Lz J (LA J iL k) iL
def zU(J:ax)(iL:uJ):tq:=LA J iL J.n
def aaP(ab:List Int)(J:ax)(iL:uJ)(ag:List bz)(ak am:List Int)(aD:List ByteArray)(a2 bc:Int)(ba:List (Int×Int)):(cd×Int×Int×Int×Int×j6×List di×List hi×j6)->Option tp:=J.b8 λ(gt,kn,jL,hq,ix,oj,uS,Sj,Sk)=>if decide (kn<(ab.length:Int))then(aL ab kn).bind λZ=>aw (zU J iL Z ag ak jL hq ix am aD a2 bc ba oj uS Sj Sk) λad=>aw (eR gt ad.1) λaA=>D (.inl (aA,(aH (kn+1)),ad.2.1,ad.2.2.1,ad.2.2.2.1,ad.2.2.2.2.1,ad.2.2.2.2.2.1,ad.2.2.2.2.2.2.1,ad.2.2.2.2.2.2.2))else(D (gt,jL,hq,ix,oj,uS,Sj,Sk)).map .inr
def CU(J:ax)(iL:uJ)(ab:List Int)(ag:List bz)(ak:List Int)(ap an al:Int)(am:List Int)(aD:List ByteArray)(a2 bc:Int)(ba:List (Int×Int))(bm:List (Int×cd))(bF:List di)(ch:List hi)(cS:List (Int×cd)):Option tp:=aaP ab J iL ag ak am aD a2 bc ba ([],0,ap,an,al,bm,bF,ch,cS)
def CV(J:ax):Nat->uJ
  |0=>λ_ _ _ _ _ _ _ _ _ _ _ _ _ _ _=>aF
  |k+1=>CU J (CV J k)
def zV(J:ax):uJ:=CV J J.n
def x0(J:ax)(ab:Int)(ag:List bz)(ak:List Int)(ap an al:Int)(am:List Int)(aD:List ByteArray)(a2:List (Int×Int))(bc:List (Int×cd))(ba:List di)(bm:List hi):Option (cd×Int×Int×Int×j6×List di×List hi):=aw (aL ag ab) λZ=>if decide (Z.kind=40)then(mc J ((dP a2 ab).getD (0:Int))).bind λad=>D (([ad]:List bt),ap,an,al,bc,ba,bm)else(zQ Z.kind).bind λaA=>if aA then(zR).bind λaN=>aw (zV J Z.a3 ag ak ap an al am aD aN.1 aN.2.1 a2 bc ba bm aN.2.2) λa0=>D (a0.1,a0.2.1,a0.2.2.1,a0.2.2.2.1,a0.2.2.2.2.1,a0.2.2.2.2.2.1,a0.2.2.2.2.2.2.1)else D ([],ap,an,al,bc,ba,bm)
def pU(J:ax)(U:bf)(aj:Int)(a6:List Int):Option (cd×Int):=(o3 J U aj a6 []).bind (dQ (λZ=>if !decide (Z=0)then D ([],Z)else aF) (λad=>if !decide (ad.1=0)then D ([],ad.1)else(aL U.aX aj).bind λaA=>aw (x0 J aA ad.2.1 ad.2.2.1 ad.2.2.2.1 ad.2.2.2.2.1 ad.2.2.2.2.2.1 ad.2.2.2.2.2.2.1 ad.2.2.2.2.2.2.2.1 ad.2.2.2.2.2.2.2.2.1 ad.2.2.2.2.2.2.2.2.2.1 ad.2.2.2.2.2.2.2.2.2.2.1 ad.2.2.2.2.2.2.2.2.2.2.2) λaN=>D (aN.1,0)))
def o4(J:ax)(U:bf)(aj:Int)(a6:List Int):Option (Bool×Int):=(o3 J U aj a6 ([44]:List Int)).bind (dQ (λZ=>if !decide (Z=0)then D (aQ,Z)else aF) (λad=>if !decide (ad.1=0)then D (aQ,ad.1)else(aL U.aX aj).bind λaA=>aw (x0 J aA ad.2.1 ad.2.2.1 ad.2.2.2.1 ad.2.2.2.2.1 ad.2.2.2.2.2.1 ad.2.2.2.2.2.2.1 ad.2.2.2.2.2.2.2.1 ad.2.2.2.2.2.2.2.2.1 ad.2.2.2.2.2.2.2.2.2.1 ad.2.2.2.2.2.2.2.2.2.2.1 ad.2.2.2.2.2.2.2.2.2.2.2) λaN=>aw (aL aN.1 0) λa0=>aw (R_ a0) λbe=>D (be,0)))
def CW(U:Int):Option bt:=D ⟨0,U⟩
def Sl(ab ag ak:Int):Option Int:=D (aH (ak+ag))
def aaQ(ad:List Int)(ak:List bz)(J:ax)(ap:List Int)(an al am:Int)(aD:List Int)(a2:List ByteArray)(bc:List (Int×Int))(ba:List (Int×cd))(bF:List hi):(Int×Int×List di)->Option (Int×List di):=J.b8 λ(vY,jM,uR)=>if decide (vY<(ad.length:Int))then(aL ad vY).bind λaA=>aw (aL ak aA) λaN=>aw (aL aN.a3 0) λa0=>aw (Gc J a0 ak ap an al am aD a2 bc ba uR bF) λbe=>aw (xY J be ak ap an al am aD a2 bc ba uR bF) λbL=>aw (Sl aA bL.1 jM) λbJ=>D (.inl ((aH (vY+1)),bJ,bL.2))else(D (jM,uR)).map .inr
def Sm(J:ax)(ab ag:Int)(ak:List bz)(ap:List Int)(an al am:Int)(aD:List Int)(a2:List ByteArray)(bc:List (Int×Int))(ba:List (Int×cd))(bm:List di)(bF:List hi):Option (Int×List di):=aw (aL ak ab) λZ=>aw (hG Z.a3 0 (aH ((Z.a3.length:Int)- 2))) λad=>aaQ ad ak J ap an al am aD a2 bc ba bF (0,ag,bm)
def LB(J:ax)(ab:Int)(ag:List bz)(ak:List Int)(ap an al:Int)(am:List Int)(aD:List ByteArray)(a2:List (Int×Int))(bc:List (Int×cd))(ba:List di)(bm:List hi):Option (Int×List di):=aw (Sb ab ag ak ap an al am aD a2 bc ba bm) λZ=>(Sm J Z 0 ag ak ap an al am aD a2 bc ba bm).bind (λad=>D (ad.1,ad.2))
def Sn(J:ax)(U:bt):Option Int:=aw (vX J U) λZ=>if !Z then D 2 else D 0
def LC(J:ax)(U:bt):Option Bool:=aw (Sn J U) λZ=>D (!decide (Z=0))
def aaR(ab:List bt)(J:ax):Int->Option Int:=J.b8 λb6=>if decide (b6<(ab.length:Int))then(aL ab b6).bind λZ=>aw (LC J Z) λad=>if ad then(D b6).map .inr else D (.inl (aH (b6+1)))else(D (-1)).map .inr
def So(J:ax)(ab:List bt):Option Int:=aaR ab J 0
def LD(J:ax)(ab:List bt):Option Bool:=aw (So J ab) λZ=>D (decide (0<=Z))
def Gf(U:List bt):Option cd:=aw (eR ([]:List bt) U) λZ=>D Z
def m7(J:ax)(U:bf)(aj:Int)(a6:List bt)(dg:List Int):Option (cd×Int):=(o3 J U aj dg ([42]:List Int)).bind (dQ (λZ=>if !decide (Z=0)then D ([],Z)else aF) (λad=>if !decide (ad.1=0)then D ([],ad.1)else(aL U.aX aj).bind λaA=>aw (LB J aA ad.2.1 ad.2.2.1 ad.2.2.2.1 ad.2.2.2.2.1 ad.2.2.2.2.2.1 ad.2.2.2.2.2.2.1 ad.2.2.2.2.2.2.2.1 ad.2.2.2.2.2.2.2.2.1 ad.2.2.2.2.2.2.2.2.2.1 ad.2.2.2.2.2.2.2.2.2.2.1 ad.2.2.2.2.2.2.2.2.2.2.2) λaN=>if !decide ((a6.length:Int)=aN.1)then D ([],4)else(LD J a6).bind λa0=>if a0 then D ([],2)else(xZ J (zU J (zV J)) aA 0 a6 ad.2.1 ad.2.2.1 ad.2.2.2.1 ad.2.2.2.2.1 ad.2.2.2.2.2.1 ad.2.2.2.2.2.2.1 ad.2.2.2.2.2.2.2.1 ad.2.2.2.2.2.2.2.2.1 ad.2.2.2.2.2.2.2.2.2.1 aN.2 ad.2.2.2.2.2.2.2.2.2.2.2).bind λbe=>aw (Gf be.1) λbL=>D (bL,0)))
def tu(J:ax)(U:bf)(aj:Int)(a6:List Int):Option (Int×Int):=(o3 J U aj a6 []).bind (dQ (λZ=>if !decide (Z=0)then D (0,Z)else aF) (λad=>if !decide (ad.1=0)then D (0,ad.1)else(aL U.aX aj).bind λaA=>aw (x0 J aA ad.2.1 ad.2.2.1 ad.2.2.2.1 ad.2.2.2.2.1 ad.2.2.2.2.2.1 ad.2.2.2.2.2.2.1 ad.2.2.2.2.2.2.2.1 ad.2.2.2.2.2.2.2.2.1 ad.2.2.2.2.2.2.2.2.2.1 ad.2.2.2.2.2.2.2.2.2.2.1 ad.2.2.2.2.2.2.2.2.2.2.2) λaN=>D (aN.2.1,0)))
def tv(J:ax)(U:bf)(aj:Int)(a6:List Int):Option (Int×Int):=(o3 J U aj a6 []).bind (dQ (λZ=>if !decide (Z=0)then D (0,Z)else aF) (λad=>if !decide (ad.1=0)then D (0,ad.1)else(aL U.aX aj).bind λaA=>aw (x0 J aA ad.2.1 ad.2.2.1 ad.2.2.2.1 ad.2.2.2.2.1 ad.2.2.2.2.2.1 ad.2.2.2.2.2.2.1 ad.2.2.2.2.2.2.2.1 ad.2.2.2.2.2.2.2.2.1 ad.2.2.2.2.2.2.2.2.2.1 ad.2.2.2.2.2.2.2.2.2.2.1 ad.2.2.2.2.2.2.2.2.2.2.2) λaN=>D (aN.2.2.2.1,0)))
def Sp(U:bf)(J:ax)(ad:Int×List bz×List Int×Int×Int×Int×List Int×dl×oY×j6×List di×List hi)(aA:Bool×oY):(List cd×Int×Int×Int×Int×j6×List di×List hi)->Option (List cd×Int):=J.b8 λ(dV,rq,jL,hq,ix,uP,oj,uS)=>if decide (rq<(U.aX.length:Int))then(aL U.aX rq).bind λaN=>aw (x0 J aN ad.2.1 ad.2.2.1 jL hq ix ad.2.2.2.2.2.2.1 ad.2.2.2.2.2.2.2.1 aA.2 uP oj uS) λa0=>aw (eR dV ([a0.1]:List cd)) λbe=>D (.inl (be,(aH (rq+1)),a0.2.1,a0.2.2.1,a0.2.2.2.1,a0.2.2.2.2.1,a0.2.2.2.2.2.1,a0.2.2.2.2.2.2))else(D (dV,0)).map .inr
def vZ(J:ax)(U:bf)(aj:List Int):Option (List cd×Int):=(xT J U).bind (dQ (λZ=>if !decide (Z=0)then D ([],Z)else aF) (λad=>if !decide (ad.1=0)then D ([],ad.1)else(xU J (aH ((U.aX.length:Int)- 1)) aj ad.2.1 ad.2.2.1 ad.2.2.2.1 ad.2.2.2.2.1 ad.2.2.2.2.2.1 ad.2.2.2.2.2.2.1 ad.2.2.2.2.2.2.2.1 ad.2.2.2.2.2.2.2.2.1 ad.2.2.2.2.2.2.2.2.2.1 ad.2.2.2.2.2.2.2.2.2.2.1 ad.2.2.2.2.2.2.2.2.2.2.2).bind λaA=>if !aA.1 then D ([],3)else Sp U J ad aA ([],0,ad.2.2.2.1,ad.2.2.2.2.1,ad.2.2.2.2.2.1,ad.2.2.2.2.2.2.2.2.2.1,ad.2.2.2.2.2.2.2.2.2.2.1,ad.2.2.2.2.2.2.2.2.2.2.2)))
def aaS(J:ax)(U aj:List bt):Int->Option Bool:=J.b8 λcb=>if decide (cb<(U.length:Int))then(aL U cb).bind λZ=>aw (aL aj cb) λad=>if !(decide (Z=ad))then(D aQ).map .inr else D (.inl (aH (cb+1)))else(D ah).map .inr
def qu(J:ax)(U aj:List bt):Option Bool:=if !decide ((U.length:Int)=(aj.length:Int))then D aQ else aaS J U aj 0
def Sq(U:Int):Option bt:=D ⟨U,0⟩
def aaT(J:ax):Option Bool:=aw (ZL J (⟨#[99,104,111,111,115,101,32,100,58,32,49,46,46,54,59,32,99,104,111,111,115,101,32,101,58,32,48,46,46,50,59,32,102,117,110,32,102,40,110,58,32,105,110,116,41,58,32,105,110,116,32,117,112,116,111,32,50,32,61,32,105,102,32,110,32,61,61,32,48,32,116,104,101,110,32,48,32,101,108,115,101,32,49,32,43,32,102,40,110,32,45,32,49,41,59,32,108,101,116,32,113,32,61,32,100,32,47,32,101,59,32,111,98,115,101,114,118,101,32,111,58,32,113,32,62,32,50,32,111,114,32,101,32,61,61,32,48,59,32,108,101,116,32,114,32,61,32,91,102,40,100,41,44,32,55,93,91,101,93,59]⟩:ByteArray)) λZ=>if !Z.2 then D aQ else(pU J ⟨Z.1.nodes,Z.1.aX⟩ 3 ([5,2]:List Int)).bind λad=>aw (o4 J ⟨Z.1.nodes,Z.1.aX⟩ 4 ([5,0]:List Int)) λaA=>aw (o4 J ⟨Z.1.nodes,Z.1.aX⟩ 4 ([3,1]:List Int)) λaN=>aw (CW 2) λa0=>aw (m7 J ⟨Z.1.nodes,Z.1.aX⟩ 2 ([a0]:List bt) ([3,1]:List Int)) λbe=>aw (CW 3) λbL=>aw (m7 J ⟨Z.1.nodes,Z.1.aX⟩ 2 ([bL]:List bt) ([3,1]:List Int)) λbJ=>aw (pU J ⟨Z.1.nodes,Z.1.aX⟩ 5 ([3,2]:List Int)) λci=>aw (tu J ⟨Z.1.nodes,Z.1.aX⟩ 4 ([1,1]:List Int)) λcP=>aw (tv J ⟨Z.1.nodes,Z.1.aX⟩ 5 ([6,1]:List Int)) λdr=>aw (vZ J ⟨Z.1.nodes,Z.1.aX⟩ ([3,1]:List Int)) λc5=>aw (pU J ⟨Z.1.nodes,Z.1.aX⟩ 0 ([3,1]:List Int)) λeC=>if(((((((((!decide (ad.2=0)|| !decide (aA.2=0))|| !decide (aN.2=0))|| !decide (be.2=0))|| !decide (bJ.2=0))|| !decide (ci.2=0))|| !decide (cP.2=0))|| !decide (dr.2=0))|| !decide (c5.2=0))|| !decide (eC.2=3))|| !decide ((c5.1.length:Int)=6)then D aQ else(CW 2).bind λet=>aw (qu J ad.1 ([et]:List bt)) λgk=>if gk then if !aA.1 then if aN.1 then(CW 2).bind λfo=>aw (qu J be.1 ([fo]:List bt)) λiI=>if iI then(Sq 4).bind λh'=>aw (qu J bJ.1 ([h']:List bt)) λiJ=>if iJ then(Sq 3).bind λiK=>aw (qu J ci.1 ([iK]:List bt)) λlQ=>if lQ then if decide (cP.1=7)then if decide (dr.1=3)then(aL c5.1 2).bind λo5=>if decide ((o5.length:Int)=0)then(aL c5.1 5).bind λzW=>aw (CW 7) λzX=>aw (qu J zW ([zX]:List bt)) λzY=>D zY else D aQ else D aQ else D aQ else D aQ else D aQ else D aQ else D aQ else D aQ else D aQ
def k5:Option Bool:=D ah
def aaU(J:ax)(U:bf)(Z:List Int):(Int×List bz)->Option bf:=J.b8 λ(dV,jM)=>if decide (dV<(U.nodes.length:Int))then(aL U.nodes dV).bind λad=>aw (eR ([]:List Int) ad.a3) λaA=>aw (eR jM ([⟨ad.kind,ad.bi,ad.n,aA,ad.dx⟩]:List bz)) λaN=>D (.inl ((aH (dV+1)),aN))else(D ⟨jM,Z⟩).map .inr
def x1(J:ax)(U:bf):Option bf:=aw (eR ([]:List Int) U.aX) λZ=>aaU J U Z (0,[])
def aaV(J:ax)(U aj:List Int):Int->Option Bool:=J.b8 λcb=>if decide (cb<(U.length:Int))then(aL U cb).bind λZ=>aw (aL aj cb) λad=>if !decide (Z=ad)then(D aQ).map .inr else D (.inl (aH (cb+1)))else(D ah).map .inr
def Gg(J:ax)(U aj:List Int):Option Bool:=if !decide ((U.length:Int)=(aj.length:Int))then D aQ else aaV J U aj 0
def aaW(U aj:bf)(J:ax):Int->Option Bool:=J.b8 λcb=>if decide (cb<(U.nodes.length:Int))then(aL U.nodes cb).bind λad=>aw (aL aj.nodes cb) λaA=>if((!decide (ad.kind=aA.kind)|| !decide (ad.bi=aA.bi))|| !decide (ad.n=aA.n))|| !decide (ad.dx=aA.dx)then(D aQ).map .inr else(Gg J ad.a3 aA.a3).bind λaN=>if !aN then(D aQ).map .inr else D (.inl (aH (cb+1)))else(D ah).map .inr
def uT(J:ax)(U aj:bf):Option Bool:=if !decide ((U.nodes.length:Int)=(aj.nodes.length:Int))then D aQ else(Gg J U.aX aj.aX).bind λZ=>if !Z then D aQ else aaW U aj J 0
def aaX(J:ax)(U aj:List Int):Int->Option Bool:=J.b8 λcb=>if decide (cb<(U.length:Int))then(aL U cb).bind λZ=>aw (aL aj cb) λad=>if !decide (Z=ad)then(D aQ).map .inr else D (.inl (aH (cb+1)))else(D ah).map .inr
def uU(J:ax)(U aj:List Int):Option Bool:=if !decide ((U.length:Int)=(aj.length:Int))then D aQ else aaX J U aj 0
def aaY(J:ax)(Z:bz)(eX:List Int)(dV:Int):(Int×Int)->Option (oZ ⊕ List Int):=J.b8 λ(i8,m5)=>if decide (0<=m5)then(aL Z.a3 m5).bind λad=>if !decide (ad=i8)||decide (i8< 0)then((D []).map .inr).map .inr else(aL eX i8).bind λaA=>D (.inl ((aH (i8-aA)),(aH (m5- 1))))else(aw (eR eX ([(aH (dV-i8))]:List Int)) λaN=>D (.inl (aN,(aH (dV+1))))).map .inr
def aaZ(J:ax)(U:bf):oZ->Option (List Int):=J.b8 λ(eX,dV)=>if decide (dV<(U.nodes.length:Int))then(aL U.nodes dV).bind λZ=>aaY J Z eX dV ((aH (dV- 1)),(aH ((Z.a3.length:Int)- 1)))else(D eX).map .inr
def LF(J:ax)(U:bf):Option (List Int):=aaZ J U (([]:List Int),0)
def v3(U:Int):Option Bool:=D ((decide (1<=U)&&decide (U<=26))&& !decide (U=25))
def v4(U:Int):Option Bool:=D (decide (30<=U)&&decide (U<=33))
def LG(U:Int):Option Bool:=D (decide (40<=U)&&decide (U<=46))
def zZ(U:Int):Option Bool:=if decide (U=3)||(decide (U=20)||(decide (U=21)||(decide (U=22)||(decide (U=24)||(decide (U=25)||(decide (U=32)||(decide (U=34)||(decide (U=40)||(decide (U=41)||(decide (U=42)||(decide (U=43)||(decide (U=44)||decide (U=45)))))))))))))then D ah else D aQ
def LH(U:Int):Option Bool:=D (decide (97<=U)&&decide (U<=122))
def Gh(U:Int):Option Bool:=D (decide (48<=U)&&decide (U<=57))
def CX:Option dl:=D ([(⟨#[97,110,100]⟩:ByteArray),(⟨#[97,115,107]⟩:ByteArray),(⟨#[98,108,97,109,101]⟩:ByteArray),(⟨#[98,111,111,108]⟩:ByteArray),(⟨#[98,111,117,110,100,115]⟩:ByteArray),(⟨#[99,104,111,111,115,101]⟩:ByteArray),(⟨#[99,111,117,110,116]⟩:ByteArray),(⟨#[101,108,115,101]⟩:ByteArray),(⟨#[102,97,108,115,101]⟩:ByteArray),(⟨#[102,117,110]⟩:ByteArray),(⟨#[105,102]⟩:ByteArray),(⟨#[105,110]⟩:ByteArray),(⟨#[105,110,116]⟩:ByteArray),(⟨#[108,101,116]⟩:ByteArray),(⟨#[108,111,111,107]⟩:ByteArray),(⟨#[109,97,121]⟩:ByteArray),(⟨#[109,117,115,116]⟩:ByteArray),(⟨#[110,111,116]⟩:ByteArray),(⟨#[111,98,115,101,114,118,101]⟩:ByteArray),(⟨#[111,114]⟩:ByteArray),(⟨#[114,101,116,114,97,99,116]⟩:ByteArray),(⟨#[116,104,101,110]⟩:ByteArray),(⟨#[116,114,117,101]⟩:ByteArray),(⟨#[116,121,112,101]⟩:ByteArray),(⟨#[117,112,116,111]⟩:ByteArray),(⟨#[118,97,108,117,101,115]⟩:ByteArray),(⟨#[119,104,121]⟩:ByteArray)]:List ByteArray)
def aa0(J:ax)(U:List ByteArray)(aj:ByteArray):Int->Option Bool:=J.b8 λcb=>if decide (cb<(U.length:Int))then(aL U cb).bind λZ=>if decide (Z=aj)then(D ah).map .inr else D (.inl (aH (cb+1)))else(D aQ).map .inr
def LI(J:ax)(U:List ByteArray)(aj:ByteArray):Option Bool:=aa0 J U aj 0
def z0:Option dl:=D ([(⟨#[61,61]⟩:ByteArray),(⟨#[33,61]⟩:ByteArray),(⟨#[60,61]⟩:ByteArray),(⟨#[62,61]⟩:ByteArray),(⟨#[46,46]⟩:ByteArray),(⟨#[43]⟩:ByteArray),(⟨#[45]⟩:ByteArray),(⟨#[42]⟩:ByteArray),(⟨#[47]⟩:ByteArray),(⟨#[37]⟩:ByteArray),(⟨#[60]⟩:ByteArray),(⟨#[62]⟩:ByteArray),(⟨#[61]⟩:ByteArray),(⟨#[40]⟩:ByteArray),(⟨#[41]⟩:ByteArray),(⟨#[91]⟩:ByteArray),(⟨#[93]⟩:ByteArray),(⟨#[123]⟩:ByteArray),(⟨#[125]⟩:ByteArray),(⟨#[44]⟩:ByteArray),(⟨#[58]⟩:ByteArray),(⟨#[59]⟩:ByteArray),(⟨#[46]⟩:ByteArray)]:List ByteArray)
def Gi(U:ByteArray)(aj:Int)(J:ax):Int->Option eb:=λcb=>aw (hg U aj cb) λaA=>aw (CX) λaN=>aw (LI J aN aA) λa0=>if a0 then D ⟨3,aA,aj⟩else if decide ((aA.size:Int)<=12)then D ⟨1,aA,aj⟩else D (⟨0,(⟨#[]⟩:ByteArray),0⟩)
def Gj(U:ByteArray)(aj:Int):Int->Option eb:=λj7=>aw (hg U aj j7) λc5=>if decide ((c5.size:Int)=1)then D ⟨2,c5,aj⟩else if decide ((c5.size:Int)<=4)then(gB c5 0).bind λeC=>if !decide (eC=48)then D ⟨2,c5,aj⟩else D (⟨0,(⟨#[]⟩:ByteArray),0⟩)else D (⟨0,(⟨#[]⟩:ByteArray),0⟩)
def aa1(J:ax)(fo:dl)(aj:Int)(U:ByteArray):Int->Option eb:=J.b8 λz1=>if decide (z1<(fo.length:Int))then(aL fo z1).bind λiI=>if decide ((aH (aj+(iI.size:Int)))<=(U.size:Int))then(hg U aj (aH (aj+(iI.size:Int)))).bind λh'=>aw (aL fo z1) λiJ=>if decide (h'=iJ)then(aL fo z1).bind λiK=>(D ⟨4,iK,aj⟩).map .inr else D (.inl (aH (z1+1)))else D (.inl (aH (z1+1)))else(D (⟨0,(⟨#[]⟩:ByteArray),0⟩)).map .inr
def Sr(J:ax)(U:ByteArray)(aj:Int):Int->Option eb:=J.b8 λi_=>if decide (i_<(U.size:Int))then(gB U i_).bind λbe=>aw (LH be) λbL=>if bL then D (.inl (aH (i_+1)))else(gB U i_).bind λbJ=>aw (Gh bJ) λci=>if ci then D (.inl (aH (i_+1)))else(Gi U aj J i_).map .inr else(Gi U aj J i_).map .inr
def aa2(J:ax)(U:ByteArray)(aj:Int):Int->Option eb:=J.b8 λpV=>if decide (pV<(U.size:Int))then(gB U pV).bind λet=>aw (Gh et) λgk=>if gk then D (.inl (aH (pV+1)))else(Gj U aj pV).map .inr else(Gj U aj pV).map .inr
def Ss(J:ax)(U:ByteArray)(aj:Int):Option eb:=if decide ((U.size:Int)<=aj)then D (⟨0,(⟨#[]⟩:ByteArray),0⟩)else(gB U aj).bind λZ=>aw (LH Z) λad=>if ad then Sr J U aj aj else(gB U aj).bind λcP=>aw (Gh cP) λdr=>if dr then aa2 J U aj aj else(z0).bind λfo=>aa1 J fo aj U 0
def St(J:ax)(U:ByteArray):Option (Int×Int):=aw (Ss J U 0) λZ=>if !decide (Z.kind=0)&&decide (Z.bi=U)then D (Z.kind,0)else D (0,4)
def z2(J:ax)(U:ByteArray):Option Bool:=aw (St J U) λZ=>D (decide (Z.2=0)&&decide (Z.1=1))
def jB(U:bz):Option Bool:=if decide (U.kind=1)||(decide (U.kind=2)||(decide (U.kind=3)||(decide (U.kind=30)||(decide (U.kind=31)||(decide (U.kind=32)||decide (U.kind=45))))))then D (decide ((U.a3.length:Int)=0))else if decide (U.kind=4)||(decide (U.kind=5)||(decide (U.kind=22)||(decide (U.kind=25)||(decide (U.kind=33)||(decide (U.kind=34)||(decide (U.kind=43)||decide (U.kind=44)))))))then D (decide ((U.a3.length:Int)=1))else if decide (U.kind=19)then D (decide ((U.a3.length:Int)=3))else if decide (U.kind=21)then D ah else if decide (U.kind=24)||(decide (U.kind=26)||decide (U.kind=41))then D (decide (1<=(U.a3.length:Int)))else if decide (U.kind=42)then D (decide (2<=(U.a3.length:Int)))else if decide (U.kind=46)then if decide (U.n=7)then D (decide ((U.a3.length:Int)=0))else if decide (U.n=8)then D (decide (1<=(U.a3.length:Int)))else D (decide ((U.a3.length:Int)=1))else D (decide ((U.a3.length:Int)=2))
def m8(U:bz):Option Bool:=if decide (U.kind=1)then D (decide ((-9999)<=U.n)&&decide (U.n<=9999))else if decide (U.kind=2)then D (decide (U.n=0)||decide (U.n=1))else if decide (U.kind=42)then D (decide (0<=U.n))else if decide (U.kind=33)then D ah else if decide (U.kind=46)then D (decide (1<=U.n)&&decide (U.n<=8))else D (decide (U.n=0))
def qv(U:bz)(aj a6:Int):Option Bool:=if decide (U.kind=24)then D (decide (a6=25))else if decide (U.kind=41)then D (decide (a6=34))else if decide (U.kind=34)||decide (U.kind=33)then(v4 a6).bind λZ=>D Z else if decide (U.kind=40)then D (decide (a6=1))else if decide (U.kind=42)then if decide (aj=(aH ((U.a3.length:Int)- 1)))then(v3 a6).bind λad=>D ad else if decide (aj=(aH ((U.a3.length:Int)- 2)))then(v4 a6).bind λaA=>D aA else D (decide (a6=34))else(v3 a6).bind λaN=>D aN
def aa3(J:ax)(Z:bz)(U:bf)(o1:Int):Int->Option Bool:=J.b8 λk2=>if decide (k2<(Z.a3.length:Int))then(aL Z.a3 k2).bind λad=>aw (aL U.nodes ad) λaA=>aw (qv ⟨o1,Z.bi,Z.n,Z.a3,Z.dx⟩ k2 aA.kind) λaN=>if !aN then(D aQ).map .inr else if decide (aA.kind=1)then if decide (aA.n< 0)then if !decide (o1=40)then(D aQ).map .inr else D (.inl (aH (k2+1)))else D (.inl (aH (k2+1)))else D (.inl (aH (k2+1)))else(D ah).map .inr
def CY(J:ax)(Z:bz)(U:bf):Int->Option Bool:=λo1=>aa3 J Z U o1 0
def CZ(J:ax)(Z:bz)(U:bf):Int->Option Bool:=λjd=>aw (zZ jd) λa0=>aw (z2 J Z.bi) λbe=>if !(a0==be)then D aQ else(zZ jd).bind λbL=>if !bL then if !decide (Z.bi=(⟨#[]⟩:ByteArray))then D aQ else(jB ⟨jd,Z.bi,Z.n,Z.a3,Z.dx⟩).bind λbJ=>if !bJ then D aQ else(m8 ⟨jd,Z.bi,Z.n,Z.a3,Z.dx⟩).bind λci=>if !ci then D aQ else if decide (Z.dx< 0)then D aQ else if decide (2000<Z.dx)then D aQ else CY J Z U jd else(jB ⟨jd,Z.bi,Z.n,Z.a3,Z.dx⟩).bind λcP=>if !cP then D aQ else(m8 ⟨jd,Z.bi,Z.n,Z.a3,Z.dx⟩).bind λdr=>if !dr then D aQ else if decide (Z.dx< 0)then D aQ else if decide (2000<Z.dx)then D aQ else CY J Z U jd
def LJ(J:ax)(U:bf)(aj:Int):Option Bool:=aw (aL U.nodes aj) λZ=>aw (v3 Z.kind) λc5=>if !c5&& !decide (Z.kind=25)then(v4 Z.kind).bind λeC=>if !eC&& !decide (Z.kind=34)then(LG Z.kind).bind λet=>if !et then D aQ else CZ J Z U Z.kind else CZ J Z U Z.kind else CZ J Z U Z.kind
def aa4(J:ax)(U:bf)(Z:List Int):(Int×Int)->Option Bool:=J.b8 λ(i_,i8)=>if decide (0<=i8)then if decide (i_< 0)then(D aQ).map .inr else(aL U.aX i8).bind λad=>if !decide (ad=i_)then(D aQ).map .inr else(aL U.nodes i_).bind λaA=>aw (LG aA.kind) λaN=>if !aN then(D aQ).map .inr else(aL Z i_).bind λa0=>D (.inl ((aH (i_-a0)),(aH (i8- 1))))else(D (decide (i_=-1))).map .inr
def Su(U:bf)(J:ax)(Z:List Int):Unit->Option Bool:=λ_=>aa4 J U Z ((aH ((U.nodes.length:Int)- 1)),(aH ((U.aX.length:Int)- 1)))
def aa5(U:bf)(J:ax)(Z:List Int):Int->Option Bool:=J.b8 λro=>if decide (ro<(U.nodes.length:Int))then(LJ J U ro).bind λbe=>if !be then(D aQ).map .inr else D (.inl (aH (ro+1)))else(Su U J Z ()).map .inr
def LK(J:ax)(U:bf):Option Bool:=aw (LF J U) λZ=>if !decide ((Z.length:Int)=(U.nodes.length:Int))then D aQ else aa5 U J Z 0
def x2(J:ax)(U:bf)(dV:Int)(Z:List Int):mH->Option (mH ⊕ List Int):=J.b8 λ(i_,pS)=>aw (aL U.nodes dV) λaN=>if decide (i_<(aN.a3.length:Int))then(aL U.nodes dV).bind λa0=>aw (aL a0.a3 i_) λbe=>aw (fK Z.length pS dV) λbL=>aw (fK Z.length pS be) λbJ=>D (.inl ((aH (i_+1)),(pS.set bJ.1.1 (aH (bL.1.2+1)))))else(D (.inl ((aH (dV- 1)),pS))).map .inr
def Sv(J:ax)(Z:List Int)(U:bf):mH->Option (List Int):=J.b8 λ(dV,jl)=>if decide (0<=dV)then(fK Z.length jl dV).bind λad=>aw (fK Z.length jl dV) λaA=>x2 J U dV Z (0,(jl.set aA.1.1 (fR ad.1.2 1)))else(aw (gH Z.length jl) λci=>D ci).map .inr
def C0(J:ax)(U:bf):Option (List Int):=aw (mk (U.nodes.length:Int) (0:Int)) λZ=>Sv J Z U ((aH ((U.nodes.length:Int)- 1)),Z)
def Sw(J:ax)(Z:List Int):(Int×Int)->Option Int:=J.b8 λ(eX,cb)=>if decide (cb<(Z.length:Int))then(aL Z cb).bind λad=>D (.inl ((fR eX ad),(aH (cb+1))))else(D eX).map .inr
def z3(J:ax)(U:bf):Option Int:=aw (C0 J U) λZ=>Sw J Z (0,0)
def rs(U:bf)(aj:Int):Option Bool:=aw (aL U.nodes aj) λZ=>if decide (Z.kind=40)then(aL Z.a3 0).bind λad=>aw (aL U.nodes ad) λaA=>aw (aL Z.a3 1) λaN=>aw (aL U.nodes aN) λa0=>D (decide (aA.n<=a0.n)&&(decide ((aH ((aH (a0.n-aA.n))+1))<=12)))else if decide (Z.kind=41)then D (decide ((Z.a3.length:Int)<=6))else if decide (Z.kind=42)then D ((decide ((aH ((Z.a3.length:Int)- 2))<=4))&&decide (Z.n<=8))else if decide (Z.kind=33)then D (decide (1<=Z.n)&&decide (Z.n<=6))else if decide (Z.kind=26)then D (decide ((Z.a3.length:Int)<=6))else if decide (Z.kind=46)then D (decide ((Z.a3.length:Int)<=4))else D ah
def Sx(J:ax)(U:bf):Int->Option Int:=J.b8 λeX=>if decide (eX<(U.nodes.length:Int))then(rs U eX).bind λaA=>if !aA then(D 3).map .inr else D (.inl (aH (eX+1)))else(D 0).map .inr
def C1(J:ax)(U:bf):Option Int:=if decide (800<(U.nodes.length:Int))||decide (60<(U.aX.length:Int))then D 5 else(LK J U).bind λZ=>if !Z then D 4 else(z3 J U).bind λad=>if decide (30<ad)then D 5 else Sx J U 0
def aa6(J:ax)(U:List Int)(aj:Int):Int->Option Bool:=J.b8 λcb=>if decide (cb<(U.length:Int))then(aL U cb).bind λZ=>if decide (Z=aj)then(D ah).map .inr else D (.inl (aH (cb+1)))else(D aQ).map .inr
def z4(J:ax)(U:List Int)(aj:Int):Option Bool:=aa6 J U aj 0
def Sy(J:ax)(U:bf)(aj:Int):Option Bool:=aw (z4 J U.aX aj) λZ=>D Z
def aa7(U:bf)(J:ax)(aj:Int):Int->Option Int:=J.b8 λcb=>if decide (cb<(U.nodes.length:Int))then(aL U.nodes cb).bind λZ=>aw (z4 J Z.a3 aj) λad=>if ad then(D cb).map .inr else D (.inl (aH (cb+1)))else(D (-1)).map .inr
def x3(J:ax)(U:bf)(aj:Int):Option Int:=aa7 U J aj (aH (aj+1))
def C2(J:ax)(U:bf)(aj:Int):Option Bool:=aw (aL U.nodes aj) λZ=>if decide (Z.kind=40)||(decide (Z.kind=41)||(decide (Z.kind=42)||(decide (Z.kind=43)||(decide (Z.kind=44)||decide (Z.kind=20)))))then D ah else if decide (Z.kind=34)then(x3 J U aj).bind λad=>aw (aL U.nodes ad) λaA=>D (decide (aA.kind=42))else D aQ
def Gk(U:bf)(aj:Int):Option Bool:=aw (aL U.nodes aj) λZ=>if decide (Z.kind=3)||(decide (Z.kind=21)||(decide (Z.kind=24)||(decide (Z.kind=32)||decide (Z.kind=45))))then D ah else D aQ
def aa8(U:bf)(gt:Int)(J:ax):oZ->Option (List Int):=J.b8 λ(i_,rn)=>if decide (rn<(U.aX.length:Int))then(aL U.aX rn).bind λZ=>if decide (Z<gt)then(aL U.aX rn).bind λad=>aw (C2 J U ad) λaA=>if aA then(aL U.aX rn).bind λaN=>aw (eR i_ ([aN]:List Int)) λa0=>D (.inl (a0,(aH (rn+1))))else D (.inl (i_,(aH (rn+1))))else D (.inl (i_,(aH (rn+1))))else(D i_).map .inr
def C3(J:ax)(U:bf)(k4:Int):List Int->Option ((List Int×Int×Int) ⊕ List Int):=λLL=>aw (x3 J U k4) λbJ=>D (.inl (LL,k4,bJ))
def Sz(U:bf)(J:ax):oZ->Option (List Int):=λ(cb,gt)=>aa8 U gt J (cb,0)
def z5(U:bf)(k4:Int)(bL:bz)(k2:Int)(J:ax):List Int->Option ((List Int×Int×Int) ⊕ List Int):=λpV=>aw (aL U.nodes k4) λci=>if decide (ci.kind=42)then(aL bL.a3 (aH ((bL.a3.length:Int)- 1))).bind λcP=>if decide (cP=k2)then(hG bL.a3 0 (aH ((bL.a3.length:Int)- 2))).bind λdr=>aw (eR pV dr) λc5=>aw (eR c5 ([k4]:List Int)) λeC=>C3 J U k4 eC else C3 J U k4 pV else C3 J U k4 pV
def aa9(J:ax)(U:bf):(List Int×Int×Int)->Option (List Int):=J.b8 λ(j7,k2,k4)=>if decide (0<=k4)then(aL U.nodes k4).bind λbL=>aw (aL U.nodes k4) λet=>if decide (et.kind=20)then(aL bL.a3 1).bind λgk=>if decide (gk=k2)then(eR j7 ([k4]:List Int)).bind λfo=>z5 U k4 bL k2 J fo else z5 U k4 bL k2 J j7 else z5 U k4 bL k2 J j7 else(Sz U J (j7,k2)).map .inr
def LM(J:ax)(U:bf)(aj:Int):Option (List Int):=aw (x3 J U aj) λbe=>aa9 J U (([]:List Int),aj,be)
def aba(J:ax)(Z:List Int)(U:bf)(a6:ByteArray):Int->Option Int:=J.b8 λb6=>if decide (b6<(Z.length:Int))then(aL Z b6).bind λad=>aw (aL U.nodes ad) λaA=>if decide (aA.bi=a6)then(aL Z b6).bind λaN=>(D aN).map .inr else D (.inl (aH (b6+1)))else(D (-1)).map .inr
def LN(J:ax)(U:bf)(aj:Int)(a6:ByteArray):Option Int:=aw (LM J U aj) λZ=>aba J Z U a6 0
def LO(U aj:Int):Option Bool:=if decide (U=3)then D (((decide (aj=40)||decide (aj=43))||decide (aj=20))||decide (aj=34))else if decide (U=21)then D (decide (aj=42))else if decide (U=45)then D (decide (aj=44))else D (decide (aj=41))
def x4(J:ax)(U:bf)(aj:Int):Option Int:=aw (Gk U aj) λZ=>if !Z then D (-1)else(aL U.nodes aj).bind λad=>aw (LN J U aj ad.bi) λaA=>if decide (aA< 0)then D (-1)else(aL U.nodes aj).bind λaN=>aw (aL U.nodes aA) λa0=>aw (LO aN.kind a0.kind) λbe=>if !be then D (-1)else D aA
def abb(a6:Int)(J:ax)(U:bf):Int->Option Bool:=J.b8 λhT=>if decide (0<=hT)then if decide (hT=a6)then(D ah).map .inr else(x3 J U hT).bind λZ=>D (.inl Z)else(D aQ).map .inr
def LP(J:ax)(U:bf)(aj a6:Int):Option Bool:=abb a6 J U aj
def akB(U:bf)(aj:Int)(J:ax)(aA:Int):Int->Option Int:=J.b8 λuK=>if decide (uK<(U.aX.length:Int))then(aL U.aX uK).bind λbe=>if decide (be<aj)then(aL U.aX uK).bind λbL=>aw (aL U.nodes bL) λbJ=>if decide (bJ.kind=45)then(aL U.aX uK).bind λci=>aw (x4 J U ci) λcP=>if decide (cP=aA)then(D 9).map .inr else D (.inl (aH (uK+1)))else D (.inl (aH (uK+1)))else(D 0).map .inr else(D 0).map .inr
def akC(U:bf)(aj:Int)(J:ax)(aA:Int):Int->Option Int:=J.b8 λl9=>if decide (l9<(U.aX.length:Int))then(aL U.aX l9).bind λdr=>if decide (dr<aj)then(aL U.aX l9).bind λc5=>aw (aL U.nodes c5) λeC=>if decide (eC.kind=45)then(aL U.aX l9).bind λet=>aw (x4 J U et) λgk=>if decide (gk=aA)then(D 9).map .inr else D (.inl (aH (l9+1)))else D (.inl (aH (l9+1)))else(D 0).map .inr else(D 0).map .inr
def abc(U:bf)(aj:Int)(J:ax)(aA:Int):Int->Option Int:=J.b8 λz6=>if decide (z6<(U.aX.length:Int))then(aL U.aX z6).bind λfo=>if decide (fo<aj)then(aL U.aX z6).bind λiI=>aw (aL U.nodes iI) λh'=>if decide (h'.kind=45)then(aL U.aX z6).bind λiJ=>aw (x4 J U iJ) λiK=>if decide (iK=aA)then(D 9).map .inr else D (.inl (aH (z6+1)))else D (.inl (aH (z6+1)))else(D 0).map .inr else(D 0).map .inr
def C4(U:bf)(aj:Int)(J:ax):Int->Option Int:=λo1=>aw (Gk U aj) λad=>if !ad then D 0 else(x4 J U aj).bind λaA=>if decide (aA< 0)then D 10 else if decide (o1=21)then(aL U.nodes aA).bind λaN=>if decide (aN.n=0)then(LP J U aj aA).bind λa0=>if a0 then D 9 else if decide (o1=45)then akB U aj J aA 0 else D 0 else if decide (o1=45)then akC U aj J aA 0 else D 0 else if decide (o1=45)then abc U aj J aA 0 else D 0
def abd(J:ax)(o5:bz)(aj:Int)(U:bf)(Z:bz)(jd:Int):Int->Option Int:=J.b8 λz7=>if decide (z7<(o5.a3.length:Int))then(aL o5.a3 z7).bind λzW=>if decide (zW<aj)then(aL o5.a3 z7).bind λzX=>aw (aL U.nodes zX) λzY=>if decide (zY.kind=34)then(aL o5.a3 z7).bind λGl=>aw (aL U.nodes Gl) λSA=>if decide (SA.bi=Z.bi)then(D 6).map .inr else D (.inl (aH (z7+1)))else D (.inl (aH (z7+1)))else(C4 U aj J jd).map .inr else(C4 U aj J jd).map .inr
def z8(J:ax)(U:bf)(aj:Int)(Z:bz):Int->Option Int:=λjd=>if decide (jd=34)then(x3 J U aj).bind λlQ=>aw (aL U.nodes lQ) λo5=>abd J o5 aj U Z jd 0 else C4 U aj J jd
def abe(U:bf)(aj:Int)(J:ax)(Z:bz):Int->Option Int:=J.b8 λsj=>if decide (sj<(U.aX.length:Int))then(aL U.aX sj).bind λSB=>if decide (SB<aj)then(aL U.aX sj).bind λSC=>aw (C2 J U SC) λC5=>if C5 then(aL U.aX sj).bind λSD=>aw (aL U.nodes SD) λz9=>if decide (z9.bi=Z.bi)then(D 6).map .inr else D (.inl (aH (sj+1)))else D (.inl (aH (sj+1)))else(z8 J U aj Z Z.kind).map .inr else(z8 J U aj Z Z.kind).map .inr
def LQ(J:ax)(U:bf)(aj:Int):Option Int:=aw (aL U.nodes aj) λZ=>aw (Sy J U aj) λLR=>if LR then(C2 J U aj).bind λLS=>if LS then abe U aj J Z 0 else z8 J U aj Z Z.kind else z8 J U aj Z Z.kind
def SE(U:bf)(J:ax):mH->Option (l5×Int×Int):=J.b8 λ(hT,SF)=>if decide (hT<(U.nodes.length:Int))then(LQ J U hT).bind λad=>if !decide (ad=0)then(D (⟨[]⟩,hT,ad)).map .inr else(x4 J U hT).bind λaA=>aw (eR SF ([aA]:List Int)) λaN=>D (.inl ((aH (hT+1)),aN))else(D (⟨SF⟩,0,0)).map .inr
def uV(J:ax)(U:bf):Option (l5×Int×Int):=aw (C1 J U) λZ=>if !decide (Z=0)then D (⟨[]⟩,0,Z)else SE U J (0,[])
def C6(U:bf)(aj:Int):Option Bool:=aw (aL U.nodes aj) λZ=>D ((decide (1<=Z.kind)&&decide (Z.kind<=26))&& !decide (Z.kind=25))
def nH(U:Int):Option (dl×ByteArray×Bool):=if decide (U=1)then D (([]:List ByteArray),(⟨#[105,110,116]⟩:ByteArray),ah)else if decide (U=2)then D (([]:List ByteArray),(⟨#[98,111,111,108]⟩:ByteArray),ah)else if decide (U=4)then D (([(⟨#[105,110,116]⟩:ByteArray)]:List ByteArray),(⟨#[105,110,116]⟩:ByteArray),ah)else if decide (U=5)then D (([(⟨#[98,111,111,108]⟩:ByteArray)]:List ByteArray),(⟨#[98,111,111,108]⟩:ByteArray),ah)else if decide (6<=U)&&decide (U<=10)then D (([(⟨#[105,110,116]⟩:ByteArray),(⟨#[105,110,116]⟩:ByteArray)]:List ByteArray),(⟨#[105,110,116]⟩:ByteArray),ah)else if decide (13<=U)&&decide (U<=16)then D (([(⟨#[105,110,116]⟩:ByteArray),(⟨#[105,110,116]⟩:ByteArray)]:List ByteArray),(⟨#[98,111,111,108]⟩:ByteArray),ah)else if decide (U=17)||decide (U=18)then D (([(⟨#[98,111,111,108]⟩:ByteArray),(⟨#[98,111,111,108]⟩:ByteArray)]:List ByteArray),(⟨#[98,111,111,108]⟩:ByteArray),ah)else D ([],(⟨#[]⟩:ByteArray),aQ)
def abf(J:ax)(U aj:List ByteArray):Int->Option Bool:=J.b8 λcb=>if decide (cb<(U.length:Int))then(aL U cb).bind λZ=>aw (aL aj cb) λad=>if !decide (Z=ad)then(D aQ).map .inr else D (.inl (aH (cb+1)))else(D ah).map .inr
def x5(J:ax)(U aj:List ByteArray):Option Bool:=if !decide ((U.length:Int)=(aj.length:Int))then D aQ else abf J U aj 0
def abg(J:ax)(LU:JZ)(U:Int):Option ByteArray:=aw (ur U 10) λZ=>if decide (10<=U)then(uq U 10).bind λad=>aw (LU (aH (ad))) λaA=>aw (nr aA (Fi ([(w2 ((aH (48+Z))))]:List Int))) λaN=>D aN else D (Fi ([(w2 ((aH (48+Z))))]:List Int))
def SG(J:ax):Nat->JZ
  |0=>λ_=>aF
  |k+1=>abg J (SG J k)
def SH(J:ax):JZ:=SG J J.n
def C7(J:ax)(U:ByteArray)(aj:Int):Option ByteArray:=aw (nr (⟨#[91]⟩:ByteArray) U) λZ=>aw (nr Z (⟨#[59,32]⟩:ByteArray)) λad=>aw (SH J aj) λaA=>aw (nr ad aA) λaN=>aw (nr aN (⟨#[93]⟩:ByteArray)) λa0=>D a0
def LV(J:ax)(LW:J0)(U:bf)(aj:Int):Option ByteArray:=aw (aL U.nodes aj) λZ=>if decide (Z.kind=30)then D (⟨#[105,110,116]⟩:ByteArray)else if decide (Z.kind=31)then D (⟨#[98,111,111,108]⟩:ByteArray)else if decide (Z.kind=32)then D Z.bi else(aL Z.a3 0).bind λad=>aw (LW U ad) λaA=>aw (C7 J aA Z.n) λaN=>D aN
def Gm(J:ax):Nat->J0
  |0=>λ_ _=>aF
  |k+1=>LV J (Gm J k)
def z_(J:ax):J0:=Gm J J.n
def C8(J:ax)(U:bf)(aj:List ByteArray)(a6:Int):Option ByteArray:=aw (aL U.nodes a6) λZ=>if decide (Z.kind=40)then D (⟨#[105,110,116]⟩:ByteArray)else if decide (Z.kind=34)then(aL Z.a3 0).bind λad=>aw (z_ J U ad) λaA=>D aA else(aL Z.a3 0).bind λaN=>aw (aL aj aN) λa0=>D a0
def abh(Z:bz)(U:bf)(J:ax):(dl×Int)->Option (dl×ByteArray):=J.b8 λ(hT,b6)=>if decide (b6<(aH ((Z.a3.length:Int)- 2)))then(aL Z.a3 b6).bind λad=>aw (aL U.nodes ad) λaA=>aw (aL aA.a3 0) λaN=>aw (z_ J U aN) λa0=>aw (eR hT ([a0]:List ByteArray)) λbe=>D (.inl (be,(aH (b6+1))))else(aw (aL Z.a3 (aH ((Z.a3.length:Int)- 2))) λbL=>aw (z_ J U bL) λbJ=>D (hT,bJ)).map .inr
def z'(J:ax)(U:bf)(aj:Int):Option (dl×ByteArray):=aw (aL U.nodes aj) λZ=>abh Z U J (([]:List ByteArray),0)
def abi(J:ax)(U:bf)(aj:ByteArray):Int->Option Int:=J.b8 λcb=>if decide (cb<(U.aX.length:Int))then(aL U.aX cb).bind λZ=>aw (aL U.nodes Z) λad=>if decide (ad.kind=41)&&decide (ad.bi=aj)then(aL U.aX cb).bind λaA=>(D aA).map .inr else D (.inl (aH (cb+1)))else(D (-1)).map .inr
def LX(J:ax)(U:bf)(aj:ByteArray):Option Int:=abi J U aj 0
def abj(ad:bz)(U:bf)(J:ax):(dl×dl×Int)->Option (dl×dl):=J.b8 λ(gt,hT,h_)=>if decide (h_<(ad.a3.length:Int))then(aL ad.a3 h_).bind λaA=>aw (aL U.nodes aA) λaN=>aw (eR gt ([aN.bi]:List ByteArray)) λa0=>aw (aL aN.a3 0) λbe=>aw (z_ J U be) λbL=>aw (eR hT ([bL]:List ByteArray)) λbJ=>D (.inl (a0,bJ,(aH (h_+1))))else(D (gt,hT)).map .inr
def Aa(J:ax)(U:bf)(aj:ByteArray):Option (dl×dl):=aw (LX J U aj) λZ=>if decide (Z< 0)then D (([]:List ByteArray),([]:List ByteArray))else(aL U.nodes Z).bind λad=>abj ad U J (([]:List ByteArray),([]:List ByteArray),0)
def abk(J:ax)(Z:dl×dl)(a6:ByteArray):Int->Option ByteArray:=J.b8 λgE=>if decide (gE<(Z.1.length:Int))then(aL Z.1 gE).bind λad=>if decide (ad=a6)then(aL Z.2 gE).bind λaA=>(D aA).map .inr else D (.inl (aH (gE+1)))else(D (⟨#[]⟩:ByteArray)).map .inr
def LY(J:ax)(U:bf)(aj a6:ByteArray):Option ByteArray:=aw (Aa J U aj) λZ=>abk J Z a6 0
def SI(J:ax)(U:ByteArray):Option Bool:=aw (z2 J U) λZ=>D Z
def LZ(J:ax)(U:ByteArray):Option Bool:=aw (SI J U) λZ=>D Z
def L0(J:ax)(rt:zB)(U:ByteArray):Option Bool:=if decide (0<(U.size:Int))then(gB U 0).bind λZ=>if decide (Z=91)then(rt U).bind λad=>D ad.2.2 else if decide (U=(⟨#[105,110,116]⟩:ByteArray))||decide (U=(⟨#[98,111,111,108]⟩:ByteArray))then D ah else(LZ J U).bind λaA=>D aA else if decide (U=(⟨#[105,110,116]⟩:ByteArray))||decide (U=(⟨#[98,111,111,108]⟩:ByteArray))then D ah else(LZ J U).bind λaN=>D aN
def C9(U:ByteArray)(cb:Int)(J:ax)(rt:zB):Int->Option ((Int) ⊕ Cm):=J.b8 λi8=>if decide (i8<=6)then(hg U 0 cb).bind λZ=>if decide (0<cb)then(hg Z 1 (Z.size:Int)).bind λad=>aw (C7 J ad i8) λaA=>if decide (aA=U)then(hg Z 1 (Z.size:Int)).bind λaN=>aw (L0 J rt aN) λa0=>if a0 then(hg Z 1 (Z.size:Int)).bind λbe=>((D (be,i8,ah)).map .inr).map .inr else D (.inl (aH (i8+1)))else D (.inl (aH (i8+1)))else D (.inl (aH (i8+1)))else(D (.inl (aH (cb+1)))).map .inr
def abl(J:ax)(U:ByteArray)(rt:zB):Int->Option Cm:=J.b8 λcb=>if decide (cb<(U.size:Int))then C9 U cb J rt 1 else(D ((⟨#[]⟩:ByteArray),0,aQ)).map .inr
def L1(J:ax)(rt:zB)(U:ByteArray):Option Cm:=abl J U rt 0
def Ab(J:ax):Nat->zB
  |0=>λ_=>aF
  |k+1=>L1 J (Ab J k)
def Gn(J:ax):zB:=Ab J J.n
def SJ:Unit->Option ByteArray:=λ_=>D (⟨#[]⟩:ByteArray)
def L2:Unit->Option ByteArray:=λ_=>D (⟨#[]⟩:ByteArray)
def abm(a6:List ByteArray)(J:ax):Int->Option ByteArray:=J.b8 λL3=>if decide (L3<(a6.length:Int))then(aL a6 L3).bind λc5=>aw (aL a6 0) λeC=>if !decide (c5=eC)then(D (⟨#[]⟩:ByteArray)).map .inr else D (.inl (aH (L3+1)))else(aw (aL a6 0) λet=>aw (C7 J et (a6.length:Int)) λgk=>D gk).map .inr
def SK(J:ax)(be:dl×dl)(a6:List ByteArray)(aj:bz):dl->Option ByteArray:=λlp=>aw (x5 J be.1 lp) λbL=>if bL then(x5 J be.2 a6).bind λbJ=>if bJ then D aj.bi else L2 ()else L2 ()
def abn(J:ax)(aj:bz)(U:bf)(be:dl×dl)(a6:List ByteArray):(dl×Int)->Option ByteArray:=J.b8 λ(tr,L4)=>if decide (L4<(aj.a3.length:Int))then(aL aj.a3 L4).bind λci=>aw (aL U.nodes ci) λcP=>aw (eR tr ([cP.bi]:List ByteArray)) λdr=>D (.inl (dr,(aH (L4+1))))else(SK J be a6 aj tr).map .inr
def C_(J:ax)(U:bf)(aj:bz)(a6:List ByteArray):Option ByteArray:=if decide (aj.kind=22)then(aL a6 0).bind λZ=>aw (LY J U Z aj.bi) λad=>D ad else if decide (aj.kind=23)then(aL a6 0).bind λaA=>aw (Gn J aA) λaN=>if aN.2.2 then(aL a6 1).bind λa0=>if decide (a0=(⟨#[105,110,116]⟩:ByteArray))then D aN.1 else SJ ()else SJ ()else if decide (aj.kind=24)then(Aa J U aj.bi).bind λbe=>abn J aj U be a6 (([]:List ByteArray),0)else abm a6 J 1
def md(J:ax)(aj:l5)(dg:Int)(U:bf)(a6:List ByteArray)(Z:bz):(dl×Int)->Option ByteArray:=λ(h_,o2)=>aw (nH o2) λad=>if ad.2.2 then(x5 J ad.1 h_).bind λaA=>if !aA then D (⟨#[]⟩:ByteArray)else D ad.2.1 else if decide (o2=3)then(aL aj.jk dg).bind λaN=>aw (C8 J U a6 aN) λa0=>D a0 else if decide (o2=11)||decide (o2=12)then(aL h_ 0).bind λbe=>aw (aL h_ 1) λbL=>if decide (be=bL)then(aL h_ 0).bind λbJ=>if decide (bJ=(⟨#[105,110,116]⟩:ByteArray))then D (⟨#[98,111,111,108]⟩:ByteArray)else(aL h_ 0).bind λci=>if decide (ci=(⟨#[98,111,111,108]⟩:ByteArray))then D (⟨#[98,111,111,108]⟩:ByteArray)else D (⟨#[]⟩:ByteArray)else D (⟨#[]⟩:ByteArray)else if decide (o2=19)then(aL h_ 0).bind λcP=>if decide (cP=(⟨#[98,111,111,108]⟩:ByteArray))then(aL h_ 1).bind λdr=>aw (aL h_ 2) λc5=>if decide (dr=c5)then(aL h_ 1).bind λeC=>D eC else D (⟨#[]⟩:ByteArray)else D (⟨#[]⟩:ByteArray)else if decide (o2=20)then(aL h_ 1).bind λet=>D et else if decide (o2=21)then(aL aj.jk dg).bind λgk=>aw (z' J U gk) λfo=>aw (x5 J fo.1 h_) λiI=>if iI then D fo.2 else D (⟨#[]⟩:ByteArray)else(C_ J U ⟨o2,Z.bi,Z.n,Z.a3,Z.dx⟩ h_).bind λh'=>D h'
def abo(J:ax)(Z:bz)(U:bf)(a6:List ByteArray)(aj:l5)(dg:Int):(dl×Int)->Option ByteArray:=J.b8 λ(mI,m6)=>if decide (m6<(Z.a3.length:Int))then(aL Z.a3 m6).bind λiJ=>aw (aL U.nodes iJ) λiK=>if decide (iK.kind=25)then(aL U.nodes iJ).bind λlQ=>aw (aL lQ.a3 0) λo5=>aw (aL a6 o5) λzW=>aw (eR mI ([zW]:List ByteArray)) λzX=>D (.inl (zX,(aH (m6+1))))else(aL a6 iJ).bind λzY=>aw (eR mI ([zY]:List ByteArray)) λGl=>D (.inl (Gl,(aH (m6+1))))else(md J aj dg U a6 Z (mI,Z.kind)).map .inr
def C'(J:ax)(U:bf)(aj:l5)(a6:List ByteArray)(dg:Int):Option ByteArray:=aw (aL U.nodes dg) λZ=>abo J Z U a6 aj dg (([]:List ByteArray),0)
def abp(J:ax)(aA:dl×dl)(Ac:FI)(U:bf):(Int×Int)->Option Int:=J.b8 λ(b6,kn)=>if decide (kn<(aA.2.length:Int))then(aL aA.2 kn).bind λaN=>aw (Ac U aN) λa0=>D (.inl ((aH (b6+a0)),(aH (kn+1))))else(D b6).map .inr
def L5(J:ax)(Ac:FI)(U:bf)(aj:ByteArray):Option Int:=aw (Gn J aj) λZ=>if Z.2.2 then(Ac U Z.1).bind λad=>D (ih 10000 (aH (Z.2.1*ad)))else if decide (aj=(⟨#[105,110,116]⟩:ByteArray))||decide (aj=(⟨#[98,111,111,108]⟩:ByteArray))then D 1 else(Aa J U aj).bind λaA=>abp J aA Ac U (0,0)
def Gp(J:ax):Nat->FI
  |0=>λ_ _=>aF
  |k+1=>L5 J (Gp J k)
def tw(J:ax):FI:=Gp J J.n
def Ad(J:ax)(U:bf)(aj:ByteArray):Option Int:=aw (tw J U aj) λZ=>if decide (8<Z)then D 5 else D 0
def abq(J:ax)(Z:bz)(aj:List ByteArray):Int->Option Int:=J.b8 λmI=>if decide (mI<(Z.a3.length:Int))then(aL Z.a3 mI).bind λc5=>aw (aL aj c5) λeC=>if !decide (eC=(⟨#[105,110,116]⟩:ByteArray))&& !decide (eC=(⟨#[98,111,111,108]⟩:ByteArray))then(D 11).map .inr else if decide (Z.n=4)||decide (Z.n=5)then if !decide (eC=(⟨#[105,110,116]⟩:ByteArray))then(D 11).map .inr else if !(decide (Z.n=4)||decide (Z.n=5))then if !decide (Z.n=8)then if !decide (eC=(⟨#[98,111,111,108]⟩:ByteArray))then(D 11).map .inr else D (.inl (aH (mI+1)))else D (.inl (aH (mI+1)))else D (.inl (aH (mI+1)))else if !(decide (Z.n=4)||decide (Z.n=5))then if !decide (Z.n=8)then if !decide (eC=(⟨#[98,111,111,108]⟩:ByteArray))then(D 11).map .inr else D (.inl (aH (mI+1)))else D (.inl (aH (mI+1)))else D (.inl (aH (mI+1)))else(D 0).map .inr
def so(aj:List ByteArray)(a6:Int)(J:ax)(U:bf)(Z:bz):Int->Option Int:=λjd=>if decide (jd=26)then(aL aj a6).bind λad=>aw (Ad J U ad) λaA=>D aA else if decide (jd=33)then(z_ J U a6).bind λaN=>aw (Ad J U aN) λa0=>D a0 else if decide (jd=41)then(Ad J U Z.bi).bind λbe=>D be else if decide (jd=42)then(z' J U a6).bind λbL=>aw (aL Z.a3 (aH ((Z.a3.length:Int)- 1))) λbJ=>aw (aL aj bJ) λci=>if !decide (ci=bL.2)then D 11 else D 0 else if decide (jd=44)then(aL Z.a3 0).bind λcP=>aw (aL aj cP) λdr=>if !decide (dr=(⟨#[98,111,111,108]⟩:ByteArray))then D 11 else D 0 else if decide (jd=46)then abq J Z aj 0 else D 0
def ru(J:ax)(U:bf)(aj:List ByteArray)(a6:Int):Option Int:=aw (aL U.nodes a6) λZ=>aw (C6 U a6) λet=>if et then(aL aj a6).bind λgk=>if decide (gk=(⟨#[]⟩:ByteArray))then D 11 else so aj a6 J U Z Z.kind else so aj a6 J U Z Z.kind
def abr(U:bf)(J:ax)(Z:l5×Int×Int):(dl×Int)->Option (sg×Int×Int):=J.b8 λ(b6,gE)=>if decide (gE<(U.nodes.length:Int))then(zo b6 ([(⟨#[]⟩:ByteArray)]:List ByteArray)).bind λad=>aw (C6 U gE) λaA=>if aA then(C' J U ⟨Z.1.jk⟩ ad gE).bind λaN=>aw (fK ad.length ad gE) λa0=>aw (ru J U (ad.set a0.1.1 aN) gE) λbe=>if !decide (be=0)then(D (⟨[]⟩,gE,be)).map .inr else D (.inl ((ad.set a0.1.1 aN),(aH (gE+1))))else(ru J U ad gE).bind λbL=>if !decide (bL=0)then(D (⟨[]⟩,gE,bL)).map .inr else D (.inl (ad,(aH (gE+1))))else(D (⟨b6⟩,0,0)).map .inr
def tx(J:ax)(U:bf):Option (sg×Int×Int):=aw (uV J U) λZ=>if !decide (Z.2.2=0)then D (⟨[]⟩,Z.2.1,Z.2.2)else abr U J Z ([],0)
def Gq(U:bf)(ad kM:Int)(qw:zC)(aj:l5):Int->Option Int:=λSL=>aw (aL U.nodes ad) λaA=>if decide (aA.n<SL)then D kM else(aL U.nodes ad).bind λaN=>aw (aL aN.a3 (aH ((aN.a3.length:Int)- 1))) λa0=>aw (qw U aj a0 ad SL) λbe=>D (ih 3001 (aH (kM+be)))
def L6(aj:l5)(a6 dg fS:Int)(U:bf)(qw:zC):(Int×Int)->Option Int:=λ(kM,jd)=>if !decide (jd=21)||decide (kM=3001)then D kM else(aL aj.jk a6).bind λad=>if decide (ad=dg)then Gq U ad kM qw aj (aH (fS+1))else Gq U ad kM qw aj 0
def abs(J:ax)(Z:bz)(qw:zC)(U:bf)(aj:l5)(dg fS a6:Int):(Int×Int)->Option Int:=J.b8 λ(L7,L8)=>if decide (L8<(Z.a3.length:Int))&&decide (L7< 3001)then(aL Z.a3 L8).bind λbL=>aw (qw U aj bL dg fS) λbJ=>D (.inl ((ih 3001 (aH (L7+bJ))),(aH (L8+1))))else(L6 aj a6 dg fS U qw (L7,Z.kind)).map .inr
def L9(J:ax)(qw:zC)(U:bf)(aj:l5)(a6 dg fS:Int):Option Int:=aw (aL U.nodes a6) λZ=>abs J Z qw U aj dg fS a6 (1,0)
def Ae(J:ax):Nat->zC
  |0=>λ_ _ _ _ _=>aF
  |k+1=>L9 J (Ae J k)
def L_(J:ax):zC:=Ae J J.n
def abt(ad:bz)(J:ax)(U:bf)(aj:l5):(Int×Int)->Option Int:=J.b8 λ(b6,gE)=>if decide (gE<(ad.a3.length:Int))then(aL ad.a3 gE).bind λbe=>aw (L_ J U aj be (-1) 0) λbL=>D (.inl ((ih 3001 (aH (b6+bL))),(aH (gE+1))))else(D b6).map .inr
def L'(J:ax)(U:bf)(aj:l5)(a6:Int):Option Int:=aw (aL U.aX a6) λZ=>aw (aL U.nodes Z) λad=>if decide (ad.kind=42)then(aL ad.a3 (aH ((ad.a3.length:Int)- 1))).bind λaA=>aw (aL U.aX a6) λaN=>aw (L_ J U aj aA aN 0) λa0=>D a0 else if decide (ad.kind=43)||(decide (ad.kind=44)||decide (ad.kind=46))then abt ad J U aj (0,0)else D 0
def rx(U:bf)(h0:Int)(J:ax)(ad:l5×Int×Int):zA->Option (zA ⊕ (Int×Int)):=λ(mI,m6,lp,jM)=>if(decide (6<mI)||decide (2000<m6))||decide (8<lp)then(aL U.aX h0).bind λa0=>(D (a0,5)).map .inr else(L' J U ⟨ad.1.jk⟩ h0).bind λbe=>if decide (3000<be)then(aL U.aX h0).bind λbL=>(D (bL,5)).map .inr else D (.inl (mI,m6,lp,(aH (h0+1))))
def abu(J:ax)(U:bf)(ad:l5×Int×Int):zA->Option (Int×Int):=J.b8 λ(h_,kn,kM,h0)=>if decide (h0<(U.aX.length:Int))then(aL U.aX h0).bind λaA=>aw (aL U.nodes aA) λaN=>if decide (aN.kind=40)then(aL aN.a3 1).bind λbJ=>aw (aL U.nodes bJ) λci=>aw (aL aN.a3 0) λcP=>aw (aL U.nodes cP) λdr=>rx U h0 J ad ((aH (h_+1)),(ih 2001 (aH (kn*(aH ((aH (ci.n-dr.n))+1))))),kM,aN.kind)else if decide (aN.kind=44)then rx U h0 J ad (h_,kn,(aH (kM+1)),aN.kind)else if decide (aN.kind=45)then rx U h0 J ad (h_,kn,(aH (kM- 1)),aN.kind)else rx U h0 J ad (h_,kn,kM,aN.kind)else(D (0,0)).map .inr
def Ma(J:ax)(U:bf):Option (Int×Int):=aw (tx J U) λZ=>if !decide (Z.2.2=0)then D (Z.2.1,Z.2.2)else(uV J U).bind λad=>abu J U ad (0,1,0,0)
def sq(J:ax)(U:bf):Option Int:=aw (Ma J U) λZ=>D Z.2
def nI(U:bf)(aj:Int):Option Bool:=D (decide (0<=aj)&&decide (aj<(U.aX.length:Int)))
def abv(J:ax)(aj:Int)(U:bf)(a6:List Int):(Int×Int)->Option Bool:=J.b8 λ(hT,b6)=>if decide (b6<=aj)&&decide (b6<(U.aX.length:Int))then(aL U.aX b6).bind λZ=>aw (aL U.nodes Z) λad=>if !decide (ad.kind=40)then D (.inl (hT,(aH (b6+1))))else if decide ((a6.length:Int)<=hT)then(D aQ).map .inr else(aL a6 hT).bind λaA=>aw (aL ad.a3 0) λaN=>aw (aL U.nodes aN) λa0=>if decide (aA<a0.n)then(D aQ).map .inr else(aL a6 hT).bind λbe=>aw (aL ad.a3 1) λbL=>aw (aL U.nodes bL) λbJ=>if decide (bJ.n<be)then(D aQ).map .inr else D (.inl ((aH (hT+1)),(aH (b6+1))))else(D (decide (hT=(a6.length:Int)))).map .inr
def tz(J:ax)(U:bf)(aj:Int)(a6:List Int):Option Bool:=abv J aj U a6 (0,0)
def Gr(ix:List Int)(gt:Int)(gQ:Nat):Int->Option ((Int×List Int×Nat) ⊕ QB):=λm5=>aw (eR ix ([m5]:List Int)) λaA=>D (.inl ((aH (gt+1)),aA,gQ+1))
def abw(ab:bf)(ad:sg×Int×Int)(J:ax)(Z:l5×Int×Int)(ag:List Int):(Int×List Int×Nat)->Option QB:=J.b8 λ(gt,ix,gQ)=>if decide (gt<(ab.nodes.length:Int))then(aL ad.1.Ch gt).bind λaN=>if !decide (aN=(⟨#[]⟩:ByteArray))then(aL ad.1.Ch gt).bind λa0=>aw (tw J ab a0) λbe=>Gr ix gt gQ be else Gr ix gt gQ 0 else(D (ab.nodes,ab.aX,Z.1.jk,ad.1.Ch,ix,ag,[],0,0,0,0)).map .inr
def x6(J:ax)(ab:bf)(ag:List Int):Option QB:=aw (uV J ab) λZ=>aw (tx J ab) λad=>abw ab ad J Z ag (0,[],0)
def sr(U:Int):Option bt:=D ⟨0,U⟩
def abx(J:ax)(aj:Int)(U:bt):(cd×Int)->Option cd:=J.b8 λ(cb,gt)=>if decide (gt<aj)then(eR cb ([U]:List bt)).bind λZ=>D (.inl (Z,(aH (gt+1))))else(D cb).map .inr
def v5(J:ax)(U:bt)(aj:Int):Option cd:=abx J aj U (([]:List bt),0)
def aby(J:ax)(U:l6)(aj:Int):(cd×Int)->Option cd:=J.b8 λ(cb,gt)=>if decide (gt<(U.jk.length:Int))then(aL U.jk gt).bind λZ=>if decide (Z=aj)then(aL U.cells gt).bind λad=>D (.inl (ad,(aH (gt+1))))else D (.inl (cb,(aH (gt+1))))else(D cb).map .inr
def Mb(J:ax)(U:l6)(aj:Int):Option cd:=aby J U aj (([]:List bt),0)
def abz(bc:List cd)(ap:List Int)(Z:Int)(J:ax)(ag:l6):Int->Option cd:=J.b8 λb6=>if decide (b6<(bc.length:Int))then(aL ap b6).bind λad=>if decide (ad=Z)then(aL bc b6).bind λaA=>(D aA).map .inr else D (.inl (aH (b6+1)))else(aw (Mb J ag Z) λaN=>D aN).map .inr
def Mc(J:ax)(ab:Int)(ag:l6)(ak:List bz)(ap an:List Int)(al:List ByteArray)(am aD:List Int)(a2:Nat)(bc:List cd)(ba bm bF:Int):Option cd:=aw (aL an ab) λZ=>abz bc ap Z J ag 0
def SM(U:Int):Option (Int×Bool):=if decide (U=6)then D (7,aQ)else if decide (U=7)then D (8,aQ)else if decide (U=8)then D (9,aQ)else if decide (U=9)then D (10,aQ)else if decide (U=10)then D (11,aQ)else if decide (U=11)then D (12,aQ)else if decide (U=12)then D (12,ah)else if decide (U=13)then D (13,aQ)else if decide (U=14)then D (14,aQ)else if decide (U=15)then D (14,ah)else if decide (U=16)then D (13,ah)else if decide (U=17)then D (15,aQ)else D (16,aQ)
def Da(U:Int):Option bt:=D ⟨U,0⟩
def Db(U:Int):Option bt:=if decide (U<(-9999))||decide (9999<U)then(Da 2).bind λZ=>D ⟨Z.fault,Z.n⟩else(sr U).bind λad=>D ⟨ad.fault,ad.n⟩
def Dc(U:Bool):Option bt:=if U then(sr 1).bind λZ=>D ⟨Z.fault,Z.n⟩else(sr 0).bind λad=>D ⟨ad.fault,ad.n⟩
def abA(J:ax)(rm ma:Int):Int->Option Int:=J.b8 λj7=>if decide (rm<(aH (j7*ma)))then D (.inl (aH (j7- 1)))else(D j7).map .inr
def SN(J:ax)(ma rm:Int):Int->Option Int:=J.b8 λi_=>if decide ((aH ((aH (i_+1))*ma))<=rm)then D (.inl (aH (i_+1)))else(abA J rm ma i_).map .inr
def Gs(J:ax):(Int×Int)->Option Int:=λ(rm,ma)=>SN J ma rm 0
def Md(J:ax)(U aj:Int):Option Int:=if decide (aj< 0)then Gs J ((aH (-U)),(aH (-aj)))else Gs J (U,aj)
def o6(J:ax)(U:Int)(aj a6:bt):Option bt:=if decide (0<aj.fault)then D ⟨aj.fault,aj.n⟩else if decide (U=15)&&decide (aj.n=0)then D ⟨aj.fault,aj.n⟩else if decide (U=16)&& !decide (aj.n=0)then(sr 1).bind λZ=>D ⟨Z.fault,Z.n⟩else if decide (U=15)||decide (U=16)then D ⟨a6.fault,a6.n⟩else if decide (0<a6.fault)then D ⟨a6.fault,a6.n⟩else if decide (U=7)then(Db (aH (aj.n+a6.n))).bind λad=>D ⟨ad.fault,ad.n⟩else if decide (U=8)then(Db (aH (aj.n-a6.n))).bind λaA=>D ⟨aA.fault,aA.n⟩else if decide (U=9)then(Db (aH (aj.n*a6.n))).bind λaN=>D ⟨aN.fault,aN.n⟩else if decide (U=12)then(Dc (decide (aj.n=a6.n))).bind λa0=>D ⟨a0.fault,a0.n⟩else if decide (U=13)then(Dc (decide (aj.n<a6.n))).bind λbe=>D ⟨be.fault,be.n⟩else if decide (U=14)then(Dc (decide (aj.n<=a6.n))).bind λbL=>D ⟨bL.fault,bL.n⟩else if decide (a6.n=0)then(Da 1).bind λbJ=>D ⟨bJ.fault,bJ.n⟩else(Md J aj.n a6.n).bind λci=>if decide (U=10)then(sr ci).bind λcP=>D ⟨cP.fault,cP.n⟩else(sr (aH (aj.n-(aH (a6.n*ci))))).bind λdr=>D ⟨dr.fault,dr.n⟩
def Dd(U:Int)(aj:bt):Option bt:=if decide (0<aj.fault)then D ⟨aj.fault,aj.n⟩else if decide (U=5)then(sr (aH (-aj.n))).bind λZ=>D ⟨Z.fault,Z.n⟩else(Dc (decide (aj.n=0))).bind λad=>D ⟨ad.fault,ad.n⟩
def x7(ab:bz)(g_:si)(ag:l6)(ak ap:Int)(an:List bz)(al am:List Int)(aD:List ByteArray)(a2 bc:List Int)(ba:Nat)(bm:List cd)(aA:cd×Int×Int×Int)(J:ax)(Z:Int×Bool)(aN:bt):Unit->Option (bt×Int×Int×Int):=λ_=>aw (aL ab.a3 1) λa0=>aw (g_ a0 ag ak ap an al am aD a2 bc ba bm aA.2.1 aA.2.2.1 aA.2.2.2) λbe=>aw (aL be.1 0) λbL=>aw (o6 J Z.1 ⟨aN.fault,aN.n⟩ bL) λbJ=>if Z.2 then(Dd 6 ⟨bJ.fault,bJ.n⟩).bind λci=>D (⟨ci.fault,ci.n⟩,be.2.1,be.2.2.1,be.2.2.2)else D (⟨bJ.fault,bJ.n⟩,be.2.1,be.2.2.1,be.2.2.2)
def Me(J:ax)(g_:si)(ab:bz)(ag:l6)(ak ap:Int)(an:List bz)(al am:List Int)(aD:List ByteArray)(a2 bc:List Int)(ba:Nat)(bm:List cd)(bF ch cS:Int):Option (bt×Int×Int×Int):=aw (SM ab.kind) λZ=>aw (aL ab.a3 0) λad=>aw (g_ ad ag ak ap an al am aD a2 bc ba bm bF ch cS) λaA=>aw (aL aA.1 0) λaN=>if decide (Z.1=15)then if decide (0<aN.fault)then(o6 J Z.1 ⟨aN.fault,aN.n⟩ ⟨aN.fault,aN.n⟩).bind λcP=>D (⟨cP.fault,cP.n⟩,aA.2.1,aA.2.2.1,aA.2.2.2)else if decide (aN.n=0)then(o6 J Z.1 ⟨aN.fault,aN.n⟩ ⟨aN.fault,aN.n⟩).bind λdr=>D (⟨dr.fault,dr.n⟩,aA.2.1,aA.2.2.1,aA.2.2.2)else if decide (Z.1=16)then if decide (0<aN.fault)then(o6 J Z.1 ⟨aN.fault,aN.n⟩ ⟨aN.fault,aN.n⟩).bind λc5=>D (⟨c5.fault,c5.n⟩,aA.2.1,aA.2.2.1,aA.2.2.2)else if !decide (aN.n=0)then(o6 J Z.1 ⟨aN.fault,aN.n⟩ ⟨aN.fault,aN.n⟩).bind λeC=>D (⟨eC.fault,eC.n⟩,aA.2.1,aA.2.2.1,aA.2.2.2)else x7 ab g_ ag ak ap an al am aD a2 bc ba bm aA J Z aN ()else x7 ab g_ ag ak ap an al am aD a2 bc ba bm aA J Z aN ()else if decide (Z.1=16)then if decide (0<aN.fault)then(o6 J Z.1 ⟨aN.fault,aN.n⟩ ⟨aN.fault,aN.n⟩).bind λet=>D (⟨et.fault,et.n⟩,aA.2.1,aA.2.2.1,aA.2.2.2)else if !decide (aN.n=0)then(o6 J Z.1 ⟨aN.fault,aN.n⟩ ⟨aN.fault,aN.n⟩).bind λgk=>D (⟨gk.fault,gk.n⟩,aA.2.1,aA.2.2.1,aA.2.2.2)else x7 ab g_ ag ak ap an al am aD a2 bc ba bm aA J Z aN ()else x7 ab g_ ag ak ap an al am aD a2 bc ba bm aA J Z aN ()
def Mf(J:ax)(g_:si)(ab:bz)(ag:Int)(ak:l6)(ap an:Int)(al:List bz)(am aD:List Int)(a2:List ByteArray)(bc ba:List Int)(bm:Nat)(bF:List cd)(ch cS i9:Int):Option xD:=aw (aL ab.a3 0) λZ=>aw (g_ Z ak ap an al am aD a2 bc ba bm bF ch cS i9) λad=>aw (aL ad.1 0) λaA=>if decide (0<aA.fault)then(v5 J ⟨aA.fault,aA.n⟩ ag).bind λaN=>D (aN,ad.2.1,ad.2.2.1,ad.2.2.2)else if decide (aA.n=0)then(aL ab.a3 2).bind λa0=>aw (g_ a0 ak ap an al am aD a2 bc ba bm bF ad.2.1 ad.2.2.1 ad.2.2.2) λbe=>D (be.1,be.2.1,be.2.2.1,be.2.2.2)else(aL ab.a3 1).bind λbL=>aw (g_ bL ak ap an al am aD a2 bc ba bm bF ad.2.1 ad.2.2.1 ad.2.2.2) λbJ=>D (bJ.1,bJ.2.1,bJ.2.2.1,bJ.2.2.2)
def Gt(U:l6)(aj:Int)(a6:List bt):Option l6:=aw (eR ([]:List Int) U.jk) λZ=>aw (eR Z ([aj]:List Int)) λad=>aw (eR ([]:List cd) U.cells) λaA=>aw (eR aA ([a6]:List cd)) λaN=>D ⟨ad,aN⟩
def abB(Z:dl×dl)(J:ax)(U:bf)(a6:ByteArray):(Int×Int)->Option (Int×Int):=J.b8 λ(b6,kn)=>if decide (kn<(Z.1.length:Int))then(aL Z.2 kn).bind λad=>aw (tw J U ad) λaA=>aw (aL Z.1 kn) λaN=>if decide (aN=a6)then(D (b6,aA)).map .inr else D (.inl ((aH (b6+aA)),(aH (kn+1))))else(D (0,0)).map .inr
def Mg(J:ax)(U:bf)(aj a6:ByteArray):Option (Int×Int):=aw (Aa J U aj) λZ=>abB Z J U a6 (0,0)
def abC(J:ax)(aj:Int)(a6:bt)(U:List bt):(cd×Int)->Option cd:=J.b8 λ(hT,b6)=>if decide (b6<aj)then if decide (0<a6.fault)then(eR hT ([a6]:List bt)).bind λZ=>D (.inl (Z,(aH (b6+1))))else if decide (a6.n< 0)||(decide ((U.length:Int)<(aH ((aH (a6.n+1))*aj))))then(Da 3).bind λad=>aw (eR hT ([ad]:List bt)) λaA=>D (.inl (aA,(aH (b6+1))))else(aL U (aH ((aH (a6.n*aj))+b6))).bind λaN=>aw (eR hT ([aN]:List bt)) λa0=>D (.inl (a0,(aH (b6+1))))else(D hT).map .inr
def Mh(J:ax)(U:List bt)(aj:Int)(a6:bt):Option cd:=abC J aj a6 U (([]:List bt),0)
def SO(J:ax)(ag:List cd)(Z:bz)(g_:si)(ab Gu:Int)(al:List bz)(am aD:List Int)(a2:List ByteArray)(bc ba:List Int)(bm:Nat)(bF:List cd)(ch cS i9:Int):(Int×List Int×List cd)->Option xD:=J.b8 λ(Gv,SP,SQ)=>if decide (Gv<(ag.length:Int))then(aL Z.a3 Gv).bind λaN=>aw (aL ag Gv) λa0=>aw (Gt ⟨SP,SQ⟩ aN a0) λbe=>D (.inl ((aH (Gv+1)),be.jk,be.cells))else(aw (aL Z.a3 (aH ((Z.a3.length:Int)- 1))) λbL=>aw (g_ bL ⟨SP,SQ⟩ ab Gu al am aD a2 bc ba bm bF ch (aH (cS+1)) (fR i9 (aH (cS+1)))) λbJ=>D (bJ.1,bJ.2.1,(aH (bJ.2.2.1- 1)),bJ.2.2.2)).map .inr
def De(Z:bz)(J:ax)(ak ch cS i9:Int)(ag:List cd)(g_:si)(ab:Int)(al:List bz)(am aD:List Int)(a2:List ByteArray)(bc ba:List Int)(bm:Nat)(bF:List cd):(Int×Int)->Option xD:=λ(Gu,akD)=>if decide (Z.n<Gu)then(Da 4).bind λad=>aw (v5 J ad ak) λaA=>D (aA,ch,cS,i9)else SO J ag Z g_ ab Gu al am aD a2 bc ba bm bF ch cS i9 (0,([]:List Int),([]:List cd))
def Df(J:ax)(g_:si)(ab:Int)(ag:List cd)(ak ap an:Int)(al:List bz)(am aD:List Int)(a2:List ByteArray)(bc ba:List Int)(bm:Nat)(bF:List cd)(ch cS i9:Int):Option xD:=aw (aL al ab) λZ=>if decide (ab=ap)then De Z J ak ch cS i9 ag g_ ab al am aD a2 bc ba bm bF ((aH (an+1)),Z.kind)else De Z J ak ch cS i9 ag g_ ab al am aD a2 bc ba bm bF (0,Z.kind)
def Mj(Z:bz)(J:ax)(aD:List ByteArray)(an:List bz)(al a2:List Int)(ab:Int)(am:List Int)(g_:si)(ak ap:Int)(bc:List Int)(ba:Nat)(bm:List cd):(List cd×cd×Int×Int×Int×Nat×Nat)->Option xD:=λ(kM,h0,uW,uX,uY,nE,akE)=>if decide (Z.kind=4)then(aL h0 0).bind λet=>aw (Dd 5 et) λgk=>aw (v5 J gk 1) λfo=>D (fo,uW,uX,uY)else if decide (Z.kind=5)then(aL h0 0).bind λiI=>aw (Dd 6 iI) λh'=>aw (v5 J h' 1) λiJ=>D (iJ,uW,uX,uY)else if decide (Z.kind=22)then(aL Z.a3 0).bind λiK=>aw (aL aD iK) λlQ=>aw (Mg J ⟨an,al⟩ lQ Z.bi) λo5=>aw (hG h0 o5.1 (aH (o5.1+o5.2))) λzW=>aw (eR ([]:List bt) zW) λzX=>D (zX,uW,uX,uY)else if decide (Z.kind=23)then(aL kM 0).bind λzY=>aw (aL a2 ab) λGl=>aw (aL kM 1) λSA=>aw (aL SA 0) λLR=>aw (Mh J zY Gl LR) λLS=>D (LS,uW,uX,uY)else if decide (Z.kind=21)then(aL am ab).bind λSB=>aw (aL a2 ab) λSC=>aw (Df J g_ SB kM SC ak ap an al am aD a2 bc ba bm uW uX uY) λC5=>D (C5.1,C5.2.1,C5.2.2.1,C5.2.2.2)else D (h0,uW,uX,uY)
def abD(J:ax)(Z:bz)(g_:si)(ag:l6)(ak ap:Int)(an:List bz)(al am:List Int)(aD:List ByteArray)(a2 bc:List Int)(ba:Nat)(bm:List cd)(ab:Int):(List cd×cd×Int×Int×Int×Int×Nat×Nat)->Option xD:=J.b8 λ(lp,lq,v6,Mk,Ml,Mm,Dg,Mn)=>if decide (v6<(Z.a3.length:Int))then(aL Z.a3 v6).bind λSD=>aw (g_ SD ag ak ap an al am aD a2 bc ba bm Mk Ml Mm) λz9=>aw (eR lp ([z9.1]:List cd)) λakF=>aw (eR lq z9.1) λakG=>D (.inl (akF,akG,(aH (v6+1)),z9.2.1,z9.2.2.1,z9.2.2.2,Dg+1,Mn+1))else(Mj Z J aD an al a2 ab am g_ ak ap bc ba bm (lp,lq,Mk,Ml,Mm,Dg,Mn)).map .inr
def Mo(J:ax)(g_:si)(ab:Int)(ag:l6)(ak ap:Int)(an:List bz)(al am:List Int)(aD:List ByteArray)(a2 bc:List Int)(ba:Nat)(bm:List cd)(bF ch cS:Int):Option xD:=aw (aL an ab) λZ=>if decide (Z.kind=1)||decide (Z.kind=2)then(sr Z.n).bind λad=>aw (v5 J ad 1) λaA=>D (aA,(aH (bF+1)),ch,cS)else if decide (Z.kind=3)then(Mc J ab ag an al am aD a2 bc ba bm (aH (bF+1)) ch cS).bind λaN=>D (aN,(aH (bF+1)),ch,cS)else if decide (6<=Z.kind)&&decide (Z.kind<=18)then(Me J g_ ⟨Z.kind,Z.bi,Z.n,Z.a3,Z.dx⟩ ag ak ap an al am aD a2 bc ba bm (aH (bF+1)) ch cS).bind λa0=>aw (v5 J a0.1 1) λbe=>D (be,a0.2.1,a0.2.2.1,a0.2.2.2)else if decide (Z.kind=19)then(aL a2 ab).bind λbL=>aw (Mf J g_ ⟨Z.kind,Z.bi,Z.n,Z.a3,Z.dx⟩ bL ag ak ap an al am aD a2 bc ba bm (aH (bF+1)) ch cS) λbJ=>D (bJ.1,bJ.2.1,bJ.2.2.1,bJ.2.2.2)else if decide (Z.kind=20)then(aL Z.a3 1).bind λci=>aw (aL Z.a3 0) λcP=>aw (g_ cP ag ak ap an al am aD a2 bc ba bm (aH (bF+1)) ch cS) λdr=>aw (Gt ag ab dr.1) λc5=>aw (g_ ci c5 ak ap an al am aD a2 bc ba bm dr.2.1 dr.2.2.1 dr.2.2.2) λeC=>D (eC.1,eC.2.1,eC.2.2.1,eC.2.2.2)else abD J Z g_ ag ak ap an al am aD a2 bc ba bm ab (([]:List cd),([]:List bt),0,(aH (bF+1)),ch,cS,0,0)
def Mp(J:ax):Nat->si
  |0=>λ_ _ _ _ _ _ _ _ _ _ _ _ _ _ _=>aF
  |k+1=>Mo J (Mp J k)
def Gw(J:ax):si:=Mp J J.n
def Dh(aD:List cd)(am:Nat):(cd×Int×Int×Int×Nat×Int)->Option vN:=λ(eX,uW,uX,uY,Mq,sk)=>aw (eR aD ([eX]:List cd)) λaA=>D (aA,uW,uX,uY,am+1)
def SR(al:List Int)(a2 bc ba:Int)(ad:bz)(aD:List cd)(am:Nat):Int->Option vN:=λabE=>aw (aL al abE) λaN=>aw (sr aN) λa0=>aw (eR ([]:List bt) ([a0]:List bt)) λbe=>Dh aD am (be,a2,bc,ba,1,ad.kind)
def abF(ad:bz)(J:ax)(ab:List bz)(ag ak:List Int)(ap:List ByteArray)(an al:List Int)(am:Nat)(aD:List cd):(cd×Int×Int×Int×Int×Nat)->Option vN:=J.b8 λ(Mr,xK,Ms,Mt,Mu,Mv)=>if decide (xK<(ad.a3.length:Int))then(aL ad.a3 xK).bind λci=>aw (Gw J ci ⟨[],[]⟩ (-1) 0 ab ag ak ap an al am aD Ms Mt Mu) λcP=>aw (eR Mr cP.1) λdr=>D (.inl (dr,(aH (xK+1)),cP.2.1,cP.2.2.1,cP.2.2.2,Mv+1))else(Dh aD am (Mr,Ms,Mt,Mu,Mv,ad.kind)).map .inr
def abG(J:ax)(aD:List cd)(ag:List Int)(ab:List bz)(al:List Int)(a2 bc ba:Int)(ad:bz)(am:Nat):(Int×Int)->Option vN:=J.b8 λ(ro,j7)=>if decide (j7<(aD.length:Int))then(aL ag j7).bind λbL=>aw (aL ab bL) λbJ=>if decide (bJ.kind=40)then D (.inl ((aH (ro+1)),(aH (j7+1))))else D (.inl (ro,(aH (j7+1))))else(SR al a2 bc ba ad aD am ro).map .inr
def Gx(J:ax)(ab:List bz)(ag ak:List Int)(ap:List ByteArray)(an al:List Int)(am:Nat)(aD:List cd)(a2 bc ba:Int):Option vN:=aw (aL ag (aD.length:Int)) λZ=>aw (aL ab Z) λad=>if decide (ad.kind=40)then abG J aD ag ab al a2 bc ba ad am (0,0)else if decide (ad.kind=43)||(decide (ad.kind=44)||decide (ad.kind=46))then abF ad J ab ag ak ap an al am aD (([]:List bt),0,a2,bc,ba,0)else Dh aD am (([]:List bt),a2,bc,ba,0,ad.kind)
def abH(ab:Int)(J:ax)(ag:List bz)(ak ap:List Int)(an:List ByteArray)(al am:List Int):vN->Option vN:=J.b8 λ(Mw,SS,SU,SV,gQ)=>if decide ((Mw.length:Int)<=ab)then(Gx J ag ak ap an al am gQ Mw SS SU SV).bind λZ=>D (.inl (Z.1,Z.2.1,Z.2.2.1,Z.2.2.2.1,Z.2.2.2.2))else(D (Mw,SS,SU,SV,gQ)).map .inr
def v7(J:ax)(ab:Int)(ag:List bz)(ak ap:List Int)(an:List ByteArray)(al am:List Int)(aD:Nat)(a2:List cd)(bc ba bm:Int):Option vN:=abH ab J ag ak ap an al am (a2,bc,ba,bm,aD)
def Gy(J:ax)(U:bf)(aj:Int)(a6:List Int):Option cd:=aw (x6 J U a6) λZ=>aw (v7 J aj Z.1 Z.2.1 Z.2.2.1 Z.2.2.2.1 Z.2.2.2.2.1 Z.2.2.2.2.2.1 Z.2.2.2.2.2.2.2.1 Z.2.2.2.2.2.2.1 Z.2.2.2.2.2.2.2.2.1 Z.2.2.2.2.2.2.2.2.2.1 Z.2.2.2.2.2.2.2.2.2.2) λad=>aw (aL ad.1 aj) λaA=>D aA
def Gz(J:ax)(U:bf)(aj:Int)(a6:List Int):Option Bool:=aw (Gy J U aj a6) λZ=>aw (aL Z 0) λad=>D (decide (ad.fault=0)&& !decide (ad.n=0))
def Af(a0:cd×Int)(lq:Int)(be:Bool×Int):Int->Option Bool:=λMx=>if decide (a0.2=lq)&&decide (be.2=Mx)then if decide (lq=0)then if decide (Mx=0)then(k5).bind λeC=>D eC else if !be.1 then(k5).bind λet=>D et else D aQ else if decide ((a0.1.length:Int)=0)then if decide (Mx=0)then(k5).bind λgk=>D gk else if !be.1 then(k5).bind λfo=>D fo else D aQ else D aQ else D aQ
def x8(c5:bz)(a0:cd×Int)(be:Bool×Int):Int->Option Bool:=λlq=>if !(decide (c5.kind=44))then Af a0 lq be 7 else Af a0 lq be lq
def qx(a0:cd×Int)(be:Bool×Int)(U:bf)(aj:Int)(J:ax)(a6:List Int):Int->Option Bool:=λh0=>if !decide (h0=0)then if((decide (a0.2=h0)&&decide (be.2=h0))&&decide ((a0.1.length:Int)=0))&& !be.1 then(k5).bind λcP=>D cP else D aQ else(aL U.aX aj).bind λdr=>aw (aL U.nodes dr) λc5=>aw (tz J U aj a6) λiI=>if !iI then x8 c5 a0 be 3 else(Gy J U aj a6).bind λh'=>aw (qu J a0.1 h') λiJ=>if !iJ then D aQ else if decide (c5.kind=44)then(Gz J U aj a6).bind λiK=>if !(be.1==iK)then D aQ else x8 c5 a0 be h0 else x8 c5 a0 be h0
def w4(J:ax)(U:bf)(aj:Int)(a6:List Int):Option Bool:=aw (xH J U) λZ=>if Z||decide (20<(a6.length:Int))then(k5).bind λad=>D ad else(x1 J U).bind λaA=>aw (eR ([]:List Int) a6) λaN=>aw (pU J ⟨aA.nodes,aA.aX⟩ aj aN) λa0=>aw (o4 J ⟨aA.nodes,aA.aX⟩ aj aN) λbe=>aw (uT J ⟨aA.nodes,aA.aX⟩ U) λbL=>if !bL then D aQ else(uU J aN a6).bind λbJ=>if !bJ then D aQ else(sq J U).bind λci=>if decide (ci=0)then(nI U aj).bind λlQ=>if !lQ then qx a0 be U aj J a6 7 else qx a0 be U aj J a6 ci else qx a0 be U aj J a6 ci
def My(J:ax)(U:bf)(aj:List Int):Option (List cd):=aw (x6 J U aj) λZ=>aw (v7 J (aH ((U.aX.length:Int)- 1)) Z.1 Z.2.1 Z.2.2.1 Z.2.2.2.1 Z.2.2.2.2.1 Z.2.2.2.2.2.1 Z.2.2.2.2.2.2.2.1 Z.2.2.2.2.2.2.1 Z.2.2.2.2.2.2.2.2.1 Z.2.2.2.2.2.2.2.2.2.1 Z.2.2.2.2.2.2.2.2.2.2) λad=>D ad.1
def abI(U aj:List cd)(J:ax):Int->Option Bool:=J.b8 λcb=>if decide (cb<(U.length:Int))then(aL U cb).bind λZ=>aw (aL aj cb) λad=>aw (qu J Z ad) λaA=>if !aA then(D aQ).map .inr else D (.inl (aH (cb+1)))else(D ah).map .inr
def GA(J:ax)(U aj:List cd):Option Bool:=if !decide ((U.length:Int)=(aj.length:Int))then D aQ else abI U aj J 0
def Ag(a0:List cd×Int)(J:ax)(U:bf)(aj:List Int):Int->Option Bool:=λgE=>if !decide (gE=0)then if decide (a0.2=gE)&&decide ((a0.1.length:Int)=0)then(k5).bind λci=>D ci else D aQ else if decide (a0.2=0)then(My J U aj).bind λcP=>aw (GA J a0.1 cP) λdr=>if dr then(k5).bind λc5=>D c5 else D aQ else D aQ
def SW(J:ax)(U:bf)(aj:List Int):Option Bool:=aw (xH J U) λZ=>if Z||decide (20<(aj.length:Int))then(k5).bind λad=>D ad else(x1 J U).bind λaA=>aw (eR ([]:List Int) aj) λaN=>aw (vZ J ⟨aA.nodes,aA.aX⟩ aN) λa0=>aw (uT J ⟨aA.nodes,aA.aX⟩ U) λbe=>if !be then D aQ else(uU J aN aj).bind λbL=>if !bL then D aQ else(sq J U).bind λbJ=>if decide (bJ=0)then(tz J U (aH ((U.aX.length:Int)- 1)) aj).bind λeC=>if !eC then Ag a0 J U aj 3 else Ag a0 J U aj bJ else Ag a0 J U aj bJ
def abJ(ad:dl×ByteArray)(J:ax)(U:bf):(Int×Int)->Option Int:=J.b8 λ(cb,b6)=>if decide (b6<(ad.1.length:Int))then(aL ad.1 b6).bind λaA=>aw (tw J U aA) λaN=>D (.inl ((aH (cb+aN)),(aH (b6+1))))else(D cb).map .inr
def Di(J:ax)(U:bf)(aj:Int):Option Int:=aw (aL U.aX aj) λZ=>aw (z' J U Z) λad=>abJ ad J U (0,0)
def GB(U:bt):Option Bool:=if decide (0<U.fault)then D (decide (U.fault<=4)&&decide (U.n=0))else D (decide ((-9999)<=U.n)&&decide (U.n<=9999))
def abK(J:ax)(U:List bt):Int->Option Bool:=J.b8 λeX=>if decide (eX<(U.length:Int))then(aL U eX).bind λZ=>aw (GB Z) λad=>if !ad then(D aQ).map .inr else D (.inl (aH (eX+1)))else(D ah).map .inr
def Dj(J:ax)(U:List bt):Option Bool:=abK J U 0
def SX(U:bf)(aj:Int)(J:ax)(aN:dl×ByteArray)(Z:List bz×List Int×List Int×dl×List Int×List Int×List cd×Nat×Int×Int×Int)(ad:List cd×Int×Int×Int×Nat):List cd->Option cd:=λkM=>aw (aL U.aX aj) λa0=>aw (tw J U aN.2) λbe=>aw (Df J (Gw J) a0 kM be (-1) 0 Z.1 Z.2.1 Z.2.2.1 Z.2.2.2.1 Z.2.2.2.2.1 Z.2.2.2.2.2.1 ad.2.2.2.2 ad.1 ad.2.1 ad.2.2.1 ad.2.2.2.1) λbL=>D bL.1
def abL(aN:dl×ByteArray)(J:ax)(U:bf)(a6:List bt)(aj:Int)(Z:List bz×List Int×List Int×dl×List Int×List Int×List cd×Nat×Int×Int×Int)(ad:List cd×Int×Int×Int×Nat):(List cd×Int×Int)->Option cd:=J.b8 λ(lp,lq,v6)=>if decide (v6<(aN.1.length:Int))then(aL aN.1 v6).bind λbJ=>aw (tw J U bJ) λci=>aw (hG a6 lq (aH (lq+ci))) λcP=>aw (eR lp ([cP]:List cd)) λdr=>D (.inl (dr,(aH (lq+ci)),(aH (v6+1))))else(SX U aj J aN Z ad lp).map .inr
def Mz(J:ax)(U:bf)(aj:Int)(a6:List bt)(dg:List Int):Option cd:=aw (x6 J U dg) λZ=>aw (v7 J (aH (aj- 1)) Z.1 Z.2.1 Z.2.2.1 Z.2.2.2.1 Z.2.2.2.2.1 Z.2.2.2.2.2.1 Z.2.2.2.2.2.2.2.1 Z.2.2.2.2.2.2.1 Z.2.2.2.2.2.2.2.2.1 Z.2.2.2.2.2.2.2.2.2.1 Z.2.2.2.2.2.2.2.2.2.2) λad=>aw (aL U.aX aj) λaA=>aw (z' J U aA) λaN=>abL aN J U a6 aj Z ad (([]:List cd),0,0)
def lr(be:cd×Int)(J:ax)(U:bf)(aj:Fz):Int->Option Bool:=λh_=>if !decide (h_=0)then if decide (be.2=h_)&&decide ((be.1.length:Int)=0)then(k5).bind λdr=>D dr else D aQ else if decide (be.2=0)then(Mz J U aj.gM aj.args aj.l7).bind λc5=>aw (qu J be.1 c5) λeC=>if eC then(k5).bind λet=>D et else D aQ else D aQ
def SY(J:ax)(U:bf)(aj:Fz):Option Bool:=aw (xH J U) λZ=>if(Z||decide (20<(aj.l7.length:Int)))||decide (50<(aj.args.length:Int))then(k5).bind λad=>D ad else(x1 J U).bind λaA=>aw (eR ([]:List Int) aj.l7) λaN=>aw (eR ([]:List bt) aj.args) λa0=>aw (m7 J ⟨aA.nodes,aA.aX⟩ aj.gM a0 aN) λbe=>aw (uT J ⟨aA.nodes,aA.aX⟩ U) λbL=>if !bL then D aQ else(uU J aN aj.l7).bind λbJ=>if !bJ then D aQ else(qu J a0 aj.args).bind λci=>if !ci then D aQ else(sq J U).bind λcP=>if !decide (cP=0)then lr be J U aj cP else(nI U aj.gM).bind λgk=>if !gk then lr be J U aj 7 else(aL U.aX aj.gM).bind λfo=>aw (aL U.nodes fo) λiI=>if !decide (iI.kind=42)then lr be J U aj 7 else(tz J U aj.gM aj.l7).bind λh'=>if !h' then lr be J U aj 3 else(Di J U aj.gM).bind λiJ=>if !decide ((aj.args.length:Int)=iJ)then lr be J U aj 4 else(Dj J aj.args).bind λiK=>if !iK then lr be J U aj 2 else lr be J U aj cP
def MA(J:ax)(U:bf)(aj:Int)(a6:List Int):Option (Int×Int):=aw (x6 J U a6) λZ=>aw (v7 J (aH (aj- 1)) Z.1 Z.2.1 Z.2.2.1 Z.2.2.2.1 Z.2.2.2.2.1 Z.2.2.2.2.2.1 Z.2.2.2.2.2.2.2.1 Z.2.2.2.2.2.2.1 Z.2.2.2.2.2.2.2.2.1 Z.2.2.2.2.2.2.2.2.2.1 Z.2.2.2.2.2.2.2.2.2.2) λad=>aw (Gx J Z.1 Z.2.1 Z.2.2.1 Z.2.2.2.1 Z.2.2.2.2.1 Z.2.2.2.2.2.1 ad.2.2.2.2 ad.1 0 ad.2.2.1 0) λaA=>D (aA.2.1,aA.2.2.2.1)
def Ah(a0 be:Int×Int)(J:ax)(U:bf)(aj:Int)(a6:List Int):Int->Option Bool:=λlq=>if !decide (lq=0)then if((decide (a0.2=lq)&&decide (be.2=lq))&&decide (a0.1=0))&&decide (be.1=0)then(k5).bind λcP=>D cP else D aQ else(MA J U aj a6).bind λdr=>if((decide (a0.2=0)&&decide (be.2=0))&&decide (a0.1=dr.1))&&decide (be.1=dr.2)then(k5).bind λc5=>D c5 else D aQ
def x9(J:ax)(U:bf)(aj:Int)(a6:List Int)(a0 be:Int×Int):Int->Option Bool:=λh0=>if decide (h0=0)then(tz J U aj a6).bind λeC=>if !eC then Ah a0 be J U aj a6 3 else Ah a0 be J U aj a6 h0 else Ah a0 be J U aj a6 h0
def SZ(J:ax)(U:bf)(aj:Int)(a6:List Int):Option Bool:=aw (xH J U) λZ=>if Z||decide (20<(a6.length:Int))then(k5).bind λad=>D ad else(x1 J U).bind λaA=>aw (eR ([]:List Int) a6) λaN=>aw (tu J ⟨aA.nodes,aA.aX⟩ aj aN) λa0=>aw (tv J ⟨aA.nodes,aA.aX⟩ aj aN) λbe=>aw (uT J ⟨aA.nodes,aA.aX⟩ U) λbL=>if !bL then D aQ else(uU J aN a6).bind λbJ=>if !bJ then D aQ else(sq J U).bind λci=>if decide (ci=0)then(nI U aj).bind λet=>if !et then x9 J U aj a6 a0 be 7 else x9 J U aj a6 a0 be ci else x9 J U aj a6 a0 be ci
def akH(J:ax)(U:List Int)(aj:Int):Int->Option Int:=J.b8 λb6=>if decide (b6<(U.length:Int))then(aL U b6).bind λZ=>if decide (aj=Z)then(D b6).map .inr else D (.inl (aH (b6+1)))else(D (-1)).map .inr
def abM(J:ax)(U:List Int)(aj:Int):Option Int:=akH J U aj 0
def S0(J:ax)(U:List Int)(aj:Int):Option Bool:=aw (abM J U aj) λZ=>D (decide (0<=Z))
def MB(J:ax)(ab:Int)(ag:bf)(ak:Int):Option Bool:=aw (aL ag.nodes ab) λZ=>aw (zQ Z.kind) λad=>if ad then(S0 J Z.a3 ak).bind λaA=>D aA else D aQ
def abN(ab:List Int)(J:ax)(ag:bf)(ak:Int):Int->Option Int:=J.b8 λb6=>if decide (b6<(ab.length:Int))then(aL ab b6).bind λZ=>aw (MB J Z ag ak) λad=>if ad then(D b6).map .inr else D (.inl (aH (b6+1)))else(D (-1)).map .inr
def GC(J:ax)(ab:List Int)(ag:bf)(ak:Int):Option Int:=abN ab J ag ak 0
def uZ(J:ax)(U:bf)(aj:Int)(a6:List Int):Option (cd×Int):=(xT J U).bind (dQ (λZ=>if !decide (Z=0)then D ([],Z)else(GC J U.aX U aj).bind λaA=>if decide (aA< 0)then D ([],7)else aF) (λad=>if !decide (ad.1=0)then D ([],ad.1)else(GC J U.aX U aj).bind λaN=>if decide (aN< 0)then D ([],7)else(xU J aN a6 ad.2.1 ad.2.2.1 ad.2.2.2.1 ad.2.2.2.2.1 ad.2.2.2.2.2.1 ad.2.2.2.2.2.2.1 ad.2.2.2.2.2.2.2.1 ad.2.2.2.2.2.2.2.2.1 ad.2.2.2.2.2.2.2.2.2.1 ad.2.2.2.2.2.2.2.2.2.2.1 ad.2.2.2.2.2.2.2.2.2.2.2).bind λa0=>if !a0.1 then D ([],3)else(zR).bind λbe=>aw (zU J (zV J) aj ad.2.1 ad.2.2.1 ad.2.2.2.1 ad.2.2.2.2.1 ad.2.2.2.2.2.1 ad.2.2.2.2.2.2.1 ad.2.2.2.2.2.2.2.1 be.1 be.2.1 a0.2 ad.2.2.2.2.2.2.2.2.2.1 ad.2.2.2.2.2.2.2.2.2.2.1 ad.2.2.2.2.2.2.2.2.2.2.2 be.2.2) λbL=>aw (Gf bL.1) λbJ=>D (bJ,0)))
def abO(U:bf)(J:ax)(aj:Int):Int->Option Int:=J.b8 λcb=>if decide (cb<(U.aX.length:Int))then(aL U.aX cb).bind λZ=>aw (aL U.nodes Z) λad=>if(decide (ad.kind=43)||decide (ad.kind=44))||decide (ad.kind=46)then(z4 J ad.a3 aj).bind λaA=>if aA then(D cb).map .inr else D (.inl (aH (cb+1)))else D (.inl (aH (cb+1)))else(D (-1)).map .inr
def Dk(J:ax)(U:bf)(aj:Int):Option Int:=abO U J aj 0
def MC(J:ax)(U:bf)(aj:Int)(a6:List Int):Option cd:=aw (x6 J U a6) λZ=>aw (Dk J U aj) λad=>aw (v7 J (aH (ad- 1)) Z.1 Z.2.1 Z.2.2.1 Z.2.2.2.1 Z.2.2.2.2.1 Z.2.2.2.2.2.1 Z.2.2.2.2.2.2.2.1 Z.2.2.2.2.2.2.1 Z.2.2.2.2.2.2.2.2.1 Z.2.2.2.2.2.2.2.2.2.1 Z.2.2.2.2.2.2.2.2.2.2) λaA=>aw (Gw J aj ⟨[],[]⟩ (-1) 0 Z.1 Z.2.1 Z.2.2.1 Z.2.2.2.1 Z.2.2.2.2.1 Z.2.2.2.2.2.1 aA.2.2.2.2 aA.1 aA.2.1 aA.2.2.1 aA.2.2.2.1) λaN=>D aN.1
def Ai(a0:cd×Int)(J:ax)(U:bf)(aj:Int)(a6:List Int):Int->Option Bool:=λm6=>if !decide (m6=0)then if decide (a0.2=m6)&&decide ((a0.1.length:Int)=0)then(k5).bind λci=>D ci else D aQ else if decide (a0.2=0)then(MC J U aj a6).bind λcP=>aw (qu J a0.1 cP) λdr=>if dr then(k5).bind λc5=>D c5 else D aQ else D aQ
def u0(J:ax)(U:bf)(aj:Int)(a6:List Int)(a0:cd×Int):Int->Option Bool:=λkn=>if decide (kn=0)then(Dk J U aj).bind λeC=>aw (tz J U eC a6) λet=>if !et then Ai a0 J U aj a6 3 else Ai a0 J U aj a6 kn else Ai a0 J U aj a6 kn
def S1(J:ax)(U:bf)(aj:Int)(a6:List Int):Option Bool:=aw (xH J U) λZ=>if Z||decide (20<(a6.length:Int))then(k5).bind λad=>D ad else(x1 J U).bind λaA=>aw (eR ([]:List Int) a6) λaN=>aw (uZ J ⟨aA.nodes,aA.aX⟩ aj aN) λa0=>aw (uT J ⟨aA.nodes,aA.aX⟩ U) λbe=>if !be then D aQ else(uU J aN a6).bind λbL=>if !bL then D aQ else(sq J U).bind λbJ=>if decide (bJ=0)then if decide (aj< 0)then u0 J U aj a6 a0 7 else if decide ((U.nodes.length:Int)<=aj)then u0 J U aj a6 a0 7 else(Dk J U aj).bind λgk=>if decide (gk< 0)then u0 J U aj a6 a0 7 else u0 J U aj a6 a0 bJ else u0 J U aj a6 a0 bJ
end
end Go.Proofs.YtgfggdcbhjhegaaGreatDoor

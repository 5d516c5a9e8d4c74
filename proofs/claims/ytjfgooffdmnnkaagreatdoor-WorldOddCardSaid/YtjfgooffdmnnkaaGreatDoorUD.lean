/- What the functions of the program compute, as functions of plain data. -/
import Derived.Test.YtjfgooffdmnnkaaGreatDoorH
import Derived.Test.YtjfgooffdmnnkaaGreatDoorChecked
set_option linter.all false
set_option maxRecDepth 100000
set_option maxHeartbeats 4000000
namespace Go.Proofs.YtjfgooffdmnnkaaGreatDoor
open Go Go.Mi Go.RowKit Go.Dp Tryz Go.Proofs.Tryz
open Bool renaming false->aS,true->ad,and_self->JY
open _root_.ByteArray renaming mk->bk
open Go renaming LoopState->qm,World->bj,Code->eZ,TypeId->co,Operand->bY,Value->be
open Go.Instr renaming field->Of,sameBits->adt
open Go.IntKind renaming i64->fJ,u8->r_,u32->Vd
open Go.Op renaming equalIn->kZ,equal->lG,maxDepth->uf
open Go.Result renaming andThen->cp
open Go.Sem renaming run_bind->cq
open Go.Value renaming int->eN,slice->hb,agg->ln,string->r',bool->zn,map->zo,pointer->Og,nilFunc->Ve
open Option renaming bind->au,some->I,none->aJ
open Sum renaming elim->eo
noncomputable section
attribute [local irreducible] bS dl cv b7
abbrev ig st ee fr(j:Nat):=(.loop st ee 0 39 fr #[19] (g9 (g9 (fj (g9 (fj (fj (oj f245))))))) (fj (g9 (fj (g9 (fj (fj (oj f245))))))) j:aN)
abbrev s7 st ee fr(j:Nat):=(.loop st ee 0 45 fr #[12,13] (g9 (g9 (fj (g9 (fj (oj f326)))))) (fj (g9 (fj (g9 (fj (oj f326)))))) j:aN)
abbrev wH st ee fr(j:Nat):=(.loop st ee 0 45 fr #[18] (g9 (g9 (fj (g9 (fj (g9 (fj (g9 (fj (oj f326)))))))))) (fj (g9 (fj (g9 (fj (g9 (fj (g9 (fj (oj f326)))))))))) j:aN)
abbrev wI st ee fr(j:Nat):=(.loop st ee 0 45 fr #[29,30] (g9 (g9 (fj (fj (fj (oj f326)))))) (fj (g9 (fj (fj (fj (oj f326)))))) j:aN)
abbrev Bb st ee fr(j:Nat):=(.loop st ee 0 41 fr #[12,13] (g9 (g9 (fj (g9 (fj (oj f246)))))) (fj (g9 (fj (g9 (fj (oj f246)))))) j:aN)
abbrev JZ st ee fr(j:Nat):=(.loop st ee 0 30 fr #[13,14] (g9 (g9 (fj (g9 (fj (fj (oj f49))))))) (fj (g9 (fj (g9 (fj (fj (oj f49))))))) j:aN)
abbrev J0 st ee fr(j:Nat):=(.loop st ee 0 23 fr #[13,14] (g9 (g9 (fj (g9 (fj (oj f43)))))) (fj (g9 (fj (g9 (fj (oj f43)))))) j:aN)
abbrev Bc st ee fr(j:Nat):=(.loop st ee 0 52 fr #[13,14] (g9 (g9 (fj (g9 (fj (fj (oj f120))))))) (fj (g9 (fj (g9 (fj (fj (oj f120))))))) j:aN)
abbrev J1 st ee fr(j:Nat):=(.loop st ee 0 61 fr #[21,22] (g9 (g9 (fj (g9 (fj (fj (oj f220))))))) (fj (g9 (fj (g9 (fj (fj (oj f220))))))) j:aN)
abbrev J2 st ee fr(j:Nat):=(.loop st ee 0 71 fr #[60] (g9 (g9 (fj (g9 (fj (fj (fj (fj (fj (fj (oj f184))))))))))) (fj (g9 (fj (g9 (fj (fj (fj (fj (fj (fj (oj f184))))))))))) j:aN)
def anP:Nat->Nat
  |1=>347
  |2=>350
  |3=>351
  |4=>352
  |5=>353
  |_=>0
abbrev adu(z:Nat):P:=.v (.func (.func (anP z)) #[] #[])
abbrev Bd(z:Nat):V:=.p (adu z)
instance:x9 Bd:=⟨λ_ _=>rfl,λ_ _=>rfl⟩
@[ext] structure bm where
  kind:Int
  text:ByteArray
  n:Int
  a8:List Int
  at_:Int
deriving DecidableEq
def kz(x:bm):List P:=[bd x.kind,fA x.text,bI x.n,sl 1 ch x.a8,bI x.at_]
@[ext] structure aZ where
  nodes:List bm
  aD:List Int
deriving DecidableEq
def dY(x:aZ):List P:=[sl 5 kz x.nodes,sl 1 ch x.aD]
@[ext] structure e' where
  kind:Int
  text:ByteArray
  at_:Int
deriving DecidableEq
def J3(x:e'):List P:=[bd x.kind,fA x.text,bI x.at_]
@[ext] structure vn where
  Gl:List ByteArray
deriving DecidableEq
def adv(x:vn):List P:=[sl 1 fd x.Gl]
@[ext] structure nS where
  kS:List Int
deriving DecidableEq
def Gm(x:nS):List P:=[sl 1 ch x.kS]
@[ext] structure ct where
  name:ByteArray
  lo:Int
  hi:Int
deriving DecidableEq
def l5(x:ct):List P:=[fA x.name,bI x.lo,bI x.hi]
@[ext] structure lJ where
  lU:Int
  qs:Int
  jK:Nat
deriving DecidableEq
def uj(x:lJ):List P:=[bI x.lU,bI x.qs,adu x.jK]
@[ext] structure uk where
  named:Bool
  low:Int
  high:Int
  parts:List lJ
deriving DecidableEq
def J4(x:uk):List P:=[Nf x.named,bI x.low,bI x.high,sl 3 uj x.parts]
@[ext] structure k4 where
  x_:Int
  depth:Int
deriving DecidableEq
def Gn(x:k4):List P:=[bI x.x_,bI x.depth]
@[ext] structure adw where
  adx:Int
  ady:Int
  adz:Int
deriving DecidableEq
def anQ(x:adw):List P:=[bI x.adx,bI x.ady,bI x.adz]
@[ext] structure gq where
  kk:Int
  vo:Int
deriving DecidableEq
@[ext] structure fT where
  qk:Bool
  jK:Bool
deriving DecidableEq
def Vf(x:fT):List P:=[Nf x.qk,Nf x.jK]
@[ext] structure b6 where
  cU:Int
  n:Int
deriving DecidableEq
def cM(x:b6):List P:=[bd x.cU,bI x.n]
@[ext] structure qt where
  adA:Int
  Dq:Int
deriving DecidableEq
def Vg(x:qt):List P:=[bI x.adA,bI x.Dq]
@[ext] structure adB where
  Z:Int
  an:Int
deriving DecidableEq
def anR(x:adB):List P:=[bI x.Z,bI x.an]
@[ext] structure nT where
  kS:List Int
  cells:List (List b6)
deriving DecidableEq
def Be(x:nT):List P:=[sl 1 ch x.kS,sl 1 (lk 2 cM) x.cells]
@[ext] structure J5 where
  Bf:Int
  name:ByteArray
  J6:List Int
deriving DecidableEq
def adC(x:J5):List P:=[bI x.Bf,fA x.name,sl 1 ch x.J6]
def wJ:Nat->V
  |0=>.p (.v .nilFunc)
  |1=>.p (.v (.func (.func 289) #[] #[]))
  |2=>.p (.v (.func (.func 290) #[] #[]))
  |_=>.p (.v (.func (.func 0) #[] #[]))
def anS(z k:Nat):(wJ z).lt k=ad:=by unfold wJ;split<;>rfl
def anT(z:Nat)(s:Nat->Nat):(wJ z).dN s=wJ z:=by unfold wJ;split<;>rfl
instance:x9 wJ:=⟨anT,anS⟩
def anU(z:Nat):(decide (z=0)=ad/\wJ z=.p (.v .nilFunc))\/(decide (z=0)=aS/\(wJ z).FL=ad):=by
  by_cases e:z=0
  · subst e;exact .inl ⟨rfl,rfl⟩
  · refine .inr ⟨by simp[e],?_⟩
    unfold wJ;split<;>first|rfl|(exact absurd rfl e)
def rd:Nat->V
  |0=>.p (.v .nilFunc)
  |1=>.p (.v (.func (.func 292) #[] #[]))
  |2=>.p (.v (.func (.func 293) #[] #[]))
  |3=>.p (.v (.func (.func 294) #[] #[]))
  |4=>.fn (.func 330) [] [.bG [.v (.func (.func 296) #[] #[])]]
  |5=>.fn (.func 330) [] [.bG [.v (.func (.func 297) #[] #[])]]
  |6=>.fn (.func 332) [] [.bG [.v (.func (.func 299) #[] #[])]]
  |7=>.fn (.func 332) [] [.bG [.v (.func (.func 300) #[] #[])]]
  |8=>.fn (.func 332) [] [.bG [.v (.func (.func 301) #[] #[])]]
  |_=>.p (.v (.func (.func 0) #[] #[]))
def anV(z k:Nat):(rd z).lt k=ad:=by unfold rd;split<;>rfl
def anW(z:Nat)(s:Nat->Nat):(rd z).dN s=rd z:=by unfold rd;split<;>rfl
instance:x9 rd:=⟨anW,anV⟩
def anX(z:Nat):(decide (z=0)=ad/\rd z=.p (.v .nilFunc))\/(decide (z=0)=aS/\(rd z).FL=ad):=by
  by_cases e:z=0
  · subst e;exact .inl ⟨rfl,rfl⟩
  · refine .inr ⟨by simp[e],?_⟩
    unfold rd;split<;>first|rfl|(exact absurd rfl e)
theorem x'(a b:Int)(d:Nat)(w:bj):(kZ (d+1) 3 (.int .i64 a) (.int .i64 b)).run prog w=.ok (decide (a=b)) w:=by simp[kZ,runUnderlying3,cq,cp];rfl
theorem Vh:prog.stoodInHeld 119=aS:=by kernel_rfl
def anY(x y:gq)(w:bj):(lG 119 (.agg [.int .i64 x.kk,.int .i64 x.vo].toArray) (.agg [.int .i64 y.kk,.int .i64 y.vo].toArray)).run prog w=.ok (decide (x=y)) w:=by
  unfold lG;rw[show uf=9998+1+1 from rfl];unfold kZ;obtain⟨Z,an⟩:=x;obtain⟨eu,hF⟩:=y;by_cases bh:Z=eu
  · by_cases h1:an=hF
    · simp[runUnderlying119,cq,Vh,cp,part,isAgg3,x',gq.mk.injEq,bh,h1]
    · simp[runUnderlying119,cq,Vh,cp,part,isAgg3,x',gq.mk.injEq,bh,h1]
  · simp[runUnderlying119,cq,Vh,cp,part,isAgg3,x',gq.mk.injEq,bh]
theorem Vi(a b:Bool)(d:Nat)(w:bj):(kZ (d+1) 4 (.bool a) (.bool b)).run prog w=.ok (decide (a=b)) w:=by simp[kZ,runUnderlying4,cq,cp];cases a<;>cases b<;>rfl
theorem Vj:prog.stoodInHeld 121=aS:=by kernel_rfl
def anZ:prog.eqGuardType prog.depth 121=aS:=by kernel_rfl
def an0(x y:fT)(w:bj):(lG 121 (.agg [.bool x.qk,.bool x.jK].toArray) (.agg [.bool y.qk,.bool y.jK].toArray)).run prog w=.ok (decide (x=y)) w:=by
  unfold lG;rw[show uf=9998+1+1 from rfl];unfold kZ;obtain⟨Z,an⟩:=x;obtain⟨eu,hF⟩:=y;by_cases bh:Z=eu
  · by_cases h1:an=hF
    · simp[runUnderlying121,cq,Vj,cp,part,isAgg4,Vi,fT.mk.injEq,bh,h1]
    · simp[runUnderlying121,cq,Vj,cp,part,isAgg4,Vi,fT.mk.injEq,bh,h1]
  · simp[runUnderlying121,cq,Vj,cp,part,isAgg4,Vi,fT.mk.injEq,bh]
theorem Vk:prog.stoodInHeld 231=aS:=by kernel_rfl
def an1(x y:k4)(w:bj):(lG 231 (.agg [.int .i64 x.x_,.int .i64 x.depth].toArray) (.agg [.int .i64 y.x_,.int .i64 y.depth].toArray)).run prog w=.ok (decide (x=y)) w:=by
  unfold lG;rw[show uf=9998+1+1 from rfl];unfold kZ;obtain⟨Z,an⟩:=x;obtain⟨eu,hF⟩:=y;by_cases bh:Z=eu
  · by_cases h1:an=hF
    · simp[runUnderlying231,cq,Vk,cp,part,isAgg3,x',k4.mk.injEq,bh,h1]
    · simp[runUnderlying231,cq,Vk,cp,part,isAgg3,x',k4.mk.injEq,bh,h1]
  · simp[runUnderlying231,cq,Vk,cp,part,isAgg3,x',k4.mk.injEq,bh]
theorem Oh(a b:ByteArray)(d:Nat)(w:bj):(kZ (d+1) 9 (.string a) (.string b)).run prog w=.ok (decide (a=b)) w:=by simp[kZ,runUnderlying9,cq,cp];rcases a with⟨x⟩;rcases b with⟨y⟩;show(x==y)=_;rw[Bool.eq_iff_iff];simp
theorem Oi:prog.stoodInHeld 52=aS:=by kernel_rfl
def adD:prog.eqGuardType prog.depth 52=aS:=by kernel_rfl
def adE(x y:ct)(w:bj):(lG 52 (.agg [.string x.name,.int .i64 x.lo,.int .i64 x.hi].toArray) (.agg [.string y.name,.int .i64 y.lo,.int .i64 y.hi].toArray)).run prog w=.ok (decide (x=y)) w:=by
  unfold lG;rw[show uf=9998+1+1 from rfl];unfold kZ;obtain⟨Z,an,a'⟩:=x;obtain⟨eu,hF,gI⟩:=y;by_cases bh:Z=eu
  · by_cases h1:an=hF
    · by_cases h2:a'=gI
      · simp[runUnderlying52,cq,Oi,cp,part,isAgg3,isAgg9,x',Oh,ct.mk.injEq,bh,h1,h2]
      · simp[runUnderlying52,cq,Oi,cp,part,isAgg3,isAgg9,x',Oh,ct.mk.injEq,bh,h1,h2]
    · simp[runUnderlying52,cq,Oi,cp,part,isAgg3,isAgg9,x',Oh,ct.mk.injEq,bh,h1]
  · simp[runUnderlying52,cq,Oi,cp,part,isAgg3,isAgg9,x',Oh,ct.mk.injEq,bh]
instance az0:e8 prog 100 0 0:=⟨λ_ _=>by kernel_rfl⟩
instance az1:e8 prog 100 1 1:=⟨λ_ _=>by kernel_rfl⟩
instance az2:e8 prog 100 2 2:=⟨λ_ _=>by kernel_rfl⟩
instance az3:e8 prog 100 3 4:=⟨λ_ _=>by kernel_rfl⟩
instance az4:e8 prog 102 0 0:=⟨λ_ _=>by kernel_rfl⟩
instance az5:e8 prog 102 1 1:=⟨λ_ _=>by kernel_rfl⟩
instance az6:e8 prog 102 2 2:=⟨λ_ _=>by kernel_rfl⟩
instance az7:e8 prog 108 0 0:=⟨λ_ _=>by kernel_rfl⟩
instance az8:e8 prog 108 1 2:=⟨λ_ _=>by kernel_rfl⟩
instance az9:e8 prog 121 0 0:=⟨λ_ _=>by kernel_rfl⟩
instance aAa:e8 prog 121 1 1:=⟨λ_ _=>by kernel_rfl⟩
instance aAb:e8 prog 124 0 0:=⟨λ_ _=>by kernel_rfl⟩
instance aAc:e8 prog 124 1 1:=⟨λ_ _=>by kernel_rfl⟩
instance aAd:e8 prog 135 0 0:=⟨λ_ _=>by kernel_rfl⟩
instance aAe:e8 prog 139 0 0:=⟨λ_ _=>by kernel_rfl⟩
instance aAf:e8 prog 154 0 0:=⟨λ_ _=>by kernel_rfl⟩
instance aAg:e8 prog 154 1 2:=⟨λ_ _=>by kernel_rfl⟩
instance aAh:e8 prog 154 2 3:=⟨λ_ _=>by kernel_rfl⟩
instance aAi:e8 prog 154 3 4:=⟨λ_ _=>by kernel_rfl⟩
instance aAj:e8 prog 154 4 5:=⟨λ_ _=>by kernel_rfl⟩
instance aAk:e8 prog 154 5 6:=⟨λ_ _=>by kernel_rfl⟩
instance aAl:e8 prog 154 6 7:=⟨λ_ _=>by kernel_rfl⟩
instance aAm:e8 prog 154 7 8:=⟨λ_ _=>by kernel_rfl⟩
instance aAn:e8 prog 154 8 9:=⟨λ_ _=>by kernel_rfl⟩
instance aAo:e8 prog 172 0 0:=⟨λ_ _=>by kernel_rfl⟩
instance aAp:e8 prog 172 1 1:=⟨λ_ _=>by kernel_rfl⟩
instance aAq:e8 prog 172 2 2:=⟨λ_ _=>by kernel_rfl⟩
instance an2:e8 prog 178 0 0:=⟨λ_ _=>by kernel_rfl⟩
instance aAr:e8 prog 178 1 2:=⟨λ_ _=>by kernel_rfl⟩
instance an3:e8 prog 178 2 5:=⟨λ_ _=>by kernel_rfl⟩
instance aAs:e8 prog 178 3 6:=⟨λ_ _=>by kernel_rfl⟩
instance aAt:e8 prog 178 4 7:=⟨λ_ _=>by kernel_rfl⟩
instance aAu:e8 prog 178 5 8:=⟨λ_ _=>by kernel_rfl⟩
instance aAv:e8 prog 178 6 9:=⟨λ_ _=>by kernel_rfl⟩
instance aAw:e8 prog 178 7 10:=⟨λ_ _=>by kernel_rfl⟩
instance aAx:e8 prog 189 0 0:=⟨λ_ _=>by kernel_rfl⟩
instance aAy:e8 prog 189 1 1:=⟨λ_ _=>by kernel_rfl⟩
instance aAz:e8 prog 192 0 0:=⟨λ_ _=>by kernel_rfl⟩
instance aAA:e8 prog 192 1 1:=⟨λ_ _=>by kernel_rfl⟩
instance aAB:e8 prog 192 2 2:=⟨λ_ _=>by kernel_rfl⟩
instance aAC:e8 prog 194 0 0:=⟨λ_ _=>by kernel_rfl⟩
instance aAD:e8 prog 194 1 2:=⟨λ_ _=>by kernel_rfl⟩
instance aAE:e8 prog 194 2 3:=⟨λ_ _=>by kernel_rfl⟩
instance aAF:e8 prog 194 3 4:=⟨λ_ _=>by kernel_rfl⟩
instance aAG:e8 prog 216 0 0:=⟨λ_ _=>by kernel_rfl⟩
instance aAH:e8 prog 216 1 1:=⟨λ_ _=>by kernel_rfl⟩
instance aAI:e8 prog 216 2 2:=⟨λ_ _=>by kernel_rfl⟩
instance aAJ:e8 prog 223 0 0:=⟨λ_ _=>by kernel_rfl⟩
instance aAK:e8 prog 223 1 1:=⟨λ_ _=>by kernel_rfl⟩
instance aAL:e8 prog 231 0 0:=⟨λ_ _=>by kernel_rfl⟩
instance aAM:e8 prog 231 1 1:=⟨λ_ _=>by kernel_rfl⟩
instance aAN:e8 prog 240 0 0:=⟨λ_ _=>by kernel_rfl⟩
instance aAO:e8 prog 240 1 2:=⟨λ_ _=>by kernel_rfl⟩
instance aAP:e8 prog 240 2 3:=⟨λ_ _=>by kernel_rfl⟩
instance an4:e8 prog 25 0 0:=⟨λ_ _=>by kernel_rfl⟩
instance aAQ:e8 prog 25 1 1:=⟨λ_ _=>by kernel_rfl⟩
instance aAR:e8 prog 276 0 0:=⟨λ_ _=>by kernel_rfl⟩
instance aAS:e8 prog 276 1 1:=⟨λ_ _=>by kernel_rfl⟩
instance aAT:e8 prog 342 0 0:=⟨λ_ _=>by kernel_rfl⟩
instance aAU:e8 prog 342 1 1:=⟨λ_ _=>by kernel_rfl⟩
instance aAV:e8 prog 342 2 2:=⟨λ_ _=>by kernel_rfl⟩
instance aAW:e8 prog 342 3 3:=⟨λ_ _=>by kernel_rfl⟩
instance aAX:e8 prog 363 0 0:=⟨λ_ _=>by kernel_rfl⟩
instance aAY:e8 prog 363 1 1:=⟨λ_ _=>by kernel_rfl⟩
instance aAZ:e8 prog 363 2 2:=⟨λ_ _=>by kernel_rfl⟩
instance aA0:e8 prog 417 0 0:=⟨λ_ _=>by kernel_rfl⟩
instance aA1:e8 prog 417 1 1:=⟨λ_ _=>by kernel_rfl⟩
instance aA2:e8 prog 417 2 2:=⟨λ_ _=>by kernel_rfl⟩
instance aA3:e8 prog 52 1 1:=⟨λ_ _=>by kernel_rfl⟩
instance aA4:e8 prog 52 2 2:=⟨λ_ _=>by kernel_rfl⟩
instance aA5:e8 prog 71 0 0:=⟨λ_ _=>by kernel_rfl⟩
instance aA6:e8 prog 71 1 1:=⟨λ_ _=>by kernel_rfl⟩
instance aA7:e8 prog 71 2 2:=⟨λ_ _=>by kernel_rfl⟩
instance aA8:e8 prog 76 0 0:=⟨λ_ _=>by kernel_rfl⟩
instance aA9:e8 prog 76 1 1:=⟨λ_ _=>by kernel_rfl⟩
instance aBa:e8 prog 76 2 2:=⟨λ_ _=>by kernel_rfl⟩
instance an5:e8 prog 76 3 3:=⟨λ_ _=>by kernel_rfl⟩
instance aBb:e8 prog 76 4 4:=⟨λ_ _=>by kernel_rfl⟩
def an6(cs:List be)(v:be)(w:bj)(h:cs[0]? =I v):(Of 76 (.agg cs.toArray) 0).run prog w=.ok v w:=by simp[Of,cq,runUnderlying76,asAgg,part,isAgg5,h,cp]
def Gp(cs:List be)(v:be)(w:bj)(h:cs[1]? =I v):(Of 76 (.agg cs.toArray) 1).run prog w=.ok v w:=by simp[Of,cq,runUnderlying76,asAgg,part,isAgg9,h,cp]
instance:adj 6:=⟨by show _∈[_];exact List.mem_cons_self⟩
def an7:(prog.info? 102).map (λi=>(i.zero,i.size,i.bytes))=I (I (ln #[(eN r_ 0),(r' {data:=#[]}),(eN fJ 0)]),3,32):=by kernel_rfl
def Vl:(prog.info? 124).map (λi=>(i.zero,i.size,i.bytes))=I (I (ln #[(eN r_ 0),(eN fJ 0)]),2,16):=by kernel_rfl
def an8:(prog.info? 125).map (λi=>(i.zero,i.size,i.bytes))=I (I (hb aJ 0 0),1,24):=by kernel_rfl
def an9:(prog.info? 23).map (λi=>(i.zero,i.size,i.bytes))=I (I (hb aJ 0 0),1,24):=by kernel_rfl
def Dr:(prog.info? 3).map (λi=>(i.zero,i.size,i.bytes))=I (I (eN fJ 0),1,8):=by kernel_rfl
def aoa:(prog.info? 5).map (λi=>(i.zero,i.size,i.bytes))=I (I (eN r_ 0),1,1):=by kernel_rfl
def aob:(prog.info? 52).map (λi=>(i.zero,i.size,i.bytes))=I (I (ln #[(r' {data:=#[]}),(eN fJ 0),(eN fJ 0)]),3,32):=by kernel_rfl
def aoc:(prog.info? 76).map (λi=>(i.zero,i.size,i.bytes))=I (I (ln #[(eN r_ 0),(r' {data:=#[]}),(eN fJ 0),(hb aJ 0 0),(eN fJ 0)]),5,64):=by kernel_rfl
def Oj:(prog.info? 9).map (λi=>(i.zero,i.size,i.bytes))=I (I (r' {data:=#[]}),1,16):=by kernel_rfl
abbrev gJ kv:=(nP ad (λq:gq=>.agg #[.int .i64 q.kk,.int .i64 q.vo]) Vf kv:aN)
def adF:jJ prog 106 121 (λq:gq=>.agg #[.int .i64 q.kk,.int .i64 q.vo]):=.aco (kt:=119) (by kernel_rfl) (by kernel_rfl) (λ_ _ _=>by kernel_rfl) (λa k w=>anY k a w) (λ_=>by simp[adt,JY])
variable {i:Nat}{ty:co}{ρ:bY->Option V}
def aod:bP prog (.makeMap 106 aJ) ty ρ [(i,.cc)] [(i,gJ [])] (.map i):=C_
variable {ie:V}{x y:bY}
def aoe{kv:List (gq×fT)}{k:gq}(ak:ρ x=I (.map i))(a9:ρ y=I ie)ap:=(C' adF ak a9 ap zeroValue121 (λ_ _ _=>.agg (.cons (.p .v) (.cons (.p .v) .nil))):bP prog (.lookup 106 x y aS) ty ρ [(i,gJ kv)] [] (gT ad (Vf ((eE kv k).getD (⟨aS,aS⟩:fT)))))
variable {d:V}{key m:bY}
def aof{kv:List (gq×fT)}{k:gq}{a:fT}(ak:ρ m=I (.map i))(a9:ρ key=I ie)ap(aG:ρ x=I d)(hw:hg d (gT ad (Vf a))):=(Db adF ak a9 ap aG hw (.inl rfl):bP prog (.mapUpdate 106 m key x) ty ρ [(i,gJ kv)] [(i,gJ (fB kv k a))] (.p (.v undef)))
abbrev gr kv:=(nP aS (λn:Int=>.int .i64 n) ch kv:aN)
def adG:jJ prog 173 3 (λn:Int=>.int .i64 n):=.int (kt:=3) (by kernel_rfl) (by kernel_rfl)
def aog:bP prog (.makeMap 173 aJ) ty ρ [(i,.cc)] [(i,gr [])] (.map i):=C_
variable {k:Int}
def adH{kv:List (Int×Int)}(ak:ρ x=I (.map i))(a9:ρ y=I ie)ap:=(C' adG ak a9 ap zeroValue3 (λ_ _ _=>.p .v):bP prog (.lookup 173 x y aS) ty ρ [(i,gr kv)] [] (gT aS (ch ((eE kv k).getD (0:Int)))))
def aoh{kv:List (Int×Int)}{a:Int}(ak:ρ m=I (.map i))(a9:ρ key=I ie)ap(aG:ρ x=I d)(hw:hg d (gT aS (ch a))):=(Db adG ak a9 ap aG hw (.inr ⟨_,rfl⟩):bP prog (.mapUpdate 173 m key x) ty ρ [(i,gr kv)] [(i,gr (fB kv k a))] (.p (.v undef)))
abbrev eG kv:=(nP aS (λn:Int=>.int .i64 n) (lk 2 cM) kv:aN)
def Ok:jJ prog 174 125 (λn:Int=>.int .i64 n):=.int (kt:=3) (by kernel_rfl) (by kernel_rfl)
def Vm:bP prog (.makeMap 174 aJ) ty ρ [(i,.cc)] [(i,eG [])] (.map i):=C_
def aoi{kv:List (Int×List b6)}(ak:ρ x=I (.map i))(a9:ρ y=I ie)ap:=(C' Ok ak a9 ap zeroValue125 (λ_ _ _=>.p .nil):bP prog (.lookup 174 x y aS) ty ρ [(i,eG kv)] [] (gT aS ((lk 2 cM) ((eE kv k).getD ([]:List b6)))))
def aoj{kv:List (Int×List b6)}(ak:ρ x=I (.map i))(a9:ρ y=I ie)ap:=(C' Ok ak a9 ap zeroValue125 (λ_ _ _=>.p .nil):bP prog (.lookup 174 x y ad) ty ρ [(i,eG kv)] [] (.cx [gT aS ((lk 2 cM) ((eE kv k).getD ([]:List b6))),bD (eE kv k).isSome]))
def aok{kv:List (Int×List b6)}{a:List b6}(ak:ρ m=I (.map i))(a9:ρ key=I ie)ap(aG:ρ x=I d)(hw:hg d (gT aS ((lk 2 cM) a))):=(Db Ok ak a9 ap aG hw (.inr ⟨_,rfl⟩):bP prog (.mapUpdate 174 m key x) ty ρ [(i,eG kv)] [(i,eG (fB kv k a))] (.p (.v undef)))
abbrev Ol(c:Nat)bT kv:=(ve aS (λn:Int=>.int .i64 n) (lk 2 cM) c bT kv:aN)
variable {bT:List Nat}{c:Nat}
def adI{kv:List (Int×List b6)}(ak:ρ x=I (.map i))(a9:ρ y=I ie)ap:=(amv Ok ak a9 ap zeroValue125 (λ_ _ _=>.p .nil):bP prog (.mapEntry 174 x y) ty ρ [(i,Ol c bT kv)] [(i,Ol (x5 c kv k) (vf c bT kv k) (zg kv k ([]:List b6)))] (.cx [gT aS ((lk 2 cM) ((eE kv k).getD ([]:List b6))),aL (A4 c bT kv k)]))
def adJ{kv:List (Int×List b6)}{a fc:List b6}(aQ:qe c bT)(aC:bT.length=kv.length)(ak:ρ m=I (.map i))a9(aG:ρ x=I d)(hw:hg d (gT aS ((lk 2 cM) a))):=(amz aQ aC ak a9 aG hw:bP prog (.entryStore 174 m y x) ty ρ [(i,Ol (x5 c kv k) (vf c bT kv k) (zg kv k fc))] [(i,Ol (x5 c kv k) (vf c bT kv k) (fB kv k a))] (.p (.v undef)))
abbrev dO kv:=(nP aS (λb:ByteArray=>.string b) ch kv:aN)
def adK:jJ prog 175 3 (λb:ByteArray=>.string b):=.str (kt:=9) (by kernel_rfl) (by kernel_rfl)
def adL:bP prog (.makeMap 175 aJ) ty ρ [(i,.cc)] [(i,dO [])] (.map i):=C_
def Om{kv:List (ByteArray×Int)}{k:ByteArray}(ak:ρ x=I (.map i))(a9:ρ y=I ie)ap:=(C' adK ak a9 ap zeroValue3 (λ_ _ _=>.p .v):bP prog (.lookup 175 x y ad) ty ρ [(i,dO kv)] [] (.cx [gT aS (ch ((eE kv k).getD (0:Int))),bD (eE kv k).isSome]))
def adM{kv:List (ByteArray×Int)}{k:ByteArray}{a:Int}(ak:ρ m=I (.map i))(a9:ρ key=I ie)ap(aG:ρ x=I d)(hw:hg d (gT aS (ch a))):=(Db adK ak a9 ap aG hw (.inr ⟨_,rfl⟩):bP prog (.mapUpdate 175 m key x) ty ρ [(i,dO kv)] [(i,dO (fB kv k a))] (.p (.v undef)))
abbrev gi kv:=(nP ad (λn:Int=>.int .i64 n) Vg kv:aN)
def adN:jJ prog 176 276 (λn:Int=>.int .i64 n):=.int (kt:=3) (by kernel_rfl) (by kernel_rfl)
def aol:bP prog (.makeMap 176 aJ) ty ρ [(i,.cc)] [(i,gi [])] (.map i):=C_
def aom{kv:List (Int×qt)}(ak:ρ x=I (.map i))(a9:ρ y=I ie)ap:=(C' adN ak a9 ap zeroValue276 (λ_ _ _=>.agg (.cons (.p .v) (.cons (.p .v) .nil))):bP prog (.lookup 176 x y ad) ty ρ [(i,gi kv)] [] (.cx [gT ad (Vg ((eE kv k).getD (⟨0,0⟩:qt))),bD (eE kv k).isSome]))
def aon{kv:List (Int×qt)}{a:qt}(ak:ρ m=I (.map i))(a9:ρ key=I ie)ap(aG:ρ x=I d)(hw:hg d (gT ad (Vg a))):=(Db adN ak a9 ap aG hw (.inl rfl):bP prog (.mapUpdate 176 m key x) ty ρ [(i,gi kv)] [(i,gi (fB kv k a))] (.p (.v undef)))
abbrev oV kv:=(nP aS (λq:k4=>.agg #[.int .i64 q.x_,.int .i64 q.depth]) ch kv:aN)
def adO:jJ prog 187 3 (λq:k4=>.agg #[.int .i64 q.x_,.int .i64 q.depth]):=.aco (kt:=231) (by kernel_rfl) (by kernel_rfl) (λ_ _ _=>by kernel_rfl) (λa k w=>an1 k a w) (λ_=>by simp[adt,JY])
def aoo:bP prog (.makeMap 187 aJ) ty ρ [(i,.cc)] [(i,oV [])] (.map i):=C_
def aop{kv:List (k4×Int)}{k:k4}(ak:ρ x=I (.map i))(a9:ρ y=I ie)ap:=(C' adO ak a9 ap zeroValue3 (λ_ _ _=>.p .v):bP prog (.lookup 187 x y ad) ty ρ [(i,oV kv)] [] (.cx [gT aS (ch ((eE kv k).getD (0:Int))),bD (eE kv k).isSome]))
def aoq{kv:List (k4×Int)}{k:k4}{a:Int}(ak:ρ m=I (.map i))(a9:ρ key=I ie)ap(aG:ρ x=I d)(hw:hg d (gT aS (ch a))):=(Db adO ak a9 ap aG hw (.inr ⟨_,rfl⟩):bP prog (.mapUpdate 187 m key x) ty ρ [(i,oV kv)] [(i,oV (fB kv k a))] (.p (.v undef)))
abbrev ya kv:=(nP aS (λn:Int=>.int .i64 n) aa0 kv:aN)
def Vn:jJ prog 347 4 (λn:Int=>.int .i64 n):=.int (kt:=3) (by kernel_rfl) (by kernel_rfl)
def aor:bP prog (.makeMap 347 aJ) ty ρ [(i,.cc)] [(i,ya [])] (.map i):=C_
def aos{kv:List (Int×Bool)}{a:Bool}(ak:ρ m=I (.map i))(a9:ρ key=I ie)ap(aG:ρ x=I d)(hw:hg d (gT aS (aa0 a))):=(Db Vn ak a9 ap aG hw (.inr ⟨_,rfl⟩):bP prog (.mapUpdate 347 m key x) ty ρ [(i,ya kv)] [(i,ya (fB kv k a))] (.p (.v undef)))
def aot{ty:co}{kv:List (Int×Bool)}(ak:ρ x=I (.map i)):bP prog (.call {callee:=.builtin .len,args:=#[x],argTypes:=#[347]}) ty ρ [(i,ya kv)] [] (aL kv.length):=alO Vn ak
def aou{ty:co}{kv:List (Int×Bool)}{cf:co}(ak:ρ m=I (.map i))(a9:ρ key=I ie)(ap:ie.val=I ((λn:Int=>.int .i64 n) k)):bP prog (.call {callee:=.builtin .delete,args:=#[m,key],argTypes:=#[347,cf]}) ty ρ [(i,ya kv)] [(i,ya (oi kv k))] (.p (.v undef)):=alP Vn ak a9 ap
def adP:prog.follows .mixedOrders=ad:=by kernel_rfl
instance aBc:mN prog 100 [(0,1),(1,1),(2,2),(4,1)] [(hb aJ 0 0),(eN fJ 0),(hb aJ 0 0),(hb aJ 0 0),(zn aS)]:=⟨ns zeroValue100 runUnderlying100 (λ_=>by kernel_rfl) rfl⟩
instance aBd:mN prog 102 [(0,1),(1,1),(2,1)] [(eN r_ 0),(r' {data:=#[]}),(eN fJ 0)]:=⟨ns zeroValue102 runUnderlying102 (λ_=>by kernel_rfl) rfl⟩
instance aBe:mN prog 108 [(0,2),(2,1)] [(hb aJ 0 0),(hb aJ 0 0),(zo aJ)]:=⟨ns zeroValue108 runUnderlying108 (λ_=>by kernel_rfl) rfl⟩
instance aBf:mN prog 119 [(0,1),(1,1)] [(eN fJ 0),(eN fJ 0)]:=⟨ns zeroValue119 runUnderlying119 (λ_=>by kernel_rfl) rfl⟩
instance aBg:mN prog 121 [(0,1),(1,1)] [(zn aS),(zn aS)]:=⟨ns zeroValue121 runUnderlying121 (λ_=>by kernel_rfl) rfl⟩
instance aBh:mN prog 124 [(0,1),(1,1)] [(eN r_ 0),(eN fJ 0)]:=⟨ns zeroValue124 runUnderlying124 (λ_=>by kernel_rfl) rfl⟩
instance aBi:mN prog 135 [(0,1)] [(hb aJ 0 0)]:=⟨ns zeroValue135 runUnderlying135 (λ_=>by kernel_rfl) rfl⟩
instance aBj:mN prog 139 [(0,1)] [(hb aJ 0 0)]:=⟨ns zeroValue139 runUnderlying139 (λ_=>by kernel_rfl) rfl⟩
instance aBk:mN prog 154 [(0,2),(2,1),(3,1),(4,1),(5,1),(6,1),(7,1),(8,1),(9,1)] [(hb aJ 0 0),(hb aJ 0 0),(hb aJ 0 0),(hb aJ 0 0),(hb aJ 0 0),(hb aJ 0 0),(hb aJ 0 0),(eN fJ 0),(eN fJ 0),(eN fJ 0)]:=⟨ns zeroValue154 runUnderlying154 (λ_=>by kernel_rfl) rfl⟩
instance aBl:mN prog 178 [(0,2),(2,3),(5,1),(6,1),(7,1),(8,1),(9,1),(10,1)] [(hb aJ 0 0),(hb aJ 0 0),(eN fJ 0),(eN fJ 0),(eN fJ 0),(hb aJ 0 0),(hb aJ 0 0),(zo aJ),(zo aJ),(zo aJ),(zo aJ)]:=⟨ns zeroValue178 runUnderlying178 (λ_=>by kernel_rfl) rfl⟩
instance aBm:mN prog 189 [(0,1),(1,1)] [(Og aJ),(zo aJ)]:=⟨ns zeroValue189 runUnderlying189 (λ_=>by kernel_rfl) rfl⟩
instance aBn:mN prog 192 [(0,1),(1,1),(2,1)] [(eN fJ 0),(eN fJ 0),(eN fJ 0)]:=⟨ns zeroValue192 runUnderlying192 (λ_=>by kernel_rfl) rfl⟩
instance aBo:mN prog 194 [(0,2),(2,1),(3,1),(4,1)] [(hb aJ 0 0),(hb aJ 0 0),(hb aJ 0 0),(zo aJ),(hb aJ 0 0)]:=⟨ns zeroValue194 runUnderlying194 (λ_=>by kernel_rfl) rfl⟩
instance aBp:mN prog 211 [(0,1),(1,1)] [(eN fJ 0),(eN fJ 0)]:=⟨alC zeroValue211 runUnderlying211 sizeOf3 rfl rfl⟩
instance aBq:mN prog 216 [(0,1),(1,1),(2,1)] [(eN fJ 0),(eN fJ 0),(zo aJ)]:=⟨ns zeroValue216 runUnderlying216 (λ_=>by kernel_rfl) rfl⟩
instance aBr:mN prog 223 [(0,1),(1,1)] [(hb aJ 0 0),(hb aJ 0 0)]:=⟨ns zeroValue223 runUnderlying223 (λ_=>by kernel_rfl) rfl⟩
instance aBs:mN prog 231 [(0,1),(1,1)] [(eN fJ 0),(eN fJ 0)]:=⟨ns zeroValue231 runUnderlying231 (λ_=>by kernel_rfl) rfl⟩
instance aBt:mN prog 240 [(0,2),(2,1),(3,1)] [(hb aJ 0 0),(hb aJ 0 0),(hb aJ 0 0),(hb aJ 0 0)]:=⟨ns zeroValue240 runUnderlying240 (λ_=>by kernel_rfl) rfl⟩
instance aBu:mN prog 25 [(0,1),(1,1)] [(hb aJ 0 0),(hb aJ 0 0)]:=⟨ns zeroValue25 runUnderlying25 (λ_=>by kernel_rfl) rfl⟩
instance aBv:mN prog 342 [(0,1),(1,1),(2,1),(3,1)] [(zn aS),(eN fJ 0),(eN fJ 0),(hb aJ 0 0)]:=⟨ns zeroValue342 runUnderlying342 (λ_=>by kernel_rfl) rfl⟩
instance aBw:mN prog 363 [(0,1),(1,1),(2,1)] [(eN fJ 0),(eN fJ 0),Ve]:=⟨ns zeroValue363 runUnderlying363 (λ_=>by kernel_rfl) rfl⟩
instance aBx:mN prog 52 [(0,1),(1,1),(2,1)] [(r' {data:=#[]}),(eN fJ 0),(eN fJ 0)]:=⟨ns zeroValue52 runUnderlying52 (λ_=>by kernel_rfl) rfl⟩
instance aBy:mN prog 76 [(0,1),(1,1),(2,1),(3,1),(4,1)] [(eN r_ 0),(r' {data:=#[]}),(eN fJ 0),(hb aJ 0 0),(eN fJ 0)]:=⟨ns zeroValue76 runUnderlying76 (λ_=>by kernel_rfl) rfl⟩
def aov{s:ByteArray}ak:=(amf (e:=5) (by kernel_rfl) (by kernel_rfl) (by kernel_rfl) ak:bP prog (.convert 9 168 x) ty ρ [] [] (bM 1 mm (Df s)))
def Vo:prog.underlying 125=I (.slice 124):=by kernel_rfl
def aow:prog.underlying 152=I (.slice 125):=by kernel_rfl
def aox:prog.underlying 168=I (.slice 5):=by kernel_rfl
def aoy:prog.underlying 22=I (.slice 76):=by kernel_rfl
def Ds:prog.underlying 23=I (.slice 3):=by kernel_rfl
def On:prog.underlying 29=I (.slice 9):=by kernel_rfl
def aoz:prog.underlying 40=I (.slice 23):=by kernel_rfl
def aoA:prog.underlying 43=I (.slice 52):=by kernel_rfl
def aoB:prog.underlying 96=I (.slice 102):=by kernel_rfl
def aoC x:=(rfl:(kz x).length=5)
def wK x:=(rfl:(cM x).length=2)
def J7 x:=(rfl:(cM x).all P.one=ad)
abbrev dh:=List b6
abbrev hM:=Int×Int×List bm×Bool×Nat
abbrev dW:=List ByteArray
abbrev e2:=ByteArray×Int
abbrev h8:=gq×fT
abbrev jn:=Int×qt
abbrev k5:=(List Int)×Int
abbrev na:=Int×(List Int)
abbrev pK:=k4×Int
abbrev pL:=List (List Int)
abbrev Gq:=(List Int)×Int×List bm×Bool×Nat×Nat
abbrev qu:=List ct
abbrev s8:=List (Int×Int)
abbrev vp:=List e'
abbrev Dt:=Int×(List (Int×Bool))
abbrev Du:=ByteArray×Int×Bool
abbrev Oo:=(List Int)×Nat×Int×List bm×Bool×Nat
abbrev Oq:=Int×List bm×List Int×Bool×Nat×Nat
abbrev Dv:=Int×Int×Int×Int
abbrev zp:=Int ⊕ Int ⊕ Int
abbrev Bg:=Int×Int×Int
abbrev Vp:=Int ⊕ (Int×List bm×List Int×Nat×Nat×List Int×List Int)
abbrev mP:=List (Int×dh)
abbrev zq:=(List dh)×Int×Int×Int×Nat
abbrev Bh:=dh×Int×Int×Int
abbrev Vq:=(List bm)×List Int×List Int×dW×List Int×List Int×List dh×Nat×Int×Int×Int
abbrev zr:=Bool×(List h8)
abbrev Bi:=(dW×Int)×Nat
abbrev Bj:=Int×(List h8)
abbrev wL:=dh×Int×Int×Int×mP×List e2×List jn×mP
abbrev Ot:=Int ⊕ (Int×List bm×List Int×Int×Int×Int×List Int×dW×s8×mP×List e2×List jn)
abbrev fK Z an(a' dr gp:Int)jk iQ(jt lm ky mK:Nat):=(.cells 178 [bM 5 kz Z,bM 1 ch an,aL a',aL dr,aL gp,bM 1 ch jk,bM 1 fd iQ,.map jt,.map lm,.map ky,.map mK]:aN)
abbrev er Z(an:Int)a'(dr gp:Nat)jk(iQ jt:Nat)(lm:Bool):=(.cells 100 [bM 3 J3 Z,aL an,cZ 5 kz a' dr gp,cZ 1 ch jk iQ jt,bD lm]:aN)
abbrev eI Z an(a' dr gp jk iQ jt:Nat):=(.cells 240 [bM 5 kz Z,bM 1 ch an,.ek a' 0 dr gp,.ek jk 0 iQ jt]:aN)
abbrev ih Z an a'(dr gp jk iQ:Nat):=(.cells 194 [bM 5 kz Z,bM 1 ch an,bM 1 ch a',.map dr,.ek gp 0 jk iQ]:aN)
abbrev nv Z an a' dr gp jk iQ(jt lm:Nat)(ky mK l1:Int):=(.cells 154 [bM 5 kz Z,bM 1 ch an,bM 1 ch a',bM 1 fd dr,bM 1 ch gp,bM 1 ch jk,cZ 1 (lk 2 cM) iQ jt lm,aL ky,aL mK,aL l1]:aN)
abbrev fY(Z:Int)an(a':Int)dr(gp:Int):=(.cells 76 [gh Z,cE an,aL a',bM 1 ch dr,aL gp]:aN)
abbrev hj Z an(a':Nat):=(.cells 108 [bM 5 kz Z,bM 1 ch an,.map a']:aN)
abbrev dC(Z:Nat):aN:=.cells 236 [.aV Z 0]
abbrev ep(Z:Int):aN:=.cells 3 [aL Z]
abbrev mp(Z an:Int)(a':Nat):aN:=.cells 216 [aL Z,aL an,.map a']
abbrev jL(Z:Nat):aN:=.cells 81 [.aV Z 0]
abbrev Gr:aN:=.cells 93 [.fn (.func 65) [] [.aV 1 0,.aV 2 0]]
abbrev pM(Z:Nat):aN:=.cells 144 [.aV Z 0]
abbrev oW:aN:=.cells 93 [.gV 5]
abbrev pN(Z:Bool):aN:=.cells 4 [bD Z]
abbrev yb Z:=(.cells 23 [bM 1 ch Z]:aN)
abbrev Gs Z:=(.cells 125 [bM 2 cM Z]:aN)
abbrev Gt Z(an a':Nat):=(.cells 40 [cZ 1 (lk 1 ch) Z an a']:aN)
abbrev Gu:aN:=.cells 93 [.gV 0]
abbrev ck{R:Type}(m:Option R)(f:FuncId)(ds:List V)(H:List aN)(n:Nat)(ga:R->V)(j1:R->List aN):Prop:=gB m prog f ds H n ga j1
abbrev bQ{R:Type}(m:Option R)(f:FuncId)(ds:List V)(ga:R->V):Prop:=gB m prog f ds [] 0 ga λ_=>[]
abbrev yc{R:Type}(m:Option R)(ds:List V)(H:List aN)(ga:R->V)(j1:R->List aN):Prop:=N4 m prog ds H ga j1
abbrev aoD{R:Type}(m:Option R)(f:FuncId)(ds:List V)(H:List aN)(n:Nat)(ga:R->V)(j1:R->List aN):Prop:=Oe m prog f ds H ga j1
instance:ade prog:=⟨adP⟩
instance:gb prog 102 ad:=⟨isAgg102⟩
instance:gb prog 106 aS:=⟨isAgg106⟩
instance:gb prog 119 ad:=⟨isAgg119⟩
instance:gb prog 121 ad:=⟨isAgg121⟩
instance:gb prog 124 ad:=⟨isAgg124⟩
instance:gb prog 125 aS:=⟨isAgg125⟩
instance:gb prog 135 ad:=⟨isAgg135⟩
instance:gb prog 139 ad:=⟨isAgg139⟩
instance:gb prog 144 aS:=⟨isAgg144⟩
instance:gb prog 152 aS:=⟨isAgg152⟩
instance:gb prog 155 aS:=⟨isAgg155⟩
instance:gb prog 172 ad:=⟨isAgg172⟩
instance:gb prog 173 aS:=⟨isAgg173⟩
instance:gb prog 174 aS:=⟨isAgg174⟩
instance:gb prog 175 aS:=⟨isAgg175⟩
instance:gb prog 176 aS:=⟨isAgg176⟩
instance:gb prog 181 aS:=⟨isAgg181⟩
instance:gb prog 184 aS:=⟨isAgg184⟩
instance:gb prog 187 aS:=⟨isAgg187⟩
instance:gb prog 189 ad:=⟨isAgg189⟩
instance:gb prog 192 ad:=⟨isAgg192⟩
instance:gb prog 22 aS:=⟨isAgg22⟩
instance:gb prog 223 ad:=⟨isAgg223⟩
instance:gb prog 23 aS:=⟨isAgg23⟩
instance:gb prog 231 ad:=⟨isAgg231⟩
instance:gb prog 236 aS:=⟨isAgg236⟩
instance:gb prog 25 ad:=⟨isAgg25⟩
instance:gb prog 276 ad:=⟨isAgg276⟩
instance:gb prog 29 aS:=⟨isAgg29⟩
instance:gb prog 297 aS:=⟨isAgg297⟩
instance:gb prog 3 aS:=⟨isAgg3⟩
instance:gb prog 314 aS:=⟨isAgg314⟩
instance:gb prog 325 aS:=⟨isAgg325⟩
instance:gb prog 340 aS:=⟨isAgg340⟩
instance:gb prog 342 ad:=⟨isAgg342⟩
instance:gb prog 363 ad:=⟨isAgg363⟩
instance:gb prog 4 aS:=⟨isAgg4⟩
instance:gb prog 40 aS:=⟨isAgg40⟩
instance:gb prog 417 ad:=⟨isAgg417⟩
instance:gb prog 43 aS:=⟨isAgg43⟩
instance:gb prog 5 aS:=⟨isAgg5⟩
instance:gb prog 52 ad:=⟨isAgg52⟩
instance:gb prog 76 ad:=⟨isAgg76⟩
instance:gb prog 81 aS:=⟨isAgg81⟩
instance:gb prog 9 aS:=⟨isAgg9⟩
instance:gb prog 93 aS:=⟨isAgg93⟩
instance:gb prog 96 aS:=⟨isAgg96⟩
instance:s6 prog 102 3 J3:=⟨λ_=>rfl,λ_=>rfl⟩
instance:s6 prog 124 2 cM:=⟨λ_=>rfl,λ_=>rfl⟩
instance:s6 prog 125 1 (lk 2 cM):=⟨λ_=>rfl,λ_=>rfl⟩
instance:s6 prog 23 1 (lk 1 ch):=⟨λ_=>rfl,λ_=>rfl⟩
instance:s6 prog 3 1 ch:=⟨λ_=>rfl,λ_=>rfl⟩
instance:s6 prog 363 3 uj:=⟨λ_=>rfl,λ_=>rfl⟩
instance:s6 prog 5 1 mm:=⟨λ_=>rfl,λ_=>rfl⟩
instance:s6 prog 52 3 l5:=⟨λ_=>rfl,λ_=>rfl⟩
instance:s6 prog 76 5 kz:=⟨λ_=>rfl,λ_=>rfl⟩
instance:s6 prog 9 1 fd:=⟨λ_=>rfl,λ_=>rfl⟩
instance:wF prog 125 124 (ln #[(eN r_ 0),(eN fJ 0)]) 2 16:=⟨Vo,Vl⟩
instance:wF prog 152 125 (hb aJ 0 0) 1 24:=⟨aow,an8⟩
instance:wF prog 168 5 (eN r_ 0) 1 1:=⟨aox,aoa⟩
instance:wF prog 22 76 (ln #[(eN r_ 0),(r' {data:=#[]}),(eN fJ 0),(hb aJ 0 0),(eN fJ 0)]) 5 64:=⟨aoy,aoc⟩
instance:wF prog 23 3 (eN fJ 0) 1 8:=⟨Ds,Dr⟩
instance:wF prog 29 9 (r' {data:=#[]}) 1 16:=⟨On,Oj⟩
instance:wF prog 40 23 (hb aJ 0 0) 1 24:=⟨aoz,an9⟩
instance:wF prog 43 52 (ln #[(r' {data:=#[]}),(eN fJ 0),(eN fJ 0)]) 3 32:=⟨aoA,aob⟩
instance:wF prog 96 102 (ln #[(eN r_ 0),(r' {data:=#[]}),(eN fJ 0)]) 3 32:=⟨aoB,an7⟩
instance:jm prog 125 (.slice 124):=⟨runUnderlying125⟩
instance:jm prog 152 (.slice 125):=⟨runUnderlying152⟩
instance:jm prog 168 (.slice 5):=⟨runUnderlying168⟩
instance:jm prog 2 (.int .i64):=⟨runUnderlying2⟩
instance:jm prog 21 (.int .i32):=⟨runUnderlying21⟩
instance:jm prog 211 (.array 2 3):=⟨runUnderlying211⟩
instance:jm prog 22 (.slice 76):=⟨runUnderlying22⟩
instance:jm prog 23 (.slice 3):=⟨runUnderlying23⟩
instance:jm prog 29 (.slice 9):=⟨runUnderlying29⟩
instance:jm prog 3 (.int .i64):=⟨runUnderlying3⟩
instance:jm prog 309 (.int .u64):=⟨runUnderlying309⟩
instance:jm prog 325 (.int .u32):=⟨runUnderlying325⟩
instance:jm prog 328 (.int .u64):=⟨runUnderlying328⟩
instance:jm prog 340 (.slice 363):=⟨runUnderlying340⟩
instance:jm prog 40 (.slice 23):=⟨runUnderlying40⟩
instance:jm prog 400 (.array 256 5):=⟨runUnderlying400⟩
instance:jm prog 408 (.slice 414):=⟨runUnderlying408⟩
instance:jm prog 409 (.slice 417):=⟨runUnderlying409⟩
instance:jm prog 43 (.slice 52):=⟨runUnderlying43⟩
instance:jm prog 5 (.int .u8):=⟨runUnderlying5⟩
instance:jm prog 9 .string:=⟨runUnderlying9⟩
instance:jm prog 96 (.slice 102):=⟨runUnderlying96⟩
instance:hh prog 100 5:=⟨sizeOf100⟩
instance:hh prog 102 3:=⟨sizeOf102⟩
instance:hh prog 119 2:=⟨sizeOf119⟩
instance:hh prog 121 2:=⟨sizeOf121⟩
instance:hh prog 124 2:=⟨sizeOf124⟩
instance:hh prog 125 1:=⟨sizeOf125⟩
instance:hh prog 135 1:=⟨sizeOf135⟩
instance:hh prog 139 1:=⟨sizeOf139⟩
instance:hh prog 152 1:=⟨sizeOf152⟩
instance:hh prog 172 3:=⟨sizeOf172⟩
instance:hh prog 181 1:=⟨sizeOf181⟩
instance:hh prog 189 2:=⟨sizeOf189⟩
instance:hh prog 192 3:=⟨sizeOf192⟩
instance:hh prog 211 2:=⟨sizeOf211⟩
instance:hh prog 22 1:=⟨sizeOf22⟩
instance:hh prog 223 2:=⟨sizeOf223⟩
instance:hh prog 23 1:=⟨sizeOf23⟩
instance:hh prog 231 2:=⟨sizeOf231⟩
instance:hh prog 25 2:=⟨sizeOf25⟩
instance:hh prog 276 2:=⟨sizeOf276⟩
instance:hh prog 29 1:=⟨sizeOf29⟩
instance:hh prog 297 1:=⟨sizeOf297⟩
instance:hh prog 3 1:=⟨sizeOf3⟩
instance:hh prog 340 1:=⟨sizeOf340⟩
instance:hh prog 342 4:=⟨sizeOf342⟩
instance:hh prog 363 3:=⟨sizeOf363⟩
instance:hh prog 4 1:=⟨sizeOf4⟩
instance:hh prog 40 1:=⟨sizeOf40⟩
instance:hh prog 417 3:=⟨sizeOf417⟩
instance:hh prog 5 1:=⟨sizeOf5⟩
instance:hh prog 52 3:=⟨sizeOf52⟩
instance:hh prog 76 5:=⟨sizeOf76⟩
instance:hh prog 81 1:=⟨sizeOf81⟩
instance:hh prog 9 1:=⟨sizeOf9⟩
instance:kj prog 100 (ln #[(hb aJ 0 0),(eN fJ 0),(hb aJ 0 0),(hb aJ 0 0),(zn aS)]):=⟨zeroValue100⟩
instance:kj prog 102 (ln #[(eN r_ 0),(r' {data:=#[]}),(eN fJ 0)]):=⟨zeroValue102⟩
instance:kj prog 119 (ln #[(eN fJ 0),(eN fJ 0)]):=⟨zeroValue119⟩
instance:kj prog 121 (ln #[(zn aS),(zn aS)]):=⟨zeroValue121⟩
instance:kj prog 124 (ln #[(eN r_ 0),(eN fJ 0)]):=⟨zeroValue124⟩
instance:kj prog 125 (hb aJ 0 0):=⟨zeroValue125⟩
instance:kj prog 135 (ln #[(hb aJ 0 0)]):=⟨zeroValue135⟩
instance:kj prog 139 (ln #[(hb aJ 0 0)]):=⟨zeroValue139⟩
instance:kj prog 172 (ln #[(eN fJ 0),(eN fJ 0),(eN fJ 0)]):=⟨zeroValue172⟩
instance:kj prog 181 (Og aJ):=⟨zeroValue181⟩
instance:kj prog 189 (ln #[(Og aJ),(zo aJ)]):=⟨zeroValue189⟩
instance:kj prog 192 (ln #[(eN fJ 0),(eN fJ 0),(eN fJ 0)]):=⟨zeroValue192⟩
instance:kj prog 211 (ln #[(eN fJ 0),(eN fJ 0)]):=⟨zeroValue211⟩
instance:kj prog 223 (ln #[(hb aJ 0 0),(hb aJ 0 0)]):=⟨zeroValue223⟩
instance:kj prog 23 (hb aJ 0 0):=⟨zeroValue23⟩
instance:kj prog 231 (ln #[(eN fJ 0),(eN fJ 0)]):=⟨zeroValue231⟩
instance:kj prog 25 (ln #[(hb aJ 0 0),(hb aJ 0 0)]):=⟨zeroValue25⟩
instance:kj prog 276 (ln #[(eN fJ 0),(eN fJ 0)]):=⟨zeroValue276⟩
instance:kj prog 297 Ve:=⟨zeroValue297⟩
instance:kj prog 3 (eN fJ 0):=⟨zeroValue3⟩
instance:kj prog 342 (ln #[(zn aS),(eN fJ 0),(eN fJ 0),(hb aJ 0 0)]):=⟨zeroValue342⟩
instance:kj prog 363 (ln #[(eN fJ 0),(eN fJ 0),Ve]):=⟨zeroValue363⟩
instance:kj prog 4 (zn aS):=⟨zeroValue4⟩
instance:kj prog 40 (hb aJ 0 0):=⟨zeroValue40⟩
instance:kj prog 417 (ln #[(eN Vd 0),(eN Vd 0),(eN Vd 0)]):=⟨zeroValue417⟩
instance:kj prog 5 (eN r_ 0):=⟨zeroValue5⟩
instance:kj prog 52 (ln #[(r' {data:=#[]}),(eN fJ 0),(eN fJ 0)]):=⟨zeroValue52⟩
instance:kj prog 76 (ln #[(eN r_ 0),(r' {data:=#[]}),(eN fJ 0),(hb aJ 0 0),(eN fJ 0)]):=⟨zeroValue76⟩
instance:kj prog 81 (Og aJ):=⟨zeroValue81⟩
instance:kj prog 9 (r' {data:=#[]}):=⟨zeroValue9⟩
abbrev Ou:=vp->Int->Nat->List bm->Nat->List Int->Bool->Option hM
abbrev Vr(f:Ou):Prop:=∀ ⦃ab al am ao ah aq av⦄,ck (f ab al am ao ah aq av) 200 [.aV 0 0] [er ab al ao 1 am aq 2 ah av,.bs 76 5 am,.bs 3 1 ah] 0 (λr=>aL r.1) (λr=>[er ab r.2.1 r.2.2.1 1 r.2.2.2.2 aq 2 ah r.2.2.2.1,.bs 76 5 r.2.2.2.2,.bs 3 1 ah])
abbrev Gv:=vp->Int->Nat->List bm->Nat->List Int->Bool->Option hM
abbrev Ov(f:Gv):Prop:=∀ ⦃ab al am ao ah aq av⦄,ck (f ab al am ao ah aq av) 199 [.aV 0 0] [er ab al ao 1 am aq 2 ah av,.bs 76 5 am,.bs 3 1 ah] 0 (λr=>aL r.1) (λr=>[er ab r.2.1 r.2.2.1 1 r.2.2.2.2 aq 2 ah r.2.2.2.1,.bs 76 5 r.2.2.2.2,.bs 3 1 ah])
abbrev yd:=vp->Int->Nat->List bm->Nat->List Int->Bool->Option hM
abbrev Dw(f:yd):Prop:=∀ ⦃ab al am ao ah aq av⦄,ck (f ab al am ao ah aq av) 198 [.aV 0 0] [er ab al ao 1 am aq 2 ah av,.bs 76 5 am,.bs 3 1 ah] 0 (λr=>aL r.1) (λr=>[er ab r.2.1 r.2.2.1 1 r.2.2.2.2 aq 2 ah r.2.2.2.1,.bs 76 5 r.2.2.2.2,.bs 3 1 ah])
abbrev s9:=vp->Int->Nat->List bm->Nat->List Int->Bool->Option hM
abbrev wM(f:s9):Prop:=∀ ⦃ab al am ao ah aq av⦄,ck (f ab al am ao ah aq av) 197 [.aV 0 0] [er ab al ao 1 am aq 2 ah av,.bs 76 5 am,.bs 3 1 ah] 0 (λr=>aL r.1) (λr=>[er ab r.2.1 r.2.2.1 1 r.2.2.2.2 aq 2 ah r.2.2.2.1,.bs 76 5 r.2.2.2.2,.bs 3 1 ah])
abbrev pO:=vp->Int->Nat->List bm->Nat->List Int->Bool->Option hM
abbrev s_(f:pO):Prop:=∀ ⦃ab al am ao ah aq av⦄,ck (f ab al am ao ah aq av) 162 [.aV 0 0] [er ab al ao 1 am aq 2 ah av,.bs 76 5 am,.bs 3 1 ah] 0 (λr=>aL r.1) (λr=>[er ab r.2.1 r.2.2.1 1 r.2.2.2.2 aq 2 ah r.2.2.2.1,.bs 76 5 r.2.2.2.2,.bs 3 1 ah])
abbrev iv:=vp->Int->Nat->List bm->Nat->List Int->Bool->Option hM
abbrev l6(f:iv):Prop:=∀ ⦃ab al am ao ah aq av⦄,ck (f ab al am ao ah aq av) 108 [.aV 0 0] [er ab al ao 1 am aq 2 ah av,.bs 76 5 am,.bs 3 1 ah] 0 (λr=>aL r.1) (λr=>[er ab r.2.1 r.2.2.1 1 r.2.2.2.2 aq 2 ah r.2.2.2.1,.bs 76 5 r.2.2.2.2,.bs 3 1 ah])
abbrev Ow:=vp->Int->Nat->List bm->Nat->List Int->Bool->Option hM
abbrev Vs(f:Ow):Prop:=∀ ⦃ab al am ao ah aq av⦄,ck (f ab al am ao ah aq av) 106 [.aV 0 0] [er ab al ao 1 am aq 2 ah av,.bs 76 5 am,.bs 3 1 ah] 0 (λr=>aL r.1) (λr=>[er ab r.2.1 r.2.2.1 1 r.2.2.2.2 aq 2 ah r.2.2.2.1,.bs 76 5 r.2.2.2.2,.bs 3 1 ah])
abbrev Ox:=Int->Option ByteArray
abbrev Vt(f:Ox):Prop:=∀ ⦃Z⦄,bQ (f Z) 207 [aL Z] cE
abbrev Oy:=aZ->Int->Option ByteArray
abbrev Vu(f:Oy):Prop:=∀ ⦃Z an⦄,bQ (f Z an) 141 [.agg ((dY Z).map .p),aL an] cE
abbrev Dx:=ByteArray->Option Du
abbrev Oz(f:Dx):Prop:=∀ ⦃Z⦄,bQ (f Z) 157 [cE Z] (λr=>.cx [cE r.1,aL r.2.1,bD r.2.2])
abbrev J8:=aZ->ByteArray->Option Int
abbrev Vv(f:J8):Prop:=∀ ⦃Z an⦄,bQ (f Z an) 125 [.agg ((dY Z).map .p),cE an] aL
abbrev Dy:=aZ->nS->Int->Int->Int->Option Int
abbrev Vw(f:Dy):Prop:=∀ ⦃Z an a' dr gp⦄,bQ (f Z an a' dr gp) 117 [.agg ((dY Z).map .p),.agg ((Gm an).map .p),aL a',aL dr,aL gp] aL
abbrev J9:=Int->Int->aZ->aZ->Int->Option (Bool×Int)
abbrev Vx(f:J9):Prop:=∀ ⦃ab al am ao ah⦄,ck (f ab al am ao ah) 318 [aL ab,aL al,.bG (dY am),.aV 0 0,.aV 1 0] [.cells 297 [.fn (.func 318) [] [.bG (dY ao),.aV 0 0,.aV 1 0]],ep ah] 0 (λr=>bD r.1) (λr=>[.cells 297 [.fn (.func 318) [] [.bG (dY ao),.aV 0 0,.aV 1 0]],ep r.2])
abbrev J_:=ByteArray->Option Du
abbrev OA(f:J_):Prop:=∀ ⦃Z⦄,bQ (f Z) 272 [cE Z] (λr=>.cx [cE r.1,aL r.2.1,bD r.2.2])
abbrev J':=ByteArray->List bm->List Int->List Int->Nat->List e2->dW->Option (Int×Bool)
abbrev Vy(f:J'):Prop:=∀ ⦃ab al am ao ah aq av⦄,ck (f ab al am ao ah aq av) 238 [.aV 0 0,cE ab] [ih al am ao 1 2 ah ah,dO aq,.bA 9 (av.map fA)] 0 (λr=>.cx [aL r.1,bD r.2]) (λ_=>[ih al am ao 1 2 ah ah,dO aq,.bA 9 (av.map fA)])
abbrev Ka:=k4->List Int->List bm->List Int->List Int->Nat->List pK->List e2->dW->Option (Int×List pK)
abbrev Vz(f:Ka):Prop:=∀ ⦃ab al am ao ah aq av aT bd⦄,ck (f ab al am ao ah aq av aT bd) 166 [.agg [.aV 0 0,.map 1],.agg ((Gn ab).map .p),bM 1 ch al] [ih am ao ah 2 3 aq aq,oV av,dO aT,.bA 9 (bd.map fA)] 0 (λr=>aL r.1) (λr=>[ih am ao ah 2 3 aq aq,oV r.2,dO aT,.bA 9 (bd.map fA)])
abbrev Bk:=k4->List bm->List Int->List Int->Nat->List pK->List e2->dW->Option (Int×List pK)
abbrev Gw(f:Bk):Prop:=∀ ⦃ab al am ao ah aq av aT⦄,ck (f ab al am ao ah aq av aT) 165 [.agg [.aV 0 0,.map 1],.agg ((Gn ab).map .p)] [ih al am ao 2 3 ah ah,oV aq,dO av,.bA 9 (aT.map fA)] 0 (λr=>aL r.1) (λr=>[ih al am ao 2 3 ah ah,oV r.2,dO av,.bA 9 (aT.map fA)])
abbrev OB:=ByteArray->Option (Int×Bool)
abbrev VA(f:OB):Prop:=∀ ⦃ab⦄,ck (f ab) 238 [.p (.v (.pointer aJ)),cE ab] [] 0 (λr=>.cx [aL r.1,bD r.2]) (λ_=>[])
abbrev OC:=Int->List bm->List Int->Int->Int->Int->List Int->dW->s8->mP->List e2->List jn->Option ByteArray
abbrev VB(f:OC):Prop:=∀ ⦃ab al am ao ah aq av aT bd bf bo bC⦄,ck (f ab al am ao ah aq av aT bd bf bo bC) 303 [.aV 0 0,aL ab] [fK al am ao ah aq av aT 1 2 3 4,gr bd,eG bf,dO bo,gi bC] 0 cE (λ_=>[fK al am ao ah aq av aT 1 2 3 4,gr bd,eG bf,dO bo,gi bC])
abbrev wN:=Int->List bm->List Int->Int->Int->Int->List Int->dW->Int->Int->s8->mP->List e2->List jn->mP->Option wL
abbrev Bl(f:wN):Prop:=∀ ⦃ab al am ao ah aq av aT bd bf bo bC bW cB dj⦄,ck (f ab al am ao ah aq av aT bd bf bo bC bW cB dj) 156 [.aV 0 0,.aV 1 0,aL ab] [fK al am ao ah aq av aT 2 3 4 5,mp bd bf 6,gr bo,eG bC,dO bW,gi cB,eG dj] 0 (λr=>bM 2 cM r.1) (λr=>[fK al am r.2.1 r.2.2.1 r.2.2.2.1 av aT 2 3 4 5,mp bd bf 6,gr bo,eG r.2.2.2.2.1,dO r.2.2.2.2.2.1,gi r.2.2.2.2.2.2.1,eG r.2.2.2.2.2.2.2])
abbrev ye:=(List Int)->List bm->List Int->Int->Int->Int->List Int->dW->Int->Int->s8->mP->List e2->List jn->mP->Option wL
abbrev Bm(f:ye):Prop:=∀ ⦃ab al am ao ah aq av aT bd bf bo bC bW cB dj⦄,ck (f ab al am ao ah aq av aT bd bf bo bC bW cB dj) 123 [.aV 0 0,.aV 1 0,bM 1 ch ab] [fK al am ao ah aq av aT 2 3 4 5,mp bd bf 6,gr bo,eG bC,dO bW,gi cB,eG dj] 0 (λr=>bM 2 cM r.1) (λr=>[fK al am r.2.1 r.2.2.1 r.2.2.2.1 av aT 2 3 4 5,mp bd bf 6,gr bo,eG r.2.2.2.2.1,dO r.2.2.2.2.2.1,gi r.2.2.2.2.2.2.1,eG r.2.2.2.2.2.2.2])
abbrev vq:=Int->nT->Int->Int->List bm->List Int->List Int->dW->List Int->List Int->Nat->List dh->Int->Int->Int->Option Bh
abbrev Gx(f:vq):Prop:=∀ ⦃ab al am ao ah aq av aT bd bf bo bC bW cB dj⦄,ck (f ab al am ao ah aq av aT bd bf bo bC bW cB dj) 160 [.aV 0 0,aL ab,.agg ((Be al).map .p),aL am,aL ao] [nv ah aq av aT bd bf bC 1 bo bW cB dj,.bs 125 1 bo] 0 (λr=>bM 2 cM r.1) (λr=>[nv ah aq av aT bd bf bC 1 bo r.2.1 r.2.2.1 r.2.2.2,.bs 125 1 bo])
def adQ(J:aA)Z:=(J.b1 λdv=>if decide (dv<(Z.size:Int))then(gW Z dv).bind λaa=>if !decide (aa=10)then(gW Z dv).bind λai=>if decide (ai< 32)then(I (dv,4)).map .inr else(gW Z dv).bind λaE=>if decide (126<aE)then(I (dv,4)).map .inr else I (.inl (az (dv+1)))else I (.inl (az (dv+1)))else(I (0,0)).map .inr:Int->Option (Int×Int))
def VC J Z:=(if decide (2000<(Z.size:Int))then I (2000,5)else adQ J Z 0:Option (Int×Int))
def adR(J:aA)Z:=(J.b1 λGy=>if decide (Gy<(Z.size:Int))then(gW Z Gy).bind λaW=>if !decide (aW=10)then I (.inl (az (Gy+1)))else(I (.inl Gy)).map .inr else(I (.inl Gy)).map .inr:Int->Option ((Int) ⊕ Int))
def adS(J:aA)Z:=(J.b1 λjw=>if decide (jw<(Z.size:Int))then(gW Z jw).bind λaa=>if decide (aa=32)then I (.inl (az (jw+1)))else(gW Z jw).bind λai=>if decide (ai=10)then I (.inl (az (jw+1)))else(gW Z jw).bind λaE=>if !decide (aE=35)then(I jw).map .inr else adR J Z jw else(I jw).map .inr:Int->Option Int)
def Kb J Z(an:Int):=(adS J Z an:Option Int)
def OD(Z:Int):Option Bool:=I (decide (97<=Z)&&decide (Z<=122))
def Kc(Z:Int):Option Bool:=I (decide (48<=Z)&&decide (Z<=57))
def Dz:Option dW:=I ([(bk #[97,110,100]),(bk #[97,115,107]),(bk #[98,108,97,109,101]),(bk #[98,111,111,108]),(bk #[98,111,117,110,100,115]),(bk #[99,104,111,111,115,101]),(bk #[99,111,117,110,116]),(bk #[101,108,115,101]),(bk #[102,97,108,115,101]),(bk #[102,117,110]),(bk #[105,102]),(bk #[105,110]),(bk #[105,110,116]),(bk #[108,101,116]),(bk #[108,111,111,107]),(bk #[109,97,121]),(bk #[109,117,115,116]),(bk #[110,111,116]),(bk #[111,98,115,101,114,118,101]),(bk #[111,114]),(bk #[114,101,116,114,97,99,116]),(bk #[116,104,101,110]),(bk #[116,114,117,101]),(bk #[116,121,112,101]),(bk #[117,112,116,111]),(bk #[118,97,108,117,101,115]),(bk #[119,104,121])]:List ByteArray)
def adT(J:aA)(Z:List ByteArray)an:=(J.b1 λcY=>if decide (cY<(Z.length:Int))then(aH Z cY).bind λaa=>if decide (aa=an)then(I ad).map .inr else I (.inl (az (cY+1)))else(I aS).map .inr:Int->Option Bool)
def OE J Z an:=(adT J Z an 0:Option Bool)
def vr:Option dW:=I ([(bk #[61,61]),(bk #[33,61]),(bk #[60,61]),(bk #[62,61]),(bk #[46,46]),(bk #[43]),(bk #[45]),(bk #[42]),(bk #[47]),(bk #[37]),(bk #[60]),(bk #[62]),(bk #[61]),(bk #[40]),(bk #[41]),(bk #[91]),(bk #[93]),(bk #[123]),(bk #[125]),(bk #[44]),(bk #[58]),(bk #[59]),(bk #[46])]:List ByteArray)
def DA Z(an:Int)J:=(λcY=>au (iP Z an cY) λaE=>au (Dz) λaW=>au (OE J aW aE) λa_=>if a_ then I ⟨3,aE,an⟩else if decide ((aE.size:Int)<=12)then I ⟨1,aE,an⟩else I (⟨0,(bk #[]),0⟩):Int->Option e')
def DB Z(an:Int):=(λkA=>au (iP Z an kA) λdP=>if decide ((dP.size:Int)=1)then I ⟨2,dP,an⟩else if decide ((dP.size:Int)<=4)then(gW dP 0).bind λef=>if !decide (ef=48)then I ⟨2,dP,an⟩else I (⟨0,(bk #[]),0⟩)else I (⟨0,(bk #[]),0⟩):Int->Option e')
def VD(J:aA)gK(an:Int)Z:=(J.b1 λDC=>if decide (DC<(gK.length:Int))then(aH gK DC).bind λh9=>if decide ((az (an+(h9.size:Int)))<=(Z.size:Int))then(iP Z an (az (an+(h9.size:Int)))).bind λhk=>au (aH gK DC) λi9=>if decide (hk=i9)then(aH gK DC).bind λj2=>(I ⟨4,j2,an⟩).map .inr else I (.inl (az (DC+1)))else I (.inl (az (DC+1)))else(I (⟨0,(bk #[]),0⟩)).map .inr:Int->Option e')
def OF(J:aA)Z(an:Int):=(J.b1 λkB=>if decide (kB<(Z.size:Int))then(gW Z kB).bind λbq=>au (OD bq) λbR=>if bR then I (.inl (az (kB+1)))else(gW Z kB).bind λbJ=>au (Kc bJ) λcG=>if cG then I (.inl (az (kB+1)))else(DA Z an J kB).map .inr else(DA Z an J kB).map .inr:Int->Option e')
def VE(J:aA)Z(an:Int):=(J.b1 λsa=>if decide (sa<(Z.size:Int))then(gW Z sa).bind λet=>au (Kc et) λgc=>if gc then I (.inl (az (sa+1)))else(DB Z an sa).map .inr else(DB Z an sa).map .inr:Int->Option e')
def Gz J Z(an:Int):=(if decide ((Z.size:Int)<=an)then I (⟨0,(bk #[]),0⟩)else(gW Z an).bind λaa=>au (OD aa) λai=>if ai then OF J Z an an else(gW Z an).bind λc1=>au (Kc c1) λcJ=>if cJ then VE J Z an an else(vr).bind λgK=>VD J gK an Z 0:Option e')
def adU Z(J:aA):=(J.b1 λ(hc,b2)=>if decide (b2<(Z.size:Int))then(Gz J Z b2).bind λaE=>if decide (aE.kind=0)then(I ([],b2,4)).map .inr else if decide ((hc.length:Int)=800)then(I ([],b2,5)).map .inr else(e6 hc [⟨aE.kind,aE.text,aE.at_⟩]).bind λaW=>au (Kb J Z (az (b2+(aE.text.size:Int)))) λa_=>I (.inl (aW,a_))else(I (hc,0,0)).map .inr:(vp×Int)->Option (vp×Int×Int))
def OG J Z:=(au (VC J Z) λaa=>if !decide (aa.2=0)then I ([],aa.1,aa.2)else(Kb J Z 0).bind λai=>adU Z J (([]:List e'),ai):Option (vp×Int×Int))
def kl(ab:List e')(al:Int)(am:Nat)(ao:List bm)(ah:Nat)(aq:List Int)(av:Bool):Option ByteArray:=if av then I (bk #[])else if decide ((ab.length:Int)<=al)then I (bk #[])else(aH ab al).bind λaa=>I aa.text
def sb(ab:List e')(al:Int)(am:Nat)(ao:List bm)(ah:Nat)(aq:List Int)(av:Bool):Option Int:=if decide (al<(ab.length:Int))then(aH ab al).bind λaa=>I aa.at_ else I 0
def GA(ab:List e')(al:Int)(am:Nat)(ao:List bm)(ah:Nat)(aq:List Int)(av:Bool):Option Int:=if av then I 0 else if decide ((ab.length:Int)<=al)then I 0 else(aH ab al).bind λaa=>I aa.kind
def DD:Option dW:=I ([(bk #[]),(bk #[109,117,115,116]),(bk #[109,97,121]),(bk #[99,111,117,110,116]),(bk #[98,111,117,110,100,115]),(bk #[118,97,108,117,101,115]),(bk #[119,104,121]),(bk #[98,108,97,109,101]),(bk #[108,111,111,107])]:List ByteArray)
def jf ab(al:List e')(am:Int)(ao:Nat)ah(aq:Nat)(av:List Int)(aT:Bool):=(au (e6 ah [ab]) λaa=>I ((az ((aa.length:Int)- 1)),aa,ao+1):Option (Int×List bm×Nat))
def j3 ab al(am:Int)(ao:Nat)ah(aq:Nat)av(aT:Bool):=(au (kl al am ao ah aq av aT) λaa=>if !decide (aa=ab)then I (am,ad)else I ((az (am+1)),aT):Option (Int×Bool))
def wO(ab:Int)al(am:Int)(ao:Nat)ah(aq:Nat)av(aT:Bool):=(au (kl al am ao ah aq av aT) λaa=>au (GA al am ao ah aq av aT) λai=>if !decide (ai=ab)then I ((bk #[]),am,ad)else I (aa,(az (am+1)),aT):Option Du)
def Kd J Z:=(au (Gz J Z 0) λaa=>if !decide (aa.kind=0)&&decide (aa.text=Z)then I (aa.kind,0)else I (0,4):Option (Int×Int))
def adV(J:aA)Z:=(J.b1 λ(dR,hc)=>if decide (hc<(Z.size:Int))then(gW Z hc).bind λai=>I (.inl ((az ((az (10*dR))+(az ((xR (ai- 48)))))),(az (hc+1))))else(I (dR,0)).map .inr:(Int×Int)->Option (Int×Int))
def OH J Z:=(au (Kd J Z) λaa=>if !decide (aa.2=0)|| !decide (aa.1=2)then I (0,4)else adV J Z (0,0):Option (Int×Int))
def wP J ab(al:Int)(am:Nat)ao(ah:Nat)aq(av:Bool):=(au (wO 2 ab al am ao ah aq av) λaa=>au (OH J aa.1) λai=>I (ai.1,aa.2.1,aa.2.2):Option (Int×Int×Bool))
def adW(J:aA)ab(ah:Nat)aq(cb:iv):=(J.b1 λ(eQ,gt,fU,fk,fl,k6)=>au (kl ab gt fl fU ah aq fk) λai=>if decide (ai=(bk #[44]))then(cb ab (az (gt+1)) fl fU ah aq fk).bind λaE=>au (e6 eQ [aE.1]) λaW=>I (.inl (aW,aE.2.1,aE.2.2.1,aE.2.2.2.1,aE.2.2.2.2,k6+1))else(I (eQ,gt,fU,fk,fl)).map .inr:Gq->Option (List Int×Int×List bm×Bool×Nat))
def OI J cb ab(al:Int)(am:Nat)ao(ah:Nat)aq(av:Bool):=(au (cb ab al am ao ah aq av) λaa=>adW J ab ah aq cb ([aa.1],aa.2.1,aa.2.2.1,aa.2.2.2.1,aa.2.2.2.2,0):Option (List Int×Int×List bm×Bool×Nat))
def adX(J:aA)ab(ah:Nat)aq(cb:iv):=(J.b1 λ(eQ,gt,fU,fk,fl,k6)=>au (kl ab gt fl fU ah aq fk) λai=>if decide (ai=(bk #[44]))then(cb ab (az (gt+1)) fl fU ah aq fk).bind λaE=>au (e6 eQ [aE.1]) λaW=>I (.inl (aW,aE.2.1,aE.2.2.1,aE.2.2.2.1,aE.2.2.2.2,k6+1))else(I (eQ,k6,gt,fU,fk,fl)).map .inr:Gq->Option Oo)
def OJ J cb ab(al:Int)(am:Nat)ao(ah:Nat)aq(av:Bool):=(au (cb ab al am ao ah aq av) λaa=>adX J ab ah aq cb ([aa.1],aa.2.1,aa.2.2.1,aa.2.2.2.1,aa.2.2.2.2,0):Option Oo)
def OK ab(al:Int)(am:Nat)ao(ah:Nat)aq(av:Bool):=(au (kl ab al am ao ah aq av) λaa=>if !decide (aa=(bk #[44]))then I (aS,al)else I (ad,(az (al+1))):Option (Bool×Int))
def adY(J:aA)ab(ah:Nat)aq(cb:iv)(ai:ByteArray×Int×Bool)(aa:Int):=(J.b1 λ(dv,gt,fU,fk,fl,GB,yf)=>if dv then(sb ab gt fl fU ah aq fk).bind λc1=>au (wO 1 ab gt fl fU ah aq fk) λcJ=>au (j3 (bk #[58]) ab cJ.2.1 fl fU ah aq cJ.2.2) λdP=>au (cb ab dP.1 fl fU ah aq dP.2) λef=>au (jf ⟨25,cJ.1,0,[ef.1],c1⟩ ab ef.2.1 ef.2.2.2.2 ef.2.2.1 ah aq ef.2.2.2.1) λet=>au (e6 GB [et.1]) λgc=>au (OK ab ef.2.1 et.2.2 et.2.1 ah aq ef.2.2.2.1) λgK=>I (.inl (gK.1,gK.2,et.2.1,ef.2.2.2.1,et.2.2,gc,yf+1))else(au (j3 (bk #[125]) ab gt fl fU ah aq fk) λh9=>au (jf ⟨24,ai.1,0,GB,aa⟩ ab h9.1 fl fU ah aq h9.2) λhk=>I (hk.1,h9.1,hk.2.1,h9.2,hk.2.2)).map .inr:(Bool×Int×List bm×Bool×Nat×List Int×Nat)->Option hM)
def OL J cb ab(al:Int)(am:Nat)ao(ah:Nat)aq(av:Bool):=(au (sb ab al am ao ah aq av) λaa=>au (wO 1 ab al am ao ah aq av) λai=>au (kl ab ai.2.1 am ao ah aq ai.2.2) λaE=>if decide (aE=(bk #[40]))then(kl ab (az (ai.2.1+1)) am ao ah aq ai.2.2).bind λaW=>if !decide (aW=(bk #[41]))then(OJ J cb ab (az (ai.2.1+1)) am ao ah aq ai.2.2).bind λa_=>au (j3 (bk #[41]) ab a_.2.2.1 a_.2.2.2.2.2 a_.2.2.2.1 ah aq a_.2.2.2.2.1) λbq=>au (jf ⟨21,ai.1,0,a_.1,aa⟩ ab bq.1 a_.2.2.2.2.2 a_.2.2.2.1 ah aq bq.2) λbR=>I (bR.1,bq.1,bR.2.1,bq.2,bR.2.2)else(j3 (bk #[41]) ab (az (ai.2.1+1)) am ao ah aq ai.2.2).bind λbJ=>au (jf ⟨21,ai.1,0,[],aa⟩ ab bJ.1 am ao ah aq bJ.2) λcG=>I (cG.1,bJ.1,cG.2.1,bJ.2,cG.2.2)else if decide (aE=(bk #[123]))then adY J ab ah aq cb ai aa (ad,(az (ai.2.1+1)),ao,ai.2.2,am,[],0)else(jf ⟨3,ai.1,0,[],aa⟩ ab ai.2.1 am ao ah aq ai.2.2).bind λi9=>I (i9.1,ai.2.1,i9.2.1,ai.2.2,i9.2.2):Option hM)
def OM J cb ab(al:Int)(am:Nat)ao(ah:Nat)aq(av:Bool):=(au (kl ab al am ao ah aq av) λaa=>au (sb ab al am ao ah aq av) λai=>au (GA ab al am ao ah aq av) λaE=>if decide (aE=2)then(wP J ab al am ao ah aq av).bind λaW=>au (jf (⟨1,(bk #[]),aW.1,[],ai⟩) ab aW.2.1 am ao ah aq aW.2.2) λa_=>I (a_.1,aW.2.1,a_.2.1,aW.2.2,a_.2.2)else if decide (aa=(bk #[116,114,117,101]))||decide (aa=(bk #[102,97,108,115,101]))then if decide (aa=(bk #[116,114,117,101]))then(jf (⟨2,(bk #[]),1,[],ai⟩) ab (az (al+1)) am ao ah aq av).bind λbq=>I (bq.1,(az (al+1)),bq.2.1,av,bq.2.2)else(jf (⟨2,(bk #[]),0,[],ai⟩) ab (az (al+1)) am ao ah aq av).bind λbR=>I (bR.1,(az (al+1)),bR.2.1,av,bR.2.2)else if decide (aa=(bk #[40]))then(cb ab (az (al+1)) am ao ah aq av).bind λbJ=>au (j3 (bk #[41]) ab bJ.2.1 bJ.2.2.2.2 bJ.2.2.1 ah aq bJ.2.2.2.1) λcG=>I (bJ.1,cG.1,bJ.2.2.1,cG.2,bJ.2.2.2.2)else if decide (aa=(bk #[91]))then(OI J cb ab (az (al+1)) am ao ah aq av).bind λc1=>au (j3 (bk #[93]) ab c1.2.1 c1.2.2.2.2 c1.2.2.1 ah aq c1.2.2.2.1) λcJ=>au (jf (⟨26,(bk #[]),0,c1.1,ai⟩) ab cJ.1 c1.2.2.2.2 c1.2.2.1 ah aq cJ.2) λdP=>I (dP.1,cJ.1,dP.2.1,cJ.2,dP.2.2)else(OL J cb ab al am ao ah aq av).bind λef=>I ef:Option hM)
def adZ(J:aA)ab(ah:Nat)aq(cb:iv):=(J.b1 λ(eQ,gt,fU,fk,fl)=>au (sb ab gt fl fU ah aq fk) λai=>au (kl ab gt fl fU ah aq fk) λaE=>if decide (aE=(bk #[46]))then(wO 1 ab (az (gt+1)) fl fU ah aq fk).bind λaW=>au (jf ⟨22,aW.1,0,[eQ],ai⟩ ab aW.2.1 fl fU ah aq aW.2.2) λa_=>I (.inl (a_.1,aW.2.1,a_.2.1,aW.2.2,a_.2.2))else if decide (aE=(bk #[91]))then(cb ab (az (gt+1)) fl fU ah aq fk).bind λbq=>au (j3 (bk #[93]) ab bq.2.1 bq.2.2.2.2 bq.2.2.1 ah aq bq.2.2.2.1) λbR=>au (jf (⟨23,(bk #[]),0,[eQ,bq.1],ai⟩) ab bR.1 bq.2.2.2.2 bq.2.2.1 ah aq bR.2) λbJ=>I (.inl (bJ.1,bR.1,bJ.2.1,bR.2,bJ.2.2))else(I (eQ,gt,fU,fk,fl)).map .inr:hM->Option hM)
def ON J cb ab(al:Int)(am:Nat)ao(ah:Nat)aq(av:Bool):=(au (OM J cb ab al am ao ah aq av) λaa=>adZ J ab ah aq cb (aa.1,aa.2.1,aa.2.2.1,aa.2.2.2.1,aa.2.2.2.2):Option hM)
def OO J cb(OP:Ou)ab(al:Int)(am:Nat)ao(ah:Nat)aq(av:Bool):=(au (sb ab al am ao ah aq av) λaa=>au (kl ab al am ao ah aq av) λai=>if decide (ai=(bk #[45]))then(OP ab (az (al+1)) am ao ah aq av).bind λaE=>au (jf (⟨4,(bk #[]),0,[aE.1],aa⟩) ab aE.2.1 aE.2.2.2.2 aE.2.2.1 ah aq aE.2.2.2.1) λaW=>I (aW.1,aE.2.1,aW.2.1,aE.2.2.2.1,aW.2.2)else(ON J cb ab al am ao ah aq av).bind λa_=>I a_:Option hM)
def Ke(J:aA)(cb:iv):Nat->Ou
  |0=>λ_ _ _ _ _ _ _=>aJ
  |k+1=>OO J cb (Ke J cb k)
def Kf J cb:=(Ke J cb J.n:Ou)
def zs(ab al aa:Int)ao(aT:Nat)bd:=(λ(km,GC,ad0,GD,OQ)=>au (jf (⟨ab,(bk #[]),0,[al,km],aa⟩) ao GC OQ ad0 aT bd GD) λai=>I (ai.1,GC,ai.2.1,GD,ai.2.2):hM->Option hM)
def oX J cb(dS:pO)(e3:s9)(jM:yd)(ul:Gv)(ab al am:Int)ao(ah:Int)(aq:Nat)av(aT:Nat)bd(bf:Bool):=(au (sb ao ah aq av aT bd bf) λaa=>if decide (am=3)then(dS ao (az (ah+1)) aq av aT bd bf).bind λaE=>zs ab al aa ao aT bd (aE.1,aE.2.1,aE.2.2.1,aE.2.2.2.1,aE.2.2.2.2)else if decide (am=4)then(e3 ao (az (ah+1)) aq av aT bd bf).bind λaW=>zs ab al aa ao aT bd (aW.1,aW.2.1,aW.2.2.1,aW.2.2.2.1,aW.2.2.2.2)else if decide (am=6)then(jM ao (az (ah+1)) aq av aT bd bf).bind λa_=>zs ab al aa ao aT bd (a_.1,a_.2.1,a_.2.2.1,a_.2.2.2.1,a_.2.2.2.2)else if decide (am=7)then(ul ao (az (ah+1)) aq av aT bd bf).bind λbq=>zs ab al aa ao aT bd (bq.1,bq.2.1,bq.2.2.1,bq.2.2.2.1,bq.2.2.2.2)else(Kf J cb ao (az (ah+1)) aq av aT bd bf).bind λbR=>zs ab al aa ao aT bd (bR.1,bR.2.1,bR.2.2.1,bR.2.2.2.1,bR.2.2.2.2):Option hM)
def ad1 ab(ah:Nat)aq(J:aA)cb dS e3 jM ul:=(J.b1 λ(eQ,gt,fU,fk,fl)=>au (kl ab gt fl fU ah aq fk) λai=>if decide (ai=(bk #[42]))then(oX J cb dS e3 jM ul 8 eQ 8 ab gt fl fU ah aq fk).bind λaE=>I (.inl (aE.1,aE.2.1,aE.2.2.1,aE.2.2.2.1,aE.2.2.2.2))else if decide (ai=(bk #[47]))then(oX J cb dS e3 jM ul 9 eQ 8 ab gt fl fU ah aq fk).bind λaW=>I (.inl (aW.1,aW.2.1,aW.2.2.1,aW.2.2.2.1,aW.2.2.2.2))else if decide (ai=(bk #[37]))then(oX J cb dS e3 jM ul 10 eQ 8 ab gt fl fU ah aq fk).bind λa_=>I (.inl (a_.1,a_.2.1,a_.2.2.1,a_.2.2.2.1,a_.2.2.2.2))else(I (eQ,gt,fU,fk,fl)).map .inr:hM->Option hM)
def OR J cb dS e3 jM ul ab(al:Int)(am:Nat)ao(ah:Nat)aq(av:Bool):=(au (Kf J cb ab al am ao ah aq av) λaa=>ad1 ab ah aq J cb dS e3 jM ul (aa.1,aa.2.1,aa.2.2.1,aa.2.2.2.1,aa.2.2.2.2):Option hM)
def Kg(J:aA)(cb:iv)(dS:pO)(e3:s9)(jM:yd):Nat->Gv
  |0=>λ_ _ _ _ _ _ _=>aJ
  |k+1=>OR J cb dS e3 jM (Kg J cb dS e3 jM k)
def re J cb dS e3 jM:=(Kg J cb dS e3 jM J.n:Gv)
def ad2 ab(ah:Nat)aq(J:aA)cb dS e3 jM:=(J.b1 λ(eQ,gt,fU,fk,fl)=>au (kl ab gt fl fU ah aq fk) λai=>if decide (ai=(bk #[43]))then(oX J cb dS e3 jM (re J cb dS e3 jM) 6 eQ 7 ab gt fl fU ah aq fk).bind λaE=>I (.inl (aE.1,aE.2.1,aE.2.2.1,aE.2.2.2.1,aE.2.2.2.2))else if decide (ai=(bk #[45]))then(oX J cb dS e3 jM (re J cb dS e3 jM) 7 eQ 7 ab gt fl fU ah aq fk).bind λaW=>I (.inl (aW.1,aW.2.1,aW.2.2.1,aW.2.2.2.1,aW.2.2.2.2))else(I (eQ,gt,fU,fk,fl)).map .inr:hM->Option hM)
def OS J cb dS e3 jM ab(al:Int)(am:Nat)ao(ah:Nat)aq(av:Bool):=(au (re J cb dS e3 jM ab al am ao ah aq av) λaa=>ad2 ab ah aq J cb dS e3 jM (aa.1,aa.2.1,aa.2.2.1,aa.2.2.2.1,aa.2.2.2.2):Option hM)
def GF(J:aA)(cb:iv)(dS:pO)(e3:s9):Nat->yd
  |0=>λ_ _ _ _ _ _ _=>aJ
  |k+1=>OS J cb dS e3 (GF J cb dS e3 k)
def nw J cb dS e3:=(GF J cb dS e3 J.n:yd)
def OT J cb dS e3 ab(al:Int)(am:Nat)ao(ah:Nat)aq(av:Bool):=(au (nw J cb dS e3 ab al am ao ah aq av) λaa=>au (kl ab aa.2.1 aa.2.2.2.2 aa.2.2.1 ah aq aa.2.2.2.1) λai=>if decide (ai=(bk #[61,61]))then(oX J cb dS e3 (nw J cb dS e3) (re J cb dS e3 (nw J cb dS e3)) 11 aa.1 6 ab aa.2.1 aa.2.2.2.2 aa.2.2.1 ah aq aa.2.2.2.1).bind λaE=>I aE else if decide (ai=(bk #[33,61]))then(oX J cb dS e3 (nw J cb dS e3) (re J cb dS e3 (nw J cb dS e3)) 12 aa.1 6 ab aa.2.1 aa.2.2.2.2 aa.2.2.1 ah aq aa.2.2.2.1).bind λaW=>I aW else if decide (ai=(bk #[60]))then(oX J cb dS e3 (nw J cb dS e3) (re J cb dS e3 (nw J cb dS e3)) 13 aa.1 6 ab aa.2.1 aa.2.2.2.2 aa.2.2.1 ah aq aa.2.2.2.1).bind λa_=>I a_ else if decide (ai=(bk #[60,61]))then(oX J cb dS e3 (nw J cb dS e3) (re J cb dS e3 (nw J cb dS e3)) 14 aa.1 6 ab aa.2.1 aa.2.2.2.2 aa.2.2.1 ah aq aa.2.2.2.1).bind λbq=>I bq else if decide (ai=(bk #[62]))then(oX J cb dS e3 (nw J cb dS e3) (re J cb dS e3 (nw J cb dS e3)) 15 aa.1 6 ab aa.2.1 aa.2.2.2.2 aa.2.2.1 ah aq aa.2.2.2.1).bind λbR=>I bR else if decide (ai=(bk #[62,61]))then(oX J cb dS e3 (nw J cb dS e3) (re J cb dS e3 (nw J cb dS e3)) 16 aa.1 6 ab aa.2.1 aa.2.2.2.2 aa.2.2.1 ah aq aa.2.2.2.1).bind λbJ=>I bJ else I aa:Option hM)
def OU J cb dS e3 ab(al:Int)(am:Nat)ao(ah:Nat)aq(av:Bool):=(au (sb ab al am ao ah aq av) λaa=>au (kl ab al am ao ah aq av) λai=>if decide (ai=(bk #[110,111,116]))then(e3 ab (az (al+1)) am ao ah aq av).bind λaE=>au (jf (⟨5,(bk #[]),0,[aE.1],aa⟩) ab aE.2.1 aE.2.2.2.2 aE.2.2.1 ah aq aE.2.2.2.1) λaW=>I (aW.1,aE.2.1,aW.2.1,aE.2.2.2.1,aW.2.2)else(OT J cb dS e3 ab al am ao ah aq av).bind λa_=>I a_:Option hM)
def Kh(J:aA)(cb:iv)(dS:pO):Nat->s9
  |0=>λ_ _ _ _ _ _ _=>aJ
  |k+1=>OU J cb dS (Kh J cb dS k)
def vt J cb dS:=(Kh J cb dS J.n:s9)
def ad3 ab(ah:Nat)aq(J:aA)cb dS:=(J.b1 λ(eQ,gt,fU,fk,fl)=>au (kl ab gt fl fU ah aq fk) λai=>if decide (ai=(bk #[97,110,100]))then(oX J cb dS (vt J cb dS) (nw J cb dS (vt J cb dS)) (re J cb dS (vt J cb dS) (nw J cb dS (vt J cb dS))) 17 eQ 4 ab gt fl fU ah aq fk).bind λaE=>I (.inl (aE.1,aE.2.1,aE.2.2.1,aE.2.2.2.1,aE.2.2.2.2))else(I (eQ,gt,fU,fk,fl)).map .inr:hM->Option hM)
def OV J cb dS ab(al:Int)(am:Nat)ao(ah:Nat)aq(av:Bool):=(au (vt J cb dS ab al am ao ah aq av) λaa=>ad3 ab ah aq J cb dS (aa.1,aa.2.1,aa.2.2.1,aa.2.2.2.1,aa.2.2.2.2):Option hM)
def OW(J:aA)(cb:iv):Nat->pO
  |0=>λ_ _ _ _ _ _ _=>aJ
  |k+1=>OV J cb (OW J cb k)
def vu J cb:=(OW J cb J.n:pO)
def ad4 ab(ah:Nat)aq(J:aA)cb:=(J.b1 λ(eQ,gt,fU,fk,fl)=>au (kl ab gt fl fU ah aq fk) λai=>if decide (ai=(bk #[111,114]))then(oX J cb (vu J cb) (vt J cb (vu J cb)) (nw J cb (vu J cb) (vt J cb (vu J cb))) (re J cb (vu J cb) (vt J cb (vu J cb)) (nw J cb (vu J cb) (vt J cb (vu J cb)))) 18 eQ 3 ab gt fl fU ah aq fk).bind λaE=>I (.inl (aE.1,aE.2.1,aE.2.2.1,aE.2.2.2.1,aE.2.2.2.2))else(I (eQ,gt,fU,fk,fl)).map .inr:hM->Option hM)
def OX J cb ab(al:Int)(am:Nat)ao(ah:Nat)aq(av:Bool):=(au (vu J cb ab al am ao ah aq av) λaa=>ad4 ab ah aq J cb (aa.1,aa.2.1,aa.2.2.1,aa.2.2.2.1,aa.2.2.2.2):Option hM)
def OY J cb ab(al:Int)(am:Nat)ao(ah:Nat)aq(av:Bool):=(au (sb ab al am ao ah aq av) λaa=>au (kl ab al am ao ah aq av) λai=>if decide (ai=(bk #[105,102]))then(cb ab (az (al+1)) am ao ah aq av).bind λaE=>au (j3 (bk #[116,104,101,110]) ab aE.2.1 aE.2.2.2.2 aE.2.2.1 ah aq aE.2.2.2.1) λaW=>au (cb ab aW.1 aE.2.2.2.2 aE.2.2.1 ah aq aW.2) λa_=>au (j3 (bk #[101,108,115,101]) ab a_.2.1 a_.2.2.2.2 a_.2.2.1 ah aq a_.2.2.2.1) λbq=>au (cb ab bq.1 a_.2.2.2.2 a_.2.2.1 ah aq bq.2) λbR=>au (jf (⟨19,(bk #[]),0,[aE.1,a_.1,bR.1],aa⟩) ab bR.2.1 bR.2.2.2.2 bR.2.2.1 ah aq bR.2.2.2.1) λbJ=>I (bJ.1,bR.2.1,bJ.2.1,bR.2.2.2.1,bJ.2.2)else if decide (ai=(bk #[108,101,116]))then(wO 1 ab (az (al+1)) am ao ah aq av).bind λcG=>au (j3 (bk #[61]) ab cG.2.1 am ao ah aq cG.2.2) λc1=>au (cb ab c1.1 am ao ah aq c1.2) λcJ=>au (j3 (bk #[105,110]) ab cJ.2.1 cJ.2.2.2.2 cJ.2.2.1 ah aq cJ.2.2.2.1) λdP=>au (cb ab dP.1 cJ.2.2.2.2 cJ.2.2.1 ah aq dP.2) λef=>au (jf ⟨20,cG.1,0,[cJ.1,ef.1],aa⟩ ab ef.2.1 ef.2.2.2.2 ef.2.2.1 ah aq ef.2.2.2.1) λet=>I (et.1,ef.2.1,et.2.1,ef.2.2.2.1,et.2.2)else(OX J cb ab al am ao ah aq av).bind λgc=>I gc:Option hM)
def Ki(J:aA):Nat->iv
  |0=>λ_ _ _ _ _ _ _=>aJ
  |k+1=>OY J (Ki J k)
def Bn J:=(Ki J J.n:iv)
def Kj(qv ab:Int)al(aq:Nat)av:=(λ(gt,fU,fk,fl,Bo,GB,yf)=>au (jf (⟨Bo,(bk #[]),qv,GB,ab⟩) al gt fl fU aq av fk) λaW=>I (aW.1,gt,aW.2.1,fk,aW.2.2):(Int×List bm×Bool×Nat×Int×List Int×Nat)->Option hM)
def ad5(qv:Int)al(aq:Nat)av(J:aA)(ab:Int):=(J.b1 λ(DE,DF,DG,DH,GG,DI)=>if decide (qv=8)then(kl al DE DH DF aq av DG).bind λa_=>if decide (a_=(bk #[44]))then(Bn J al (az (DE+1)) DH DF aq av DG).bind λbq=>au (e6 GG [bq.1]) λbR=>I (.inl (bq.2.1,bq.2.2.1,bq.2.2.2.1,bq.2.2.2.2,bR,DI+1))else(Kj qv ab al aq av (DE,DF,DG,DH,46,GG,DI)).map .inr else(Kj qv ab al aq av (DE,DF,DG,DH,46,GG,DI)).map .inr:(Int×List bm×Bool×Nat×List Int×Nat)->Option hM)
def VF(am:Int)ah(ao:Nat)(ab:Int)al(aq:Nat)av(aT:Bool)J:=(λqv=>if decide (qv=0)then I (0,am,ah,ad,ao)else if decide (qv=7)then(jf (⟨46,(bk #[]),qv,[],ab⟩) al (az (am+1)) ao ah aq av aT).bind λai=>I (ai.1,(az (am+1)),ai.2.1,aT,ai.2.2)else(Bn J al (az (am+1)) ao ah aq av aT).bind λaE=>ad5 qv al aq av J ab (aE.2.1,aE.2.2.1,aE.2.2.2.1,aE.2.2.2.2,[aE.1],0):Int->Option hM)
def ad6(J:aA)aa al(am:Int)(ao:Nat)ah(aq:Nat)av(aT:Bool)(ab:Int):=(J.b1 λ(GH,VG)=>if decide (GH<(aa.length:Int))then(kl al am ao ah aq av aT).bind λbJ=>au (aH aa GH) λcG=>if decide (bJ=cG)then I (.inl ((az (GH+1)),GH))else I (.inl ((az (GH+1)),VG))else(VF am ah ao ab al aq av aT J VG).map .inr:(Int×Int)->Option hM)
def OZ J(ab:Int)al(am:Int)(ao:Nat)ah(aq:Nat)av(aT:Bool):=(au (DD) λaa=>ad6 J aa al am ao ah aq av aT ab (1,0):Option hM)
def Kk J ab(al:Int)(am:Nat)ao(ah:Nat)aq(av:Bool):=(au (sb ab al am ao ah aq av) λaa=>au (kl ab al am ao ah aq av) λai=>if decide (ai=(bk #[45]))then(wP J ab (az (al+1)) am ao ah aq av).bind λaE=>au (jf (⟨1,(bk #[]),(az ((-1)*aE.1)),[],aa⟩) ab aE.2.1 am ao ah aq aE.2.2) λaW=>I (aW.1,aE.2.1,aW.2.1,aE.2.2,aW.2.2)else(wP J ab al am ao ah aq av).bind λa_=>au (jf (⟨1,(bk #[]),(az (1*a_.1)),[],aa⟩) ab a_.2.1 am ao ah aq a_.2.2) λbq=>I (bq.1,a_.2.1,bq.2.1,a_.2.2,bq.2.2):Option hM)
def O0 J(O1:Ow)ab(al:Int)(am:Nat)ao(ah:Nat)aq(av:Bool):=(au (sb ab al am ao ah aq av) λaa=>au (kl ab al am ao ah aq av) λai=>if decide (ai=(bk #[105,110,116]))then(jf (⟨30,(bk #[]),0,[],aa⟩) ab (az (al+1)) am ao ah aq av).bind λaE=>I (aE.1,(az (al+1)),aE.2.1,av,aE.2.2)else(kl ab al am ao ah aq av).bind λaW=>if decide (aW=(bk #[98,111,111,108]))then(jf (⟨31,(bk #[]),0,[],aa⟩) ab (az (al+1)) am ao ah aq av).bind λa_=>I (a_.1,(az (al+1)),a_.2.1,av,a_.2.2)else(kl ab al am ao ah aq av).bind λbq=>if decide (bq=(bk #[91]))then(O1 ab (az (al+1)) am ao ah aq av).bind λbR=>au (j3 (bk #[59]) ab bR.2.1 bR.2.2.2.2 bR.2.2.1 ah aq bR.2.2.2.1) λbJ=>au (wP J ab bJ.1 bR.2.2.2.2 bR.2.2.1 ah aq bJ.2) λcG=>au (j3 (bk #[93]) ab cG.2.1 bR.2.2.2.2 bR.2.2.1 ah aq cG.2.2) λc1=>au (jf (⟨33,(bk #[]),cG.1,[bR.1],aa⟩) ab c1.1 bR.2.2.2.2 bR.2.2.1 ah aq c1.2) λcJ=>I (cJ.1,c1.1,cJ.2.1,c1.2,cJ.2.2)else(wO 1 ab al am ao ah aq av).bind λdP=>au (jf ⟨32,dP.1,0,[],aa⟩ ab dP.2.1 am ao ah aq dP.2.2) λef=>I (ef.1,dP.2.1,ef.2.1,dP.2.2,ef.2.2):Option hM)
def Kl(J:aA):Nat->Ow
  |0=>λ_ _ _ _ _ _ _=>aJ
  |k+1=>O0 J (Kl J k)
def Km J:=(Kl J J.n:Ow)
def ad7 ab(ah:Nat)aq(J:aA):=(J.b1 λ(eQ,gt,fU,fk,fl,k6)=>au (sb ab gt fl fU ah aq fk) λaa=>au (wO 1 ab gt fl fU ah aq fk) λai=>au (j3 (bk #[58]) ab ai.2.1 fl fU ah aq ai.2.2) λaE=>au (Km J ab aE.1 fl fU ah aq aE.2) λaW=>au (jf ⟨34,ai.1,0,[aW.1],aa⟩ ab aW.2.1 aW.2.2.2.2 aW.2.2.1 ah aq aW.2.2.2.1) λa_=>au (e6 eQ [a_.1]) λbq=>au (kl ab aW.2.1 a_.2.2 a_.2.1 ah aq aW.2.2.2.1) λbR=>if !decide (bR=(bk #[44]))then(I (bq,k6+1,aW.2.1,a_.2.1,aW.2.2.2.1,a_.2.2)).map .inr else I (.inl (bq,(az (aW.2.1+1)),a_.2.1,aW.2.2.2.1,a_.2.2,k6+1)):Gq->Option Oo)
def Kn J ab(al:Int)(am:Nat)ao(ah:Nat)aq(av:Bool):=(ad7 ab ah aq J (([]:List Int),al,ao,av,am,0):Option Oo)
def GI ab(gO:Int×Int×List bm×Bool×Nat)(ah:Nat)aq J lK(a_:ByteArray×Int×Bool)(ai:Int):=(λ(GC,GD,qv)=>au (j3 (bk #[61]) ab GC gO.2.2.2.2 gO.2.2.1 ah aq GD) λum=>au (Bn J ab um.1 gO.2.2.2.2 gO.2.2.1 ah aq um.2) λpP=>au (e6 lK [pP.1]) λun=>au (jf ⟨42,a_.1,qv,un,ai⟩ ab pP.2.1 pP.2.2.2.2 pP.2.2.1 ah aq pP.2.2.2.1) λsc=>I (sc.1,pP.2.1,sc.2.1,pP.2.2.2.1,sc.2.2):(Int×Bool×Int)->Option hM)
def Ko ab(j4:Int×Int×List bm×Bool×Nat)(ah:Nat)aq J rf(a_:ByteArray×Int×Bool)(ai:Int):=(λ(gt,fk,ad8)=>au (j3 (bk #[61]) ab gt j4.2.2.2.2 j4.2.2.1 ah aq fk) λKp=>au (Bn J ab Kp.1 j4.2.2.2.2 j4.2.2.1 ah aq Kp.2) λyg=>au (e6 rf [yg.1]) λaoE=>au (jf ⟨42,a_.1,ad8,aoE,ai⟩ ab yg.2.1 yg.2.2.2.2 yg.2.2.1 ah aq yg.2.2.2.1) λVH=>I (VH.1,yg.2.1,VH.2.1,yg.2.2.2.1,VH.2.2):(Int×Bool×Int)->Option hM)
def O2 J ab(al:Int)(am:Nat)ao(ah:Nat)aq(av:Bool):=(au (kl ab al am ao ah aq av) λaa=>au (sb ab al am ao ah aq av) λai=>au (GA ab al am ao ah aq av) λaE=>if !decide (aE=3)then I (0,al,ao,ad,am)else if decide (aa=(bk #[99,104,111,111,115,101]))||(decide (aa=(bk #[116,121,112,101]))||(decide (aa=(bk #[102,117,110]))||(decide (aa=(bk #[108,101,116]))||(decide (aa=(bk #[111,98,115,101,114,118,101]))||(decide (aa=(bk #[114,101,116,114,97,99,116]))||decide (aa=(bk #[97,115,107])))))))then if decide (aa=(bk #[97,115,107]))then(OZ J ai ab (az (al+1)) am ao ah aq av).bind λaW=>I aW else(wO 1 ab (az (al+1)) am ao ah aq av).bind λa_=>if decide (aa=(bk #[99,104,111,111,115,101]))then(j3 (bk #[58]) ab a_.2.1 am ao ah aq a_.2.2).bind λbq=>au (Kk J ab bq.1 am ao ah aq bq.2) λbR=>au (j3 (bk #[46,46]) ab bR.2.1 bR.2.2.2.2 bR.2.2.1 ah aq bR.2.2.2.1) λbJ=>au (Kk J ab bJ.1 bR.2.2.2.2 bR.2.2.1 ah aq bJ.2) λcG=>au (jf ⟨40,a_.1,0,[bR.1,cG.1],ai⟩ ab cG.2.1 cG.2.2.2.2 cG.2.2.1 ah aq cG.2.2.2.1) λc1=>I (c1.1,cG.2.1,c1.2.1,cG.2.2.2.1,c1.2.2)else if decide (aa=(bk #[116,121,112,101]))then(j3 (bk #[61]) ab a_.2.1 am ao ah aq a_.2.2).bind λcJ=>au (j3 (bk #[123]) ab cJ.1 am ao ah aq cJ.2) λdP=>au (Kn J ab dP.1 am ao ah aq dP.2) λef=>au (j3 (bk #[125]) ab ef.2.2.1 ef.2.2.2.2.2 ef.2.2.2.1 ah aq ef.2.2.2.2.1) λet=>au (jf ⟨41,a_.1,0,ef.1,ai⟩ ab et.1 ef.2.2.2.2.2 ef.2.2.2.1 ah aq et.2) λgc=>I (gc.1,et.1,gc.2.1,et.2,gc.2.2)else if decide (aa=(bk #[102,117,110]))then(j3 (bk #[40]) ab a_.2.1 am ao ah aq a_.2.2).bind λgK=>au (kl ab gK.1 am ao ah aq gK.2) λh9=>if !decide (h9=(bk #[41]))then(Kn J ab gK.1 am ao ah aq gK.2).bind λhk=>au (j3 (bk #[41]) ab hk.2.2.1 hk.2.2.2.2.2 hk.2.2.2.1 ah aq hk.2.2.2.2.1) λi9=>au (j3 (bk #[58]) ab i9.1 hk.2.2.2.2.2 hk.2.2.2.1 ah aq i9.2) λj2=>au (Km J ab j2.1 hk.2.2.2.2.2 hk.2.2.2.1 ah aq j2.2) λgO=>au (e6 hk.1 [gO.1]) λlK=>au (kl ab gO.2.1 gO.2.2.2.2 gO.2.2.1 ah aq gO.2.2.2.1) λDJ=>if decide (DJ=(bk #[117,112,116,111]))then(kl ab (az (gO.2.1+1)) gO.2.2.2.2 gO.2.2.1 ah aq gO.2.2.2.1).bind λBp=>if decide (Bp=(bk #[48]))then(wP J ab (az (gO.2.1+1)) gO.2.2.2.2 gO.2.2.1 ah aq ad).bind λBq=>GI ab gO ah aq J lK a_ ai (Bq.2.1,Bq.2.2,Bq.1)else(wP J ab (az (gO.2.1+1)) gO.2.2.2.2 gO.2.2.1 ah aq gO.2.2.2.1).bind λDK=>GI ab gO ah aq J lK a_ ai (DK.2.1,DK.2.2,DK.1)else GI ab gO ah aq J lK a_ ai (gO.2.1,gO.2.2.2.1,0)else(j3 (bk #[41]) ab gK.1 am ao ah aq gK.2).bind λDL=>au (j3 (bk #[58]) ab DL.1 am ao ah aq DL.2) λyh=>au (Km J ab yh.1 am ao ah aq yh.2) λj4=>au (e6 [] [j4.1]) λrf=>au (kl ab j4.2.1 j4.2.2.2.2 j4.2.2.1 ah aq j4.2.2.2.1) λaoF=>if decide (aoF=(bk #[117,112,116,111]))then(kl ab (az (j4.2.1+1)) j4.2.2.2.2 j4.2.2.1 ah aq j4.2.2.2.1).bind λaoG=>if decide (aoG=(bk #[48]))then(wP J ab (az (j4.2.1+1)) j4.2.2.2.2 j4.2.2.1 ah aq ad).bind λVI=>Ko ab j4 ah aq J rf a_ ai (VI.2.1,VI.2.2,VI.1)else(wP J ab (az (j4.2.1+1)) j4.2.2.2.2 j4.2.2.1 ah aq j4.2.2.2.1).bind λVJ=>Ko ab j4 ah aq J rf a_ ai (VJ.2.1,VJ.2.2,VJ.1)else Ko ab j4 ah aq J rf a_ ai (j4.2.1,j4.2.2.2.1,0)else if decide (aa=(bk #[108,101,116]))then(j3 (bk #[61]) ab a_.2.1 am ao ah aq a_.2.2).bind λVK=>au (Bn J ab VK.1 am ao ah aq VK.2) λBr=>au (jf ⟨43,a_.1,0,[Br.1],ai⟩ ab Br.2.1 Br.2.2.2.2 Br.2.2.1 ah aq Br.2.2.2.1) λVL=>I (VL.1,Br.2.1,VL.2.1,Br.2.2.2.1,VL.2.2)else if decide (aa=(bk #[111,98,115,101,114,118,101]))then(j3 (bk #[58]) ab a_.2.1 am ao ah aq a_.2.2).bind λVM=>au (Bn J ab VM.1 am ao ah aq VM.2) λBs=>au (jf ⟨44,a_.1,0,[Bs.1],ai⟩ ab Bs.2.1 Bs.2.2.2.2 Bs.2.2.1 ah aq Bs.2.2.2.1) λVN=>I (VN.1,Bs.2.1,VN.2.1,Bs.2.2.2.1,VN.2.2)else if decide (aa=(bk #[114,101,116,114,97,99,116]))then(jf ⟨45,a_.1,0,[],ai⟩ ab a_.2.1 am ao ah aq a_.2.2).bind λVO=>I (VO.1,a_.2.1,VO.2.1,a_.2.2,VO.2.2)else(jf ⟨0,a_.1,0,[],ai⟩ ab a_.2.1 am ao ah aq a_.2.2).bind λVP=>I (VP.1,a_.2.1,VP.2.1,a_.2.2,VP.2.2)else I (0,al,ao,ad,am):Option hM)
def ad9 ab(J:aA):=(J.b1 λ(gt,fU,yi,fk,fl,rg)=>if !fk then if decide (gt<(ab.length:Int))then(O2 J ab gt fl fU rg yi fk).bind λaa=>au (j3 (bk #[59]) ab aa.2.1 aa.2.2.2.2 aa.2.2.1 rg yi aa.2.2.2.1) λai=>au (e6 yi [aa.1]) λaE=>I (.inl (ai.1,aa.2.2.1,aE,ai.2,aa.2.2.2.2,rg+1))else(I (gt,fU,yi,fk,fl,rg)).map .inr else(I (gt,fU,yi,fk,fl,rg)).map .inr:Oq->Option Oq)
def O3 J ab(al:Int)(am:Nat)ao(ah:Nat)aq(av:Bool):=(ad9 ab J (al,ao,aq,av,am,ah):Option Oq)
def Bt(J:aA)(Z:aZ)(dv:Int)(aa:List Int):na->Option (na ⊕ List Int):=J.b1 λ(kB,sd)=>au (aH Z.nodes dv) λaW=>if decide (kB<(aW.a8.length:Int))then(aH Z.nodes dv).bind λa_=>au (aH a_.a8 kB) λbq=>au (gz aa.length sd dv) λbR=>au (gz aa.length sd bq) λbJ=>I (.inl ((az (kB+1)),(sd.set bJ.1.1 (az (bR.1.2+1)))))else(I (.inl ((az (dv- 1)),sd))).map .inr
def VQ(J:aA)aa Z:=(J.b1 λ(dv,jN)=>if decide (0<=dv)then(gz aa.length jN dv).bind λai=>au (gz aa.length jN dv) λaE=>Bt J Z dv aa (0,(jN.set aE.1.1 (gX ai.1.2 1)))else(au (gF aa.length jN) λcG=>I cG).map .inr:na->Option (List Int))
def GJ J Z:=(au (mk (Z.nodes.length:Int) (0:Int)) λaa=>VQ J aa Z ((az ((Z.nodes.length:Int)- 1)),aa):Option (List Int))
def VR(J:aA)aa:=(J.b1 λ(eQ,cY)=>if decide (cY<(aa.length:Int))then(aH aa cY).bind λai=>I (.inl ((gX eQ ai),(az (cY+1))))else(I eQ).map .inr:(Int×Int)->Option Int)
def Bu J Z:=(au (GJ J Z) λaa=>VR J aa (0,0):Option Int)
def nb(Z:aZ)(an:Int):Option Bool:=au (aH Z.nodes an) λaa=>if decide (aa.kind=40)then(aH aa.a8 0).bind λai=>au (aH Z.nodes ai) λaE=>au (aH aa.a8 1) λaW=>au (aH Z.nodes aW) λa_=>I (decide (aE.n<=a_.n)&&(decide ((az ((az (a_.n-aE.n))+1))<=12)))else if decide (aa.kind=41)then I (decide ((aa.a8.length:Int)<=6))else if decide (aa.kind=42)then I ((decide ((az ((aa.a8.length:Int)- 2))<=4))&&decide (aa.n<=8))else if decide (aa.kind=33)then I (decide (1<=aa.n)&&decide (aa.n<=6))else if decide (aa.kind=26)then I (decide ((aa.a8.length:Int)<=6))else if decide (aa.kind=46)then I (decide ((aa.a8.length:Int)<=4))else I ad
def aea(J:aA)(ai:Int×List bm×List Int×Bool×Nat×Nat):Int->Option (aZ×Int×Int):=J.b1 λff=>if decide (ff<(ai.2.1.length:Int))then(nb ⟨ai.2.1,ai.2.2.1⟩ ff).bind λa_=>if !a_ then(aH ai.2.1 ff).bind λbq=>(I (⟨[],[]⟩,bq.at_,3)).map .inr else I (.inl (az (ff+1)))else(I (⟨ai.2.1,ai.2.2.1⟩,0,0)).map .inr
def Kq J Z:=(au (OG J Z) λaa=>if !decide (aa.2.2=0)then I (⟨[],[]⟩,aa.2.1,aa.2.2)else(O3 J aa.1 0 0 [] 0 [] aS).bind λai=>if ai.2.2.2.1&&decide (ai.1<(aa.1.length:Int))then(aH aa.1 ai.1).bind λaE=>I (⟨[],[]⟩,aE.at_,4)else if ai.2.2.2.1 then I (⟨[],[]⟩,(Z.size:Int),4)else if decide (60<(ai.2.2.1.length:Int))||decide (800<(ai.2.1.length:Int))then I (⟨[],[]⟩,0,5)else(Bu J ⟨ai.2.1,ai.2.2.1⟩).bind λaW=>if decide (30<aW)then I (⟨[],[]⟩,0,5)else aea J ai 0:Option (aZ×Int×Int))
def aeb(J:aA)(aa:bm)eQ(dv:Int):=(J.b1 λ(kC,oY)=>if decide (0<=oY)then(aH aa.a8 oY).bind λai=>if !decide (ai=kC)||decide (kC< 0)then((I []).map .inr).map .inr else(aH eQ kC).bind λaE=>I (.inl ((az (kC-aE)),(az (oY- 1))))else(au (e6 eQ [(az (dv-kC))]) λaW=>I (.inl (aW,(az (dv+1))))).map .inr:(Int×Int)->Option (k5 ⊕ List Int))
def aec(J:aA)(Z:aZ):k5->Option (List Int):=J.b1 λ(eQ,dv)=>if decide (dv<(Z.nodes.length:Int))then(aH Z.nodes dv).bind λaa=>aeb J aa eQ dv ((az (dv- 1)),(az ((aa.a8.length:Int)- 1)))else(I eQ).map .inr
def O4 J Z:=(aec J Z (([]:List Int),0):Option (List Int))
def zt(Z:Int):Option Bool:=I ((decide (1<=Z)&&decide (Z<=26))&& !decide (Z=25))
def zu(Z:Int):Option Bool:=I (decide (30<=Z)&&decide (Z<=33))
def O5(Z:Int):Option Bool:=I (decide (40<=Z)&&decide (Z<=46))
def DM(Z:Int):Option Bool:=if decide (Z=3)||(decide (Z=20)||(decide (Z=21)||(decide (Z=22)||(decide (Z=24)||(decide (Z=25)||(decide (Z=32)||(decide (Z=34)||(decide (Z=40)||(decide (Z=41)||(decide (Z=42)||(decide (Z=43)||(decide (Z=44)||decide (Z=45)))))))))))))then I ad else I aS
def DN J Z:=(au (Kd J Z) λaa=>I (decide (aa.2=0)&&decide (aa.1=1)):Option Bool)
def k7(Z:bm):Option Bool:=if decide (Z.kind=1)||(decide (Z.kind=2)||(decide (Z.kind=3)||(decide (Z.kind=30)||(decide (Z.kind=31)||(decide (Z.kind=32)||decide (Z.kind=45))))))then I (decide ((Z.a8.length:Int)=0))else if decide (Z.kind=4)||(decide (Z.kind=5)||(decide (Z.kind=22)||(decide (Z.kind=25)||(decide (Z.kind=33)||(decide (Z.kind=34)||(decide (Z.kind=43)||decide (Z.kind=44)))))))then I (decide ((Z.a8.length:Int)=1))else if decide (Z.kind=19)then I (decide ((Z.a8.length:Int)=3))else if decide (Z.kind=21)then I ad else if decide (Z.kind=24)||(decide (Z.kind=26)||decide (Z.kind=41))then I (decide (1<=(Z.a8.length:Int)))else if decide (Z.kind=42)then I (decide (2<=(Z.a8.length:Int)))else if decide (Z.kind=46)then if decide (Z.n=7)then I (decide ((Z.a8.length:Int)=0))else if decide (Z.n=8)then I (decide (1<=(Z.a8.length:Int)))else I (decide ((Z.a8.length:Int)=1))else I (decide ((Z.a8.length:Int)=2))
def oZ(Z:bm):Option Bool:=if decide (Z.kind=1)then I (decide ((-9999)<=Z.n)&&decide (Z.n<=9999))else if decide (Z.kind=2)then I (decide (Z.n=0)||decide (Z.n=1))else if decide (Z.kind=42)then I (decide (0<=Z.n))else if decide (Z.kind=33)then I ad else if decide (Z.kind=46)then I (decide (1<=Z.n)&&decide (Z.n<=8))else I (decide (Z.n=0))
def ta(Z:bm)(an a':Int):Option Bool:=if decide (Z.kind=24)then I (decide (a'=25))else if decide (Z.kind=41)then I (decide (a'=34))else if decide (Z.kind=34)||decide (Z.kind=33)then(zu a').bind λaa=>I aa else if decide (Z.kind=40)then I (decide (a'=1))else if decide (Z.kind=42)then if decide (an=(az ((Z.a8.length:Int)- 1)))then(zt a').bind λai=>I ai else if decide (an=(az ((Z.a8.length:Int)- 2)))then(zu a').bind λaE=>I aE else I (decide (a'=34))else(zt a').bind λaW=>I aW
def aed(J:aA)(aa:bm)(Z:aZ)(rh:Int):Int->Option Bool:=J.b1 λmQ=>if decide (mQ<(aa.a8.length:Int))then(aH aa.a8 mQ).bind λai=>au (aH Z.nodes ai) λaE=>au (ta ⟨rh,aa.text,aa.n,aa.a8,aa.at_⟩ mQ aE.kind) λaW=>if !aW then(I aS).map .inr else if decide (aE.kind=1)then if decide (aE.n< 0)then if !decide (rh=40)then(I aS).map .inr else I (.inl (az (mQ+1)))else I (.inl (az (mQ+1)))else I (.inl (az (mQ+1)))else(I ad).map .inr
def GK J aa Z:=(λrh=>aed J aa Z rh 0:Int->Option Bool)
def GL J aa Z:=(λkK=>au (DM kK) λa_=>au (DN J aa.text) λbq=>if !(a_==bq)then I aS else(DM kK).bind λbR=>if !bR then if !decide (aa.text=(bk #[]))then I aS else(k7 ⟨kK,aa.text,aa.n,aa.a8,aa.at_⟩).bind λbJ=>if !bJ then I aS else(oZ ⟨kK,aa.text,aa.n,aa.a8,aa.at_⟩).bind λcG=>if !cG then I aS else if decide (aa.at_< 0)then I aS else if decide (2000<aa.at_)then I aS else GK J aa Z kK else(k7 ⟨kK,aa.text,aa.n,aa.a8,aa.at_⟩).bind λc1=>if !c1 then I aS else(oZ ⟨kK,aa.text,aa.n,aa.a8,aa.at_⟩).bind λcJ=>if !cJ then I aS else if decide (aa.at_< 0)then I aS else if decide (2000<aa.at_)then I aS else GK J aa Z kK:Int->Option Bool)
def O6 J Z(an:Int):=(au (aH Z.nodes an) λaa=>au (zt aa.kind) λdP=>if !dP&& !decide (aa.kind=25)then(zu aa.kind).bind λef=>if !ef&& !decide (aa.kind=34)then(O5 aa.kind).bind λet=>if !et then I aS else GL J aa Z aa.kind else GL J aa Z aa.kind else GL J aa Z aa.kind:Option Bool)
def aee(J:aA)(Z:aZ)aa:=(J.b1 λ(kB,kC)=>if decide (0<=kC)then if decide (kB< 0)then(I aS).map .inr else(aH Z.aD kC).bind λai=>if !decide (ai=kB)then(I aS).map .inr else(aH Z.nodes kB).bind λaE=>au (O5 aE.kind) λaW=>if !aW then(I aS).map .inr else(aH aa kB).bind λa_=>I (.inl ((az (kB-a_)),(az (kC- 1))))else(I (decide (kB=-1))).map .inr:(Int×Int)->Option Bool)
def VS Z J aa:=(λ_=>aee J Z aa ((az ((Z.nodes.length:Int)- 1)),(az ((Z.aD.length:Int)- 1))):Unit->Option Bool)
def aef Z(J:aA)aa:=(J.b1 λuo=>if decide (uo<(Z.nodes.length:Int))then(O6 J Z uo).bind λbq=>if !bq then(I aS).map .inr else I (.inl (az (uo+1)))else(VS Z J aa ()).map .inr:Int->Option Bool)
def O7 J Z:=(au (O4 J Z) λaa=>if !decide ((aa.length:Int)=(Z.nodes.length:Int))then I aS else aef Z J aa 0:Option Bool)
def VT(J:aA)Z:=(J.b1 λeQ=>if decide (eQ<(Z.nodes.length:Int))then(nb Z eQ).bind λaE=>if !aE then(I 3).map .inr else I (.inl (az (eQ+1)))else(I 0).map .inr:Int->Option Int)
def GM J Z:=(if decide (800<(Z.nodes.length:Int))||decide (60<(Z.aD.length:Int))then I 5 else(O7 J Z).bind λaa=>if !aa then I 4 else(Bu J Z).bind λai=>if decide (30<ai)then I 5 else VT J Z 0:Option Int)
def aeg(J:aA)Z(an:Int):=(J.b1 λcY=>if decide (cY<(Z.length:Int))then(aH Z cY).bind λaa=>if decide (aa=an)then(I ad).map .inr else I (.inl (az (cY+1)))else(I aS).map .inr:Int->Option Bool)
def GN J Z(an:Int):=(aeg J Z an 0:Option Bool)
def VU J(Z:aZ)(an:Int):=(au (GN J Z.aD an) λaa=>I aa:Option Bool)
def aeh(Z:aZ)(J:aA)(an:Int):Int->Option Int:=J.b1 λcY=>if decide (cY<(Z.nodes.length:Int))then(aH Z.nodes cY).bind λaa=>au (GN J aa.a8 an) λai=>if ai then(I cY).map .inr else I (.inl (az (cY+1)))else(I (-1)).map .inr
def Bv J Z(an:Int):=(aeh Z J an (az (an+1)):Option Int)
def GO J Z(an:Int):=(au (aH Z.nodes an) λaa=>if decide (aa.kind=40)||(decide (aa.kind=41)||(decide (aa.kind=42)||(decide (aa.kind=43)||(decide (aa.kind=44)||decide (aa.kind=20)))))then I ad else if decide (aa.kind=34)then(Bv J Z an).bind λai=>au (aH Z.nodes ai) λaE=>I (decide (aE.kind=42))else I aS:Option Bool)
def Kr(Z:aZ)(an:Int):Option Bool:=au (aH Z.nodes an) λaa=>if decide (aa.kind=3)||(decide (aa.kind=21)||(decide (aa.kind=24)||(decide (aa.kind=32)||decide (aa.kind=45))))then I ad else I aS
def aei Z(dR:Int)(J:aA):=(J.b1 λ(kB,up)=>if decide (up<(Z.aD.length:Int))then(aH Z.aD up).bind λaa=>if decide (aa<dR)then(aH Z.aD up).bind λai=>au (GO J Z ai) λaE=>if aE then(aH Z.aD up).bind λaW=>au (e6 kB [aW]) λa_=>I (.inl (a_,(az (up+1))))else I (.inl (kB,(az (up+1))))else I (.inl (kB,(az (up+1))))else(I kB).map .inr:k5->Option (List Int))
def GP J Z(mR:Int):=(λO8=>au (Bv J Z mR) λbJ=>I (.inl (O8,mR,bJ)):List Int->Option ((List Int×Int×Int) ⊕ List Int))
def VV Z J:=(λ(cY,dR)=>aei Z dR J (cY,0):k5->Option (List Int))
def DO Z(mR:Int)(bR:bm)(mQ:Int)J:=(λsa=>au (aH Z.nodes mR) λcG=>if decide (cG.kind=42)then(aH bR.a8 (az ((bR.a8.length:Int)- 1))).bind λc1=>if decide (c1=mQ)then(iC bR.a8 0 (az ((bR.a8.length:Int)- 2))).bind λcJ=>au (e6 sa cJ) λdP=>au (e6 dP [mR]) λef=>GP J Z mR ef else GP J Z mR sa else GP J Z mR sa:List Int->Option ((List Int×Int×Int) ⊕ List Int))
def aej(J:aA)Z:=(J.b1 λ(kA,mQ,mR)=>if decide (0<=mR)then(aH Z.nodes mR).bind λbR=>au (aH Z.nodes mR) λet=>if decide (et.kind=20)then(aH bR.a8 1).bind λgc=>if decide (gc=mQ)then(e6 kA [mR]).bind λgK=>DO Z mR bR mQ J gK else DO Z mR bR mQ J kA else DO Z mR bR mQ J kA else(VV Z J (kA,mQ)).map .inr:(List Int×Int×Int)->Option (List Int))
def O9 J Z(an:Int):=(au (Bv J Z an) λbq=>aej J Z (([]:List Int),an,bq):Option (List Int))
def aek(J:aA)aa(Z:aZ)a':=(J.b1 λb2=>if decide (b2<(aa.length:Int))then(aH aa b2).bind λai=>au (aH Z.nodes ai) λaE=>if decide (aE.text=a')then(aH aa b2).bind λaW=>(I aW).map .inr else I (.inl (az (b2+1)))else(I (-1)).map .inr:Int->Option Int)
def O_ J Z(an:Int)a':=(au (O9 J Z an) λaa=>aek J aa Z a' 0:Option Int)
def Pa(Z an:Int):Option Bool:=if decide (Z=3)then I (((decide (an=40)||decide (an=43))||decide (an=20))||decide (an=34))else if decide (Z=21)then I (decide (an=42))else if decide (Z=45)then I (decide (an=44))else I (decide (an=41))
def Bw J Z(an:Int):=(au (Kr Z an) λaa=>if !aa then I (-1)else(aH Z.nodes an).bind λai=>au (O_ J Z an ai.text) λaE=>if decide (aE< 0)then I (-1)else(aH Z.nodes an).bind λaW=>au (aH Z.nodes aE) λa_=>au (Pa aW.kind a_.kind) λbq=>if !bq then I (-1)else I aE:Option Int)
def ael(a':Int)(J:aA)Z:=(J.b1 λhc=>if decide (0<=hc)then if decide (hc=a')then(I ad).map .inr else(Bv J Z hc).bind λaa=>I (.inl aa)else(I aS).map .inr:Int->Option Bool)
def Pb J Z(an a':Int):=(ael a' J Z an:Option Bool)
def aoH Z(an:Int)(J:aA)(aE:Int):=(J.b1 λyj=>if decide (yj<(Z.aD.length:Int))then(aH Z.aD yj).bind λbq=>if decide (bq<an)then(aH Z.aD yj).bind λbR=>au (aH Z.nodes bR) λbJ=>if decide (bJ.kind=45)then(aH Z.aD yj).bind λcG=>au (Bw J Z cG) λc1=>if decide (c1=aE)then(I 9).map .inr else I (.inl (az (yj+1)))else I (.inl (az (yj+1)))else(I 0).map .inr else(I 0).map .inr:Int->Option Int)
def aoI Z(an:Int)(J:aA)(aE:Int):=(J.b1 λnU=>if decide (nU<(Z.aD.length:Int))then(aH Z.aD nU).bind λcJ=>if decide (cJ<an)then(aH Z.aD nU).bind λdP=>au (aH Z.nodes dP) λef=>if decide (ef.kind=45)then(aH Z.aD nU).bind λet=>au (Bw J Z et) λgc=>if decide (gc=aE)then(I 9).map .inr else I (.inl (az (nU+1)))else I (.inl (az (nU+1)))else(I 0).map .inr else(I 0).map .inr:Int->Option Int)
def aem Z(an:Int)(J:aA)(aE:Int):=(J.b1 λDP=>if decide (DP<(Z.aD.length:Int))then(aH Z.aD DP).bind λgK=>if decide (gK<an)then(aH Z.aD DP).bind λh9=>au (aH Z.nodes h9) λhk=>if decide (hk.kind=45)then(aH Z.aD DP).bind λi9=>au (Bw J Z i9) λj2=>if decide (j2=aE)then(I 9).map .inr else I (.inl (az (DP+1)))else I (.inl (az (DP+1)))else(I 0).map .inr else(I 0).map .inr:Int->Option Int)
def GQ Z(an:Int)J:=(λrh=>au (Kr Z an) λai=>if !ai then I 0 else(Bw J Z an).bind λaE=>if decide (aE< 0)then I 10 else if decide (rh=21)then(aH Z.nodes aE).bind λaW=>if decide (aW.n=0)then(Pb J Z an aE).bind λa_=>if a_ then I 9 else if decide (rh=45)then aoH Z an J aE 0 else I 0 else if decide (rh=45)then aoI Z an J aE 0 else I 0 else if decide (rh=45)then aem Z an J aE 0 else I 0:Int->Option Int)
def aen(J:aA)(lK:bm)(an:Int)Z(aa:bm)(kK:Int):=(J.b1 λDQ=>if decide (DQ<(lK.a8.length:Int))then(aH lK.a8 DQ).bind λum=>if decide (um<an)then(aH lK.a8 DQ).bind λpP=>au (aH Z.nodes pP) λun=>if decide (un.kind=34)then(aH lK.a8 DQ).bind λsc=>au (aH Z.nodes sc) λDJ=>if decide (DJ.text=aa.text)then(I 6).map .inr else I (.inl (az (DQ+1)))else I (.inl (az (DQ+1)))else(GQ Z an J kK).map .inr else(GQ Z an J kK).map .inr:Int->Option Int)
def DR J Z(an:Int)aa:=(λkK=>if decide (kK=34)then(Bv J Z an).bind λgO=>au (aH Z.nodes gO) λlK=>aen J lK an Z aa kK 0 else GQ Z an J kK:Int->Option Int)
def aeo Z(an:Int)(J:aA)aa:=(J.b1 λvv=>if decide (vv<(Z.aD.length:Int))then(aH Z.aD vv).bind λDK=>if decide (DK<an)then(aH Z.aD vv).bind λDL=>au (GO J Z DL) λyh=>if yh then(aH Z.aD vv).bind λj4=>au (aH Z.nodes j4) λrf=>if decide (rf.text=aa.text)then(I 6).map .inr else I (.inl (az (vv+1)))else I (.inl (az (vv+1)))else(DR J Z an aa aa.kind).map .inr else(DR J Z an aa aa.kind).map .inr:Int->Option Int)
def Pc J Z(an:Int):=(au (aH Z.nodes an) λaa=>au (VU J Z an) λBp=>if Bp then(GO J Z an).bind λBq=>if Bq then aeo Z an J aa 0 else DR J Z an aa aa.kind else DR J Z an aa aa.kind:Option Int)
def VW Z(J:aA):=(J.b1 λ(hc,wQ)=>if decide (hc<(Z.nodes.length:Int))then(Pc J Z hc).bind λai=>if !decide (ai=0)then(I (⟨[]⟩,hc,ai)).map .inr else(Bw J Z hc).bind λaE=>au (e6 wQ [aE]) λaW=>I (.inl ((az (hc+1)),aW))else(I (⟨wQ⟩,0,0)).map .inr:na->Option (nS×Int×Int))
def yk J Z:=(au (GM J Z) λaa=>if !decide (aa=0)then I (⟨[]⟩,0,aa)else VW Z J (0,[]):Option (nS×Int×Int))
def GR(Z:aZ)(an:Int):Option Bool:=au (aH Z.nodes an) λaa=>I ((decide (1<=aa.kind)&&decide (aa.kind<=26))&& !decide (aa.kind=25))
def pQ(Z:Int):Option (dW×ByteArray×Bool):=if decide (Z=1)then I (([]:List ByteArray),(bk #[105,110,116]),ad)else if decide (Z=2)then I (([]:List ByteArray),(bk #[98,111,111,108]),ad)else if decide (Z=4)then I (([(bk #[105,110,116])]:List ByteArray),(bk #[105,110,116]),ad)else if decide (Z=5)then I (([(bk #[98,111,111,108])]:List ByteArray),(bk #[98,111,111,108]),ad)else if decide (6<=Z)&&decide (Z<=10)then I (([(bk #[105,110,116]),(bk #[105,110,116])]:List ByteArray),(bk #[105,110,116]),ad)else if decide (13<=Z)&&decide (Z<=16)then I (([(bk #[105,110,116]),(bk #[105,110,116])]:List ByteArray),(bk #[98,111,111,108]),ad)else if decide (Z=17)||decide (Z=18)then I (([(bk #[98,111,111,108]),(bk #[98,111,111,108])]:List ByteArray),(bk #[98,111,111,108]),ad)else I ([],(bk #[]),aS)
def aep(J:aA)(Z an:List ByteArray):Int->Option Bool:=J.b1 λcY=>if decide (cY<(Z.length:Int))then(aH Z cY).bind λaa=>au (aH an cY) λai=>if !decide (aa=ai)then(I aS).map .inr else I (.inl (az (cY+1)))else(I ad).map .inr
def Bx J Z an:=(if !decide ((Z.length:Int)=(an.length:Int))then I aS else aep J Z an 0:Option Bool)
def aeq(J:aA)(Pd:Ox)(Z:Int):Option ByteArray:=au (nr Z 10) λaa=>if decide (10<=Z)then(nq Z 10).bind λai=>au (Pd (az (ai))) λaE=>au (pz aE (JM [(xR ((az (48+aa))))])) λaW=>I aW else I (JM [(xR ((az (48+aa))))])
def VX(J:aA):Nat->Ox
  |0=>λ_=>aJ
  |k+1=>aeq J (VX J k)
def VY J:=(VX J J.n:Ox)
def GS J Z(an:Int):=(au (pz (bk #[91]) Z) λaa=>au (pz aa (bk #[59,32])) λai=>au (VY J an) λaE=>au (pz ai aE) λaW=>au (pz aW (bk #[93])) λa_=>I a_:Option ByteArray)
def Pe J(Pf:Oy)Z(an:Int):=(au (aH Z.nodes an) λaa=>if decide (aa.kind=30)then I (bk #[105,110,116])else if decide (aa.kind=31)then I (bk #[98,111,111,108])else if decide (aa.kind=32)then I aa.text else(aH aa.a8 0).bind λai=>au (Pf Z ai) λaE=>au (GS J aE aa.n) λaW=>I aW:Option ByteArray)
def Ks(J:aA):Nat->Oy
  |0=>λ_ _=>aJ
  |k+1=>Pe J (Ks J k)
def DS J:=(Ks J J.n:Oy)
def GU J Z an(a':Int):=(au (aH Z.nodes a') λaa=>if decide (aa.kind=40)then I (bk #[105,110,116])else if decide (aa.kind=34)then(aH aa.a8 0).bind λai=>au (DS J Z ai) λaE=>I aE else(aH aa.a8 0).bind λaW=>au (aH an aW) λa_=>I a_:Option ByteArray)
def aer(aa:bm)Z(J:aA):=(J.b1 λ(hc,b2)=>if decide (b2<(az ((aa.a8.length:Int)- 2)))then(aH aa.a8 b2).bind λai=>au (aH Z.nodes ai) λaE=>au (aH aE.a8 0) λaW=>au (DS J Z aW) λa_=>au (e6 hc [a_]) λbq=>I (.inl (bq,(az (b2+1))))else(au (aH aa.a8 (az ((aa.a8.length:Int)- 2))) λbR=>au (DS J Z bR) λbJ=>I (hc,bJ)).map .inr:(dW×Int)->Option (dW×ByteArray))
def Kt J Z(an:Int):=(au (aH Z.nodes an) λaa=>aer aa Z J (([]:List ByteArray),0):Option (dW×ByteArray))
def aes(J:aA)(Z:aZ)an:=(J.b1 λcY=>if decide (cY<(Z.aD.length:Int))then(aH Z.aD cY).bind λaa=>au (aH Z.nodes aa) λai=>if decide (ai.kind=41)&&decide (ai.text=an)then(aH Z.aD cY).bind λaE=>(I aE).map .inr else I (.inl (az (cY+1)))else(I (-1)).map .inr:Int->Option Int)
def Pg J Z an:=(aes J Z an 0:Option Int)
def aet(ai:bm)Z(J:aA):=(J.b1 λ(dR,hc,km)=>if decide (km<(ai.a8.length:Int))then(aH ai.a8 km).bind λaE=>au (aH Z.nodes aE) λaW=>au (e6 dR [aW.text]) λa_=>au (aH aW.a8 0) λbq=>au (DS J Z bq) λbR=>au (e6 hc [bR]) λbJ=>I (.inl (a_,bJ,(az (km+1))))else(I (dR,hc)).map .inr:(dW×dW×Int)->Option (dW×dW))
def DT J Z an:=(au (Pg J Z an) λaa=>if decide (aa< 0)then I (([]:List ByteArray),([]:List ByteArray))else(aH Z.nodes aa).bind λai=>aet ai Z J (([]:List ByteArray),([]:List ByteArray),0):Option (dW×dW))
def aeu(J:aA)(aa:dW×dW)a':=(J.b1 λff=>if decide (ff<(aa.1.length:Int))then(aH aa.1 ff).bind λai=>if decide (ai=a')then(aH aa.2 ff).bind λaE=>(I aE).map .inr else I (.inl (az (ff+1)))else(I (bk #[])).map .inr:Int->Option ByteArray)
def Ph J Z an a':=(au (DT J Z an) λaa=>aeu J aa a' 0:Option ByteArray)
def VZ J Z:=(au (DN J Z) λaa=>I aa:Option Bool)
def Pj J Z:=(au (VZ J Z) λaa=>I aa:Option Bool)
def Pk J(uq:Dx)Z:=(if decide (0<(Z.size:Int))then(gW Z 0).bind λaa=>if decide (aa=91)then(uq Z).bind λai=>I ai.2.2 else if decide (Z=(bk #[105,110,116]))||decide (Z=(bk #[98,111,111,108]))then I ad else(Pj J Z).bind λaE=>I aE else if decide (Z=(bk #[105,110,116]))||decide (Z=(bk #[98,111,111,108]))then I ad else(Pj J Z).bind λaW=>I aW:Option Bool)
def GV Z(cY:Int)(J:aA)uq:=(J.b1 λkC=>if decide (kC<=6)then(iP Z 0 cY).bind λaa=>if decide (0<cY)then(iP aa 1 (aa.size:Int)).bind λai=>au (GS J ai kC) λaE=>if decide (aE=Z)then(iP aa 1 (aa.size:Int)).bind λaW=>au (Pk J uq aW) λa_=>if a_ then(iP aa 1 (aa.size:Int)).bind λbq=>((I (bq,kC,ad)).map .inr).map .inr else I (.inl (az (kC+1)))else I (.inl (az (kC+1)))else I (.inl (az (kC+1)))else(I (.inl (az (cY+1)))).map .inr:Int->Option ((Int) ⊕ Du))
def aev(J:aA)Z uq:=(J.b1 λcY=>if decide (cY<(Z.size:Int))then GV Z cY J uq 1 else(I ((bk #[]),0,aS)).map .inr:Int->Option Du)
def Pl J uq Z:=(aev J Z uq 0:Option Du)
def DU(J:aA):Nat->Dx
  |0=>λ_=>aJ
  |k+1=>Pl J (DU J k)
def Ku J:=(DU J J.n:Dx)
def V0:Unit->Option ByteArray:=λ_=>I (bk #[])
def Pm:Unit->Option ByteArray:=λ_=>I (bk #[])
def aew a'(J:aA):=(J.b1 λPn=>if decide (Pn<(a'.length:Int))then(aH a' Pn).bind λdP=>au (aH a' 0) λef=>if !decide (dP=ef)then(I (bk #[])).map .inr else I (.inl (az (Pn+1)))else(au (aH a' 0) λet=>au (GS J et (a'.length:Int)) λgc=>I gc).map .inr:Int->Option ByteArray)
def V1 J(bq:dW×dW)a'(an:bm):=(λmS=>au (Bx J bq.1 mS) λbR=>if bR then(Bx J bq.2 a').bind λbJ=>if bJ then I an.text else Pm ()else Pm ():dW->Option ByteArray)
def aex(J:aA)an(Z:aZ)bq a':=(J.b1 λ(wR,Po)=>if decide (Po<(an.a8.length:Int))then(aH an.a8 Po).bind λcG=>au (aH Z.nodes cG) λc1=>au (e6 wR [c1.text]) λcJ=>I (.inl (cJ,(az (Po+1))))else(V1 J bq a' an wR).map .inr:(dW×Int)->Option ByteArray)
def GW J Z an a':=(if decide (an.kind=22)then(aH a' 0).bind λaa=>au (Ph J Z aa an.text) λai=>I ai else if decide (an.kind=23)then(aH a' 0).bind λaE=>au (Ku J aE) λaW=>if aW.2.2 then(aH a' 1).bind λa_=>if decide (a_=(bk #[105,110,116]))then I aW.1 else V0 ()else V0 ()else if decide (an.kind=24)then(DT J Z an.text).bind λbq=>aex J an Z bq a' (([]:List ByteArray),0)else aew a' J 1:Option ByteArray)
def nV J(an:nS)(dr:Int)Z a'(aa:bm):=(λ(km,ri)=>au (pQ ri) λai=>if ai.2.2 then(Bx J ai.1 km).bind λaE=>if !aE then I (bk #[])else I ai.2.1 else if decide (ri=3)then(aH an.kS dr).bind λaW=>au (GU J Z a' aW) λa_=>I a_ else if decide (ri=11)||decide (ri=12)then(aH km 0).bind λbq=>au (aH km 1) λbR=>if decide (bq=bR)then(aH km 0).bind λbJ=>if decide (bJ=(bk #[105,110,116]))then I (bk #[98,111,111,108])else(aH km 0).bind λcG=>if decide (cG=(bk #[98,111,111,108]))then I (bk #[98,111,111,108])else I (bk #[])else I (bk #[])else if decide (ri=19)then(aH km 0).bind λc1=>if decide (c1=(bk #[98,111,111,108]))then(aH km 1).bind λcJ=>au (aH km 2) λdP=>if decide (cJ=dP)then(aH km 1).bind λef=>I ef else I (bk #[])else I (bk #[])else if decide (ri=20)then(aH km 1).bind λet=>I et else if decide (ri=21)then(aH an.kS dr).bind λgc=>au (Kt J Z gc) λgK=>au (Bx J gK.1 km) λh9=>if h9 then I gK.2 else I (bk #[])else(GW J Z ⟨ri,aa.text,aa.n,aa.a8,aa.at_⟩ km).bind λhk=>I hk:(dW×Int)->Option ByteArray)
def aey(J:aA)aa Z a' an(dr:Int):=(J.b1 λ(ot,o0)=>if decide (o0<(aa.a8.length:Int))then(aH aa.a8 o0).bind λi9=>au (aH Z.nodes i9) λj2=>if decide (j2.kind=25)then(aH Z.nodes i9).bind λgO=>au (aH gO.a8 0) λlK=>au (aH a' lK) λum=>au (e6 ot [um]) λpP=>I (.inl (pP,(az (o0+1))))else(aH a' i9).bind λun=>au (e6 ot [un]) λsc=>I (.inl (sc,(az (o0+1))))else(nV J an dr Z a' aa (ot,aa.kind)).map .inr:(dW×Int)->Option ByteArray)
def GX J Z an a'(dr:Int):=(au (aH Z.nodes dr) λaa=>aey J aa Z a' an dr (([]:List ByteArray),0):Option ByteArray)
def aez(J:aA)(aE:dW×dW)(DV:J8)Z:=(J.b1 λ(b2,nW)=>if decide (nW<(aE.2.length:Int))then(aH aE.2 nW).bind λaW=>au (DV Z aW) λa_=>I (.inl ((az (b2+a_)),(az (nW+1))))else(I b2).map .inr:(Int×Int)->Option Int)
def Pp J DV Z an:=(au (Ku J an) λaa=>if aa.2.2 then(DV Z aa.1).bind λai=>I (it 10000 (az (aa.2.1*ai)))else if decide (an=(bk #[105,110,116]))||decide (an=(bk #[98,111,111,108]))then I 1 else(DT J Z an).bind λaE=>aez J aE DV Z (0,0):Option Int)
def Kv(J:aA):Nat->J8
  |0=>λ_ _=>aJ
  |k+1=>Pp J (Kv J k)
def Kw J:=(Kv J J.n:J8)
def DW J Z an:=(au (Kw J Z an) λaa=>if decide (8<aa)then I 5 else I 0:Option Int)
def aeA(J:aA)(aa:bm)an:=(J.b1 λot=>if decide (ot<(aa.a8.length:Int))then(aH aa.a8 ot).bind λdP=>au (aH an dP) λef=>if !decide (ef=(bk #[105,110,116]))&& !decide (ef=(bk #[98,111,111,108]))then(I 11).map .inr else if decide (aa.n=4)||decide (aa.n=5)then if !decide (ef=(bk #[105,110,116]))then(I 11).map .inr else if !(decide (aa.n=4)||decide (aa.n=5))then if !decide (aa.n=8)then if !decide (ef=(bk #[98,111,111,108]))then(I 11).map .inr else I (.inl (az (ot+1)))else I (.inl (az (ot+1)))else I (.inl (az (ot+1)))else if !(decide (aa.n=4)||decide (aa.n=5))then if !decide (aa.n=8)then if !decide (ef=(bk #[98,111,111,108]))then(I 11).map .inr else I (.inl (az (ot+1)))else I (.inl (az (ot+1)))else I (.inl (az (ot+1)))else(I 0).map .inr:Int->Option Int)
def vw an(a':Int)J Z aa:=(λkK=>if decide (kK=26)then(aH an a').bind λai=>au (DW J Z ai) λaE=>I aE else if decide (kK=33)then(DS J Z a').bind λaW=>au (DW J Z aW) λa_=>I a_ else if decide (kK=41)then(DW J Z aa.text).bind λbq=>I bq else if decide (kK=42)then(Kt J Z a').bind λbR=>au (aH aa.a8 (az ((aa.a8.length:Int)- 1))) λbJ=>au (aH an bJ) λcG=>if !decide (cG=bR.2)then I 11 else I 0 else if decide (kK=44)then(aH aa.a8 0).bind λc1=>au (aH an c1) λcJ=>if !decide (cJ=(bk #[98,111,111,108]))then I 11 else I 0 else if decide (kK=46)then aeA J aa an 0 else I 0:Int->Option Int)
def ur J Z an(a':Int):=(au (aH Z.nodes a') λaa=>au (GR Z a') λet=>if et then(aH an a').bind λgc=>if decide (gc=(bk #[]))then I 11 else vw an a' J Z aa aa.kind else vw an a' J Z aa aa.kind:Option Int)
def aeB Z(J:aA)(aa:nS×Int×Int):=(J.b1 λ(b2,ff)=>if decide (ff<(Z.nodes.length:Int))then(A5 b2 ([(bk #[])]:List ByteArray)).bind λai=>au (GR Z ff) λaE=>if aE then(GX J Z ⟨aa.1.kS⟩ ai ff).bind λaW=>au (gz ai.length ai ff) λa_=>au (ur J Z (ai.set a_.1.1 aW) ff) λbq=>if !decide (bq=0)then(I (⟨[]⟩,ff,bq)).map .inr else I (.inl ((ai.set a_.1.1 aW),(az (ff+1))))else(ur J Z ai ff).bind λbR=>if !decide (bR=0)then(I (⟨[]⟩,ff,bR)).map .inr else I (.inl (ai,(az (ff+1))))else(I (⟨b2⟩,0,0)).map .inr:(dW×Int)->Option (vn×Int×Int))
def wS J Z:=(au (yk J Z) λaa=>if !decide (aa.2.2=0)then I (⟨[]⟩,aa.2.1,aa.2.2)else aeB Z J aa ([],0):Option (vn×Int×Int))
def Kx Z(ai lL:Int)(tb:Dy)an:=(λBy=>au (aH Z.nodes ai) λaE=>if decide (aE.n<By)then I lL else(aH Z.nodes ai).bind λaW=>au (aH aW.a8 (az ((aW.a8.length:Int)- 1))) λa_=>au (tb Z an a_ ai By) λbq=>I (it 3001 (az (lL+bq))):Int->Option Int)
def Pq an(a' dr gp:Int)Z tb:=(λ(lL,kK)=>if !decide (kK=21)||decide (lL=3001)then I lL else(aH an.kS a').bind λai=>if decide (ai=dr)then Kx Z ai lL tb an (az (gp+1))else Kx Z ai lL tb an 0:(Int×Int)->Option Int)
def aeC(J:aA)(aa:bm)tb Z an(dr gp a':Int):=(J.b1 λ(Pr,Ps)=>if decide (Ps<(aa.a8.length:Int))&&decide (Pr< 3001)then(aH aa.a8 Ps).bind λbR=>au (tb Z an bR dr gp) λbJ=>I (.inl ((it 3001 (az (Pr+bJ))),(az (Ps+1))))else(Pq an a' dr gp Z tb (Pr,aa.kind)).map .inr:(Int×Int)->Option Int)
def Pt J tb Z an(a' dr gp:Int):=(au (aH Z.nodes a') λaa=>aeC J aa tb Z an dr gp a' (1,0):Option Int)
def DX(J:aA):Nat->Dy
  |0=>λ_ _ _ _ _=>aJ
  |k+1=>Pt J (DX J k)
def Pu J:=(DX J J.n:Dy)
def aeD(ai:bm)(J:aA)Z an:=(J.b1 λ(b2,ff)=>if decide (ff<(ai.a8.length:Int))then(aH ai.a8 ff).bind λbq=>au (Pu J Z an bq (-1) 0) λbR=>I (.inl ((it 3001 (az (b2+bR))),(az (ff+1))))else(I b2).map .inr:(Int×Int)->Option Int)
def Pv J Z an(a':Int):=(au (aH Z.aD a') λaa=>au (aH Z.nodes aa) λai=>if decide (ai.kind=42)then(aH ai.a8 (az ((ai.a8.length:Int)- 1))).bind λaE=>au (aH Z.aD a') λaW=>au (Pu J Z an aE aW 0) λa_=>I a_ else if decide (ai.kind=43)||(decide (ai.kind=44)||decide (ai.kind=46))then aeD ai J Z an (0,0)else I 0:Option Int)
def mq Z(l7:Int)J(ai:nS×Int×Int):=(λ(ot,o0,mS,mT)=>if(decide (6<ot)||decide (2000<o0))||decide (8<mS)then(aH Z.aD l7).bind λa_=>(I (a_,5)).map .inr else(Pv J Z ⟨ai.1.kS⟩ l7).bind λbq=>if decide (3000<bq)then(aH Z.aD l7).bind λbR=>(I (bR,5)).map .inr else I (.inl (ot,o0,mS,(az (l7+1)))):Dv->Option (Dv ⊕ (Int×Int)))
def ou(J:aA)Z ai:=(J.b1 λ(km,nW,lL,l7)=>if decide (l7<(Z.aD.length:Int))then(aH Z.aD l7).bind λaE=>au (aH Z.nodes aE) λaW=>if decide (aW.kind=40)then(aH aW.a8 1).bind λbJ=>au (aH Z.nodes bJ) λcG=>au (aH aW.a8 0) λc1=>au (aH Z.nodes c1) λcJ=>mq Z l7 J ai ((az (km+1)),(it 2001 (az (nW*(az ((az (cG.n-cJ.n))+1))))),lL,aW.kind)else if decide (aW.kind=44)then mq Z l7 J ai (km,nW,(az (lL+1)),aW.kind)else if decide (aW.kind=45)then mq Z l7 J ai (km,nW,(az (lL- 1)),aW.kind)else mq Z l7 J ai (km,nW,lL,aW.kind)else(I (0,0)).map .inr:Dv->Option (Int×Int))
def yl J Z:=(au (wS J Z) λaa=>if !decide (aa.2.2=0)then I (aa.2.1,aa.2.2)else(yk J Z).bind λai=>ou J Z ai (0,1,0,0):Option (Int×Int))
def pR J Z:=(au (yl J Z) λaa=>I aa.2:Option Int)
def kD J Z(an:Int):=(au (pR J Z) λaa=>if !decide (aa=0)then I aa else if decide (an< 0)||decide ((Z.aD.length:Int)<an)then I 7 else I 0:Option Int)
def o1(Z:aZ)(an:Int):Option bm:=au (aH Z.aD an) λaa=>au (aH Z.nodes aa) λai=>I ⟨ai.kind,ai.text,ai.n,ai.a8,ai.at_⟩
def DY(J:aA)(an:Int)Z:=(J.b1 λ(cY,dR)=>if decide (dR<an)then(o1 Z dR).bind λaa=>if decide (aa.kind=40)then(aH aa.a8 0).bind λai=>au (aH Z.nodes ai) λaE=>au (aH aa.a8 1) λaW=>au (aH Z.nodes aW) λa_=>au (e6 cY [⟨aa.text,aE.n,a_.n⟩]) λbq=>I (.inl (bq,(az (dR+1))))else I (.inl (cY,(az (dR+1))))else(I cY).map .inr:(qu×Int)->Option qu)
def nc J Z(an:Int):=(DY J an Z ([],0):Option qu)
def DZ(J:aA)(Z:List ct):(Int×Int)->Option Int:=J.b1 λ(eQ,dv)=>if decide (dv<(Z.length:Int))then(aH Z dv).bind λaa=>au (aH Z dv) λai=>I (.inl ((az (eQ*(az ((az (aa.hi-ai.lo))+1)))),(az (dv+1))))else(I eQ).map .inr
def o2 J Z:=(DZ J Z (1,0):Option Int)
def rj J Z:=(if decide (400<(Z.size:Int))then I (⟨[],[]⟩,aS)else(Kq J Z).bind λaa=>if !decide (aa.2.2=0)then I (⟨[],[]⟩,aS)else(kD J ⟨aa.1.nodes,aa.1.aD⟩ 0).bind λai=>if decide (ai=0)then(nc J ⟨aa.1.nodes,aa.1.aD⟩ (aa.1.aD.length:Int)).bind λaE=>au (o2 J aE) λaW=>if decide (200<aW)then I (⟨[],[]⟩,aS)else I (⟨aa.1.nodes,aa.1.aD⟩,ad)else I (⟨aa.1.nodes,aa.1.aD⟩,ad):Option (aZ×Bool))
def Bz J:=(au (Kq J (bk #[99,104,111,111,115,101,32,100,58,32,49,46,46,54,59,32,111,98,115,101,114,118,101,32,111,58,32,100,32,62,32,50,59,32,99,104,111,111,115,101,32,101,58,32,48,46,46,49,59,32,111,98,115,101,114,118,101,32,112,58,32,100,32,43,32,101,32,61,61,32,54,59,32,114,101,116,114,97,99,116,32,111,59,32,97,115,107,32,109,117,115,116,32,100,32,62,32,51,59])) λaa=>I ⟨aa.1.nodes,aa.1.aD⟩:Option aZ)
def V2(Z:aZ):Option Bool:=I (decide (800<(Z.nodes.length:Int))||decide (60<(Z.aD.length:Int)))
def D0(ab:Int):Option lJ:=I ⟨ab,ab,1⟩
def zv Z:=(I ⟨ad,0,0,Z⟩:Option uk)
def GY Z:=(I ⟨aS,0,0,Z⟩:Option uk)
def Pw(ab:Int):Option lJ:=I ⟨ab,ab,3⟩
def aeE(ab:Int):Option lJ:=I ⟨ab,ab,4⟩
def Ky(Z:Int):Option uk:=au (D0 1) λaa=>if decide (Z=7)then I ⟨aS,1,8,[]⟩else if decide (Z=8)then I (⟨aS,1,8,([⟨1,801,1⟩]:List lJ)⟩)else I ⟨aS,1,8,[aa]⟩
def D1(Z:bm):Option (uk×Bool):=au (D0 1) λaa=>au (D0 2) λai=>au (D0 3) λaE=>if decide (Z.kind=1)then I (⟨aS,0,9999,[]⟩,ad)else if decide (Z.kind=2)then I (⟨aS,0,1,[]⟩,ad)else if decide (Z.kind=3)||(decide (Z.kind=32)||decide (Z.kind=45))then(zv []).bind λaW=>I (⟨aW.named,aW.low,aW.high,aW.parts⟩,ad)else if decide (Z.kind=4)||decide (Z.kind=5)then(GY [⟨aa.lU,aa.qs,aa.jK⟩]).bind λa_=>I (⟨a_.named,a_.low,a_.high,a_.parts⟩,ad)else if decide (Z.kind=19)then(GY [⟨aE.lU,aE.qs,aE.jK⟩]).bind λbq=>I (⟨bq.named,bq.low,bq.high,bq.parts⟩,ad)else if decide (Z.kind=20)then(zv [⟨ai.lU,ai.qs,ai.jK⟩]).bind λbR=>I (⟨bR.named,bR.low,bR.high,bR.parts⟩,ad)else if decide (Z.kind=21)then(zv ([⟨0,801,1⟩]:List lJ)).bind λbJ=>I (⟨bJ.named,bJ.low,bJ.high,bJ.parts⟩,ad)else if decide (Z.kind=22)||(decide (Z.kind=25)||(decide (Z.kind=43)||decide (Z.kind=44)))then(zv [⟨aa.lU,aa.qs,aa.jK⟩]).bind λcG=>I (⟨cG.named,cG.low,cG.high,cG.parts⟩,ad)else if decide (Z.kind=24)then(zv ([⟨1,801,2⟩]:List lJ)).bind λc1=>I (⟨c1.named,c1.low,c1.high,c1.parts⟩,ad)else if decide (Z.kind=26)then(GY ([⟨1,801,1⟩]:List lJ)).bind λcJ=>I (⟨cJ.named,cJ.low,cJ.high,cJ.parts⟩,ad)else if decide (Z.kind=30)||decide (Z.kind=31)then I (⟨aS,0,0,[]⟩,ad)else if decide (Z.kind=33)then(Pw 1).bind λdP=>I (⟨aS,(-9223372036854775808),9223372036854775807,[dP]⟩,ad)else if decide (Z.kind=34)then(Pw 1).bind λef=>au (zv [ef]) λet=>I (⟨et.named,et.low,et.high,et.parts⟩,ad)else if decide (Z.kind=40)then(aeE 2).bind λgc=>au (zv [gc]) λgK=>I (⟨gK.named,gK.low,gK.high,gK.parts⟩,ad)else if decide (Z.kind=41)then(zv ([⟨1,801,5⟩]:List lJ)).bind λh9=>I (⟨h9.named,h9.low,h9.high,h9.parts⟩,ad)else if decide (Z.kind=42)then(Pw 1).bind λhk=>I (⟨ad,0,9223372036854775807,[⟨0,801,5⟩,hk,⟨aa.lU,aa.qs,aa.jK⟩]⟩,ad)else if decide (Z.kind=46)then(Ky Z.n).bind λi9=>I (⟨i9.named,i9.low,i9.high,i9.parts⟩,ad)else(GY [⟨ai.lU,ai.qs,ai.jK⟩]).bind λj2=>if decide (6<=Z.kind)then if decide (Z.kind<=18)then I (⟨j2.named,j2.low,j2.high,j2.parts⟩,ad)else I (⟨j2.named,j2.low,j2.high,j2.parts⟩,(decide (Z.kind=23)))else I (⟨j2.named,j2.low,j2.high,j2.parts⟩,(decide (Z.kind=23)))
def ym(Z an a':Int):Option Bool:=I (decide (an<=Z)&&decide (Z<=a'))
def Px(Z:Int):Option Bool:=I (decide (97<=Z)&&decide (Z<=122))
def Kz(Z:Int):Option Bool:=I (decide (48<=Z)&&decide (Z<=57))
def Py(Z:Int):Option Bool:=au (Px Z) λaa=>if aa then I ad else(Kz Z).bind λai=>I ai
def aeF(J:aA)ab:=(J.b1 λcY=>if decide (cY<(ab.size:Int))then(gW ab cY).bind λaa=>au (Py aa) λai=>if ai then I (.inl (az (cY+1)))else(I cY).map .inr else(I cY).map .inr:Int->Option Int)
def Pz J ab:=(aeF J ab 0:Option Int)
def aeG Z(aa:List ByteArray):=(λ(yj,ut,sd)=>if decide (ut<(Z.size:Int))then(iP Z ut (Z.size:Int)).bind λai=>au (gz aa.length sd yj) λaE=>au (gF aa.length (sd.set aE.1.1 ai)) λaW=>I aW else(gF aa.length sd).bind λa_=>I a_:(Int×Int×dW)->Option dW)
def aoJ(J:aA)Z(nU:Int)rk(cG:{q:Nat×ByteArray // (rk:List ByteArray)[q.1]? =I q.2})bJ:=(J.b1 λBA=>if decide (BA<(Z.size:Int))then(gW Z BA).bind λc1=>au (Gj c1) λcJ=>if !decide (cJ=0)then I (.inl (az (BA+1)))else(I (.inl ((az (nU+1)),BA,BA,(rk.set cG.1.1 bJ)))).map .inr else(I (.inl ((az (nU+1)),BA,BA,(rk.set cG.1.1 bJ)))).map .inr:Int->Option ((Int×Int×Int×dW) ⊕ dW))
def aoK(J:aA)Z aa:=(J.b1 λ(nU,PA,wR,rk)=>if decide (wR<(Z.size:Int))then(gW Z wR).bind λbq=>au (Gj bq) λbR=>if decide (bR=0)then I (.inl (nU,PA,(az (wR+1)),rk))else(iP Z PA wR).bind λbJ=>au (gz aa.length rk nU) λcG=>aoJ J Z nU rk cG bJ (az (wR+1))else(aeG Z aa (nU,PA,rk)).map .inr:(Int×Int×Int×dW)->Option dW)
def V3 J Z aa:=(λ(mS,jN)=>aoK J Z aa (0,mS,mS,jN):(Int×dW)->Option dW)
def aoL(J:aA)Z aa:=(J.b1 λGZ=>if decide (GZ<(Z.size:Int))then(gW Z GZ).bind λdP=>au (Gj dP) λef=>if !decide (ef=0)then I (.inl (az (GZ+1)))else(V3 J Z aa (GZ,aa)).map .inr else(V3 J Z aa (GZ,aa)).map .inr:Int->Option dW)
def aeH J Z:=(λ(eQ,cY)=>if decide (128<=cY)then aJ else(mk eQ (bk #[])).bind λaa=>aoL J Z aa 0:(Int×Int)->Option dW)
def aoM(J:aA)Z:=(J.b1 λ(V4,aeI,V5,vv)=>if decide (vv<(Z.size:Int))then(gW Z vv).bind λet=>au (Gj et) λgc=>I (.inl ((az (V4+(ui .i64 aeI (Dd .i64 (-1) (az (gc)))))),(az (gc)),(NS .u8 V5 et),(az (vv+1))))else(aeH J Z (V4,V5)).map .inr:Dv->Option dW)
def V6 J Z:=(aoM J Z (0,1,0,0):Option dW)
def aeJ J:=(au (V6 J (bk #[97,110,100,32,97,115,107,32,98,108,97,109,101,32,98,111,111,108,32,98,111,117,110,100,115,32,99,104,111,111,115,101,32,99,111,117,110,116,32,101,108,115,101,32,102,97,108,115,101,32,102,117,110,32,105,102,32,105,110,32,105,110,116,32,108,101,116,32,108,111,111,107,32,109,97,121,32,109,117,115,116,32,110,111,116,32,111,98,115,101,114,118,101,32,111,114,32,114,101,116,114,97,99,116,32,116,104,101,110,32,116,114,117,101,32,116,121,112,101,32,117,112,116,111,32,118,97,108,117,101,115,32,119,104,121])) λaa=>I aa:Option dW)
def zw:List ByteArray:=[⟨#[97,110,100]⟩,⟨#[97,115,107]⟩,⟨#[98,108,97,109,101]⟩,⟨#[98,111,111,108]⟩,⟨#[98,111,117,110,100,115]⟩,⟨#[99,104,111,111,115,101]⟩,⟨#[99,111,117,110,116]⟩,⟨#[101,108,115,101]⟩,⟨#[102,97,108,115,101]⟩,⟨#[102,117,110]⟩,⟨#[105,102]⟩,⟨#[105,110]⟩,⟨#[105,110,116]⟩,⟨#[108,101,116]⟩,⟨#[108,111,111,107]⟩,⟨#[109,97,121]⟩,⟨#[109,117,115,116]⟩,⟨#[110,111,116]⟩,⟨#[111,98,115,101,114,118,101]⟩,⟨#[111,114]⟩,⟨#[114,101,116,114,97,99,116]⟩,⟨#[116,104,101,110]⟩,⟨#[116,114,117,101]⟩,⟨#[116,121,112,101]⟩,⟨#[117,112,116,111]⟩,⟨#[118,97,108,117,101,115]⟩,⟨#[119,104,121]⟩]
def aoN:aeJ (U7 300)=I zw:=by kernel_rfl
def aeK:Option dW:=I zw
def aeL(J:aA)(Z:List ByteArray)an:=(J.b1 λb2=>if decide (b2<(Z.length:Int))then(aH Z b2).bind λaa=>if decide (an=aa)then(I b2).map .inr else I (.inl (az (b2+1)))else(I (-1)).map .inr:Int->Option Int)
def V7 J Z an:=(aeL J Z an 0:Option Int)
def PB J Z an:=(au (V7 J Z an) λaa=>I (decide (0<=aa)):Option Bool)
def aeM(J:aA)ab:=(J.b1 λcY=>if decide (cY<(ab.size:Int))then(gW ab cY).bind λaa=>au (Kz aa) λai=>if ai then I (.inl (az (cY+1)))else(I cY).map .inr else(I cY).map .inr:Int->Option Int)
def PC J ab:=(aeM J ab 0:Option Int)
def V8 Z:=(if decide ((Z.size:Int)<=4)then if decide ((Z.size:Int)=1)then I ad else(gW Z 0).bind λaa=>I (!decide (aa=48))else I aS:Option Bool)
def aeN J:=(au (V6 J (bk #[61,61,32,33,61,32,60,61,32,62,61,32,46,46,32,43,32,45,32,42,32,47,32,37,32,60,32,62,32,61,32,40,32,41,32,91,32,93,32,123,32,125,32,44,32,58,32,59,32,46])) λaa=>I aa:Option dW)
def KA:List ByteArray:=[⟨#[61,61]⟩,⟨#[33,61]⟩,⟨#[60,61]⟩,⟨#[62,61]⟩,⟨#[46,46]⟩,⟨#[43]⟩,⟨#[45]⟩,⟨#[42]⟩,⟨#[47]⟩,⟨#[37]⟩,⟨#[60]⟩,⟨#[62]⟩,⟨#[61]⟩,⟨#[40]⟩,⟨#[41]⟩,⟨#[91]⟩,⟨#[93]⟩,⟨#[123]⟩,⟨#[125]⟩,⟨#[44]⟩,⟨#[58]⟩,⟨#[59]⟩,⟨#[46]⟩]
def aoO:aeN (U7 300)=I KA:=by kernel_rfl
def aeO:Option dW:=I KA
def BB Z an:=(if decide ((an.size:Int)<=(Z.size:Int))then(iP Z 0 (an.size:Int)).bind λaa=>I (decide (aa=an))else I aS:Option Bool)
def V9 Z an:=(au (BB Z an) λaa=>I aa:Option Bool)
def aeP(J:aA)dP Z:=(J.b1 λPD=>if decide (PD<(dP.length:Int))then(aH dP PD).bind λef=>au (V9 Z ef) λet=>if et then(I (4,ef)).map .inr else I (.inl (az (PD+1)))else(I (0,(bk #[]))).map .inr:Int->Option (Int×ByteArray))
def V_ J Z:=(if decide (Z=(bk #[]))then I (0,(bk #[]))else(gW Z 0).bind λaa=>au (Px aa) λai=>if ai then(Pz J Z).bind λaE=>au (iP Z 0 aE) λaW=>au (aeK) λa_=>au (PB J a_ aW) λbq=>if bq then I (3,aW)else if decide ((aW.size:Int)<=12)then I (1,aW)else I (0,(bk #[]))else(gW Z 0).bind λbR=>au (Kz bR) λbJ=>if bJ then(PC J Z).bind λcG=>au (iP Z 0 cG) λc1=>au (V8 c1) λcJ=>if cJ then I (2,c1)else I (0,(bk #[]))else(aeO).bind λdP=>aeP J dP Z 0:Option (Int×ByteArray))
def V' J Z:=(au (V_ J Z) λaa=>if decide (aa.1=0)|| !decide (aa.2=Z)then I (0,4)else I (aa.1,0):Option (Int×Int))
def G0 J Z:=(au (V' J Z) λaa=>I (decide (aa.2=0)&&decide (aa.1=1)):Option Bool)
def aeQ(Z:Int):Option Bool:=I ((decide (1<=Z)&&decide (Z<=26))&& !decide (Z=25))
def aeR(Z:Int):Option Bool:=I (decide (Z=25))
def aeS(Z:Int):Option Bool:=I (decide (30<=Z)&&decide (Z<=33))
def aeT(Z:Int):Option Bool:=I (decide (Z=1))
def aeU(Z:Int):Option Bool:=I (decide (Z=34))
def G1(z:Nat)(Z:Int):Option Bool:=if z=1 then aeQ Z else if z=2 then aeR Z else if z=3 then aeS Z else if z=4 then aeT Z else if z=5 then aeU Z else aJ
def Wa(ab al am:Int)(ao:Nat):Option Bool:=au (G1 ao ab) λaa=>I (!aa)
def aeV(J:aA)ab(al am:Int)(ao:Nat):=(J.b1 λb2=>if decide (b2<(ab.length:Int))then(aH ab b2).bind λaa=>au (Wa aa al am ao) λai=>if ai then(I b2).map .inr else I (.inl (az (b2+1)))else(I (-1)).map .inr:Int->Option Int)
def PE J ab(al am:Int)(ao:Nat):=(aeV J ab al am ao 0:Option Int)
def PF J ab(al am:Int)(ao:Nat):=(au (PE J ab al am ao) λaa=>I (decide (0<=aa)):Option Bool)
def Wb jw(aa:lJ)J(k8:Int):=(λoY=>au (ym (az ((jw.length:Int)-oY)) aa.lU aa.qs) λai=>if !ai then(I aS).map .inr else(iC jw 0 (az ((jw.length:Int)-oY))).bind λaE=>au (PF J aE aa.lU aa.qs aa.jK) λaW=>if aW then(I aS).map .inr else(iC jw (az ((jw.length:Int)-oY)) (jw.length:Int)).bind λa_=>I (.inl (a_,(az (k8+1)))):Int->Option (k5 ⊕ Bool))
def aeW(J:aA)(bq:List lJ)jw aa(k8:Int):=(J.b1 λ(mR,KB)=>if decide (KB<(bq.length:Int))then(aH bq KB).bind λbR=>I (.inl ((az (mR+bR.lU)),(az (KB+1))))else(Wb jw aa J k8 mR).map .inr:(Int×Int)->Option (k5 ⊕ Bool))
def aeX(J:aA)(Z:uk):k5->Option Bool:=J.b1 λ(jw,k8)=>if decide (k8<(Z.parts.length:Int))then(aH Z.parts k8).bind λaa=>au (iC Z.parts (az (k8+1)) (Z.parts.length:Int)) λbq=>aeW J bq jw aa k8 (0,0)else(I (decide ((jw.length:Int)=0))).map .inr
def PG J Z an:=(aeX J Z (an,0):Option Bool)
def Wc J(ai:uk×Bool)(aa:bm):=(λ(tc,rh)=>au (PG J ⟨ai.1.named,ai.1.low,ai.1.high,ai.1.parts⟩ tc) λaE=>if aE then(ym aa.n ai.1.low ai.1.high).bind λaW=>if aW then I ad else if decide (rh=1)then(ym aa.n (-9999) (-1)).bind λa_=>I a_ else I aS else I aS:k5->Option Bool)
def aeY(J:aA)aa(an:Int)(Z:aZ)ai:=(J.b1 λ(PH,PI)=>if decide (PI<(aa.a8.length:Int))then(aH aa.a8 PI).bind λbq=>au (ym bq 0 (az (an- 1))) λbR=>if !bR then(I aS).map .inr else(aH Z.nodes bq).bind λbJ=>au (e6 PH [bJ.kind]) λcG=>I (.inl (cG,(az (PI+1))))else(Wc J ai aa (PH,aa.kind)).map .inr:k5->Option Bool)
def KC J aa(an:Int)Z ai:=(λ_=>aeY J aa an Z ai ([],0):Unit->Option Bool)
def PJ J Z(an:Int):=(au (aH Z.nodes an) λaa=>au (D1 ⟨aa.kind,aa.text,aa.n,aa.a8,aa.at_⟩) λai=>if !ai.2 then I aS else(ym aa.at_ 0 2000).bind λc1=>if !c1||(!(ai.1.named==(!decide (aa.text=(bk #[])))))then I aS else if ai.1.named then(G0 J aa.text).bind λcJ=>if !cJ then I aS else KC J aa an Z ai ()else KC J aa an Z ai ():Option Bool)
def aeZ(Z:Int):Option Bool:=I (decide (40<=Z)&&decide (Z<=46))
def Wd(ab:Int)(am:aZ)(al:Int):Int->Option (Bool×Int):=λri=>if !decide (ab=ri)then I (aS,ri)else(aH am.nodes ab).bind λaa=>au (aeZ aa.kind) λai=>I ((ai==(decide (al=1))),(az (ri+1)))
def ae0(J:aA)(aE:bm)(G2:J9)(al:Int)ao(ab:Int)am:=(J.b1 λ(yn,We)=>if decide (yn<(aE.a8.length:Int))then(aH aE.a8 yn).bind λaW=>au (G2 aW (az (al+1)) ao ao We) λa_=>if !a_.1 then(I (aS,a_.2)).map .inr else I (.inl ((az (yn+1)),a_.2))else(Wd ab am al We).map .inr:(Int×Int)->Option (Bool×Int))
def PK J G2(ab al:Int)am ao(ah:Int):=(au (aH am.nodes ab) λaE=>ae0 J aE G2 al ao ab am (0,ah):Option (Bool×Int))
def G3(J:aA):Nat->J9
  |0=>λ_ _ _ _ _=>aJ
  |k+1=>PK J (G3 J k)
def Wf J:=(G3 J J.n:J9)
def Wg(Z:aZ):Int->Option Bool:=λkK=>I (decide (kK=(Z.nodes.length:Int)))
def ae1 Z(J:aA):=(J.b1 λ(o0,PL)=>if decide (o0<(Z.aD.length:Int))then(aH Z.aD o0).bind λaa=>au (ym aa PL (az ((Z.nodes.length:Int)- 1))) λai=>if !ai then(I aS).map .inr else(Wf J aa 1 Z Z PL).bind λaE=>if !aE.1 then(I aS).map .inr else I (.inl ((az (o0+1)),aE.2))else(Wg Z PL).map .inr:(Int×Int)->Option Bool)
def G4 J Z:=(ae1 Z J (0,0):Option Bool)
def ae2(J:aA)(aE:bm)(D2:Int):Dt->Option (Dt ⊕ Bool):=J.b1 λ(PM,zx)=>if decide (PM<(aE.a8.length:Int))then(aH aE.a8 PM).bind λaW=>I (.inl ((az (PM+1)),(oi zx aW)))else(I (.inl ((az (D2+1)),zx))).map .inr
def ae3(J:aA)(Z:aZ):Dt->Option Bool:=J.b1 λ(D2,sd)=>if decide (D2<(Z.aD.length:Int))then(aH Z.aD D2).bind λaa=>au (aH Z.nodes aa) λai=>if !decide (ai.kind=40)then I (.inl ((az (D2+1)),sd))else(aH Z.nodes aa).bind λaE=>ae2 J aE D2 (0,sd)else(I (decide ((sd.length:Int)=0))).map .inr
def Wh J Z:=(λae4=>ae3 J Z (0,ae4):((List (Int×Bool)))->Option Bool)
def ae5(J:aA)Z:=(J.b1 λ(yo,rk)=>if decide (yo<(Z.nodes.length:Int))then(aH Z.nodes yo).bind λa_=>if decide (a_.kind=1)&&decide (a_.n< 0)then I (.inl ((az (yo+1)),(fB rk yo ad)))else I (.inl ((az (yo+1)),rk))else(Wh J Z rk).map .inr:Dt->Option Bool)
def G5 J Z:=(ae5 J Z (0,([]:List (Int×Bool))):Option Bool)
def ae6(J:aA)(ai:bm)(aa:List Int)(dv:Int):na->Option (na ⊕ List Int):=J.b1 λ(PN,zx)=>if decide (PN<(ai.a8.length:Int))then(aH ai.a8 PN).bind λaE=>au (gz aa.length zx dv) λaW=>au (gz aa.length zx aE) λa_=>I (.inl ((az (PN+1)),(zx.set a_.1.1 (az (aW.1.2+1)))))else(I (.inl ((az (dv- 1)),zx))).map .inr
def KD(Z:aZ)(dv:Int)J aa:=(λjN=>au (aH Z.nodes dv) λai=>ae6 J ai aa dv (0,jN):List Int->Option (na ⊕ List Int))
def ae7(J:aA)aa Z:=(J.b1 λ(dv,jN)=>if decide (0<=dv)then(gz aa.length jN dv).bind λbq=>if decide (bq.1.2=0)then(gz aa.length jN dv).bind λbR=>KD Z dv J aa (jN.set bR.1.1 1)else KD Z dv J aa jN else(au (gF aa.length jN) λbJ=>I bJ).map .inr:na->Option (List Int))
def KE J Z:=(au (mk (Z.nodes.length:Int) (0:Int)) λaa=>ae7 J aa Z ((az ((Z.nodes.length:Int)- 1)),aa):Option (List Int))
def ae8(J:aA)Z:=(J.b1 λ(eQ,dv)=>if decide (dv<(Z.length:Int))then(aH Z dv).bind λai=>I (.inl ((gX eQ ai),(az (dv+1))))else(I eQ).map .inr:(Int×Int)->Option Int)
def PO J Z:=(if decide ((Z.length:Int)< 1)then aJ else(aH Z 0).bind λaa=>ae8 J Z (aa,1):Option Int)
def G6 J Z:=(if decide ((Z.nodes.length:Int)=0)then I 0 else(KE J Z).bind λaa=>au (PO J aa) λai=>I ai:Option Int)
def ae9(Z:bm):Option Int:=I (az ((Z.a8.length:Int)- 2))
def BC(Z:aZ)an:=(if decide (an.kind=40)then(aH an.a8 0).bind λaa=>au (aH Z.nodes aa) λai=>au (aH an.a8 1) λaE=>au (aH Z.nodes aE) λaW=>au (ym (az ((az (aW.n-ai.n))+1)) 1 12) λa_=>I a_ else if decide (an.kind=41)then I (decide ((an.a8.length:Int)<=6))else if decide (an.kind=42)then(ae9 an).bind λbq=>I (decide (bq<=4)&&decide (an.n<=8))else if decide (an.kind=33)then(ym an.n 1 6).bind λbR=>I bR else if decide (an.kind=26)then I (decide ((an.a8.length:Int)<=6))else if decide (an.kind=46)then I (!decide (an.n=8)||decide ((an.a8.length:Int)<=4))else I ad:Option Bool)
def Wi ab al:=(au (BC al ab) λaa=>I (!aa):Option Bool)
def afa(J:aA)ab al:=(J.b1 λb2=>if decide (b2<(ab.length:Int))then(aH ab b2).bind λaa=>au (Wi aa al) λai=>if ai then(I b2).map .inr else I (.inl (az (b2+1)))else(I (-1)).map .inr:Int->Option Int)
def Wj J ab al:=(afa J ab al 0:Option Int)
def D3 J Z:=(au (Wj J Z.nodes Z) λaa=>I aa:Option Int)
def G7 J Z:=(λ_=>au (G4 J Z) λai=>if !ai then I 4 else(G5 J Z).bind λaE=>if !aE then I 4 else(G6 J Z).bind λaW=>if decide (30<aW)then I 5 else(D3 J Z).bind λa_=>if decide (0<=a_)then I 3 else I 0:Unit->Option Int)
def Wk Z(J:aA):=(J.b1 λup=>if decide (up<(Z.nodes.length:Int))then(PJ J Z up).bind λbq=>if !bq then(I 4).map .inr else I (.inl (az (up+1)))else(G7 J Z ()).map .inr:Int->Option Int)
def PP J Z:=(au (V2 Z) λaa=>if aa then I 5 else Wk Z J 0:Option Int)
def afb(Z an:Int):Option (Int×Int):=I ((IntKind.u64.wrap ((IntKind.u64.wrap ((IntKind.u64.wrap ((shr .u64 Z 32)*(shr .u64 an 32)))+(shr .u64 (IntKind.u64.wrap ((IntKind.u64.wrap ((shr .u64 Z 32)*(ui .u64 an 4294967295)))+(shr .u64 (IntKind.u64.wrap ((ui .u64 Z 4294967295)*(ui .u64 an 4294967295))) 32))) 32)))+(shr .u64 (IntKind.u64.wrap ((ui .u64 (IntKind.u64.wrap ((IntKind.u64.wrap ((shr .u64 Z 32)*(ui .u64 an 4294967295)))+(shr .u64 (IntKind.u64.wrap ((ui .u64 Z 4294967295)*(ui .u64 an 4294967295))) 32))) 4294967295)+(IntKind.u64.wrap ((ui .u64 Z 4294967295)*(shr .u64 an 32))))) 32))),(IntKind.u64.wrap (Z*an)))
def G8(Z an:Int):Option (Int×Int):=au (afb Z an) λaa=>I aa
def afc(J:aA)(ai:List Int):na->Option (Nat×List Int):=J.b1 λ(b2,jN)=>if decide (b2<(ai.length:Int))then(A1 ai.length ai.length b2).bind λ_=>au (A2 ai.length b2) λ_=>au (wC jN (0+b2.toNat) (ai.length-b2.toNat) 0 b2.toNat) λbq=>I (.inl ((az (b2+((min b2.toNat (ai.length-b2.toNat):Nat):Int))),bq))else(I (ai.length,jN)).map .inr
def KF J ab(al:Int):=(if decide (al< 0)then aJ else(G8 (IntKind.u64.wrap ((ab.length:Int))) (IntKind.u64.wrap (al))).bind λaa=>if decide (0<aa.1)||decide (9223372036854775807<aa.2)then aJ else(mk (az (aa.2)) (0:Int)).bind λai=>au (om ai 0 ai.length ab) λaE=>afc J ai (((min ab.length ai.length:Nat):Int),aE):Option (Nat×List Int))
def afd(J:aA)(aW:bm)(ai:Nat×List Int)(BD:Int):na->Option (na ⊕ Vp):=J.b1 λ(PQ,zy)=>if decide (PQ<(aW.a8.length:Int))then(aH aW.a8 PQ).bind λa_=>au (gz ai.1 zy a_) λbq=>I (.inl ((az (PQ+1)),(zy.set bq.1.1 BD)))else(I (.inl ((az (BD+1)),zy))).map .inr
def Wl(J:aA)(ab:aZ)(ai aE:Nat×List Int):na->Option Vp:=J.b1 λ(BD,se)=>if decide (BD<(ab.nodes.length:Int))then(aH ab.nodes BD).bind λaW=>afd J aW ai BD (0,se)else(I (.inr (0,ab.nodes,ab.aD,ai.1,aE.1,se,aE.2))).map .inr
def KG J ab:=(au (PP J ab) λaa=>if !decide (aa=0)then I (.inl aa)else(KF J ([(-1)]:List Int) (ab.nodes.length:Int)).bind λai=>au (KF J ([(-1)]:List Int) (ab.nodes.length:Int)) λaE=>Wl J ab ai aE (0,ai.2):Option Vp)
def PR(ab:Int)(al:List bm)(am:List Int)(ao ah:Nat)(aq av:List Int):Option Bool:=au (gz ao aq ab) λaa=>au (aH al ab) λai=>if decide (ai.kind=34)&& !decide (aa.1.2=-1)then(aH al aa.1.2).bind λaE=>I (decide (aE.kind=42))else I aS
def BE(ab:Int)al am(ao ah:Nat)aq av:=(au (aH al ab) λaa=>if decide (aa.kind=40)||(decide (aa.kind=41)||(decide (aa.kind=42)||(decide (aa.kind=43)||(decide (aa.kind=44)||decide (aa.kind=20)))))then I ad else(PR ab al am ao ah aq av).bind λai=>I ai:Option Bool)
def PS(ab al:Int)am ao(ah aq:Nat)av aT:=(au (aH am ab) λaa=>if decide (ab<al)then(aH am al).bind λai=>if decide (aa.text=ai.text)then if decide (aa.kind=34)then I ad else(BE ab am ao ah aq av aT).bind λaE=>I aE else I aS else I aS:Option Bool)
def afe(J:aA)ab(al:Int)am ao(ah aq:Nat)av aT:=(J.b1 λb2=>if decide (b2<(ab.length:Int))then(aH ab b2).bind λaa=>au (PS aa al am ao ah aq av aT) λai=>if ai then(I b2).map .inr else I (.inl (az (b2+1)))else(I (-1)).map .inr:Int->Option Int)
def PT J ab(al:Int)am ao(ah aq:Nat)av aT:=(afe J ab al am ao ah aq av aT 0:Option Int)
def Wm J ab(al:Int)am ao(ah aq:Nat)av aT:=(au (PT J ab al am ao ah aq av aT) λaa=>I (decide (0<=aa)):Option Bool)
def wT J(ab:Int)al am(ao ah:Nat):=(λ(cY,yp,pS)=>au (Wm J cY ab al am ao ah yp pS) λaa=>I (aa,yp,pS):(List Int×List Int×List Int)->Option (Bool×List Int×List Int))
def PU J(ab:Int)al am(ao ah:Nat)aq av:=(au (gz ao aq ab) λai=>if !decide (ai.1.2=-1)then(aH al ab).bind λaE=>if decide (aE.kind=34)then(aH al ai.1.2).bind λaW=>wT J ab al am ao ah (aW.a8,aq,av)else if decide (ai.1.2=-1)then(BE ab al am ao ah aq av).bind λa_=>if a_ then wT J ab al am ao ah (am,aq,av)else wT J ab al am ao ah ([],aq,av)else wT J ab al am ao ah ([],aq,av)else if decide (ai.1.2=-1)then(BE ab al am ao ah aq av).bind λbq=>if bq then wT J ab al am ao ah (am,aq,av)else wT J ab al am ao ah ([],aq,av)else wT J ab al am ao ah ([],aq,av):Option (Bool×List Int×List Int))
def PV(Z:Int):Option Bool:=if decide (Z=3)||(decide (Z=21)||(decide (Z=24)||(decide (Z=32)||decide (Z=45))))then I ad else I aS
def Wn(ab:Int)(al:List bm)(am:List Int)(ao ah:Nat)(aq av:List Int):Option Int:=I ab
def KH(ab:Int)(al:List bm)(am:List Int)(ao ah:Nat)(aq av:List Int):Option Int:=I ab
def Wo(ab al:Int)(am:List bm)(ao:List Int)(ah aq:Nat)(av aT:List Int):Option (Int×Int):=I (al,ab)
def aff(J:aA)Z(an:Int):=(J.b1 λb2=>if decide (b2<(Z.length:Int))then(aH Z b2).bind λaa=>if decide (an=aa)then(I b2).map .inr else I (.inl (az (b2+1)))else(I (-1)).map .inr:Int->Option Int)
def Wp J Z(an:Int):=(aff J Z an 0:Option Int)
def D4 J Z(an:Int):=(au (Wp J Z an) λaa=>I (decide (0<=aa)):Option Bool)
def PW J(Z an:Int):=(if decide (Z=3)then(D4 J ([40,43,20,34]:List Int) an).bind λaa=>I aa else if decide (Z=21)then I (decide (an=42))else if decide (Z=45)then I (decide (an=44))else I (decide (an=41)):Option Bool)
def KI J(ab al am:Int)ao(ah:Int)(aq:List Int)(av:Int)(aT:List bm)(bd:List Int)(bf bo:Nat)(bC bW:List Int):=(au (aH aT ab) λaa=>if decide (aa.text=ao)then(PW J am aa.kind).bind λai=>if ai then I (.inl ab)else I (.inr (.inl al))else I (.inr (.inr al)):Option zp)
def G9 J(ab al am:Int)ao(ah:Int)aq(av:Int)aT bd(bf bo:Nat)bC bW:=((KI J ab al am ao ah aq av aT bd bf bo bC bW).bind (eo (λaa=>I (.inl aa)) (eo (λai=>I (.inr (.inl ai))) (λaE=>I (.inr (.inr aE))))):Option zp)
def afg bq(J:aA)(bf:Int)bo(bC:Int)bW(cB:Int)am ao(ah aq:Nat)av aT(ab:Int):=(J.b1 λ(PX,D5)=>if decide (PX<(bq.length:Int))then(aH bq PX).bind λbR=>(G9 J bR D5 bf bo bC bW cB am ao ah aq av aT).bind (eo (λbJ=>(I (.inr (.inl bJ))).map .inr) (eo (λcG=>(I (.inr (.inr cG))).map .inr) (λc1=>I (.inl ((az (PX+1)),c1)))))else((G9 J ab D5 bf bo bC bW cB am ao ah aq av aT).bind (eo (λcJ=>I (.inr (.inl cJ))) (eo (λdP=>I (.inr (.inr dP))) (λef=>I (.inl ef))))).map .inr:(Int×Int)->Option zp)
def PY J(ab al:Int)am ao(ah aq:Nat)av aT(bd bf:Int)bo(bC:Int)bW(cB:Int):=(au (aH am ab) λaa=>if decide ((aa.a8.length:Int)=0)then I (.inl bd)else(aH aa.a8 (az ((aa.a8.length:Int)- 1))).bind λai=>if !decide (ai=al)then I (.inl bd)else if decide (aa.kind=20)then(G9 J ab bd bf bo bC bW cB am ao ah aq av aT).bind (eo (λaE=>I (.inr (.inl aE))) (eo (λaW=>I (.inr (.inr aW))) (λa_=>I (.inl a_))))else if decide (aa.kind=42)then(iC aa.a8 0 (az ((aa.a8.length:Int)- 2))).bind λbq=>afg bq J bf bo bC bW cB am ao ah aq av aT ab (0,bd)else I (.inl bd):Option zp)
def Wq J(ab al:Int)am ao(ah aq:Nat)av aT(bd bf:Int)bo(bC:Int)bW(cB:Int):=(au (Wo ab al am ao ah aq av aT) λaa=>(PY J aa.1 aa.2 am ao ah aq av aT bd bf bo bC bW cB).bind (eo (λai=>I (.inl ai)) (eo (λaE=>I (.inr (.inl aE))) (λaW=>I (.inr (.inr aW))))):Option zp)
def afh(J:aA)al am(ao ah:Nat)aq av(bd:Int)bf(bo:Int)bC(bW:Int):=(J.b1 λ(dv,mT,Wr)=>if !decide (dv=-1)then(Wq J mT dv al am ao ah aq av Wr bd bf bo bC bW).bind (eo (λai=>au (gz ao aq dv) λa_=>I (.inl (a_.1.2,dv,ai))) (eo (λaE=>(I (.inl (aE,mT))).map .inr) (λaW=>(I (.inr (.inl (aW,mT)))).map .inr)))else(I (.inr (.inr (Wr,mT)))).map .inr:Bg->Option ((Int×Int) ⊕ (Int×Int) ⊕ (Int×Int)))
def PZ J(ab:Int)al am(ao ah:Nat)aq av(aT bd:Int)bf(bo:Int)bC(bW:Int):=(au (gz ao aq ab) λaa=>afh J al am ao ah aq av bd bf bo bC bW (aa.1.2,ab,aT):Option ((Int×Int) ⊕ (Int×Int) ⊕ (Int×Int)))
def Ws ab:=(I ab:Option (List Int))
def Wt J(ab al am:Int)ao ah(aq av:Nat)aT bd(bf bo:Int)bC(bW:Int)cB(dj:Int):=(if decide (al<am)then(BE al ao ah aq av aT bd).bind λaa=>if aa then(KI J al bf bo bC bW cB dj ao ah aq av aT bd).bind (eo (λai=>I (.inl ai)) (eo (λaE=>I (.inr (.inl aE))) (λaW=>I (.inr (.inr aW)))))else I (.inr (.inr bf))else I (.inr (.inr bf)):Option zp)
def afi ab(J:aA)(al:Int)am ao(ah aq:Nat)av aT(bf:Int)bo(bC:Int)bW(cB:Int):=(J.b1 λ(eQ,D5)=>if decide (0<=eQ)then(aH ab eQ).bind λaa=>(Wt J eQ aa al am ao ah aq av aT D5 bf bo bC bW cB).bind (eo (λai=>(I (.inl ai)).map .inr) (eo (λaE=>(I (.inr (.inl aE))).map .inr) (λaW=>I (.inl ((az (eQ- 1)),aW)))))else(I (.inr (.inr D5))).map .inr:(Int×Int)->Option zp)
def P0 J ab(al:Int)am ao(ah aq:Nat)av aT(bd bf:Int)bo(bC:Int)bW(cB:Int):=(afi ab J al am ao ah aq av aT bf bo bC bW cB ((az ((ab.length:Int)- 1)),bd):Option zp)
def Wu J(ab al am:Int)ao(ah:Int)aq(av:Int)aT bd(bf bo:Nat)bC bW:=(au (KH ab aT bd bf bo bC bW) λaa=>(PZ J aa aT bd bf bo bC bW al am ao ah aq av).bind (eo (λai=>I (.inl ai.1)) (eo (λaE=>I (.inr (.inl aE.1))) (λaW=>au (Ws bd) λbJ=>(P0 J bJ ab aT bd bf bo bC bW aW.1 am ao ah aq av).bind (eo (λcG=>I (.inl cG)) (eo (λc1=>I (.inr (.inl c1))) (λcJ=>I (.inr (.inr cJ)))))))):Option zp)
def P1 J(ab:Int)al am(ao ah:Nat)aq av:=(au (aH al ab) λaa=>au (Wn ab al am ao ah aq av) λai=>(Wu J ai 0 aa.kind aa.text aa.n aa.a8 aa.at_ al am ao ah aq av).bind (eo (λaE=>I aE) (eo (λaW=>I (-1)) (λa_=>I (-1)))):Option Int)
def Wv(ab al am:Int)(ao:Bool)(ah:List bm)(aq:List Int)(av aT:Nat)(bd bf:List Int):Option (Bool ⊕ Bool):=if decide (al=am)then(aH ah am).bind λaa=>au (aH ah am) λai=>au (aH aa.a8 (az ((ai.a8.length:Int)- 1))) λaE=>I (.inl (decide (aE=ab)))else I (.inr ao)
def afj(J:aA)(ab:Int)ao ah(aq av:Nat)aT bd:=(J.b1 λ(dv,mT,zz)=>if !decide (dv=-1)then(Wv mT dv ab zz ao ah aq av aT bd).bind (eo (λai=>(I (.inl (mT,ai))).map .inr) (λaE=>au (gz aq aT dv) λaW=>I (.inl (aW.1.2,dv,aE))))else(I (.inr (mT,zz))).map .inr:(Int×Int×Bool)->Option ((Int×Bool) ⊕ (Int×Bool)))
def Ww J(ab al:Int)(am:Bool)ao ah(aq av:Nat)aT bd:=(au (gz aq aT al) λaa=>afj J ab ao ah aq av aT bd (aa.1.2,al,am):Option ((Int×Bool) ⊕ (Int×Bool)))
def P2 J(ab al:Int)am ao(ah aq:Nat)av aT:=(au (KH ab am ao ah aq av aT) λaa=>(Ww J al aa aS am ao ah aq av aT).bind (eo (λai=>I ai.2) (λaE=>I aS)):Option Bool)
def afk(J:aA)(ab:Nat)am(al:Int):=(J.b1 λb2=>if decide (b2<(ab:Int))then(gz ab am b2).bind λaa=>if decide (al=aa.1.2)then(I b2).map .inr else I (.inl (az (b2+1)))else(I (-1)).map .inr:Int->Option Int)
def Wx J(ab:Nat)(al:Int)am:=(afk J ab am al 0:Option Int)
def G_ J(ab:Nat)(al:Int)am:=(au (Wx J ab al am) λaa=>I (decide (0<=aa)):Option Bool)
def zA(ah:Nat)(ab aW:Int):(List Int×List Int)->Option (Int×List Int×List Int):=λ(yp,pS)=>au (gz ah pS ab) λa_=>I (0,yp,(pS.set a_.1.1 aW))
def P3 J(ab:Int)al am(ao ah:Nat)aq av:=(au (aH al ab) λaa=>au (PU J ab al am ao ah aq av) λai=>if ai.1 then I (6,ai.2.1,ai.2.2)else(PV aa.kind).bind λaE=>if !aE then I (0,ai.2.1,ai.2.2)else(P1 J ab al am ao ah ai.2.1 ai.2.2).bind λaW=>if decide (aW=-1)then I (10,ai.2.1,ai.2.2)else if decide (aa.kind=21)then(aH al aW).bind λbq=>if decide (bq.n=0)then(P2 J ab aW al am ao ah ai.2.1 ai.2.2).bind λbR=>if bR then I (9,ai.2.1,ai.2.2)else if decide (aa.kind=45)then(G_ J ah aW ai.2.2).bind λbJ=>if bJ then I (9,ai.2.1,ai.2.2)else zA ah ab aW (ai.2.1,ai.2.2)else zA ah ab aW (ai.2.1,ai.2.2)else if decide (aa.kind=45)then(G_ J ah aW ai.2.2).bind λcG=>if cG then I (9,ai.2.1,ai.2.2)else zA ah ab aW (ai.2.1,ai.2.2)else zA ah ab aW (ai.2.1,ai.2.2)else if decide (aa.kind=45)then(G_ J ah aW ai.2.2).bind λc1=>if c1 then I (9,ai.2.1,ai.2.2)else zA ah ab aW (ai.2.1,ai.2.2)else zA ah ab aW (ai.2.1,ai.2.2):Option (Int×List Int×List Int))
def Wy(ai:Int×List bm×List Int×Nat×Nat×List Int×List Int)(J:aA):(Int×List Int×List Int)->Option ((Int×Int) ⊕ (Int×Int×List bm×List Int×Nat×Nat×List Int×List Int)):=J.b1 λ(wU,se,D6)=>if decide (wU<(ai.2.1.length:Int))then(P3 J wU ai.2.1 ai.2.2.1 ai.2.2.2.1 ai.2.2.2.2.1 se D6).bind λaE=>if !decide (aE.1=0)then(I (.inl (wU,aE.1))).map .inr else I (.inl ((az (wU+1)),aE.2.1,aE.2.2))else(I (.inr (0,0,ai.2.1,ai.2.2.1,ai.2.2.2.1,ai.2.2.2.2.1,se,D6))).map .inr
def KJ J ab:=((KG J ab).bind (eo (λaa=>if !decide (aa=0)then I (.inl (0,aa))else aJ) (λai=>if !decide (ai.1=0)then I (.inl (0,ai.1))else Wy ai J (0,ai.2.2.2.2.2.1,ai.2.2.2.2.2.2))):Option ((Int×Int) ⊕ (Int×Int×List bm×List Int×Nat×Nat×List Int×List Int)))
def BF J Z:=((KJ J Z).bind (eo (λaa=>if !decide (aa.2=0)then I (⟨[]⟩,aa.1,aa.2)else aJ) (λai=>if !decide (ai.2.1=0)then I (⟨[]⟩,ai.1,ai.2.1)else(gF ai.2.2.2.2.2.1 ai.2.2.2.2.2.2.2).bind λaE=>I (⟨aE⟩,0,0))):Option (nS×Int×Int))
def afl(J:aA)ab(ah:Nat)av:=(J.b1 λ(dv,ff,k6)=>if decide (ff<(ab.length:Int))then(aH ab ff).bind λaa=>au (gz ah av aa) λai=>au (e6 dv [ai.1.2]) λaE=>I (.inl (aE,(az (ff+1)),k6+1))else(I (dv,k6)).map .inr:(dW×Int×Nat)->Option (dW×Nat))
def P4 J ab(al:List bm)(am ao:List Int)(ah:Nat)(aq:List e2)av:=(afl J ab ah av ([],0,0):Option (dW×Nat))
def td(Z:Int):Option Bool:=I (decide (Z<=26)&& !decide (Z=25))
def afm(J:aA)ab(ah:Nat)av:=(J.b1 λ(dv,ff)=>if decide (ff<(ab.length:Int))then(aH ab ff).bind λaa=>au (gz ah av aa) λai=>au (e6 dv [ai.1.2]) λaE=>I (.inl (aE,(az (ff+1))))else(I dv).map .inr:(dW×Int)->Option dW)
def G' J ab(al:List bm)(am ao:List Int)(ah:Nat)(aq:List e2)av:=(afm J ab ah av ([],0):Option dW)
def Ha(ab:Int)(al:List bm)(am ao:List Int)(ah:Nat)(aq:List e2)av:=(au (aH ao ab) λaa=>au (aH al aa) λai=>if decide (ai.kind=43)||decide (ai.kind=20)then(aH ai.a8 0).bind λaE=>au (gz ah av aE) λaW=>I aW.1.2 else if decide (ai.kind=34)then(gz ah av aa).bind λa_=>I a_.1.2 else I (bk #[105,110,116]):Option ByteArray)
def Wz(ab al:ByteArray):Option Bool:=I (!decide (ab=al))
def afn(J:aA)ab al:=(J.b1 λb2=>if decide (b2<(ab.length:Int))then(aH ab b2).bind λaa=>au (Wz aa al) λai=>if ai then(I b2).map .inr else I (.inl (az (b2+1)))else(I (-1)).map .inr:Int->Option Int)
def WA J ab al:=(afn J ab al 0:Option Int)
def WB J ab al:=(au (WA J ab al) λaa=>I (decide (0<=aa)):Option Bool)
def vz J Z an:=(au (WB J an Z) λaa=>I (!aa):Option Bool)
def P5 J(ab:Int)al am ao(ah:Nat)aq av:=(au (aH al ab) λaa=>au (iC aa.a8 0 (az ((aa.a8.length:Int)- 2))) λai=>au (G' J ai al am ao ah aq av) λaE=>au (aH aa.a8 (az ((aa.a8.length:Int)- 2))) λaW=>au (gz ah av aW) λa_=>I (aE,a_.1.2):Option (dW×ByteArray))
def aoP(J:aA)(Z an:List ByteArray):Int->Option Bool:=J.b1 λl7=>if decide (l7<(Z.length:Int))then(aH Z l7).bind λaa=>au (aH an l7) λai=>if !decide (aa=ai)then(I aS).map .inr else I (.inl (az (l7+1)))else(I ad).map .inr
def WC J Z an:=(if !decide ((Z.length:Int)=(an.length:Int))then I aS else aoP J Z an 0:Option Bool)
def afo(J:aA)(aa:bm)(am:List bm)al(aq:Nat)aT:=(J.b1 λP6=>if decide (P6<(aa.a8.length:Int))then(aH aa.a8 P6).bind λai=>au (aH am ai) λaE=>if decide (aE.text=al)then(gz aq aT ai).bind λaW=>(I aW.1.2).map .inr else I (.inl (az (P6+1)))else(I (bk #[])).map .inr:Int->Option ByteArray)
def WD J ab al am(ao ah:List Int)(aq:Nat)(av:List e2)aT:=(if !(eE av ab).isSome then I (bk #[])else(aH am ((eE av ab).getD (0:Int))).bind λaa=>afo J aa am al aq aT 0:Option ByteArray)
def P7 Z an:=(au (BB Z an) λaa=>if !aa then I (Z,aS)else(iP Z (an.size:Int) (Z.size:Int)).bind λai=>I (ai,ad):Option (ByteArray×Bool))
def Hb Z an:=(au (P7 Z an) λaa=>I aa:Option (ByteArray×Bool))
def Hd Z an:=(if decide ((an.size:Int)<=(Z.size:Int))then(iP Z (az ((Z.size:Int)-(an.size:Int))) (Z.size:Int)).bind λaa=>I (decide (aa=an))else I aS:Option Bool)
def P8 Z an:=(au (Hd Z an) λaa=>if !aa then I (Z,aS)else(iP Z 0 (az ((Z.size:Int)-(an.size:Int)))).bind λai=>I (ai,ad):Option (ByteArray×Bool))
def KK Z an:=(au (P8 Z an) λaa=>I aa:Option (ByteArray×Bool))
def aoQ(J:aA)Z(an:Int):=(J.b1 λcY=>if decide (0<=cY)then(gW Z cY).bind λaa=>if decide (aa=an)then(I cY).map .inr else I (.inl (az (cY- 1)))else(I (-1)).map .inr:Int->Option Int)
def afp J Z(an:Int):=(aoQ J Z an (az ((Z.size:Int)- 1)):Option Int)
def afq(J:aA)(dv:Int):Bg->Option (Int×Int):=J.b1 λ(kC,oY,tc)=>if decide (0<tc)then if !decide ((ui .i64 tc 1)=0)then I (.inl ((IntKind.u32.wrap (kC*oY)),(IntKind.u32.wrap (oY*oY)),(shr .i64 tc 1)))else I (.inl (kC,(IntKind.u32.wrap (oY*oY)),(shr .i64 tc 1)))else(I (dv,kC)).map .inr
def P9(Z:ByteArray)J:=(λdv=>afq J dv (1,16777619,(Z.size:Int)):Int->Option (Int×Int))
def afr(J:aA)Z:=(J.b1 λ(uo,kA)=>if decide (0<=kA)then(gW Z kA).bind λaa=>I (.inl ((IntKind.u32.wrap ((IntKind.u32.wrap (uo*16777619))+(IntKind.u32.wrap (aa)))),(az (kA- 1))))else(P9 Z J uo).map .inr:(Int×Int)->Option (Int×Int))
def P_ J Z:=(afr J Z (0,(az ((Z.size:Int)- 1))):Option (Int×Int))
def WE(J:aA)Z an(aa:Int×Int):=(J.b1 λ(P',ut)=>if decide (0<=ut)then(gW Z ut).bind λai=>au (gW Z (az (ut+(an.size:Int)))) λaE=>if decide ((IntKind.u32.wrap ((IntKind.u32.wrap ((IntKind.u32.wrap (P'*16777619))+(IntKind.u32.wrap (ai))))-(IntKind.u32.wrap (aa.2*(IntKind.u32.wrap (aE))))))=aa.1)then(iP Z ut (az (ut+(an.size:Int)))).bind λaW=>if decide (aW=an)then(I ut).map .inr else I (.inl ((IntKind.u32.wrap ((IntKind.u32.wrap ((IntKind.u32.wrap (P'*16777619))+(IntKind.u32.wrap (ai))))-(IntKind.u32.wrap (aa.2*(IntKind.u32.wrap (aE)))))),(az (ut- 1))))else I (.inl ((IntKind.u32.wrap ((IntKind.u32.wrap ((IntKind.u32.wrap (P'*16777619))+(IntKind.u32.wrap (ai))))-(IntKind.u32.wrap (aa.2*(IntKind.u32.wrap (aE)))))),(az (ut- 1))))else(I (-1)).map .inr:(Int×Int)->Option Int)
def He(ff:Int)Z an J aa:=(λ_=>WE J Z an aa (ff,(az ((az ((Z.size:Int)-(an.size:Int)))- 1))):Unit->Option Int)
def Qa aa Z an J:=(λff=>if decide (ff=aa.1)then(iP Z (az ((Z.size:Int)-(an.size:Int))) (Z.size:Int)).bind λa_=>if decide (a_=an)then I (az ((Z.size:Int)-(an.size:Int)))else He ff Z an J aa ()else He ff Z an J aa ():Int->Option Int)
def WF(J:aA)Z an aa:=(J.b1 λ(WG,nU)=>if decide ((az ((Z.size:Int)-(an.size:Int)))<=nU)then(gW Z nU).bind λbq=>I (.inl ((IntKind.u32.wrap ((IntKind.u32.wrap (WG*16777619))+(IntKind.u32.wrap (bq)))),(az (nU- 1))))else(Qa aa Z an J WG).map .inr:(Int×Int)->Option Int)
def Hf J Z an:=(au (P_ J an) λaa=>WF J Z an aa (0,(az ((Z.size:Int)- 1))):Option Int)
def Hg J Z an:=(if decide ((an.size:Int)=0)then I (Z.size:Int)else if decide ((an.size:Int)=1)then(gW an 0).bind λaa=>au (afp J Z aa) λai=>I ai else if decide ((an.size:Int)=(Z.size:Int))then if decide (an=Z)then I 0 else I (-1)else if decide ((Z.size:Int)<(an.size:Int))then I (-1)else(Hf J Z an).bind λaE=>I aE:Option Int)
def WH:Int->Option Int:=λmQ=>I mQ
def afs ab:=(λkC=>au (gW ab 0) λaa=>if decide (aa=45)then WH (az (-kC))else WH kC:Int->Option Int)
def Qb(J:aA)jx ab:=(J.b1 λ(BG,Qc)=>if decide (Qc<((Df jx).length:Int))then(aH (Df jx) Qc).bind λai=>if decide (9<(xR (ai- 48)))then aJ else I (.inl ((az ((az (BG*10))+(az ((xR (ai- 48)))))),(az (Qc+1))))else(afs ab BG).map .inr:(Int×Int)->Option Int)
def Qd J ab:=(λjx=>Qb J jx ab (0,0):ByteArray->Option Int)
def WI J ab:=(if decide (0<(ab.size:Int))then if decide ((ab.size:Int)< 19)then(gW ab 0).bind λaE=>if decide (aE=45)then(iP ab 1 (ab.size:Int)).bind λaW=>if decide ((aW.size:Int)< 1)then aJ else Qd J ab aW else(gW ab 0).bind λa_=>if decide (a_=43)then(iP ab 1 (ab.size:Int)).bind λbq=>if decide ((bq.size:Int)< 1)then aJ else Qd J ab bq else Qd J ab ab else aJ else aJ:Option Int)
def Qe J ab:=(au (WI J ab) λaa=>I aa:Option Int)
def aft(Z:Int):Option ByteArray:=if decide (Z< 10)then(iP (bk #[48,49,50,51,52,53,54,55,56,57,97,98,99,100,101,102,103,104,105,106,107,108,109,110,111,112,113,114,115,116,117,118,119,120,121,122]) Z (az (Z+1))).bind λaa=>I aa else(iP (bk #[48,48,48,49,48,50,48,51,48,52,48,53,48,54,48,55,48,56,48,57,49,48,49,49,49,50,49,51,49,52,49,53,49,54,49,55,49,56,49,57,50,48,50,49,50,50,50,51,50,52,50,53,50,54,50,55,50,56,50,57,51,48,51,49,51,50,51,51,51,52,51,53,51,54,51,55,51,56,51,57,52,48,52,49,52,50,52,51,52,52,52,53,52,54,52,55,52,56,52,57,53,48,53,49,53,50,53,51,53,52,53,53,53,54,53,55,53,56,53,57,54,48,54,49,54,50,54,51,54,52,54,53,54,54,54,55,54,56,54,57,55,48,55,49,55,50,55,51,55,52,55,53,55,54,55,55,55,56,55,57,56,48,56,49,56,50,56,51,56,52,56,53,56,54,56,55,56,56,56,57,57,48,57,49,57,50,57,51,57,52,57,53,57,54,57,55,57,56,57,57]) (az (Z*2)) (az ((az (Z*2))+2))).bind λai=>I ai
def afu(J:aA)(Z:List Int)(an a':Int)(dr gp:Bool):Option (List Int×ByteArray):=if(decide (a'< 2)||decide (a'=10))||decide (36<a')then aJ else aJ
def afv J(Z an:Int):=(if decide (an=10)then if decide (0<=Z)&&decide (Z< 100)then(aft Z).bind λaa=>I aa else aJ else(afu J [] (IntKind.u64.wrap (Z)) an (decide (Z< 0)) aS).bind λai=>I ai.2:Option ByteArray)
def afw J(Z:Int):=(au (afv J Z 10) λaa=>I aa:Option ByteArray)
def Qf J(Z:Int):=(au (afw J Z) λaa=>I aa:Option ByteArray)
def Hh J(zB:J_)Z:=(if decide (Z=(bk #[105,110,116]))||decide (Z=(bk #[98,111,111,108]))then I ad else(G0 J Z).bind λaa=>if aa then I ad else(zB Z).bind λai=>I ai.2.2:Option Bool)
def Qg J zB Z:=(au (Hb Z (bk #[91])) λaa=>au (KK aa.1 (bk #[93])) λai=>au (Hg J ai.1 (bk #[59,32])) λaE=>if(!aa.2|| !ai.2)||decide (aE< 0)then I ((bk #[]),0,aS)else(iP ai.1 (az (aE+2)) (ai.1.size:Int)).bind λaW=>au (Qe J aW) λa_=>au (iP ai.1 0 aE) λbq=>if decide (1<=a_)then if decide (a_<=6)then(Qf J a_).bind λbR=>au (iP ai.1 (az (aE+2)) (ai.1.size:Int)) λbJ=>if decide (bR=bJ)then(Hh J zB bq).bind λcG=>I (bq,a_,cG)else I (bq,a_,aS)else I (bq,a_,aS)else I (bq,a_,aS):Option Du)
def KL(J:aA):Nat->J_
  |0=>λ_=>aJ
  |k+1=>Qg J (KL J k)
def BH J:=(KL J J.n:J_)
def WJ(ab al:Int)(am:List bm)(ao ah:List Int)(aq:Nat)(av:List e2)(aT:List ByteArray):Option Bool:=au (aH am ab) λaa=>au (aH am al) λai=>if decide (aa.text=ai.text)then(gz aq aT ab).bind λaE=>au (gz aq aT al) λaW=>I (decide (aE.1.2=aW.1.2))else I aS
def afx(J:aA)ab al am ao ah(aq:Nat)av aT:=(J.b1 λwV=>if decide (wV<(ab.length:Int))then(aH ab wV).bind λaa=>au (aH al wV) λai=>au (WJ aa ai am ao ah aq av aT) λaE=>if !aE then(I aS).map .inr else I (.inl (az (wV+1)))else(I ad).map .inr:Int->Option Bool)
def Qh J ab al am ao ah(aq:Nat)av aT:=(if !decide ((ab.length:Int)=(al.length:Int))then I aS else afx J ab al am ao ah aq av aT 0:Option Bool)
def Hi J Z(an:Int):=(au (pz (bk #[91]) Z) λaa=>au (pz aa (bk #[59,32])) λai=>au (Qf J an) λaE=>au (pz ai aE) λaW=>au (pz aW (bk #[93])) λa_=>I a_:Option ByteArray)
def D7 J(ab:Int)al am ao ah(aq:Nat)av aT:=(au (aH am ab) λaa=>if decide (aa.kind=21)then(aH ah ab).bind λai=>au (P5 J ai am ao ah aq av aT) λaE=>au (WC J aE.1 al) λaW=>if aW then I aE.2 else I (bk #[])else if decide (aa.kind=22)then(aH al 0).bind λa_=>au (WD J a_ aa.text am ao ah aq av aT) λbq=>I bq else if decide (aa.kind=23)then(aH al 0).bind λbR=>au (BH J bR) λbJ=>if bJ.2.2 then(aH al 1).bind λcG=>if decide (cG=(bk #[105,110,116]))then I bJ.1 else I (bk #[])else I (bk #[])else if decide (aa.kind=24)then(aH ah ab).bind λc1=>au (aH am c1) λcJ=>au (Qh J aa.a8 cJ.a8 am ao ah aq av aT) λdP=>if dP then I aa.text else I (bk #[])else if decide (aa.kind=26)then(aH al 0).bind λef=>au (vz J ef al) λet=>if et then(aH al 0).bind λgc=>au (Hi J gc (al.length:Int)) λgK=>I gK else I (bk #[])else I (bk #[]):Option ByteArray)
def uu:(ByteArray×Bool×dW×Int)->Option (ByteArray×dW):=λ(hc,b2,pS,D8)=>if !b2 then I ((bk #[]),pS)else I (hc,pS)
def pT J(ab:Int)al am ao(ah:Nat)aq av:=(au (aH al ab) λaa=>au (G' J aa.a8 al am ao ah aq av) λai=>if decide (aa.kind=1)then uu ((bk #[105,110,116]),ad,av,aa.kind)else if decide (aa.kind=2)then uu ((bk #[98,111,111,108]),ad,av,aa.kind)else if decide (aa.kind=3)then(Ha ab al am ao ah aq av).bind λaE=>uu (aE,ad,av,aa.kind)else if decide (aa.kind=4)||(decide (aa.kind=6)||(decide (aa.kind=7)||(decide (aa.kind=8)||(decide (aa.kind=9)||decide (aa.kind=10)))))then(vz J (bk #[105,110,116]) ai).bind λaW=>uu ((bk #[105,110,116]),aW,av,aa.kind)else if decide (aa.kind=5)||(decide (aa.kind=17)||decide (aa.kind=18))then(vz J (bk #[98,111,111,108]) ai).bind λa_=>uu ((bk #[98,111,111,108]),a_,av,aa.kind)else if decide (aa.kind=11)||decide (aa.kind=12)then(vz J (bk #[105,110,116]) ai).bind λbq=>if bq then uu ((bk #[98,111,111,108]),ad,av,aa.kind)else(vz J (bk #[98,111,111,108]) ai).bind λbR=>uu ((bk #[98,111,111,108]),bR,av,aa.kind)else if decide (aa.kind=13)||(decide (aa.kind=14)||(decide (aa.kind=15)||decide (aa.kind=16)))then(vz J (bk #[105,110,116]) ai).bind λbJ=>uu ((bk #[98,111,111,108]),bJ,av,aa.kind)else if decide (aa.kind=19)then(aH ai 1).bind λcG=>au (aH ai 0) λc1=>if decide (c1=(bk #[98,111,111,108]))then(aH ai 1).bind λcJ=>au (aH ai 2) λdP=>uu (cG,(decide (cJ=dP)),av,aa.kind)else uu (cG,aS,av,aa.kind)else if decide (aa.kind=20)then(aH ai 1).bind λef=>uu (ef,ad,av,aa.kind)else(D7 J ab ai al am ao ah aq av).bind λet=>I (et,av):Option (ByteArray×dW))
def afy(J:aA)(aE:bm)(ah:Nat)av(D9:J')al am ao aq:=(J.b1 λ(dv,Qi)=>if decide (Qi<(aE.a8.length:Int))then(aH aE.a8 Qi).bind λaW=>au (gz ah av aW) λa_=>au (D9 a_.1.2 al am ao ah aq av) λbq=>I (.inl ((it 10000 (az (dv+bq.1))),(az (Qi+1))))else(I (dv,ad)).map .inr:(Int×Int)->Option (Int×Bool))
def Qj J D9 ab al am ao(ah:Nat)aq av:=(if decide (ab=(bk #[105,110,116]))||decide (ab=(bk #[98,111,111,108]))then I (1,ad)else(BH J ab).bind λaa=>if aa.2.2 then(D9 aa.1 al am ao ah aq av).bind λai=>I ((it 10000 (az (ai.1*aa.2.1))),ai.2)else if !(eE aq ab).isSome then I (0,aS)else(aH al ((eE aq ab).getD (0:Int))).bind λaE=>afy J aE ah av D9 al am ao aq (0,0):Option (Int×Bool))
def KM(J:aA):Nat->J'
  |0=>λ_ _ _ _ _ _ _=>aJ
  |k+1=>Qj J (KM J k)
def D_ J:=(KM J J.n:J')
def yq J ab al am ao(ah:Nat)aq av:=(au (D_ J ab al am ao ah aq av) λaa=>I (decide (8<aa.1)):Option Bool)
def WK Z:=(I (!decide (Z=(bk #[105,110,116]))&& !decide (Z=(bk #[98,111,111,108]))):Option Bool)
def afz(J:aA)ab:=(J.b1 λb2=>if decide (b2<(ab.length:Int))then(aH ab b2).bind λaa=>au (WK aa) λai=>if ai then(I b2).map .inr else I (.inl (az (b2+1)))else(I (-1)).map .inr:Int->Option Int)
def WL J ab:=(afz J ab 0:Option Int)
def KN J ab:=(au (WL J ab) λaa=>I (decide (0<=aa)):Option Bool)
def Qk J(Z:Int)an:=(if decide (Z=4)||decide (Z=5)then(vz J (bk #[105,110,116]) an).bind λaa=>I aa else if decide (Z=8)then(KN J an).bind λai=>I (!ai)else(vz J (bk #[98,111,111,108]) an).bind λaE=>I aE:Option Bool)
def Hj:(Bool×List e2×dW×Int)->Option (Int×List e2×dW):=λ(b2,yp,pS,D8)=>if !b2 then I (11,yp,pS)else I (0,yp,pS)
def D' J(ab:Int)al am ao ah(aq:Nat)av aT:=(au (aH am ab) λaa=>if decide (aa.kind=41)then(yq J aa.text am ao ah aq (fB av aa.text ab) aT).bind λai=>if ai then I (5,(fB av aa.text ab),aT)else Hj (ad,(fB av aa.text ab),aT,aa.kind)else if decide (aa.kind=42)then(aH al (az ((al.length:Int)- 1))).bind λaE=>au (aH al (az ((al.length:Int)- 2))) λaW=>Hj ((decide (aE=aW)),av,aT,aa.kind)else if decide (aa.kind=44)then(aH al 0).bind λa_=>Hj ((decide (a_=(bk #[98,111,111,108]))),av,aT,aa.kind)else if decide (aa.kind=46)then(Qk J aa.n al).bind λbq=>Hj (bq,av,aT,aa.kind)else Hj (ad,av,aT,aa.kind):Option (Int×List e2×dW))
def te J(ab:Int)(ai:dW×Nat)al am ao(ah:Nat)aq:=(λ(pS,D8)=>au (D' J ab ai.1 al am ao ah aq pS) λaE=>I aE:(dW×Int)->Option (Int×List e2×dW))
def vA J(ab:Int)al am ao(ah:Nat)aq av:=(au (aH al ab) λaa=>au (P4 J aa.a8 al am ao ah aq av) λai=>au (td aa.kind) λaW=>if aW then(pT J ab al am ao ah aq av).bind λa_=>au (gz ah a_.2 ab) λbq=>au (gz ah (a_.2.set bq.1.1 a_.1) ab) λbR=>if decide (bR.1.2=(bk #[]))then I (11,aq,(a_.2.set bq.1.1 a_.1))else if decide (aa.kind=26)then(gz ah (a_.2.set bq.1.1 a_.1) ab).bind λbJ=>au (yq J bJ.1.2 al am ao ah aq (a_.2.set bq.1.1 a_.1)) λcG=>if cG then I (5,aq,(a_.2.set bq.1.1 a_.1))else I (0,aq,(a_.2.set bq.1.1 a_.1))else I (0,aq,(a_.2.set bq.1.1 a_.1))else if decide (aa.kind=30)then(gz ah av ab).bind λc1=>te J ab ai al am ao ah aq ((av.set c1.1.1 (bk #[105,110,116])),aa.kind)else if decide (aa.kind=31)then(gz ah av ab).bind λcJ=>te J ab ai al am ao ah aq ((av.set cJ.1.1 (bk #[98,111,111,108])),aa.kind)else if decide (aa.kind=32)then(gz ah av ab).bind λdP=>te J ab ai al am ao ah aq ((av.set dP.1.1 aa.text),aa.kind)else if decide (aa.kind=25)||decide (aa.kind=34)then(aH ai.1 0).bind λef=>au (gz ah av ab) λet=>te J ab ai al am ao ah aq ((av.set et.1.1 ef),aa.kind)else if decide (aa.kind=33)then(aH ai.1 0).bind λgc=>au (Hi J gc aa.n) λgK=>au (gz ah av ab) λh9=>au (gz ah (av.set h9.1.1 gK) ab) λhk=>au (yq J hk.1.2 al am ao ah aq (av.set h9.1.1 gK)) λi9=>if i9 then I (5,aq,(av.set h9.1.1 gK))else te J ab ai al am ao ah aq ((av.set h9.1.1 gK),aa.kind)else te J ab ai al am ao ah aq (av,aa.kind):Option (Int×List e2×dW))
def afA(ab:aZ)(J:aA)(aa:nS×Int×Int)(ai:List ByteArray):(Int×List e2×dW)->Option ((Int×Int) ⊕ (Int×Int×List bm×List Int×List Int×Nat×List e2×dW)):=J.b1 λ(KO,se,D6)=>if decide (KO<(ab.nodes.length:Int))then(vA J KO ab.nodes ab.aD aa.1.kS ai.length se D6).bind λaE=>if !decide (aE.1=0)then(I (.inl (KO,aE.1))).map .inr else I (.inl ((az (KO+1)),aE.2.1,aE.2.2))else(I (.inr (0,0,ab.nodes,ab.aD,aa.1.kS,ai.length,se,D6))).map .inr
def vB J ab:=(au (BF J ab) λaa=>if !decide (aa.2.2=0)then I (.inl (aa.2.1,aa.2.2))else(mk (ab.nodes.length:Int) (bk #[])).bind λai=>afA ab J aa ai (0,([]:List e2),ai):Option ((Int×Int) ⊕ (Int×Int×List bm×List Int×List Int×Nat×List e2×dW)))
def WM(ab:List bm)(al am:List Int)(ao:Nat)(ah:List e2)(aq:List ByteArray):Option (List pK):=I ([]:List pK)
def Ea(ab:aZ)(al am ao ah:Int):Option Bg:=au (aH ab.nodes al) λaa=>if decide (aa.kind=40)then(aH aa.a8 1).bind λai=>au (aH ab.nodes ai) λaE=>au (aH aa.a8 0) λaW=>au (aH ab.nodes aW) λa_=>I ((az (am+1)),(it 2001 (az (ao*(az ((az (aE.n-a_.n))+1))))),ah)else if decide (aa.kind=44)then I (am,ao,(az (ah+1)))else if decide (aa.kind=45)then I (am,ao,(az (ah- 1)))else I (am,ao,ah)
def WN(Z:adw):Option Bool:=I ((decide (6<Z.adx)||decide (2000<Z.ady))||decide (8<Z.adz))
def Ql(ab:k4)(al:Int)(am:List bm)(ao ah:List Int)(aq:Nat)(av:List pK)(aT:List e2)(bd:List ByteArray):Option (k4×Bool):=au (aH ah al) λaa=>if !decide (aa=ab.x_)then I (⟨aa,0⟩,ad)else(aH am aa).bind λai=>I (⟨aa,(az (ab.depth+1))⟩,(decide (ab.depth<ai.n)))
def afB(J:aA)al am(Hk:Ka)ab ao ah(aq:Nat)aT bd(nx:Bk):=(J.b1 λ(dR,k8,se)=>if decide (k8<(al.length:Int))then(aH al k8).bind λaa=>au (aH am aa) λai=>au (Hk ab ai.a8 am ao ah aq se aT bd) λaE=>if !decide (ai.kind=21)then I (.inl ((az (dR+(az (1+aE.1)))),(az (k8+1)),aE.2))else(Ql ab aa am ao ah aq aE.2 aT bd).bind λaW=>if aW.2 then(nx ⟨aW.1.x_,aW.1.depth⟩ am ao ah aq aE.2 aT bd).bind λa_=>I (.inl ((it (az ((az (dR+(az (1+aE.1))))+a_.1)) 3001),(az (k8+1)),a_.2))else I (.inl ((it (az (dR+(az (1+aE.1)))) 3001),(az (k8+1)),aE.2))else(I ((it dR 3001),se)).map .inr:(Int×Int×List pK)->Option (Int×List pK))
def Qm J nx Hk ab al am ao ah(aq:Nat)av aT bd:=(afB J al am Hk ab ao ah aq aT bd nx (0,0,av):Option (Int×List pK))
def KP(J:aA)(nx:Bk):Nat->Ka
  |0=>λ_ _ _ _ _ _ _ _ _=>aJ
  |k+1=>Qm J nx (KP J nx k)
def WO J nx:=(KP J nx J.n:Ka)
def Qn J nx ab al am ao(ah:Nat)aq av aT:=(if !(eE aq ab).isSome then(aH al ab.x_).bind λaa=>au (aH aa.a8 (az ((aa.a8.length:Int)- 1))) λai=>au (WO J nx ab [ai] al am ao ah aq av aT) λaE=>I (aE.1,(fB aE.2 ab aE.1))else I (((eE aq ab).getD (0:Int)),aq):Option (Int×List pK))
def Hl(J:aA):Nat->Bk
  |0=>λ_ _ _ _ _ _ _ _=>aJ
  |k+1=>Qn J (Hl J k)
def Qo J:=(Hl J J.n:Bk)
def Qp J(ab:Int)al am ao(ah:Nat)aq av aT:=(au (aH al ab) λaa=>if decide (aa.kind=42)then(Qo J ⟨ab,0⟩ al am ao ah aq av aT).bind λai=>I ai else if decide (aa.kind=43)||(decide (aa.kind=44)||decide (aa.kind=46))then(WO J (Qo J) ⟨(-1),0⟩ aa.a8 al am ao ah aq av aT).bind λaE=>I aE else I (0,aq):Option (Int×List pK))
def WP(ai:Int×Int×List bm×List Int×List Int×Nat×List e2×dW)(J:aA):(Int×List pK×Int×Int×Int)->Option (Int×Int):=J.b1 λ(Qq,pU,afC,afD,afE)=>if decide (Qq<(ai.2.2.2.1.length:Int))then(aH ai.2.2.2.1 Qq).bind λaW=>au (Ea ⟨ai.2.2.1,ai.2.2.2.1⟩ aW afC afD afE) λa_=>au (WN ⟨a_.1,a_.2.1,a_.2.2⟩) λbq=>if bq then(I (aW,5)).map .inr else(Qp J aW ai.2.2.1 ai.2.2.2.1 ai.2.2.2.2.1 ai.2.2.2.2.2.1 pU ai.2.2.2.2.2.2.1 ai.2.2.2.2.2.2.2).bind λbR=>if decide (bR.1=3001)then(I (aW,5)).map .inr else I (.inl ((az (Qq+1)),bR.2,a_.1,a_.2.1,a_.2.2))else(I (0,0)).map .inr
def Qr J Z:=((vB J Z).bind (eo (λaa=>if !decide (aa.2=0)then I aa else aJ) (λai=>if !decide (ai.2.1=0)then I (ai.1,ai.2.1)else(WM ai.2.2.1 ai.2.2.2.1 ai.2.2.2.2.1 ai.2.2.2.2.2.1 ai.2.2.2.2.2.2.1 ai.2.2.2.2.2.2.2).bind λaE=>WP ai J (0,aE,0,1,0))):Option (Int×Int))
def BI J Z:=(au (Qr J Z) λaa=>I aa.2:Option Int)
def BJ J ab:=(au (BI J ab) λaa=>if !decide (aa=0)then I (.inl aa)else I (.inr (0,ab.nodes,ab.aD,([]:List h8))):Option (Int ⊕ (Int×List bm×List Int×List h8)))
def iE J ab(al:Int):=((BJ J ab).bind (eo (λaa=>if decide (aa=0)then if decide (al< 0)then I (.inl 7)else if decide ((ab.aD.length:Int)<al)then I (.inl 7)else I (.inl aa)else I (.inl aa)) (λai=>if decide (ai.1=0)then if decide (al< 0)then I (.inl 7)else if decide ((ab.aD.length:Int)<al)then I (.inl 7)else I (.inr (ai.1,ai.2.1,ai.2.2.1,ai.2.2.2))else I (.inr (ai.1,ai.2.1,ai.2.2.1,ai.2.2.2)))):Option (Int ⊕ (Int×List bm×List Int×List h8)))
def qw(ab:Int)(al:List bm)am(ao:List h8):=(au (aH am ab) λaa=>au (aH al aa) λai=>I ⟨ai.kind,ai.text,ai.n,ai.a8,ai.at_⟩:Option bm)
def Eb(J:aA)(ab:Int)al am ao:=(J.b1 λ(dv,b2)=>if decide (b2<ab)then(qw b2 al am ao).bind λaa=>if decide (aa.kind=40)then(aH aa.a8 0).bind λai=>au (aH al ai) λaE=>au (aH aa.a8 1) λaW=>au (aH al aW) λa_=>au (e6 dv [⟨aa.text,aE.n,a_.n⟩]) λbq=>I (.inl (bq,(az (b2+1))))else I (.inl (dv,(az (b2+1))))else(I dv).map .inr:(qu×Int)->Option qu)
def nX J(ab:Int)al am ao:=(Eb J ab al am ao ([],0):Option qu)
def vC J Z(an:Int):=((iE J Z an).bind (eo (λaa=>if !decide (aa=0)then I ([],aa)else aJ) (λai=>if !decide (ai.1=0)then I ([],ai.1)else(nX J an ai.2.1 ai.2.2.1 ai.2.2.2).bind λaE=>I (aE,0))):Option (qu×Int))
def wW(Z:ct):Option Int:=I (az ((az (Z.hi-Z.lo))+1))
def Ec(J:aA)Z:=(J.b1 λ(eQ,b2)=>if decide (b2<(Z.length:Int))then(aH Z b2).bind λaa=>I (.inl ((az (eQ*aa)),(az (b2+1))))else(I eQ).map .inr:(Int×Int)->Option Int)
def sf J Z:=(Ec J Z (1,0):Option Int)
def Hm(Z:List ct)(J:aA):(Int×Int)->Option Int:=J.b1 λ(eQ,b2)=>if decide (b2<(Z.length:Int))then(aH Z b2).bind λaa=>au (wW ⟨aa.name,aa.lo,aa.hi⟩) λai=>au (sf J [eQ,ai]) λaE=>I (.inl (aE,(az (b2+1))))else(I eQ).map .inr
def tf J Z:=(Hm Z J (1,0):Option Int)
def afF ab:=(I ab:Option qu)
def vD(ab:Int)(al:ct)(am:Int)(ao:Nat)ah:=(au (wW ⟨al.name,al.lo,al.hi⟩) λaa=>au (nr am aa) λai=>au (gz ao ah ab) λaE=>au (wW ⟨al.name,al.lo,al.hi⟩) λaW=>au (nq am aW) λa_=>I ((az (a_)),(ah.set aE.1.1 (az (al.lo+ai)))):Option na)
def Hn(J:aA)ab(am:Nat):=(J.b1 λ(eQ,wQ,sg)=>if decide (0<=eQ)then(aH ab eQ).bind λaa=>au (vD eQ aa wQ am sg) λai=>I (.inl ((az (eQ- 1)),ai.1,ai.2))else(I (wQ,sg)).map .inr:(Int×Int×List Int)->Option na)
def Ed J ab(al:Int)(am:Nat)ao:=(Hn J ab am ((az ((ab.length:Int)- 1)),al,ao):Option na)
def uv J Z(an:Int):=(au (mk (Z.length:Int) (0:Int)) λaa=>au (afF Z) λai=>(Ed J ai an aa.length aa).bind (λaE=>au (gF aa.length aE.2) λa_=>I a_):Option (List Int))
def o3 J Z(an a':Int):=((iE J Z an).bind (eo (λaa=>if !decide (aa=0)then I ([],aa)else aJ) (λai=>if !decide (ai.1=0)then I ([],ai.1)else(nX J an ai.2.1 ai.2.2.1 ai.2.2.2).bind λaE=>if decide (a'< 0)then I ([],3)else(tf J aE).bind λaW=>if decide (aW<=a')then I ([],3)else(uv J aE a').bind λa_=>I (a_,0))):Option k5)
def Qs(J:aA)(Z:List ct)an:=(J.b1 λk8=>if decide (k8<(Z.length:Int))then(aH Z k8).bind λaa=>au (aH an k8) λai=>if decide (ai<aa.lo)then(I aS).map .inr else(aH an k8).bind λaE=>if decide (aa.hi<aE)then(I aS).map .inr else I (.inl (az (k8+1)))else(I ad).map .inr:Int->Option Bool)
def yr J Z an:=(if !decide ((an.length:Int)=(Z.length:Int))then I aS else Qs J Z an 0:Option Bool)
def Ho(Z:List ct)(J:aA)an:=(J.b1 λ(dv,ff)=>if decide (ff<(Z.length:Int))then(aH Z ff).bind λaa=>au (wW ⟨aa.name,aa.lo,aa.hi⟩) λai=>au (sf J [dv,ai]) λaE=>au (aH an ff) λaW=>I (.inl ((az ((az (aE+aW))-aa.lo)),(az (ff+1))))else(I dv).map .inr:(Int×Int)->Option Int)
def uw J Z an:=(Ho Z J an (0,0):Option Int)
def sh J Z(an:Int)a':=((iE J Z an).bind (eo (λaa=>if !decide (aa=0)then I (0,aa)else aJ) (λai=>if !decide (ai.1=0)then I (0,ai.1)else(nX J an ai.2.1 ai.2.2.1 ai.2.2.2).bind λaE=>au (yr J aE a') λaW=>if !aW then I (0,3)else(uw J aE a').bind λa_=>I (a_,0))):Option (Int×Int))
def wX J Z(an:Int)a':=(au (sh J Z an a') λaa=>if !decide (aa.2=0)then I ([],aa.2)else(o3 J Z an (az (aa.1+1))).bind λai=>if !decide (ai.2=0)then I ([],7)else I (ai.1,0):Option k5)
def vE(ab:Int)(al:List bm)am(ao:List h8):=(au (aH am ab) λaa=>au (aH al aa) λai=>I (ai.kind,ai.text,ai.n,ai.a8,ai.at_):Option (Int×ByteArray×Int×List Int×Int))
def pV(ab al:Int)am(ao:Int)(ah:List Int)(aq:Int)av aT bd:=(au (qw ab av aT bd) λaa=>I (decide (aa.text=am)):Option Bool)
def Hp(J:aA)ab(am:Int)ao(ah:Int)aq(av:Int)aT bd bf:=(J.b1 λb2=>if decide (b2<(ab.length:Int))then(gz ab.length ab b2).bind λaa=>au (pV aa.1.2 am ao ah aq av aT bd bf) λai=>if ai then(I b2).map .inr else I (.inl (az (b2+1)))else(I (-1)).map .inr:Int->Option Int)
def vF J ab(al:Nat)(am:Int)ao(ah:Int)aq(av:Int)aT bd bf:=(Hp J ab am ao ah aq av aT bd bf 0:Option Int)
def Hq(J:aA)(am:Int)ao(ah:Int)aq(av:Int)aT bd bf:=(J.b1 λ(jx,cY,dR,mU)=>if decide (dR<(jx.length:Int))then(gz jx.length jx dR).bind λai=>au (pV ai.1.2 am ao ah aq av aT bd bf) λaE=>if !aE then(gz jx.length jx cY).bind λaW=>I (.inl ((jx.set aW.1.1 ai.1.2),(az (cY+1)),(az (dR+1)),mU))else I (.inl (jx,cY,(az (dR+1)),mU))else(au (rb jx.length cY) λa_=>au (rb jx.length cY) λbq=>I (((jx.take a_.1++List.replicate (jx.length-a_.1) 0).take bq.1),(mU+1))).map .inr:(List Int×Int×Int×Nat)->Option (List Int×Nat))
def vG J ab(al:Nat)(am:Int)ao(ah:Int)aq(av:Int)aT bd bf:=(au (vF J ab al am ao ah aq av aT bd bf) λaa=>if decide (aa=-1)then I (ab,al)else Hq J am ao ah aq av aT bd bf (ab,aa,(az (aa+1)),al):Option (List Int×Nat))
def Hr(ab:Int)al am ao(J:aA):=(J.b1 λ(dv,b2,k6)=>if decide (b2<ab)then(vE b2 al am ao).bind λaa=>if decide (aa.1=44)then(A5 dv [b2]).bind λai=>I (.inl (ai,(az (b2+1)),k6+1))else if decide (aa.1=45)then(vG J dv k6 aa.1 aa.2.1 aa.2.2.1 aa.2.2.2.1 aa.2.2.2.2 al am ao).bind λaE=>I (.inl (aE.1,(az (b2+1)),aE.2))else I (.inl (dv,(az (b2+1)),k6))else(I dv).map .inr:(List Int×Int×Nat)->Option (List Int))
def rl J(ab:Int)al am ao:=(Hr ab al am ao J ([],0,1):Option (List Int))
def WQ(J:aA)aE(ai:Int×List bm×List Int×List h8):=(J.b1 λ(b2,Qt)=>if decide (Qt<(aE.length:Int))then(aH aE Qt).bind λaW=>au (qw aW ai.2.1 ai.2.2.1 ai.2.2.2) λa_=>au (e6 b2 [a_.text]) λbq=>I (.inl (bq,(az (Qt+1))))else(I (b2,0)).map .inr:(dW×Int)->Option (dW×Int))
def vH J Z(an:Int):=((iE J Z an).bind (eo (λaa=>if !decide (aa=0)then I ([],aa)else aJ) (λai=>if !decide (ai.1=0)then I ([],ai.1)else(rl J an ai.2.1 ai.2.2.1 ai.2.2.2).bind λaE=>WQ J aE ai ([],0))):Option (dW×Int))
def afG ab:=(I ab:Option qu)
def Ee Z:=(au (e6 ([]:List Int) Z) λaa=>I aa:Option (List Int))
def WR(J:aA)(ai:Int×Int×List bm×List Int×List Int×Nat×List e2×dW):(Int×dW)->Option (vn×Int×Int):=J.b1 λ(BK,pU)=>if decide (BK<(ai.2.2.1.length:Int))then(aH ai.2.2.1 BK).bind λaE=>au (td aE.kind) λaW=>if !aW then(gz ai.2.2.2.2.2.1 pU BK).bind λa_=>I (.inl ((az (BK+1)),(pU.set a_.1.1 (bk #[]))))else I (.inl ((az (BK+1)),pU))else(au (gF ai.2.2.2.2.2.1 pU) λbq=>I (⟨bq⟩,0,0)).map .inr
def zC J Z:=((vB J Z).bind (eo (λaa=>if !decide (aa.2=0)then I (⟨[]⟩,aa.1,aa.2)else aJ) (λai=>if !decide (ai.2.1=0)then I (⟨[]⟩,ai.1,ai.2.1)else WR J ai (0,ai.2.2.2.2.2.2.2))):Option (vn×Int×Int))
def Qu J ab:=(au (BI J ab) λaa=>if !decide (aa=0)then I (.inl aa)else(BF J ab).bind λai=>au (zC J ab) λaE=>I (.inr (0,ab.nodes,ab.aD,0,0,0,ai.1.kS,aE.1.Gl,([]:List (Int×Int)),([]:List (Int×dh)),([]:List e2),([]:List jn))):Option Ot)
def afH(ab:Int)(al:List bm)(am:List Int)(ao ah aq:Int)(av:List Int)(aT:List ByteArray)(bd:List (Int×Int))(bf:List (Int×dh))(bo:List e2)(bC:List jn):Option Int:=I ab
def Hs(ab:Int)(al:adB)am(ao:Bool)(ah:Int)(aq:List bm)(av:List Int)(aT bd bf:Int)(bo:List Int)(bC:List ByteArray)bW(cB:List (Int×dh))(dj:List e2)(kE:List jn):=(if decide (ah=(am.length:Int))then I (.inl (aS,ah,bW))else(aH am ah).bind λaa=>if decide (aa<al.Z)then I (.inl (aS,ah,bW))else(aH am ah).bind λai=>if decide (al.an<ai)then I (.inl (aS,ah,bW))else(aH am ah).bind λaE=>I (.inr (ao,(az (ah+1)),(fB bW ab aE))):Option ((Bool×Int×s8) ⊕ (Bool×Int×s8)))
def afI(J:aA)aa ah al aq(av aT bd:Int)bf bo bW cB dj:=(J.b1 λ(Ef,Bo,zz,KQ)=>if decide (Ef<(aa.length:Int))then(aH aa Ef).bind λai=>au (aH ah ai) λaE=>if decide (aE.kind=40)then(aH aE.a8 0).bind λaW=>au (aH ah aW) λa_=>au (aH aE.a8 1) λbq=>au (aH ah bq) λbR=>(Hs ai ⟨a_.n,bR.n⟩ al Bo zz ah aq av aT bd bf bo KQ bW cB dj).bind (eo (λbJ=>(I (.inl (bJ.1,bJ.2.1,bJ.2.2))).map .inr) (λcG=>I (.inl ((az (Ef+1)),cG.1,cG.2.1,cG.2.2))))else I (.inl ((az (Ef+1)),Bo,zz,KQ))else(I (.inr (Bo,zz,KQ))).map .inr:(Int×Bool×Int×s8)->Option ((Bool×Int×s8) ⊕ (Bool×Int×s8)))
def WS J(ab:Int)al(am:Bool)(ao:Int)ah aq(av aT bd:Int)bf bo bC bW cB dj:=(au (iC aq 0 (az (ab+1))) λaa=>afI J aa ah al aq av aT bd bf bo bW cB dj (0,am,ao,bC):Option ((Bool×Int×s8) ⊕ (Bool×Int×s8)))
def Qv J(ab:Int)al am ao(ah aq av:Int)aT bd bf bo bC bW:=(au (afH ab am ao ah aq av aT bd bf bo bC bW) λaa=>(WS J aa al aS 0 am ao ah aq av aT bd bf bo bC bW).bind (eo (λai=>I (ai.1,ai.2.2)) (λaE=>I ((decide (aE.2.1=(al.length:Int))),aE.2.2))):Option (Bool×s8))
def Qw:Bool->Option Ot:=λwU=>if wU then I (.inl 7)else aJ
def Eg J(al:Int)am(ai:Int×List bm×List Int×Int×Int×Int×List Int×dW×s8×mP×List e2×List jn):=(λBL=>if BL then I (.inl 7)else(Qv J al am ai.2.1 ai.2.2.1 ai.2.2.2.1 ai.2.2.2.2.1 ai.2.2.2.2.2.1 ai.2.2.2.2.2.2.1 ai.2.2.2.2.2.2.2.1 ai.2.2.2.2.2.2.2.2.1 ai.2.2.2.2.2.2.2.2.2.1 ai.2.2.2.2.2.2.2.2.2.2.1 ai.2.2.2.2.2.2.2.2.2.2.2).bind λbq=>if !bq.1 then I (.inl 3)else I (.inr (0,ai.2.1,ai.2.2.1,ai.2.2.2.1,ai.2.2.2.2.1,ai.2.2.2.2.2.1,ai.2.2.2.2.2.2.1,ai.2.2.2.2.2.2.2.1,bq.2,ai.2.2.2.2.2.2.2.2.2.1,ai.2.2.2.2.2.2.2.2.2.2.1,ai.2.2.2.2.2.2.2.2.2.2.2)):Bool->Option Ot)
def Ht J ab(al:Int)am ao:=((Qu J ab).bind (eo (λaa=>if !decide (aa=0)then I (.inl aa)else if decide (al< 0)||decide ((ab.aD.length:Int)<=al)then Qw (decide (al< 0)||decide ((ab.aD.length:Int)<=al))else if decide (0<(ao.length:Int))then(aH ab.aD al).bind λaE=>au (aH ab.nodes aE) λaW=>au (D4 J ao aW.kind) λa_=>Qw (!a_)else Qw aS) (λai=>if !decide (ai.1=0)then I (.inl ai.1)else if decide (al< 0)||decide ((ab.aD.length:Int)<=al)then Eg J al am ai (decide (al< 0)||decide ((ab.aD.length:Int)<=al))else if decide (0<(ao.length:Int))then(aH ab.aD al).bind λbR=>au (aH ab.nodes bR) λbJ=>au (D4 J ao bJ.kind) λcG=>Eg J al am ai (!cG)else Eg J al am ai aS)):Option Ot)
def KR(ab al am:Int):Option Bool:=I (decide (ab<al)||decide (am<ab))
def WT(J:aA)ab(al am:Int):=(J.b1 λb2=>if decide (b2<(ab.length:Int))then(aH ab b2).bind λaa=>au (KR aa al am) λai=>if ai then(I b2).map .inr else I (.inl (az (b2+1)))else(I (-1)).map .inr:Int->Option Int)
def Qx J ab(al am:Int):=(WT J ab al am 0:Option Int)
def Qy J ab(al am:Int):=(au (Qx J ab al am) λaa=>I (decide (0<=aa)):Option Bool)
def BM J(Z an:Int)a':=(au (Qy J a' Z an) λaa=>I (!aa):Option Bool)
def KS(Z:Int):Option b6:=I ⟨Z,0⟩
def nY J(Z:Int):=(au (BM J (-9999) 9999 [Z]) λaa=>if !aa then(KS 2).bind λai=>I ⟨ai.cU,ai.n⟩else I ⟨0,Z⟩:Option b6)
def Hu(Z:Int):Option Bool:=I ((decide (Z=43)||decide (Z=44))||decide (Z=46))
def KT:Option (Int×Int×mP):=I ((-1),0,([]:List (Int×dh)))
def Hv(Z:Int):Option (Int×Bool×Bool):=if decide (Z=4)||decide (Z=5)then I ((xR ((xR (Z- 4))+5)),aS,ad)else if decide (Z=6)||(decide (Z=7)||(decide (Z=8)||(decide (Z=9)||decide (Z=10))))then I ((xR ((xR (Z- 6))+7)),aS,ad)else if decide (Z=11)then I (12,aS,ad)else if decide (Z=12)then I (12,ad,ad)else if decide (Z=13)then I (13,aS,ad)else if decide (Z=16)then I (13,ad,ad)else if decide (Z=14)then I (14,aS,ad)else if decide (Z=15)then I (14,ad,ad)else I (0,aS,aS)
def WU(Z:Int):Option Nat:=if decide (Z=5)then I 1 else if decide (Z=6)then I 2 else I 0
def KU J(Z:b6):=(if decide (Z.cU=0)then(BM J (-9999) 9999 [Z.n]).bind λaa=>I aa else I (decide (Z.cU<=4)&&decide (Z.n=0)):Option Bool)
def Qz(Z:b6):Option Bool:=I (!decide (Z.cU=0))
def WV(J:aA)ab:=(J.b1 λb2=>if decide (b2<(ab.length:Int))then(aH ab b2).bind λaa=>au (Qz aa) λai=>if ai then(I b2).map .inr else I (.inl (az (b2+1)))else(I (-1)).map .inr:Int->Option Int)
def QA J ab:=(WV J ab 0:Option Int)
def BN J Z:=(au (QA J Z) λaa=>if decide (aa< 0)then I (⟨0,0⟩,aS)else(aH Z aa).bind λai=>I (⟨ai.cU,ai.n⟩,ad):Option (b6×Bool))
def WW J(Z:Int):=(au (nY J (az (-Z))) λaa=>I ⟨aa.cU,aa.n⟩:Option b6)
def BO J(Z:Bool):=(if Z then(nY J 1).bind λaa=>I ⟨aa.cU,aa.n⟩else(nY J 0).bind λai=>I ⟨ai.cU,ai.n⟩:Option b6)
def WX J(Z:Int):=(au (BO J (decide (Z=0))) λaa=>I ⟨aa.cU,aa.n⟩:Option b6)
def Eh J(z:Nat)(Z:Int):=(if z=1 then WW J Z else if z=2 then WX J Z else aJ:Option b6)
def Hw J(Z:Int)an:=(au (WU Z) λaa=>if decide (aa=0)then I (⟨0,0⟩,2)else(KU J an).bind λai=>if !ai then I (⟨0,0⟩,2)else(BN J [an]).bind λaE=>if aE.2 then I (⟨aE.1.cU,aE.1.n⟩,0)else(Eh J aa an.n).bind λaW=>I (⟨aW.cU,aW.n⟩,0):Option (b6×Int))
def QB J Z:=(au (KU J Z) λaa=>I (!aa):Option Bool)
def afJ ab(J:aA):=(J.b1 λb2=>if decide (b2<(ab.length:Int))then(aH ab b2).bind λaa=>au (QB J aa) λai=>if ai then(I b2).map .inr else I (.inl (az (b2+1)))else(I (-1)).map .inr:Int->Option Int)
def WY J ab:=(afJ ab J 0:Option Int)
def WZ J ab:=(au (WY J ab) λaa=>I (decide (0<=aa)):Option Bool)
def Ei J Z:=(au (WZ J Z) λaa=>I (!aa):Option Bool)
def W0 J Z an a':=(au (Ei J [Z,an,a']) λaa=>if !aa then I (⟨0,0⟩,2)else if !decide (Z.cU=0)then I (⟨Z.cU,Z.n⟩,0)else if decide (Z.n=0)then I (⟨a'.cU,a'.n⟩,0)else I (⟨an.cU,an.n⟩,0):Option (b6×Int))
def afK:Option Nat:=I 4
def afL:Option Nat:=I 5
def afM:Option Nat:=I 6
def afN:Option Nat:=I 7
def afO:Option Nat:=I 8
def W1(Z:Int):Option Nat:=if decide (Z=7)then I 1 else if decide (Z=8)then I 2 else if decide (Z=9)then I 3 else if decide (Z=10)then(afK).bind λaa=>I aa else if decide (Z=11)then(afL).bind λai=>I ai else if decide (Z=12)then(afM).bind λaE=>I aE else if decide (Z=13)then(afN).bind λaW=>I aW else if decide (Z=14)then(afO).bind λa_=>I a_ else I 0
def afP J(Z an:Int):=(au (nY J (az (Z+an))) λaa=>I ⟨aa.cU,aa.n⟩:Option b6)
def afQ J(Z an:Int):=(au (nY J (az (Z-an))) λaa=>I ⟨aa.cU,aa.n⟩:Option b6)
def afR J(Z an:Int):=(au (nY J (az (Z*an))) λaa=>I ⟨aa.cU,aa.n⟩:Option b6)
def KV(Z an:Int):Option (Int×Int):=au (nq Z an) λaa=>au (nr Z an) λai=>if !decide (ai=0)&&(!((decide (ai< 0))==(decide (an< 0))))then I ((az ((az (aa))- 1)),(az (ai+an)))else I ((az (aa)),ai)
def W2(Z an:Int):Option Int:=I Z
def QC J(ab al:Int):=(if decide (al=0)then(KS 1).bind λaa=>I ⟨aa.cU,aa.n⟩else(KV ab al).bind λai=>au (W2 ai.1 ai.2) λaE=>au (nY J aE) λaW=>I ⟨aW.cU,aW.n⟩:Option b6)
def W3(Z an:Int):Option Int:=I an
def QD J(ab al:Int):=(if decide (al=0)then(KS 1).bind λaa=>I ⟨aa.cU,aa.n⟩else(KV ab al).bind λai=>au (W3 ai.1 ai.2) λaE=>au (nY J aE) λaW=>I ⟨aW.cU,aW.n⟩:Option b6)
def QE(Z:Int):Option Bool:=I (!decide (Z=Z))
def Hx(Z an:Int):Option Int:=au (QE Z) λaa=>au (QE an) λai=>if aa then if ai then I 0 else I (-1)else if ai then I 1 else if decide (Z<an)then I (-1)else if decide (an<Z)then I 1 else I 0
def W4(Z:Int):Option Bool:=I (decide (Z=0))
def QF J(ab al:Int):=(au (Hx ab al) λaa=>au (W4 aa) λai=>au (BO J ai) λaE=>I ⟨aE.cU,aE.n⟩:Option b6)
def W5(Z:Int):Option Bool:=I (decide (Z< 0))
def QG J(ab al:Int):=(au (Hx ab al) λaa=>au (W5 aa) λai=>au (BO J ai) λaE=>I ⟨aE.cU,aE.n⟩:Option b6)
def W6(Z:Int):Option Bool:=I (decide (Z<=0))
def QH J(ab al:Int):=(au (Hx ab al) λaa=>au (W6 aa) λai=>au (BO J ai) λaE=>I ⟨aE.cU,aE.n⟩:Option b6)
def QI J(z:Nat)(Z an:Int):=(if z=1 then afP J Z an else if z=2 then afQ J Z an else if z=3 then afR J Z an else if z=4 then QC J Z an else if z=5 then QD J Z an else if z=6 then QF J Z an else if z=7 then QG J Z an else if z=8 then QH J Z an else aJ:Option b6)
def QJ J(Z:Int)an a':=(if decide (Z=15)then(nY J 0).bind λaa=>au (W0 J an a' aa) λai=>I (⟨ai.1.cU,ai.1.n⟩,ai.2)else if decide (Z=16)then(nY J 1).bind λaE=>au (W0 J an aE a') λaW=>I (⟨aW.1.cU,aW.1.n⟩,aW.2)else(W1 Z).bind λa_=>if decide (a_=0)then I (⟨0,0⟩,2)else(Ei J [an,a']).bind λbq=>if !bq then I (⟨0,0⟩,2)else(BN J [an,a']).bind λbR=>if bR.2 then I (⟨bR.1.cU,bR.1.n⟩,0)else(QI J a_ an.n a'.n).bind λbJ=>I (⟨bJ.cU,bJ.n⟩,0):Option (b6×Int))
def QK J(j5:ye)(ab al:Int)(am:Bool)ao ah(aq av aT:Int)bd bf(bo bC:Int)bW cB dj kE QL:=(au (aH ao ab) λaa=>au (j5 aa.a8 ao ah aq av aT bd bf bo bC bW cB dj kE QL) λai=>if decide ((ai.1.length:Int)=1)then(aH ai.1 0).bind λaE=>au (Hw J al aE) λaW=>if am then(Hw J 6 ⟨aW.1.cU,aW.1.n⟩).bind λa_=>I ([⟨a_.1.cU,a_.1.n⟩],ai.2.1,ai.2.2.1,ai.2.2.2.1,ai.2.2.2.2.1,ai.2.2.2.2.2.1,ai.2.2.2.2.2.2.1,ai.2.2.2.2.2.2.2)else I ([⟨aW.1.cU,aW.1.n⟩],ai.2.1,ai.2.2.1,ai.2.2.2.1,ai.2.2.2.2.1,ai.2.2.2.2.2.1,ai.2.2.2.2.2.2.1,ai.2.2.2.2.2.2.2)else(aH ai.1 0).bind λbq=>au (aH ai.1 1) λbR=>au (QJ J al bq bR) λbJ=>if am then(Hw J 6 ⟨bJ.1.cU,bJ.1.n⟩).bind λcG=>I ([⟨cG.1.cU,cG.1.n⟩],ai.2.1,ai.2.2.1,ai.2.2.2.1,ai.2.2.2.2.1,ai.2.2.2.2.2.1,ai.2.2.2.2.2.2.1,ai.2.2.2.2.2.2.2)else I ([⟨bJ.1.cU,bJ.1.n⟩],ai.2.1,ai.2.2.1,ai.2.2.2.1,ai.2.2.2.2.1,ai.2.2.2.2.2.1,ai.2.2.2.2.2.2.1,ai.2.2.2.2.2.2.2):Option wL)
def QM J(hY:wN)(ab:Int)al am(ao ah aq:Int)av aT(bd bf:Int)bo bC bW cB dj:=(au (aH av ab) λaa=>au (aH al aa) λai=>if decide (ai.kind=40)then(nY J ((eE bo aa).getD (0:Int))).bind λaE=>I ([aE],bC,bW,cB)else if decide (ai.kind=43)then if !(eE bC aa).isSome then(KT).bind λaW=>au (aH ai.a8 0) λa_=>au (hY a_ al am ao ah aq av aT aW.1 aW.2.1 bo bC bW cB aW.2.2) λbq=>I (bq.1,(fB bq.2.2.2.2.1 aa bq.1),bq.2.2.2.2.2.1,bq.2.2.2.2.2.2.1)else I (((eE bC aa).getD ([]:List b6)),bC,bW,cB)else I (((eE dj aa).getD ([]:List b6)),bC,bW,cB):Option (dh×mP×List e2×List jn))
def W7(Z:b6):Option Bool:=I (decide (Z.cU=0)&& !decide (Z.n=0))
def afS J(QN:OB)ab:=(if decide (ab=(bk #[105,110,116]))||decide (ab=(bk #[98,111,111,108]))then I (1,ad)else(BH J ab).bind λaa=>if aa.2.2 then(QN aa.1).bind λai=>I ((it 10000 (az (ai.1*aa.2.1))),ai.2)else aJ:Option (Int×Bool))
def W8(J:aA):Nat->OB
  |0=>λ_=>aJ
  |k+1=>afS J (W8 J k)
def afT J:=(W8 J J.n:OB)
def QO J Z an:=((vB J Z).bind (eo (λaa=>if !decide (aa.2=0)then I (0,aa.2)else(Hh J (BH J) an).bind λaE=>if !aE then I (0,4)else(afT J an).bind λaW=>if !aW.2 then I (0,7)else if decide (aW.1=10000)then I (0,5)else I (aW.1,0)) (λai=>if !decide (ai.2.1=0)then I (0,ai.2.1)else(Hh J (BH J) an).bind λa_=>if !a_ then I (0,4)else(D_ J an ai.2.2.1 ai.2.2.2.1 ai.2.2.2.2.1 ai.2.2.2.2.2.1 ai.2.2.2.2.2.2.1 ai.2.2.2.2.2.2.2).bind λbq=>if !bq.2 then I (0,7)else if decide (bq.1=10000)then I (0,5)else I (bq.1,0))):Option (Int×Int))
def Ej J ab al am(ao ah aq:Int)(av:List Int)(aT:List ByteArray)(bd:List (Int×Int))(bf:List (Int×dh))bo(bC:List jn):=(if !(eE bo ab).isSome then(QO J ⟨al,am⟩ ab).bind λaa=>I (aa.1,(fB bo ab aa.1))else I (((eE bo ab).getD (0:Int)),bo):Option (Int×List e2))
def W9(J:aA)(ai:List b6):(Int×dh)->Option dh:=J.b1 λ(b2,jN)=>if decide (b2<(ai.length:Int))then(A1 ai.length ai.length b2).bind λ_=>au (A2 ai.length b2) λ_=>au (wC jN (0+b2.toNat) (ai.length-b2.toNat) 0 b2.toNat) λbq=>I (.inl ((az (b2+((min b2.toNat (ai.length-b2.toNat):Nat):Int))),bq))else(au (gF ai.length jN) λbR=>I bR).map .inr
def QP J Z(an:Int):=(if decide (an< 0)then aJ else(G8 (IntKind.u64.wrap ((Z.length:Int))) (IntKind.u64.wrap (an))).bind λaa=>if decide (0<aa.1)||decide (9223372036854775807<aa.2)then aJ else(mk (az (aa.2)) (⟨0,0⟩:b6)).bind λai=>au (om ai 0 ai.length Z) λaE=>W9 J ai (((min Z.length ai.length:Nat):Int),aE):Option dh)
def KW J(ab:Int)al am ao(ah aq av:Int)aT bd bf bo bC bW:=(au (aH bd ab) λaa=>au (Ej J aa am ao ah aq av aT bd bf bo bC bW) λai=>au (QP J [al] ai.1) λaE=>I (aE,ai.2):Option (dh×List e2))
def QQ J(hY:wN)(ab:Int)al am(ao ah aq:Int)av aT(bd bf:Int)bo bC bW cB dj:=(au (aH al ab) λaa=>au (aH aa.a8 0) λai=>au (hY ai al am ao ah aq av aT bd bf bo bC bW cB dj) λaE=>au (aH aE.1 0) λaW=>au (W7 ⟨aW.cU,aW.n⟩) λa_=>if !decide (aW.cU=0)then(KW J ab ⟨aW.cU,aW.n⟩ al am aE.2.1 aE.2.2.1 aE.2.2.2.1 av aT bo aE.2.2.2.2.1 aE.2.2.2.2.2.1 aE.2.2.2.2.2.2.1).bind λbq=>I (bq.1,aE.2.1,aE.2.2.1,aE.2.2.2.1,aE.2.2.2.2.1,bq.2,aE.2.2.2.2.2.2.1,aE.2.2.2.2.2.2.2)else if(decide (aa.kind=19)&&a_)||((decide (aa.kind=17)&&a_)||(decide (aa.kind=18)&& !a_))then(aH aa.a8 1).bind λbR=>au (hY bR al am aE.2.1 aE.2.2.1 aE.2.2.2.1 av aT bd bf bo aE.2.2.2.2.1 aE.2.2.2.2.2.1 aE.2.2.2.2.2.2.1 aE.2.2.2.2.2.2.2) λbJ=>I bJ else if decide (aa.kind=19)then(aH aa.a8 2).bind λcG=>au (hY cG al am aE.2.1 aE.2.2.1 aE.2.2.2.1 av aT bd bf bo aE.2.2.2.2.1 aE.2.2.2.2.2.1 aE.2.2.2.2.2.2.1 aE.2.2.2.2.2.2.2) λc1=>I c1 else if a_ then(nY J 1).bind λcJ=>I ([cJ],aE.2.1,aE.2.2.1,aE.2.2.2.1,aE.2.2.2.2.1,aE.2.2.2.2.2.1,aE.2.2.2.2.2.2.1,aE.2.2.2.2.2.2.2)else(nY J 0).bind λdP=>I ([dP],aE.2.1,aE.2.2.1,aE.2.2.2.1,aE.2.2.2.2.1,aE.2.2.2.2.2.1,aE.2.2.2.2.2.2.1,aE.2.2.2.2.2.2.2):Option wL)
def afU(ab:Int)(al:List bm)(am:List Int)(ao ah aq:Int)(av:List Int)(aT:List ByteArray)(bd:List (Int×Int))(bf:List (Int×dh))(bo:List e2)(bC:List jn):Option Int:=I ab
def QR(J:aA)(QS:OC)(ab:Int)al am(ao ah aq:Int)av aT bd bf bo bC:=(au (aH al ab) λaa=>if decide (aa.kind=30)then I (bk #[105,110,116])else if decide (aa.kind=31)then I (bk #[98,111,111,108])else if decide (aa.kind=32)then I aa.text else(aH aa.a8 0).bind λai=>au (QS ai al am ao ah aq av aT bd bf bo bC) λaE=>au (pz (bk #[91]) aE) λaW=>au (pz aW (bk #[59,32])) λa_=>au (pz a_ (Utf8.encode (IntKind.i32.wrap ((az (48+aa.n)))))) λbq=>au (pz bq (bk #[93])) λbR=>I bR:Option ByteArray)
def KX(J:aA):Nat->OC
  |0=>λ_ _ _ _ _ _ _ _ _ _ _ _=>aJ
  |k+1=>QR J (KX J k)
def W_ J:=(KX J J.n:OC)
def QT(ab al:Int)am(ao ah:Int)aq:=(au (iC am 0 al) λai=>au (iC am al (am.length:Int)) λaE=>I (aE,(fB aq ab ai)):Option (dh×mP))
def afV ai am(J:aA)ao(ah aq av:Int)aT bd bC bW dj(bf bo:Int):=(J.b1 λ(QU,mT,QV,W')=>if decide (QU<(ai.length:Int))then(aH ai QU).bind λaE=>au (aH am aE) λaW=>au (aH aW.a8 0) λa_=>au (W_ J a_ am ao ah aq av aT bd bC bW QV dj) λbq=>au (Ej J bq am ao ah aq av aT bd bC bW QV dj) λbR=>au (QT aE bR.1 mT bf bo W') λbJ=>I (.inl ((az (QU+1)),bJ.1,bR.2,bJ.2))else(I (mT,W',QV)).map .inr:(Int×dh×List e2×mP)->Option (dh×mP×List e2))
def QW J(ab:Int)al am ao(ah aq av:Int)aT bd(bf bo:Int)bC bW cB dj kE:=(au (aH am ab) λaa=>au (iC aa.a8 0 (az ((aa.a8.length:Int)- 2))) λai=>afV ai am J ao ah aq av aT bd bC bW dj bf bo (0,al,cB,kE):Option (dh×mP×List e2))
def afW(ab:List bm)(al:List Int)(am ao ah:Int)(aq:List Int)(av:List ByteArray)(aT:List (Int×Int))(bd:List (Int×dh))(bf:List e2)(bo:List jn):Option (Int×Int):=I ((az (ao+1)),(gX ah (az (ao+1))))
def Xa(ab:List bm)(al:List Int)(am ao ah:Int)(aq:List Int)(av:List ByteArray)(aT:List (Int×Int))(bd:List (Int×dh))(bf:List e2)(bo:List jn):Option Int:=I (az (ao- 1))
def Hy J(hY:wN)(ab al:Int)am ao ah(aq av aT:Int)bd bf bo bC bW cB:=(au (afU ab ao ah aq av aT bd bf bo bC bW cB) λaa=>(QW J aa am ao ah aq av aT bd bf ab al bo bC bW cB ([]:List (Int×dh))).bind (λai=>au (afW ao ah aq av aT bd bf bo bC ai.2.2 cB) λaW=>au (aH ao ab) λbq=>au (aH bq.a8 (az ((bq.a8.length:Int)- 1))) λbR=>au (hY bR ao ah aq aW.1 aW.2 bd bf ab al bo bC ai.2.2 cB ai.2.1) λbJ=>au (Xa ao ah bJ.2.1 bJ.2.2.1 bJ.2.2.2.1 bd bf bo bJ.2.2.2.2.1 bJ.2.2.2.2.2.1 bJ.2.2.2.2.2.2.1) λcG=>I (bJ.1,bJ.2.1,cG,bJ.2.2.2.1,bJ.2.2.2.2.1,bJ.2.2.2.2.2.1,bJ.2.2.2.2.2.2.1)):Option (dh×Int×Int×Int×mP×List e2×List jn))
def KY al(aE:Int)J(ab:Int)am(ai:dh×Int×Int×Int×mP×List e2×List jn×mP)av aT bo hY:=(λff=>au (aH al aE) λaW=>if decide (aW.n<ff)then(KW J ab ⟨4,0⟩ al am ai.2.1 ai.2.2.1 ai.2.2.2.1 av aT bo ai.2.2.2.2.1 ai.2.2.2.2.2.1 ai.2.2.2.2.2.2.1).bind λa_=>I (a_.1,ai.2.1,ai.2.2.1,ai.2.2.2.1,ai.2.2.2.2.1,a_.2,ai.2.2.2.2.2.2.1,ai.2.2.2.2.2.2.2)else(Hy J hY aE ff ai.1 al am ai.2.1 ai.2.2.1 ai.2.2.2.1 av aT bo ai.2.2.2.2.1 ai.2.2.2.2.2.1 ai.2.2.2.2.2.2.1).bind λbq=>I (bq.1,bq.2.1,bq.2.2.1,bq.2.2.2.1,bq.2.2.2.2.1,bq.2.2.2.2.2.1,bq.2.2.2.2.2.2,ai.2.2.2.2.2.2.2):Int->Option wL)
def Xb J hY(j5:ye)(ab:Int)al am(ao ah aq:Int)av aT(bd bf:Int)bo bC bW cB dj:=(au (aH al ab) λaa=>au (j5 aa.a8 al am ao ah aq av aT bd bf bo bC bW cB dj) λai=>au (aH av ab) λaE=>if decide (aE=bd)then KY al aE J ab am ai av aT bo hY (az (bf+1))else KY al aE J ab am ai av aT bo hY 0:Option wL)
def Xc J ab al:=((vB J ab).bind (eo (λaa=>if !decide (aa.2=0)then I (.inl ([],aa.2))else aJ) (λai=>if !decide (ai.2.1=0)then I (.inl ([],ai.2.1))else if !(eE ai.2.2.2.2.2.2.1 al).isSome then I (.inl ([],7))else(aH ai.2.2.1 ((eE ai.2.2.2.2.2.2.1 al).getD (0:Int))).bind λaE=>I (.inr (aE.a8,0,ai.2.2.1,ai.2.2.2.1,ai.2.2.2.2.1,ai.2.2.2.2.2.1,ai.2.2.2.2.2.2.1,ai.2.2.2.2.2.2.2)))):Option (k5 ⊕ (List Int×Int×List bm×List Int×List Int×Nat×List e2×dW)))
def aoR(J:aA)(aa:List Int×Int):(Int×Int)->Option Bg:=J.b1 λ(dR,afX)=>if decide (afX<(aa.1.length:Int))then aJ else(I (0,0,7)).map .inr
def afY(ai:List Int×Int×List bm×List Int×List Int×Nat×List e2×dW)(J:aA)a':=(J.b1 λ(kC,QX)=>if decide (QX<(ai.1.length:Int))then(aH ai.1 QX).bind λaE=>au (gz ai.2.2.2.2.2.1 ai.2.2.2.2.2.2.2 aE) λaW=>au (D_ J aW.1.2 ai.2.2.1 ai.2.2.2.1 ai.2.2.2.2.1 ai.2.2.2.2.2.1 ai.2.2.2.2.2.2.1 ai.2.2.2.2.2.2.2) λa_=>au (aH ai.2.2.1 aE) λbq=>if decide (bq.text=a')then(I (kC,a_.1,0)).map .inr else I (.inl ((az (kC+a_.1)),(az (QX+1))))else(I (0,0,7)).map .inr:(Int×Int)->Option Bg)
def QY J Z an a':=((Xc J Z an).bind (eo (λaa=>if !decide (aa.2=0)then I (0,0,aa.2)else aoR J aa (0,0)) (λai=>if !decide (ai.2.1=0)then I (0,0,ai.2.1)else afY ai J a' (0,0))):Option Bg)
def KZ(aa:bm)(hY:wN)al am(ao ah aq:Int)av aT(bd bf:Int)bo bC bW dj:=(λ(afZ,aoS,af0,Xd)=>au (aH aa.a8 0) λai=>au (hY ai al am ao ah aq av aT bd bf bo bC bW afZ dj) λaE=>au (iC aE.1 af0 (aE.1.length:Int)) λaW=>au (xU aW 0 Xd Xd) λa_=>I (a_,aE.2.1,aE.2.2.1,aE.2.2.2.1,aE.2.2.2.2.1,aE.2.2.2.2.2.1,aE.2.2.2.2.2.2.1,aE.2.2.2.2.2.2.2):(List jn×Int×Int×Int)->Option wL)
def QZ J hY(ab:Int)al am(ao ah aq:Int)av aT(bd bf:Int)bo bC bW cB dj:=(au (aH al ab) λaa=>if !(eE cB ab).isSome then(aH aa.a8 0).bind λbq=>au (aH aT bq) λbR=>au (QY J ⟨al,am⟩ bR aa.text) λbJ=>KZ aa hY al am ao ah aq av aT bd bf bo bC bW dj ((fB cB ab (⟨bJ.1,bJ.2.1⟩:qt)),aa.kind,bJ.1,bJ.2.1)else KZ aa hY al am ao ah aq av aT bd bf bo bC bW dj (cB,aa.kind,((eE cB ab).getD (⟨0,0⟩:qt)).adA,((eE cB ab).getD (⟨0,0⟩:qt)).Dq):Option wL)
def Xe(J:aA)(ai:List b6):(Int×dh)->Option (Nat×dh):=J.b1 λ(b2,jN)=>if decide (b2<(ai.length:Int))then(A1 ai.length ai.length b2).bind λ_=>au (A2 ai.length b2) λ_=>au (wC jN (0+b2.toNat) (ai.length-b2.toNat) 0 b2.toNat) λbq=>I (.inl ((az (b2+((min b2.toNat (ai.length-b2.toNat):Nat):Int))),bq))else(I (ai.length,jN)).map .inr
def Hz J ab(al:Int):=(if decide (al< 0)then aJ else(G8 (IntKind.u64.wrap ((ab.length:Int))) (IntKind.u64.wrap (al))).bind λaa=>if decide (0<aa.1)||decide (9223372036854775807<aa.2)then aJ else(mk (az (aa.2)) (⟨0,0⟩:b6)).bind λai=>au (om ai 0 ai.length ab) λaE=>Xe J ai (((min ab.length ai.length:Nat):Int),aE):Option (Nat×dh))
def Q0 ab(al:Int):=(if decide (al< 1)then aJ else I (ab,al):Option (dh×Int))
def Xf ab(al:b6)(am:Nat)(ao:Int)ah:=(if decide (ao=al.n)then(om ah 0 am ab).bind λaa=>I ((az (ao+1)),aa)else I ((az (ao+1)),ah):Option (Int×dh))
def af1(J:aA)ab(al:Int)am(ao:Nat):=(J.b1 λ(dv,mT,sg)=>if decide (dv<(ab.length:Int))then(iC ab dv (ab.length:Int)).bind λaa=>au (xU ab dv (az (dv+(it al (aa.length:Int)))) (az (dv+(it al (aa.length:Int))))) λai=>au (Xf ai am ao mT sg) λaE=>I (.inl ((az (dv+al)),aE.1,aE.2))else(I (mT,sg)).map .inr:(Int×Int×dh)->Option (Int×dh))
def Q1 J ab(al:Int)am(ao:Nat)(ah:Int)aq:=(af1 J ab al am ao (0,ah,aq):Option (Int×dh))
def Q2 J Z(an:Int)a':=(au (BM J 1 8 ([an,(Z.length:Int)]:List Int)) λaa=>if !aa then I ([],4)else(nr (Z.length:Int) an).bind λai=>if !decide (ai=0)then I ([],4)else(nq (Z.length:Int) an).bind λaE=>if decide (6<(az (aE)))then I ([],4)else(Ei J [a']).bind λaW=>if !aW then I ([],2)else(Ei J Z).bind λa_=>if !a_ then I ([],2)else(KS 3).bind λbq=>au (Hz J [bq] an) λbR=>au (BN J [a']) λbJ=>if bJ.2 then(Hz J [⟨bJ.1.cU,bJ.1.n⟩] an).bind λcG=>au (gF cG.1 cG.2) λc1=>I (c1,0)else(Q0 Z an).bind λcJ=>(Q1 J cJ.1 cJ.2 a' bR.1 0 bR.2).bind (λdP=>au (gF bR.1 dP.2) λet=>I (et,0)):Option (dh×Int))
def Q3 J hY j5(ab:Int)al am(ao ah aq:Int)av aT(bd bf:Int)bo bC bW cB dj:=(au (aH al ab) λaa=>au (Hv aa.kind) λai=>if ai.2.2 then(QK J j5 ab ai.1 ai.2.1 al am (az (ao+1)) ah aq av aT bd bf bo bC bW cB dj).bind λaE=>I aE else if decide (aa.kind=1)||decide (aa.kind=2)then(nY J aa.n).bind λaW=>I ([aW],(az (ao+1)),ah,aq,bC,bW,cB,dj)else if decide (aa.kind=3)then(QM J hY ab al am (az (ao+1)) ah aq av aT bd bf bo bC bW cB dj).bind λa_=>I (a_.1,(az (ao+1)),ah,aq,a_.2.1,a_.2.2.1,a_.2.2.2,dj)else if decide (aa.kind=19)||(decide (aa.kind=17)||decide (aa.kind=18))then(QQ J hY ab al am (az (ao+1)) ah aq av aT bd bf bo bC bW cB dj).bind λbq=>I bq else if decide (aa.kind=20)then(aH aa.a8 0).bind λbR=>au (hY bR al am (az (ao+1)) ah aq av aT bd bf bo bC bW cB dj) λbJ=>au (aH aa.a8 1) λcG=>au (hY cG al am bJ.2.1 bJ.2.2.1 bJ.2.2.2.1 av aT bd bf bo bJ.2.2.2.2.1 bJ.2.2.2.2.2.1 bJ.2.2.2.2.2.2.1 (fB bJ.2.2.2.2.2.2.2 ab bJ.1)) λc1=>I c1 else if decide (aa.kind=21)then(Xb J hY j5 ab al am (az (ao+1)) ah aq av aT bd bf bo bC bW cB dj).bind λcJ=>I cJ else if decide (aa.kind=22)then(QZ J hY ab al am (az (ao+1)) ah aq av aT bd bf bo bC bW cB dj).bind λdP=>I dP else if decide (aa.kind=23)then(aH aa.a8 0).bind λef=>au (hY ef al am (az (ao+1)) ah aq av aT bd bf bo bC bW cB dj) λet=>au (aH aT ab) λgc=>au (Ej J gc al am et.2.1 et.2.2.1 et.2.2.2.1 av aT bo et.2.2.2.2.1 et.2.2.2.2.2.1 et.2.2.2.2.2.2.1) λgK=>au (aH aa.a8 1) λh9=>au (hY h9 al am et.2.1 et.2.2.1 et.2.2.2.1 av aT bd bf bo et.2.2.2.2.1 gK.2 et.2.2.2.2.2.2.1 et.2.2.2.2.2.2.2) λhk=>au (aH hk.1 0) λi9=>au (Q2 J et.1 gK.1 i9) λj2=>I (j2.1,hk.2.1,hk.2.2.1,hk.2.2.2.1,hk.2.2.2.2.1,hk.2.2.2.2.2.1,hk.2.2.2.2.2.2.1,hk.2.2.2.2.2.2.2)else(j5 aa.a8 al am (az (ao+1)) ah aq av aT bd bf bo bC bW cB dj).bind λgO=>I gO:Option wL)
def Q4(J:aA)(j5:ye):Nat->wN
  |0=>λ_ _ _ _ _ _ _ _ _ _ _ _ _ _ _=>aJ
  |k+1=>Q3 J (Q4 J j5 k) j5
def Xg J j5:=(Q4 J j5 J.n:wN)
def af2 ab(J:aA)j5 al am av aT(bd bf:Int)bo:=(J.b1 λ(dR,nW,fU,yi,fk,pU,sg,Xh,Ek)=>if decide (nW<(ab.length:Int))then(aH ab nW).bind λaa=>au (Xg J j5 aa al am fU yi fk av aT bd bf bo pU sg Xh Ek) λai=>au (e6 dR ai.1) λaE=>I (.inl (aE,(az (nW+1)),ai.2.1,ai.2.2.1,ai.2.2.2.1,ai.2.2.2.2.1,ai.2.2.2.2.2.1,ai.2.2.2.2.2.2.1,ai.2.2.2.2.2.2.2))else(I (dR,fU,yi,fk,pU,sg,Xh,Ek)).map .inr:(dh×Int×Int×Int×Int×mP×List e2×List jn×mP)->Option wL)
def HA J j5 ab al am(ao ah aq:Int)av aT(bd bf:Int)bo bC bW cB dj:=(af2 ab J j5 al am av aT bd bf bo ([],0,ao,ah,aq,bC,bW,cB,dj):Option wL)
def HB(J:aA):Nat->ye
  |0=>λ_ _ _ _ _ _ _ _ _ _ _ _ _ _ _=>aJ
  |k+1=>HA J (HB J k)
def Xi J:=(HB J J.n:ye)
def Q5 J(ab:Int)al am(ao ah aq:Int)av aT bd bf bo bC:=(au (aH al ab) λaa=>if decide (aa.kind=40)then(nY J ((eE bd ab).getD (0:Int))).bind λai=>I ([ai],ao,ah,aq,bf,bo,bC)else(Hu aa.kind).bind λaE=>if aE then(KT).bind λaW=>au (Xi J aa.a8 al am ao ah aq av aT aW.1 aW.2.1 bd bf bo bC aW.2.2) λa_=>I (a_.1,a_.2.1,a_.2.2.1,a_.2.2.2.1,a_.2.2.2.2.1,a_.2.2.2.2.2.1,a_.2.2.2.2.2.2.1)else I ([],ao,ah,aq,bf,bo,bC):Option (dh×Int×Int×Int×mP×List e2×List jn))
def qx J Z(an:Int)a':=((Ht J Z an a' ([44]:List Int)).bind (eo (λaa=>if !decide (aa=0)then I (aS,aa)else aJ) (λai=>if !decide (ai.1=0)then I (aS,ai.1)else(aH Z.aD an).bind λaE=>au (Q5 J aE ai.2.1 ai.2.2.1 ai.2.2.2.1 ai.2.2.2.2.1 ai.2.2.2.2.2.1 ai.2.2.2.2.2.2.1 ai.2.2.2.2.2.2.2.1 ai.2.2.2.2.2.2.2.2.1 ai.2.2.2.2.2.2.2.2.2.1 ai.2.2.2.2.2.2.2.2.2.2.1 ai.2.2.2.2.2.2.2.2.2.2.2) λaW=>au (aH aW.1 0) λa_=>au (W7 a_) λbq=>I (bq,0))):Option (Bool×Int))
def tg J(ab:Int)al am ao ah:=(au (nX J ab am ao ah) λaa=>au (iC al 0 (aa.length:Int)) λai=>au (uw J aa ai) λaE=>if decide ((⟨((eE ah (⟨ab,aE⟩:gq)).getD (⟨aS,aS⟩:fT)).qk,((eE ah (⟨ab,aE⟩:gq)).getD (⟨aS,aS⟩:fT)).jK⟩:fT)=(⟨aS,aS⟩:fT))then(Ee ai).bind λaW=>au (qx J ⟨am,ao⟩ ab aW) λa_=>I (a_.1,(fB ah (⟨ab,aE⟩:gq) (⟨ad,a_.1⟩:fT)))else I (((eE ah (⟨ab,aE⟩:gq)).getD (⟨aS,aS⟩:fT)).jK,ah):Option zr)
def K0 J(ab:Int)al am ao ah:=(au (tg J ab al am ao ah) λaa=>I aa:Option zr)
def K1 J(ab:Int)al am ao ah:=(au (K0 J ab al am ao ah) λaa=>I ((!aa.1),aa.2):Option zr)
def Q6 ab(J:aA)al am ao:=(J.b1 λ(b2,sg)=>if decide (b2<(ab.length:Int))then(aH ab b2).bind λaa=>au (K1 J aa al am ao sg) λai=>if ai.1 then(I (b2,ai.2)).map .inr else I (.inl ((az (b2+1)),ai.2))else(I ((-1),sg)).map .inr:Bj->Option Bj)
def K2 J ab al am ao ah:=(Q6 ab J al am ao (0,ah):Option Bj)
def K3 J ab al am ao ah:=(au (K2 J ab al am ao ah) λaa=>I ((decide (0<=aa.1)),aa.2):Option zr)
def BP J ab al am ao ah:=(au (K3 J ab al am ao ah) λaa=>I ((!aa.1),aa.2):Option zr)
def K4 J(ab:Int)al am(ao:Nat)ah aq av aT:=(au (BP J am al aq av aT) λaa=>if aa.1 then(e6 ah ([al]:List (List Int))).bind λai=>I (ai,aa.2,ao+1)else I (ah,aa.2,ao):Option (pL×List h8×Nat))
def Q7(aa:Int)(J:aA)ab al ah aq:=(J.b1 λ(dR,mT,Xj,Ek)=>if decide (dR<aa)then(uv J ab dR).bind λai=>au (K4 J dR ai al Xj mT ah aq Ek) λaE=>I (.inl ((az (dR+1)),aE.1,aE.2.2,aE.2.1))else(I (mT,Ek,Xj)).map .inr:(Int×pL×Nat×List h8)->Option (pL×List h8×Nat))
def K5 J ab al(am:Nat)ao ah aq av:=(au (tf J ab) λaa=>Q7 aa J ab al ah aq (0,ao,am,av):Option (pL×List h8×Nat))
def ys J(ab:Int)al am ao ah:=(au (nX J ab am ao ah) λaa=>au (afG aa) λai=>(K5 J ai al 0 [] am ao ah).bind (λaE=>I (aE.1,aE.2.1)):Option (pL×List h8))
def vI J Z(an:Int):=((iE J Z an).bind (eo (λaa=>if !decide (aa=0)then I ([],aa)else aJ) (λai=>if !decide (ai.1=0)then I ([],ai.1)else(rl J an ai.2.1 ai.2.2.1 ai.2.2.2).bind λaE=>au (ys J an aE ai.2.1 ai.2.2.1 ai.2.2.2) λaW=>I (aW.1,0))):Option (pL×Int))
def aoT(J:aA)(an:Int):k5->Option k5:=J.b1 λ(b2,wU)=>if decide (wU<(az (an+1)))then aJ else(I (b2,0)).map .inr
def Xk(an:Int)(J:aA)(ai:Int×List bm×List Int×List h8):(List Int×Int×List h8)->Option k5:=J.b1 λ(tc,BL,zy)=>if decide (BL<(az (an+1)))then(rl J BL ai.2.1 ai.2.2.1 zy).bind λaE=>au (ys J BL aE ai.2.1 ai.2.2.1 zy) λaW=>au (e6 tc ([(aW.1.length:Int)]:List Int)) λa_=>I (.inl (a_,(az (BL+1)),aW.2))else(I (tc,0)).map .inr
def vJ J Z(an:Int):=((iE J Z an).bind (eo (λaa=>if !decide (aa=0)then I ([],aa)else aoT J an ([],0)) (λai=>if !decide (ai.1=0)then I ([],ai.1)else Xk an J ai ([],0,ai.2.2.2))):Option k5)
def Q8(J:aA)(Z an:List Int):Int->Option Bool:=J.b1 λcY=>if decide (cY<(Z.length:Int))then(aH Z cY).bind λaa=>au (aH an cY) λai=>if !decide (aa=ai)then(I aS).map .inr else I (.inl (az (cY+1)))else(I ad).map .inr
def th J Z an:=(if !decide ((Z.length:Int)=(an.length:Int))then I aS else Q8 J Z an 0:Option Bool)
def af3(J:aA)(Z an:List ByteArray):Int->Option Bool:=J.b1 λcY=>if decide (cY<(Z.length:Int))then(aH Z cY).bind λaa=>au (aH an cY) λai=>if !decide (aa=ai)then(I aS).map .inr else I (.inl (az (cY+1)))else(I ad).map .inr
def K6 J Z an:=(if !decide ((Z.length:Int)=(an.length:Int))then I aS else af3 J Z an 0:Option Bool)
def af4 Z an(J:aA):=(J.b1 λcY=>if decide (cY<(Z.length:Int))then(aH Z cY).bind λaa=>au (aH an cY) λai=>au (th J aa ai) λaE=>if !aE then(I aS).map .inr else I (.inl (az (cY+1)))else(I ad).map .inr:Int->Option Bool)
def BQ J Z an:=(if !decide ((Z.length:Int)=(an.length:Int))then I aS else af4 Z an J 0:Option Bool)
def af5 J:=(au (Bz J) λaa=>au (vC J aa 3) λai=>au (Bz J) λaE=>au (o3 J aE 5 7) λaW=>au (Bz J) λa_=>au (sh J a_ 5 ([6,0]:List Int)) λbq=>au (Bz J) λbR=>au (wX J bR 5 ([1,1]:List Int)) λbJ=>au (Bz J) λcG=>au (vH J cG 4) λc1=>au (Bz J) λcJ=>au (vI J cJ 5) λdP=>au (Bz J) λef=>au (vJ J ef 6) λet=>if decide (ai.2=0)&&decide ((ai.1.length:Int)=2)then(aH ai.1 1).bind λgc=>if(decide (gc=(⟨(bk #[101]),0,1⟩:ct)))&&decide (aW.2=0)then(th J aW.1 ([4,1]:List Int)).bind λgK=>if((gK&&decide (bq.2=0))&&decide (bq.1=10))&&decide (bJ.2=0)then(th J bJ.1 ([2,0]:List Int)).bind λh9=>if h9&&decide (c1.2=0)then(K6 J c1.1 ([(bk #[111]),(bk #[112])]:List ByteArray)).bind λhk=>if hk&&decide (dP.2=0)then(BQ J dP.1 ([([5,1]:List Int),([6,0]:List Int)]:List (List Int))).bind λi9=>if i9&&decide (et.2=0)then(th J et.1 ([1,6,4,8,2,2,2]:List Int)).bind λj2=>I j2 else I aS else I aS else I aS else I aS else I aS else I aS:Option Bool)
def kF:Option Bool:=I ad
def ov Z:=(au (e6 [] Z) λaa=>I aa:Option (List Int))
def El(J:aA)(Z:aZ)aa:=(J.b1 λ(dv,wQ)=>if decide (dv<(Z.nodes.length:Int))then(aH Z.nodes dv).bind λai=>au (ov ai.a8) λaE=>au (e6 wQ [⟨ai.kind,ai.text,ai.n,aE,ai.at_⟩]) λaW=>I (.inl ((az (dv+1)),aW))else(I ⟨wQ,aa⟩).map .inr:(Int×List bm)->Option aZ)
def j6 J Z:=(au (ov Z.aD) λaa=>El J Z aa (0,[]):Option aZ)
def K7(J:aA)(dr:Int)Z an:=(J.b1 λff=>if decide (ff<dr)then(o1 Z ff).bind λaa=>if decide (aa.kind=45)&&decide (aa.text=an)then(I ad).map .inr else I (.inl (az (ff+1)))else(I aS).map .inr:Int->Option Bool)
def yt J Z an(a' dr:Int):=(K7 J dr Z an a':Option Bool)
def K8(an:Int)Z(J:aA):=(J.b1 λ(cY,dR)=>if decide (dR<an)then(o1 Z dR).bind λaa=>if decide (aa.kind=44)then(o1 Z dR).bind λai=>au (yt J Z ai.text dR an) λaE=>if !aE then(e6 cY [dR]).bind λaW=>I (.inl (aW,(az (dR+1))))else I (.inl (cY,(az (dR+1))))else I (.inl (cY,(az (dR+1))))else(I cY).map .inr:k5->Option (List Int))
def si J Z(an:Int):=(K8 an Z J ([],0):Option (List Int))
def af6(J:aA)an Z:=(J.b1 λ(cY,dR)=>if decide (dR<(an.length:Int))then(aH an dR).bind λaa=>au (o1 Z aa) λai=>au (e6 cY [ai.text]) λaE=>I (.inl (aE,(az (dR+1))))else(I cY).map .inr:(dW×Int)->Option dW)
def Q9 J Z an:=(af6 J an Z ([],0):Option dW)
def K9(J:aA)(Z:List ct)(aa:List Int):(Int×Int×List Int)->Option (List Int):=J.b1 λ(jw,dR,jN)=>if decide (0<=dR)then(aH Z dR).bind λai=>au (aH Z dR) λaE=>au (aH Z dR) λaW=>au (nr jw (az ((az (ai.hi-aE.lo))+1))) λa_=>au (gz aa.length jN dR) λbq=>au (nq jw (az ((az (ai.hi-aE.lo))+1))) λbR=>I (.inl ((az (bR)),(az (dR- 1)),(jN.set bq.1.1 (az (aW.lo+a_)))))else(au (gF aa.length jN) λbJ=>I bJ).map .inr
def vK J Z(an:Int):=(au (mk (Z.length:Int) (0:Int)) λaa=>K9 J Z aa (an,(az ((Z.length:Int)- 1)),aa):Option (List Int))
def K_ fk(dR:Int)(fl:Nat):=(λoY=>au (e6 fk [oY]) λaE=>I (.inl ((az (dR+1)),aE,fl+1)):Int->Option ((Int×List Int×Nat) ⊕ Vq))
def af7 ab(ai:vn×Int×Int)(J:aA)(aa:nS×Int×Int)al:=(J.b1 λ(dR,fk,fl)=>if decide (dR<(ab.nodes.length:Int))then(aH ai.1.Gl dR).bind λaW=>if !decide (aW=(bk #[]))then(aH ai.1.Gl dR).bind λa_=>au (Kw J ab a_) λbq=>K_ fk dR fl bq else K_ fk dR fl 0 else(I (ab.nodes,ab.aD,aa.1.kS,ai.1.Gl,fk,al,[],0,0,0,0)).map .inr:(Int×List Int×Nat)->Option Vq)
def Q_ J ab al:=(au (yk J ab) λaa=>au (wS J ab) λai=>af7 ab ai J aa al (0,[],0):Option Vq)
def vL(Z:Int):Option b6:=I ⟨0,Z⟩
def af8(J:aA)(an:Int)Z:=(J.b1 λ(cY,dR)=>if decide (dR<an)then(e6 cY [Z]).bind λaa=>I (.inl (aa,(az (dR+1))))else(I cY).map .inr:(dh×Int)->Option dh)
def zD J Z(an:Int):=(af8 J an Z (([]:List b6),0):Option dh)
def af9(J:aA)(Z:nT)(an:Int):(dh×Int)->Option dh:=J.b1 λ(cY,dR)=>if decide (dR<(Z.kS.length:Int))then(aH Z.kS dR).bind λaa=>if decide (aa=an)then(aH Z.cells dR).bind λai=>I (.inl (ai,(az (dR+1))))else I (.inl (cY,(az (dR+1))))else(I cY).map .inr
def Q' J Z(an:Int):=(af9 J Z an (([]:List b6),0):Option dh)
def aga bf ao(aa:Int)(J:aA)al:=(J.b1 λb2=>if decide (b2<(bf.length:Int))then(aH ao b2).bind λai=>if decide (ai=aa)then(aH bf b2).bind λaE=>(I aE).map .inr else I (.inl (az (b2+1)))else(au (Q' J al aa) λaW=>I aW).map .inr:Int->Option dh)
def Ra J(ab:Int)al(am:List bm)ao ah(aq:List ByteArray)(av aT:List Int)(bd:Nat)bf(bo bC bW:Int):=(au (aH ah ab) λaa=>aga bf ao aa J al 0:Option dh)
def Xl(Z:Int):Option (Int×Bool):=if decide (Z=6)then I (7,aS)else if decide (Z=7)then I (8,aS)else if decide (Z=8)then I (9,aS)else if decide (Z=9)then I (10,aS)else if decide (Z=10)then I (11,aS)else if decide (Z=11)then I (12,aS)else if decide (Z=12)then I (12,ad)else if decide (Z=13)then I (13,aS)else if decide (Z=14)then I (14,aS)else if decide (Z=15)then I (14,ad)else if decide (Z=16)then I (13,ad)else if decide (Z=17)then I (15,aS)else I (16,aS)
def HC(Z:Int):Option b6:=I ⟨Z,0⟩
def HD(Z:Int):Option b6:=if decide (Z<(-9999))||decide (9999<Z)then(HC 2).bind λaa=>I ⟨aa.cU,aa.n⟩else(vL Z).bind λai=>I ⟨ai.cU,ai.n⟩
def HE(Z:Bool):Option b6:=if Z then(vL 1).bind λaa=>I ⟨aa.cU,aa.n⟩else(vL 0).bind λai=>I ⟨ai.cU,ai.n⟩
def agb(J:aA)(jx jw:Int):Int->Option Int:=J.b1 λkA=>if decide (jx<(az (kA*jw)))then I (.inl (az (kA- 1)))else(I kA).map .inr
def Xm(J:aA)(jw jx:Int):Int->Option Int:=J.b1 λkB=>if decide ((az ((az (kB+1))*jw))<=jx)then I (.inl (az (kB+1)))else(agb J jx jw kB).map .inr
def K' J:=(λ(jx,jw)=>Xm J jw jx 0:(Int×Int)->Option Int)
def Rb J(Z an:Int):=(if decide (an< 0)then K' J ((az (-Z)),(az (-an)))else K' J (Z,an):Option Int)
def rm J(Z:Int)(an a':b6):=(if decide (0<an.cU)then I ⟨an.cU,an.n⟩else if decide (Z=15)&&decide (an.n=0)then I ⟨an.cU,an.n⟩else if decide (Z=16)&& !decide (an.n=0)then(vL 1).bind λaa=>I ⟨aa.cU,aa.n⟩else if decide (Z=15)||decide (Z=16)then I ⟨a'.cU,a'.n⟩else if decide (0<a'.cU)then I ⟨a'.cU,a'.n⟩else if decide (Z=7)then(HD (az (an.n+a'.n))).bind λai=>I ⟨ai.cU,ai.n⟩else if decide (Z=8)then(HD (az (an.n-a'.n))).bind λaE=>I ⟨aE.cU,aE.n⟩else if decide (Z=9)then(HD (az (an.n*a'.n))).bind λaW=>I ⟨aW.cU,aW.n⟩else if decide (Z=12)then(HE (decide (an.n=a'.n))).bind λa_=>I ⟨a_.cU,a_.n⟩else if decide (Z=13)then(HE (decide (an.n<a'.n))).bind λbq=>I ⟨bq.cU,bq.n⟩else if decide (Z=14)then(HE (decide (an.n<=a'.n))).bind λbR=>I ⟨bR.cU,bR.n⟩else if decide (a'.n=0)then(HC 1).bind λbJ=>I ⟨bJ.cU,bJ.n⟩else(Rb J an.n a'.n).bind λcG=>if decide (Z=10)then(vL cG).bind λc1=>I ⟨c1.cU,c1.n⟩else(vL (az (an.n-(az (a'.n*cG))))).bind λcJ=>I ⟨cJ.cU,cJ.n⟩:Option b6)
def HF(Z:Int)(an:b6):Option b6:=if decide (0<an.cU)then I ⟨an.cU,an.n⟩else if decide (Z=5)then(vL (az (-an.n))).bind λaa=>I ⟨aa.cU,aa.n⟩else(HE (decide (an.n=0))).bind λai=>I ⟨ai.cU,ai.n⟩
def BR(ab:bm)(ii:vq)al(am ao:Int)ah aq av aT bd bf(bo:Nat)bC(aE:dh×Int×Int×Int)J(aa:Int×Bool)(aW:b6):=(λ_=>au (aH ab.a8 1) λa_=>au (ii a_ al am ao ah aq av aT bd bf bo bC aE.2.1 aE.2.2.1 aE.2.2.2) λbq=>au (aH bq.1 0) λbR=>au (rm J aa.1 ⟨aW.cU,aW.n⟩ bR) λbJ=>if aa.2 then(HF 6 ⟨bJ.cU,bJ.n⟩).bind λcG=>I (⟨cG.cU,cG.n⟩,bq.2.1,bq.2.2.1,bq.2.2.2)else I (⟨bJ.cU,bJ.n⟩,bq.2.1,bq.2.2.1,bq.2.2.2):Unit->Option (b6×Int×Int×Int))
def Rc J ii ab al(am ao:Int)ah aq av aT bd bf(bo:Nat)bC(bW cB dj:Int):=(au (Xl ab.kind) λaa=>au (aH ab.a8 0) λai=>au (ii ai al am ao ah aq av aT bd bf bo bC bW cB dj) λaE=>au (aH aE.1 0) λaW=>if decide (aa.1=15)then if decide (0<aW.cU)then(rm J aa.1 ⟨aW.cU,aW.n⟩ ⟨aW.cU,aW.n⟩).bind λc1=>I (⟨c1.cU,c1.n⟩,aE.2.1,aE.2.2.1,aE.2.2.2)else if decide (aW.n=0)then(rm J aa.1 ⟨aW.cU,aW.n⟩ ⟨aW.cU,aW.n⟩).bind λcJ=>I (⟨cJ.cU,cJ.n⟩,aE.2.1,aE.2.2.1,aE.2.2.2)else if decide (aa.1=16)then if decide (0<aW.cU)then(rm J aa.1 ⟨aW.cU,aW.n⟩ ⟨aW.cU,aW.n⟩).bind λdP=>I (⟨dP.cU,dP.n⟩,aE.2.1,aE.2.2.1,aE.2.2.2)else if !decide (aW.n=0)then(rm J aa.1 ⟨aW.cU,aW.n⟩ ⟨aW.cU,aW.n⟩).bind λef=>I (⟨ef.cU,ef.n⟩,aE.2.1,aE.2.2.1,aE.2.2.2)else BR ab ii al am ao ah aq av aT bd bf bo bC aE J aa aW ()else BR ab ii al am ao ah aq av aT bd bf bo bC aE J aa aW ()else if decide (aa.1=16)then if decide (0<aW.cU)then(rm J aa.1 ⟨aW.cU,aW.n⟩ ⟨aW.cU,aW.n⟩).bind λet=>I (⟨et.cU,et.n⟩,aE.2.1,aE.2.2.1,aE.2.2.2)else if !decide (aW.n=0)then(rm J aa.1 ⟨aW.cU,aW.n⟩ ⟨aW.cU,aW.n⟩).bind λgc=>I (⟨gc.cU,gc.n⟩,aE.2.1,aE.2.2.1,aE.2.2.2)else BR ab ii al am ao ah aq av aT bd bf bo bC aE J aa aW ()else BR ab ii al am ao ah aq av aT bd bf bo bC aE J aa aW ():Option (b6×Int×Int×Int))
def Rd J(ii:vq)(ab:bm)(al:Int)am(ao ah:Int)aq av aT bd bf bo(bC:Nat)bW(cB dj kE:Int):=(au (aH ab.a8 0) λaa=>au (ii aa am ao ah aq av aT bd bf bo bC bW cB dj kE) λai=>au (aH ai.1 0) λaE=>if decide (0<aE.cU)then(zD J ⟨aE.cU,aE.n⟩ al).bind λaW=>I (aW,ai.2.1,ai.2.2.1,ai.2.2.2)else if decide (aE.n=0)then(aH ab.a8 2).bind λa_=>au (ii a_ am ao ah aq av aT bd bf bo bC bW ai.2.1 ai.2.2.1 ai.2.2.2) λbq=>I bq else(aH ab.a8 1).bind λbR=>au (ii bR am ao ah aq av aT bd bf bo bC bW ai.2.1 ai.2.2.1 ai.2.2.2) λbJ=>I bJ:Option Bh)
def La(Z:nT)(an:Int)a':=(au (e6 ([]:List Int) Z.kS) λaa=>au (e6 aa [an]) λai=>au (e6 ([]:List dh) Z.cells) λaE=>au (e6 aE [a']) λaW=>I ⟨ai,aW⟩:Option nT)
def agc(aa:dW×dW)(J:aA)Z a':=(J.b1 λ(b2,nW)=>if decide (nW<(aa.1.length:Int))then(aH aa.2 nW).bind λai=>au (Kw J Z ai) λaE=>au (aH aa.1 nW) λaW=>if decide (aW=a')then(I (b2,aE)).map .inr else I (.inl ((az (b2+aE)),(az (nW+1))))else(I (0,0)).map .inr:(Int×Int)->Option (Int×Int))
def Re J Z an a':=(au (DT J Z an) λaa=>agc aa J Z a' (0,0):Option (Int×Int))
def agd(J:aA)(an:Int)a' Z:=(J.b1 λ(hc,b2)=>if decide (b2<an)then if decide (0<a'.cU)then(e6 hc [a']).bind λaa=>I (.inl (aa,(az (b2+1))))else if decide (a'.n< 0)||(decide ((Z.length:Int)<(az ((az (a'.n+1))*an))))then(HC 3).bind λai=>au (e6 hc [ai]) λaE=>I (.inl (aE,(az (b2+1))))else(aH Z (az ((az (a'.n*an))+b2))).bind λaW=>au (e6 hc [aW]) λa_=>I (.inl (a_,(az (b2+1))))else(I hc).map .inr:(dh×Int)->Option dh)
def Rf J Z(an:Int)a':=(agd J an a' Z (([]:List b6),0):Option dh)
def Xn(J:aA)al(aa:bm)(ii:vq)(ab rn:Int)aq av aT bd bf bo(bC:Nat)bW(cB dj kE:Int):=(J.b1 λ(yu,Xo,Xp)=>if decide (yu<(al.length:Int))then(aH aa.a8 yu).bind λaW=>au (aH al yu) λa_=>au (La ⟨Xo,Xp⟩ aW a_) λbq=>I (.inl ((az (yu+1)),bq.kS,bq.cells))else(au (aH aa.a8 (az ((aa.a8.length:Int)- 1))) λbR=>au (ii bR ⟨Xo,Xp⟩ ab rn aq av aT bd bf bo bC bW cB (az (dj+1)) (gX kE (az (dj+1)))) λbJ=>I (bJ.1,bJ.2.1,(az (bJ.2.2.1- 1)),bJ.2.2.2)).map .inr:(Int×List Int×List dh)->Option Bh)
def Lb aa J(am cB dj kE:Int)al ii(ab:Int)aq av aT bd bf bo(bC:Nat)bW:=(λ(rn,aoU)=>if decide (aa.n<rn)then(HC 4).bind λai=>au (zD J ai am) λaE=>I (aE,cB,dj,kE)else Xn J al aa ii ab rn aq av aT bd bf bo bC bW cB dj kE (0,([]:List Int),([]:List dh)):(Int×Int)->Option Bh)
def Rg J ii(ab:Int)al(am ao ah:Int)aq av aT bd bf bo(bC:Nat)bW(cB dj kE:Int):=(au (aH aq ab) λaa=>if decide (ab=ao)then Lb aa J am cB dj kE al ii ab aq av aT bd bf bo bC bW ((az (ah+1)),aa.kind)else Lb aa J am cB dj kE al ii ab aq av aT bd bf bo bC bW (0,aa.kind):Option Bh)
def Rh(aa:bm)J aT ah aq bd(ab:Int)av ii(am ao:Int)bf(bo:Nat)bC:=(λ(lL,l7,yv,yw,yx,k6,aoV)=>if decide (aa.kind=4)then(aH l7 0).bind λet=>au (HF 5 et) λgc=>au (zD J gc 1) λgK=>I (gK,yv,yw,yx)else if decide (aa.kind=5)then(aH l7 0).bind λh9=>au (HF 6 h9) λhk=>au (zD J hk 1) λi9=>I (i9,yv,yw,yx)else if decide (aa.kind=22)then(aH aa.a8 0).bind λj2=>au (aH aT j2) λgO=>au (Re J ⟨ah,aq⟩ gO aa.text) λlK=>au (iC l7 lK.1 (az (lK.1+lK.2))) λum=>au (e6 ([]:List b6) um) λpP=>I (pP,yv,yw,yx)else if decide (aa.kind=23)then(aH lL 0).bind λun=>au (aH bd ab) λsc=>au (aH lL 1) λDJ=>au (aH DJ 0) λBp=>au (Rf J un sc Bp) λBq=>I (Bq,yv,yw,yx)else if decide (aa.kind=21)then(aH av ab).bind λDK=>au (aH bd ab) λDL=>au (Rg J ii DK lL DL am ao ah aq av aT bd bf bo bC yv yw yx) λyh=>I yh else I (l7,yv,yw,yx):(List dh×dh×Int×Int×Int×Nat×Nat)->Option Bh)
def age(J:aA)aa ii al(am ao:Int)ah aq av aT bd bf(bo:Nat)bC(ab:Int):=(J.b1 λ(mS,Ri,Rj,Rk,Rl,Rm,Rn,yf)=>if decide (Rj<(aa.a8.length:Int))then(aH aa.a8 Rj).bind λj4=>au (ii j4 al am ao ah aq av aT bd bf bo bC Rk Rl Rm) λrf=>au (e6 mS [rf.1]) λKp=>au (e6 Ri rf.1) λyg=>I (.inl (Kp,yg,(az (Rj+1)),rf.2.1,rf.2.2.1,rf.2.2.2,Rn+1,yf+1))else(Rh aa J aT ah aq bd ab av ii am ao bf bo bC (mS,Ri,Rk,Rl,Rm,Rn,yf)).map .inr:(List dh×dh×Int×Int×Int×Int×Nat×Nat)->Option Bh)
def Ro J ii(ab:Int)al(am ao:Int)ah aq av aT bd bf(bo:Nat)bC(bW cB dj:Int):=(au (aH ah ab) λaa=>if decide (aa.kind=1)||decide (aa.kind=2)then(vL aa.n).bind λai=>au (zD J ai 1) λaE=>I (aE,(az (bW+1)),cB,dj)else if decide (aa.kind=3)then(Ra J ab al ah aq av aT bd bf bo bC (az (bW+1)) cB dj).bind λaW=>I (aW,(az (bW+1)),cB,dj)else if decide (6<=aa.kind)&&decide (aa.kind<=18)then(Rc J ii ⟨aa.kind,aa.text,aa.n,aa.a8,aa.at_⟩ al am ao ah aq av aT bd bf bo bC (az (bW+1)) cB dj).bind λa_=>au (zD J a_.1 1) λbq=>I (bq,a_.2.1,a_.2.2.1,a_.2.2.2)else if decide (aa.kind=19)then(aH bd ab).bind λbR=>au (Rd J ii ⟨aa.kind,aa.text,aa.n,aa.a8,aa.at_⟩ bR al am ao ah aq av aT bd bf bo bC (az (bW+1)) cB dj) λbJ=>I bJ else if decide (aa.kind=20)then(aH aa.a8 1).bind λcG=>au (aH aa.a8 0) λc1=>au (ii c1 al am ao ah aq av aT bd bf bo bC (az (bW+1)) cB dj) λcJ=>au (La al ab cJ.1) λdP=>au (ii cG dP am ao ah aq av aT bd bf bo bC cJ.2.1 cJ.2.2.1 cJ.2.2.2) λef=>I ef else age J aa ii al am ao ah aq av aT bd bf bo bC ab (([]:List dh),([]:List b6),0,(az (bW+1)),cB,dj,0,0):Option Bh)
def Rp(J:aA):Nat->vq
  |0=>λ_ _ _ _ _ _ _ _ _ _ _ _ _ _ _=>aJ
  |k+1=>Ro J (Rp J k)
def agf J:=(Rp J J.n:vq)
def HG aT(av:Nat):=(λ(eQ,yv,yw,yx,BS,D8)=>au (e6 aT [eQ]) λaE=>I (aE,yv,yw,yx,av+1):(dh×Int×Int×Int×Nat×Int)->Option zq)
def Xq aq(bd bf bo:Int)(ai:bm)aT(av:Nat):=(λagh=>au (aH aq agh) λaW=>au (vL aW) λa_=>au (e6 ([]:List b6) [a_]) λbq=>HG aT av (bq,bd,bf,bo,1,ai.kind):Int->Option zq)
def agi(ai:bm)(J:aA)ab al am ao ah aq(av:Nat)aT:=(J.b1 λ(Rq,BG,Rr,Rs,Rt,Ru)=>if decide (BG<(ai.a8.length:Int))then(aH ai.a8 BG).bind λcG=>au (agf J cG ⟨[],[]⟩ (-1) 0 ab al am ao ah aq av aT Rr Rs Rt) λc1=>au (e6 Rq c1.1) λcJ=>I (.inl (cJ,(az (BG+1)),c1.2.1,c1.2.2.1,c1.2.2.2,Ru+1))else(HG aT av (Rq,Rr,Rs,Rt,Ru,ai.kind)).map .inr:(dh×Int×Int×Int×Int×Nat)->Option zq)
def agj(J:aA)aT al(ab:List bm)aq(bd bf bo:Int)ai(av:Nat):=(J.b1 λ(uo,kA)=>if decide (kA<(aT.length:Int))then(aH al kA).bind λbR=>au (aH ab bR) λbJ=>if decide (bJ.kind=40)then I (.inl ((az (uo+1)),(az (kA+1))))else I (.inl (uo,(az (kA+1))))else(Xq aq bd bf bo ai aT av uo).map .inr:(Int×Int)->Option zq)
def Rv J ab al am ao ah aq(av:Nat)aT(bd bf bo:Int):=(au (aH al (aT.length:Int)) λaa=>au (aH ab aa) λai=>if decide (ai.kind=40)then agj J aT al ab aq bd bf bo ai av (0,0)else if decide (ai.kind=43)||(decide (ai.kind=44)||decide (ai.kind=46))then agi ai J ab al am ao ah aq av aT (([]:List b6),0,bd,bf,bo,0)else HG aT av (([]:List b6),bd,bf,bo,0,ai.kind):Option zq)
def agk(ab:Int)(J:aA)al am ao ah aq av:=(J.b1 λ(Rw,Xr,Xs,Xt,fl)=>if decide ((Rw.length:Int)<=ab)then(Rv J al am ao ah aq av fl Rw Xr Xs Xt).bind λaa=>I (.inl (aa.1,aa.2.1,aa.2.2.1,aa.2.2.2.1,aa.2.2.2.2))else(I (Rw,Xr,Xs,Xt,fl)).map .inr:zq->Option zq)
def Lc J(ab:Int)al am ao ah aq av(aT:Nat)bd(bf bo bC:Int):=(agk ab J al am ao ah aq av (bd,bf,bo,bC,aT):Option zq)
def Rx J Z(an:Int)a':=(au (Q_ J Z a') λaa=>au (Lc J an aa.1 aa.2.1 aa.2.2.1 aa.2.2.2.1 aa.2.2.2.2.1 aa.2.2.2.2.2.1 aa.2.2.2.2.2.2.2.1 aa.2.2.2.2.2.2.1 aa.2.2.2.2.2.2.2.2.1 aa.2.2.2.2.2.2.2.2.2.1 aa.2.2.2.2.2.2.2.2.2.2) λai=>au (aH ai.1 an) λaE=>I aE:Option dh)
def yy J Z(an:Int)a':=(au (Rx J Z an a') λaa=>au (aH aa 0) λai=>I (decide (ai.cU=0)&& !decide (ai.n=0)):Option Bool)
def wY J Z(an:Int)a':=(au (nc J Z an) λaa=>au (iC a' 0 (aa.length:Int)) λai=>au (e6 ([]:List Int) ai) λaE=>au (yy J Z an aE) λaW=>I aW:Option Bool)
def Ry a'(J:aA)Z aE hc(ff:Int):=(J.b1 λ(o0,mS)=>if decide (mS<(a'.length:Int))then if o0 then(aH a' mS).bind λaW=>au (wY J Z aW aE) λa_=>I (.inl (a_,(az (mS+1))))else I (.inl (aS,(az (mS+1))))else(if o0 then(e6 hc ([aE]:List (List Int))).bind λbq=>I (.inl (bq,(az (ff+1))))else I (.inl (hc,(az (ff+1))))).map .inr:(Bool×Int)->Option ((pL×Int) ⊕ pL))
def Rz(J:aA)aa a' Z:=(J.b1 λ(hc,ff)=>au (o2 J aa) λai=>if decide (ff<ai)then(vK J aa ff).bind λaE=>Ry a' J Z aE hc ff (ad,0)else(I hc).map .inr:(pL×Int)->Option pL)
def vM J Z(an:Int)a':=(au (nc J Z an) λaa=>Rz J aa a' Z ([],0):Option pL)
def wZ J Z(an:Int):=((iE J Z an).bind (eo (λaa=>if !decide (aa=0)then I (0,aa)else aJ) (λai=>if !decide (ai.1=0)then I (0,ai.1)else(nX J an ai.2.1 ai.2.2.1 ai.2.2.2).bind λaE=>au (tf J aE) λaW=>I (aW,0))):Option (Int×Int))
def Xu J(ab:Int)al am ao ah:=(au (tg J ab al am ao ah) λaa=>I aa:Option zr)
def Xv J(ab:Int)al am ao ah:=(au (Xu J ab al am ao ah) λaa=>I ((!aa.1),aa.2):Option zr)
def agl ab(J:aA)al am ao:=(J.b1 λ(b2,pU)=>if decide (b2<(ab.length:Int))then(aH ab b2).bind λaa=>au (Xv J aa al am ao pU) λai=>if ai.1 then(I (b2,ai.2)).map .inr else I (.inl ((az (b2+1)),ai.2))else(I ((-1),pU)).map .inr:Bj->Option Bj)
def Xw J ab al am ao ah:=(agl ab J al am ao (0,ah):Option Bj)
def Xx J ab al am ao ah:=(au (Xw J ab al am ao ah) λaa=>I ((decide (0<=aa.1)),aa.2):Option zr)
def RA J ab al am ao ah:=(au (Xx J ab al am ao ah) λaa=>I ((!aa.1),aa.2):Option zr)
def zE J Z(an:Int)a':=((iE J Z an).bind (eo (λaa=>if !decide (aa=0)then I (aS,aa)else aJ) (λai=>if !decide (ai.1=0)then I (aS,ai.1)else(nX J an ai.2.1 ai.2.2.1 ai.2.2.2).bind λaE=>au (yr J aE a') λaW=>if !aW then I (aS,3)else(rl J an ai.2.1 ai.2.2.1 ai.2.2.2).bind λa_=>au (RA J a_ a' ai.2.1 ai.2.2.1 ai.2.2.2) λbq=>I (bq.1,0))):Option (Bool×Int))
def Xy(J:aA)(Z:List ct)an:=(J.b1 λcY=>if decide (cY<(Z.length:Int))then(aH an cY).bind λaa=>au (aH Z cY) λai=>if decide (aa<ai.lo)then(I aS).map .inr else(aH an cY).bind λaE=>au (aH Z cY) λaW=>if decide (aW.hi<aE)then(I aS).map .inr else I (.inl (az (cY+1)))else(I ad).map .inr:Int->Option Bool)
def BT J Z an:=(if !decide ((an.length:Int)=(Z.length:Int))then I aS else Xy J Z an 0:Option Bool)
def agm(J:aA)(Z:List ct)an:=(J.b1 λ(cY,dR)=>if decide (dR<(Z.length:Int))then(aH Z dR).bind λaa=>au (aH Z dR) λai=>au (aH an dR) λaE=>au (aH Z dR) λaW=>I (.inl ((az ((az ((az (cY*(az ((az (aa.hi-ai.lo))+1))))+aE))-aW.lo)),(az (dR+1))))else(I cY).map .inr:(Int×Int)->Option Int)
def RB J Z an:=(agm J Z an (0,0):Option Int)
def BU(ab:Int)al am ao ah:=(au (qw ab am ao ah) λaa=>I (decide (aa.text=al)):Option Bool)
def RC(J:aA)ab al am ao ah:=(J.b1 λb2=>if decide (b2<(ab.length:Int))then(aH ab b2).bind λaa=>au (BU aa al am ao ah) λai=>if ai then(I b2).map .inr else I (.inl (az (b2+1)))else(I (-1)).map .inr:Int->Option Int)
def BV J ab al am ao ah:=(RC J ab al am ao ah 0:Option Int)
def RD al(J:aA)aa am ao ah:=(J.b1 λ(dR,wV)=>if decide (wV<(al.length:Int))then(aH al wV).bind λai=>au (BV J aa ai am ao ah) λaE=>if decide (aE< 0)then(I ([],aS)).map .inr else(aH aa aE).bind λaW=>au (e6 dR [aW]) λa_=>I (.inl (a_,(az (wV+1))))else(I (dR,ad)).map .inr:k5->Option (List Int×Bool))
def zF J(ab:Int)al am ao ah:=(au (rl J ab am ao ah) λaa=>RD al J aa am ao ah ([],0):Option (List Int×Bool))
def ux J Z(an:Int)a':=((iE J Z an).bind (eo (λaa=>if !decide (aa=0)then I ([],aa)else aJ) (λai=>if !decide (ai.1=0)then I ([],ai.1)else(zF J an a' ai.2.1 ai.2.2.1 ai.2.2.2).bind λaE=>if !aE.2 then I ([],10)else(ys J an aE.1 ai.2.1 ai.2.2.1 ai.2.2.2).bind λaW=>I (aW.1,0))):Option (pL×Int))
def Xz(J:aA)an Z a':=(J.b1 λhc=>if decide (hc<(an.length:Int))then(aH an hc).bind λaa=>au (o1 Z aa) λai=>if decide (ai.text=a')then(aH an hc).bind λaE=>(I aE).map .inr else I (.inl (az (hc+1)))else(I (-1)).map .inr:Int->Option Int)
def Em J Z an a':=(Xz J an Z a' 0:Option Int)
def sj J Z(an:Int)a' dr:=((iE J Z an).bind (eo (λaa=>if !decide (aa=0)then I (aS,aa)else aJ) (λai=>if !decide (ai.1=0)then I (aS,ai.1)else(zF J an [a'] ai.2.1 ai.2.2.1 ai.2.2.2).bind λaE=>if !aE.2 then I (aS,10)else(nX J an ai.2.1 ai.2.2.1 ai.2.2.2).bind λaW=>au (yr J aW dr) λa_=>if !a_ then I (aS,3)else(aH aE.1 0).bind λbq=>au (tg J bq dr ai.2.1 ai.2.2.1 ai.2.2.2) λbR=>I (bR.1,0))):Option (Bool×Int))
end
end Go.Proofs.YtjfgooffdmnnkaaGreatDoor

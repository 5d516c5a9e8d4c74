/- Steps that find themselves: contracts and facts of types by instances, whole walks by one script. -/
import Derived.Test.YtgfggdcbhjhegaaGreatDoorF
set_option linter.all false
set_option maxRecDepth 100000
namespace Go.Dp
open Go Go.Mi Go.RowKit
open Bool renaming true->ah,false->aQ
open Go renaming Operand->bM,TypeId->b3,Program->cj,IntKind->hv,Value->a4,FuncId->gh,Code->dS,World->bb,Oper->bU,Exit->cN
open List renaming append_nil->j3,nil_append->Qi,map_cons->gI,mem_cons_of_mem->BW,nodup_cons->oK,mem_map->lH
open Nat renaming ble->ev,beq->d',blt->fV,eq_of_beq_eq_true->kz,le_refl->b5,blt_eq->iu
open Option renaming some->D,none->aF
class fy(av:cj)(t:b3)(b:outParam Bool):Prop where h:∀w,(isAgg t).run av w=.ok b w
class gU(av:cj)(t:b3)(n:outParam Nat):Prop where h:∀w,(sizeOf t).run av w=.ok n w
class iw(av:cj)(t:b3)(u:outParam TypeDesc):Prop where h:∀w,(underlying t).run av w=.ok u w
class eA(av:cj)(S f:Nat)(o:outParam Nat):Prop where h:∀w a,(Instr.fieldAt S (.pointer (D a)) f).run av w=.ok (.pointer (D (a.add o))) w
class l4(av:cj)(b1:Nat)(pl:outParam (List (Nat×Nat)))(e':outParam (List a4)):Prop where h:∀(c:Array a4)(ps:List (Nat×a4))(w:bb),Instr.fill (λi=>pl[i]?) e'.toArray ps=D c->(Instr.build b1 ps.toArray).run av w=.ok (.agg c) w
class Yo(av:cj):Prop where h:av.follows .mixedOrders=ah
class j5(av:cj)(t:b3)(v:outParam a4):Prop where h:∀w,(zeroValue t).run av w=.ok v w
class tg{α:Type}(fa:α->V):Prop where
 h:∀z s,(fa z).dc s=fa z
 l:∀z k,(fa z).lt k=ah
theorem tg.w{α:Type}{fa:α->V} [c:tg fa]{z:α}{s:Nat->Nat}:fY (fa z) ((fa z).dc s):=by rw[c.h];exact .gp
class sc(av:cj)(bA:b3)(k:outParam Nat){α:outParam Type}(e:outParam (α->List P)):Prop where
 l:∀x,(e x).length=k
 o:∀x,(e x).all P.one=ah
class vF(av:cj)(b1:b3)(bA:outParam b3)(z:outParam a4)(k b:outParam Nat):Prop where
 u:av.underlying b1=D (.slice bA)
 i:(av.info? bA).map (λi=>(i.zero,i.size,i.bytes))=D (D z,k,b)
class fC{R:Type}(m:Option R)(av:cj)(f:outParam gh)(ds:outParam (List V))(Hc:outParam (List aG))(zt:outParam Nat)(fa:outParam (R->V))(iG:outParam (R->List aG)):Prop where h:∀ ⦃r:R⦄,m=D r->y4 av f ds Hc (fa r) (iG r)
class Jr{R:Type}(m:Option R)(av:cj)(ds:outParam (List V))(Hc:outParam (List aG))(fa:outParam (R->V))(iG:outParam (R->List aG)):Prop where h:∀ ⦃r:R⦄,m=D r->xj av 0 ds Hc (fa r) (iG r)
def aiw(k:hv)(a b:Int):BinOp->Option V
 |.add=>D (.p (.v (.int k (k.wrap (a+b)))))
 |.sub=>D (.p (.v (.int k (k.wrap (a-b)))))
 |.mul=>D (.p (.v (.int k (k.wrap (a*b)))))
 |.lss=>D (bs (decide (a<b)))
 |.leq=>D (bs (decide (a<=b)))
 |.gtr=>D (bs (decide (b<a)))
 |.geq=>D (bs (decide (b<=a)))
 |.eql=>D (bs (decide (a=b)))
 |.neq=>D (bs (!decide (a=b)))
 |.and=>D (.p (.v (.int k (q' k a b))))
 |.or=>D (.p (.v (.int k (I' k a b))))
 |.xor=>D (.p (.v (.int k (zj k a b))))
 |_=>aF
def aix(a b:ByteArray):BinOp->Option V
 |.eql=>D (bs (decide (a=b)))
 |.neq=>D (bs (!decide (a=b)))
 |_=>aF
def Yp(o:BinOp):V->V->Option V
 |.p (.v (.int k a)),.p (.v (.int cA b))=>if k=cA then aiw k a b o else aF
 |.p (.v (.string a)),.p (.v (.string b))=>aix a b o
 |_,_=>aF
def vG(x:Option V)(f:V->Option V):Option V:=match x with
 |some d=>f d
 |none=>aF
def Yq(l:bY):Op->Option V
 |.move x=>bO l x
 |.assign x=>bO l x
 |.nilCheck x=>vG (bO l x) λ| .aR i o=>D (.aR i o)|_=>aF
 |.extract x i=>vG (bO l x) λ| .cg ds=>ds[i]? |_=>aF
 |.pick c x y=>vG (bO l c) λ| .p (.v (.bool ah))=>bO l x| .p (.v (.bool aQ))=>bO l y|_=>aF
 |.unOp .not _ x=>vG (bO l x) λ| .p (.v (.bool b))=>D (bs (!b))|_=>aF
 |.unOp .neg _ x=>vG (bO l x) λ| .p (.v (.int k n))=>D (.p (.v (.int k (k.wrap (-n)))))|_=>aF
 |.unOp .xor _ x=>vG (bO l x) λ| .p (.v (.int .i64 n))=>D (.p (.v (.int .i64 (zj .i64 (-1) n))))|_=>aF
 |.binOp o _ x y _=>vG (bO l x) λa=>vG (bO l y) λb=>Yp o a b
 |_=>aF
variable {d:V}
theorem xq{x:Option V}{f:V->Option V}(h:vG x f=D d):∃a,x=D a/\f a=D d:=by
 cases x with
 |none=>cases h
 |some a=>exact⟨a,rfl,h⟩
variable {av:cj}{ty:b3}
theorem aiy {T:b3}{ρ:bM->Option V}{x:bM}{n:Int}(ar:ρ x=D (.p (.v (.int .i64 n)))):bE av (.unOp .xor T x) ty ρ [] [] (.p (.v (.int .i64 (zj .i64 (-1) n)))):=.plain λw e o a1 _ a8=>by have a5:=a8 x (by simp[Op.operands]) _ ar;unfold execOp;rw[a1];simp[a5,Op.unary,Op.intBits,zj,IntKind.signed,Sem.run_bind,Result.andThen]
theorem aiz{l:bY}{op:Op}(h:Yq l op=D d):bE av op ty (bO l) [] [] d:=by
 cases op with
 |move x=>exact VE h
 |assign x=>exact N5 h
 |nilCheck x=>
  obtain⟨a,h1,h2⟩:=xq h;cases a<;>cases h2
  exact H6 h1
 |extract x i=>obtain⟨a,h1,h2⟩:=xq h;cases a<;>first|exact ae6 h1 h2|cases h2
 |pick c x y=>
  obtain⟨a,h1,h2⟩:=xq h;cases a with
  |p a=>cases a with
   |v a=>cases a with
    |bool b=>cases b with
     |true=>exact aeW h1 h2
     |false=>exact aeX h1 h2
    |_=>cases h2
   |_=>cases h2
  |_=>cases h2
 |unOp o T x=>cases o with
  |not=>
   obtain⟨a,h1,h2⟩:=xq h;cases a with
   |p a=>cases a with
    |v a=>cases a<;>cases h2;exact ae5 h1
    |_=>cases h2
   |_=>cases h2
  |neg=>
   obtain⟨a,h1,h2⟩:=xq h;cases a with
   |p a=>cases a with
    |v a=>cases a<;>cases h2;exact agf h1
    |_=>cases h2
   |_=>cases h2
  |xor=>
   obtain⟨a,h1,h2⟩:=xq h;split at h2
   ·cases h2;exact aiy h1
   ·cases h2
  |_=>cases h
 |binOp o T x y b1=>
  obtain⟨a,h1,h2⟩:=xq h;obtain⟨b,aJ,bp⟩:=xq h2;unfold Yp at bp;split at bp
  ·split at bp
   ·next e=>
    subst e;cases o<;>cases bp
    all_goals first|exact afU h1 aJ|exact afV h1 aJ|exact afW h1 aJ|exact aeZ h1 aJ|exact ae0 h1 aJ|exact ae1 h1 aJ|exact ae2 h1 aJ|exact ae3 h1 aJ|exact ae4 h1 aJ|exact ahK h1 aJ|exact ahL h1 aJ|exact ahM h1 aJ
   ·cases bp
  ·cases o<;>cases bp
   all_goals first|exact af8 h1 aJ|exact af9 h1 aJ
  ·cases bp
 |_=>cases h
variable {U:Nat}{l:List Nat}
theorem BX:bQ (U::l) 0=U:=rfl
variable {aj:Nat}
theorem BY:bQ (U::aj::l) 1=aj:=rfl
variable {a6:Nat}
theorem BZ:bQ (U::aj::a6::l) 2=a6:=rfl
variable {dg:Nat}
theorem B0:bQ (U::aj::a6::dg::l) 3=dg:=rfl
variable {fS:Nat}
theorem B1:bQ (U::aj::a6::dg::fS::l) 4=fS:=rfl
variable {ja:Nat}
theorem B2:bQ (U::aj::a6::dg::fS::ja::l) 5=ja:=rfl
variable {iU:Nat}
theorem B3:bQ (U::aj::a6::dg::fS::ja::iU::l) 6=iU:=rfl
variable {ji:Nat}
theorem B4:bQ (U::aj::a6::dg::fS::ja::iU::ji::l) 7=ji:=rfl
variable {kV:Nat}
theorem B5:bQ (U::aj::a6::dg::fS::ja::iU::ji::kV::l) 8=kV:=rfl
variable {kH:Nat}
theorem B6:bQ (U::aj::a6::dg::fS::ja::iU::ji::kV::kH::l) 9=kH:=rfl
variable {my:Nat}
theorem B7:bQ (U::aj::a6::dg::fS::ja::iU::ji::kV::kH::my::l) 10=my:=rfl
variable {mz:Nat}
theorem B8:bQ (U::aj::a6::dg::fS::ja::iU::ji::kV::kH::my::mz::l) 11=mz:=rfl
variable {n':Nat}
theorem B9:bQ (U::aj::a6::dg::fS::ja::iU::ji::kV::kH::my::mz::n'::l) 12=n':=rfl
variable {pJ:Nat}
theorem B_:bQ (U::aj::a6::dg::fS::ja::iU::ji::kV::kH::my::mz::n'::pJ::l) 13=pJ:=rfl
variable {uy:Nat}
theorem B':bQ (U::aj::a6::dg::fS::ja::iU::ji::kV::kH::my::mz::n'::pJ::uy::l) 14=uy:=rfl
variable {Js:Nat}
theorem Ca:bQ (U::aj::a6::dg::fS::ja::iU::ji::kV::kH::my::mz::n'::pJ::uy::Js::l) 15=Js:=rfl
variable {Qj:Nat}
theorem Cb:bQ (U::aj::a6::dg::fS::ja::iU::ji::kV::kH::my::mz::n'::pJ::uy::Js::Qj::l) 16=Qj:=rfl
theorem Cc {Yr:Nat}:bQ (U::aj::a6::dg::fS::ja::iU::ji::kV::kH::my::mz::n'::pJ::uy::Js::Qj::Yr::l) 17=Yr:=rfl
inductive vH:List (Nat×aG)->List Nat->Prop
 |n:vH [] []
 |c {j:Nat} {o:aG} {l:List (Nat×aG)} {s:List Nat} (t:vH l s):vH ((j,o)::l) (j::s)
theorem vH.bN{l:List (Nat×aG)}{s:List Nat}(h:vH l s):l.map (·.1)=s:=by
 induction h with
 |n=>rfl
 |c t bB=>rw[gI,bB]
inductive pN:List (Nat×aG)->List (Nat×aG)->List (Nat×aG)->Prop
 |n {cV:List (Nat×aG)}:pN [] cV []
 |s {q:Nat×aG} {cE cV ww:List (Nat×aG)} (t:pN cE cV ww):pN (q::cE) (q::cV) ww
 |d {j:Nat} {o o':aG} {cE cV ww:List (Nat×aG)} (t:pN cE cV ww):pN ((j,o)::cE) ((j,o')::cV) ((j,o)::ww)
theorem pN.set{cE cV ww:List (Nat×aG)}(h:pN cE cV ww)(a_:(cV.map (·.1)).Nodup):∀H,fq H cV->dT H cE=dT H ww:=by
 induction h with
 |n=>exact λ_ _=>rfl
 |@s q cE cV ww t bB=>intro H aM;rw[gI,oK]at a_;rw[show dT H (q::cE)=dT (H.set q.1 q.2) cE from rfl,Yd (aM q List.mem_cons_self)];exact bB a_.2 H λp hp=>aM p (BW _ hp)
 |@d j o o' cE cV ww t bB=>intro H aM;rw[gI,oK]at a_;refine bB a_.2 (H.set j o) λp hp=>?_;rw[jG λe=>a_.1 (lH.2 ⟨p,hp,e⟩)];exact aM p (BW _ hp)
def gC(av:cj)(H:List aG)(op:Op)(ty:b3)(ρ:bM->Option V)(cV cE:List (Nat×aG))(d:V):Prop:=bE av op ty ρ cV cE d/\fq H cV
section
variable {Y : gj} {Q : cN -> Act -> bb -> Prop} {l : bY} {H : List aG} {R : Type} {m m' : Option R} {T : R -> Prop} {ops : Array bU} {os rest : List bU} {acc : List (List Nat × List Nat)} {dB : List mE} {t : Nat} {op : Op} {ty : b3} {pos : String} {cx : Array Edge} {eF : Option (Nat × Bool)} {dst : Option Tmp} {cV cE : List (Nat × aG)} {d : V} {α : Type} {x : Option α} {f : α -> Option R} {rr ww : α -> List (Nat × aG)} {dd : α -> V}
theorem bI.o(h:gC Y.X.P H op ty (bO l) cV [] d)(az:fV t Y.X.N=ah)(k:bI Y ops Q rest ((t,d)::l) H m T):bI Y ops Q ({dst:=D t,op:=op,type:=ty,pos:=pos,after:=cx,guard:=aF}::rest) l H m T:=.aC (dst:=D t) h.1 h.2 az k
variable {H2:List aG}
theorem bI.w(h:gC Y.X.P H op ty (bO l) cV cE d)(az:kT Y.X.N dst=ah)(a_:dT H cE=H2)(k:bI Y ops Q rest (gn dst d l) H2 m T):bI Y ops Q ({dst:=dst,op:=op,type:=ty,pos:=pos,after:=cx,guard:=aF}::rest) l H m T:=.aC h.1 h.2 az (a_▸k)
theorem bI.a(h:∀z,x=D z->gC Y.X.P H op ty (bO l) cV [] (dd z))(az:fV t Y.X.N=ah)(k:∀z,bI Y ops Q rest ((t,dd z)::l) H (f z) T):bI Y ops Q ({dst:=D t,op:=op,type:=ty,pos:=pos,after:=cx,guard:=aF}::rest) l H (x.bind f) T:=λe=>by obtain⟨z,h1,h2⟩:=e.bind;exact eo.aC (dst:=D t) (h z h1).1 (h z h1).2 az (k z h2)
theorem bI.sd(h:∀z,x=D z->gC Y.X.P H op ty (bO l) (rr z) (ww z) (dd z))(az:kT Y.X.N dst=ah)(k:∀z d H2 m',dd z=d->dT H (ww z)=H2->f z=m'->bI Y ops Q rest (gn dst d l) H2 m' T):bI Y ops Q ({dst:=dst,op:=op,type:=ty,pos:=pos,after:=cx,guard:=aF}::rest) l H (x.bind f) T:=λe=>by obtain⟨z,h1,h2⟩:=e.bind;exact eo.aC (h z h1).1 (h z h1).2 az (k z _ _ _ rfl rfl rfl h2)
theorem cW.o(h:gC Y.X.P H op ty (bO l) cV [] d)(b2:iY os l eF)(k:cW dB Y Q os rest ((t,d)::l) H (acc++[(cV.map (·.1),[])]) m T):cW dB Y Q os ({dst:=D t,op:=op,type:=ty,pos:=pos,after:=cx,guard:=eF}::rest) l H acc m T:=λe=>hZ.mw (dst:=D t) h.1 h.2 b2 (k e)
theorem cW.w(h:gC Y.X.P H op ty (bO l) cV cE d)(b2:iY os l eF)(au:tf cE dB)(a_:dT H cE=H2)(k:cW dB Y Q os rest (gn dst d l) H2 (acc++[(cV.map (·.1),cE.map (·.1))]) m T):cW dB Y Q os ({dst:=dst,op:=op,type:=ty,pos:=pos,after:=cx,guard:=eF}::rest) l H acc m T:=λe=>hZ.zq h.1 h.2 au b2 (a_▸k e)
theorem cW.a(h:∀z,x=D z->gC Y.X.P H op ty (bO l) cV [] (dd z))(b2:iY os l eF)(k:∀z,cW dB Y Q os rest ((t,dd z)::l) H (acc++[(cV.map (·.1),[])]) (f z) T):cW dB Y Q os ({dst:=D t,op:=op,type:=ty,pos:=pos,after:=cx,guard:=eF}::rest) l H acc (x.bind f) T:=λe=>by obtain⟨z,h1,h2⟩:=e.bind;exact hZ.mw (dst:=D t) (h z h1).1 (h z h1).2 b2 (k z h2)
theorem cW.sd{jV:List Nat}{ws:α->List Nat}(h:∀z,x=D z->gC Y.X.P H op ty (bO l) (rr z) (ww z) (dd z))(yV:∀z,vH (rr z) jV)(aiA:∀z,vH (ww z) (ws z))(b2:iY os l eF)(au:∀z,tf (ww z) dB)(k:∀z d H2 m',dd z=d->dT H (ww z)=H2->f z=m'->cW dB Y Q os rest (gn dst d l) H2 (acc++[(jV,ws z)]) m' T):cW dB Y Q os ({dst:=dst,op:=op,type:=ty,pos:=pos,after:=cx,guard:=eF}::rest) l H acc (x.bind f) T:=λe=>by obtain⟨z,h1,h2⟩:=e.bind;have:=k z _ _ _ rfl rfl rfl h2;rw[<-(yV z).bN,<-(aiA z).bN]at this;exact hZ.zq (h z h1).1 (h z h1).2 (au z) b2 this
theorem cW.aC(h:bE Y.X.P op ty (bO l) cV cE d)(dY:fq H cV)(b2:iY os l eF)(k:cW dB Y Q os rest (gn dst d l) (dT H cE) (acc++[(cV.map (·.1),cE.map (·.1))]) m T)(au:tf cE dB:=by trivial):cW dB Y Q os ({dst:=dst,op:=op,type:=ty,pos:=pos,after:=cx,guard:=eF}::rest) l H acc m T:=λe=>hZ.zq h dY au b2 (k e)
theorem cW.q(h:bE Y.X.P op ty (bO l) [] [] d)(b2:iY os l eF)(k:cW dB Y Q os rest ((t,d)::l) H (acc++[([],[])]) m T):cW dB Y Q os ({dst:=D t,op:=op,type:=ty,pos:=pos,after:=cx,guard:=eF}::rest) l H acc m T:=λe=>hZ.mw (dst:=D t) h e6 b2 (k e)
theorem cW.oS(h:∀z,x=D z->bE Y.X.P op ty (bO l) (rr z) (ww z) (dd z))(dY:∀z,fq H (rr z))(b2:iY os l eF)(k:∀z,cW dB Y Q os rest (gn dst (dd z) l) (dT H (ww z)) (acc++[((rr z).map (·.1),(ww z).map (·.1))]) (f z) T)(au:∀z,tf (ww z) dB:=by exact λ_=>trivial):cW dB Y Q os ({dst:=dst,op:=op,type:=ty,pos:=pos,after:=cx,guard:=eF}::rest) l H acc (x.bind f) T:=λe=>by obtain⟨z,h1,h2⟩:=e.bind;exact hZ.zq (h z h1) (dY z) (au z) b2 (k z h2)
theorem cW.mk{β:Type}{b1 bA bytes:Nat}{mx:a4}{y:bM}{K:hv}{n:Int}{f:List β->Option R}(i:Nat)(c:β->P)(er:β)(ai:Y.X.P.underlying b1=D (.slice bA))(fJ:(Y.X.P.info? bA).map (λi=>(i.zero,i.size,i.bytes))=D (D mx,1,bytes))(bj:mx.cells=#[mx])(ar:bO l y=D (.p (.v (.int K n))))(aB:ev bytes 128=ah)(bw:∀E w,hL E w (c er) mx)(ao:H[i]? =D .bW)(b2:iY os l eF)(k:∀z:List β,cW [] Y Q os rest ((t,.dX i 0 z.length z.length)::l) (H.set i (.bu bA (z.map c))) (acc++[([i],[i])]) (f z) T):cW [] Y Q os ({dst:=D t,op:=.makeSlice b1 y y,type:=ty,pos:=pos,after:=cx,guard:=eF}::rest) l H acc ((Go.Dp.mk n er).bind f) T:=λc9=>by obtain⟨z,h1,h2⟩:=c9.bind;exact hZ.zq (dst:=D t) (WK (i:=i) ai fJ bj ar aB h1 bw) (da ao) trivial b2 (k _ h2)
theorem cW.bH{β:Type}{b1 bA k n:Nat}{z:a4}{parts:List (Nat×bM)}{ds:List V}(xs:List β)(e:β->List P)(ai:∀w,(underlying b1).run Y.X.P w=.ok (.slice bA) w)(au:∀w,(sizeOf bA).run Y.X.P w=.ok k w)(bj:∀w,(zeroValue bA).run Y.X.P w=.ok z w)(ar:lW l (parts.map (·.2))=D ds)(lJ:parts=(parts.map (·.2)).zipIdx.map (λp=>(p.2,p.1)))(a1:(ds.all λd=>d.cells.all V.one&&d' d.cells.length k)=ah)(e9:ds.flatMap V.cells=(xs.flatMap e).map .p)(a_:ds.length=xs.length)(ld:xs.length=n)(hle:ev (xs.length*k) 16777216=ah)(b2:iY os l eF)(cJ:cW dB Y Q os rest ((t,bT k e xs)::l) H (acc++[([],[])]) m T):cW dB Y Q os ({dst:=D t,op:=.buildSlice b1 n parts.toArray,type:=ty,pos:=pos,after:=cx,guard:=eF}::rest) l H acc m T:=.q (OU xs e ai au bj ar lJ a1 e9 a_ ld hle) b2 cJ
theorem cW.OT{b:Bool}{m':Option R}(d:Nat)(aB:cR l d=D (bs b))(ai:cW dB Y Q os rest ((d,bs ah)::l) H acc m T)(a8:cW dB Y Q os rest ((d,bs aQ)::l) H acc m' T):cW dB Y Q os rest l H acc (if b=ah then m else m') T:=λe=>by
 have ar:∀{c:Bool},b=c->∀t,cR ((d,bs c)::l) t=cR l t:=λq t=>by
  subst q;simp only[cR];cases aP:d' d t with
  |true=>have:=kz aP;subst this;exact aB.symm
  |false=>rfl
 have ext:∀{l':bY},(∀t,cR l' t=cR l t)->hZ dB Y Q os rest l' H acc->hZ dB Y Q os rest l H acc:=λ{l'} h k=>by obtain⟨ms,h1,h2,cy,aJ,bp⟩:=k;exact⟨ms,h1.ext h,h2,cy,aJ,eU.sub (λt d az=>⟨d,by rw[<-OW 0 rest ms l' l h];exact az,.gp⟩) bp⟩
 rcases e.bC with⟨q,e⟩|⟨q,e⟩
 ·exact ext (ar q) (ai e)
 ·exact ext (ar q) (a8 e)
theorem cW.br{j db:Nat}{want:Bool}(ae:(os[j]?).bind (·.dst)=D db)(aB:cR l db=D (bs (!want)))(k:cW dB Y Q os rest (gn dst (.p (.v undef)) l) H (acc++[([],[])]) m T):
  cW dB Y Q os ({dst:=dst,op:=op,type:=ty,pos:=pos,after:=cx,guard:=D (j,want)}::rest) l H acc m T:=λe=>hZ.cons (m:=ft.br) (.off rfl ae aB rfl) e6 ⟨.inl rfl,Fo⟩ (k e)
theorem cW.EJ{j db:Nat}{want:Bool}(ae:(os[j]?).bind (·.dst)=D db)(aB:cR l db=D (.p (.v undef)))(k:cW dB Y Q os rest (gn dst (.p (.v undef)) l) H (acc++[([],[])]) m T):
  cW dB Y Q os ({dst:=dst,op:=op,type:=ty,pos:=pos,after:=cx,guard:=D (j,want)}::rest) l H acc m T:=λe=>hZ.cons (m:=ft.br) (.Bo rfl ae aB rfl) e6 ⟨.inl rfl,Fo⟩ (k e)
theorem cW.as(h:m=m')(k:cW dB Y Q os rest l H acc m' T):cW dB Y Q os rest l H acc m T:=h▸k
end
section
variable {av : cj} {H : List aG} {l : bY} {ty : b3}
variable {d:V}{op:Op}
theorem gC.p{ρ:bM->Option V}(h:bE av op ty ρ [] [] d):gC av H op ty ρ [] [] d:=⟨h,e6⟩
theorem aiB(h:Yq l op=D d):gC av H op ty (bO l) [] [] d:=.p (aiz h)
variable {dF b1:Nat}{cs:List V}{i off:Nat}{x:bM}
theorem aiC [h:fy av b1 aQ](ar:bO l x=D (.aR i off))(ao:H[i]? =D (.cells dF cs))(aP:cs[off]? =D d):gC av H (.load b1 x) ty (bO l) [(i,.cells dF cs)] [] d:=⟨Ob h.h ar aP,da ao⟩
theorem aiD {n:Nat} [h:fy av b1 ah] [k:gU av b1 n](ar:bO l x=D (.aR i off))(ao:H[i]? =D (.cells dF cs))(aK:ev (off+n) cs.length=ah):gC av H (.load b1 x) ty (bO l) [(i,.cells dF cs)] [] (.agg ((cs.drop off).take n)):=⟨VV h.h k.h ar aK,da ao⟩
variable {α:Type}{xs:List α}
theorem aiE{c:α->P}{q:{q:Nat×α // xs[q.1]? =D q.2}} [h:fy av b1 aQ](ar:bO l x=D (.aR i q.1.1))(ao:H[i]? =D (.bu dF (xs.map c))):gC av H (.load b1 x) ty (bO l) [(i,.bu dF (xs.map c))] [] (.p (c q.1.2)):=⟨agt q h.h ar,da ao⟩
variable {y:bM}
theorem aiF {n:Nat} [h:gU av b1 n](ar:bO l x=D (.aR i off))(bh:bO l y=D d)(ao:H[i]? =D (.cells dF cs))(h1:d.cells.all V.one=ah)(qd:d.cells.length=n)(hle:ev (off+n) cs.length=ah):gC av H (.store b1 x y) ty (bO l) [(i,.cells dF cs)] [(i,.cells dF (oL cs off d.cells))] (.p (.v undef)):=⟨yT h.h ar bh h1 qd hle,da ao⟩
theorem aiG{c:α->P}{v:α}{q:{q:Nat×α // xs[q.1]? =D q.2}} [h:gU av b1 1](ar:bO l x=D (.aR i q.1.1))(ao:H[i]? =D (.bu dF (xs.map c)))(bh:bO l y=D (.p (c v)))(h1:(c v).one=ah):gC av H (.store b1 x y) ty (bO l) [(i,.bu dF (xs.map c))] [(i,.bu dF ((xs.set q.1.1 v).map c))] (.p (.v undef)):=⟨agu q h.h ar bh h1,da ao⟩
theorem pO{G:Prop}(h:G:=by(repeat first|exact .gp|exact tg.w|exact .IA|exact .nil|exact .n|refine .agg ?_ |refine .c ?_ ?_);all_goals fail):G:=h
theorem dd{H:List aG}(i:Nat)(h:H[i]? =D .bW):H[i]? =D .bW:=h
theorem Jt{G:Prop}(h:G:=by first|exact dd 0 rfl|exact dd 1 rfl|exact dd 2 rfl|exact dd 3 rfl|exact dd 4 rfl|exact dd 5 rfl|exact dd 6 rfl|exact dd 7 rfl|exact dd 8 rfl|exact dd 9 rfl|exact dd 10 rfl|exact dd 11 rfl|exact dd 12 rfl|exact dd 13 rfl|exact dd 14 rfl|exact dd 15 rfl|exact dd 16 rfl|exact dd 17 rfl|exact dd 18 rfl|exact dd 19 rfl|exact dd 20 rfl|exact dd 21 rfl|exact dd 22 rfl|exact dd 23 rfl|exact dd 24 rfl|exact dd 25 rfl|exact dd 26 rfl|exact dd 27 rfl|exact dd 28 rfl|exact dd 29 rfl):G:=h
theorem aiH(ar:bO l x=D d:=by rfl)(h1:d.cells.all V.one=ah:=by rfl)(ao:H[i]? =D .bW:=by exact Jt):gC av H (.box b1 x) ty (bO l) [(i,.bW)] [(i,.cells b1 d.cells)] (.aR i 0):=⟨afc ar h1,da ao⟩
theorem aiI{v:a4}{vs:List a4} [h:j5 av b1 v](oN:v.cells=vs.toArray:=by rfl)(ao:H[i]? =D .bW:=by exact Jt):gC av H (.alloc b1) ty (bO l) [(i,.bW)] [(i,.cells b1 (vs.map λu=>.p (.v u)))] (.aR i 0):=⟨afd h.h oN,da ao⟩
inductive k1 {α:Type}:List α->Nat->List Nat->Prop
 |n {k:Nat}:k1 [] k []
 |c {k:Nat} {o:α} {t:List α} {s:List Nat} (h:k1 t (k+1) s):k1 (o::t) k (k::s)
variable {ds:List V}{e:α->List P}{bA:Nat}{parts:List (Nat×bM)}{z:a4}
theorem vI {k n:Nat} [ai:iw av b1 (.slice bA)] [sc av bA k e] [au:gU av bA k] [bj:j5 av bA z](ld:xs.length=n:=by rfl)(ar:lW l (parts.map (·.2))=D ds:=by rfl)(e9:ds.flatMap V.cells=(xs.flatMap e).map .p:=by rfl)(lJ:parts=(parts.map (·.2)).zipIdx.map (λp=>(p.2,p.1)):=by rfl)(a1:(ds.all λd=>d.cells.all V.one&&d' d.cells.length k)=ah:=by rfl)(a_:ds.length=xs.length:=by rfl)(hle:ev (xs.length*k) 16777216=ah:=by rfl):gC av H (.buildSlice b1 n parts.toArray) ty (bO l) [] [] (bT k e xs):=.p (OU xs e ai.h au.h bj.h ar lJ a1 e9 a_ ld hle)
theorem th {k n:Nat} [ai:iw av b1 (.slice bA)] [sc av bA k e] [au:gU av bA k] [bj:j5 av bA z](ld:xs.length=n:=by rfl)(ar:lW l (parts.map (·.2))=D ds:=by rfl)(e9:ds.flatMap V.cells=(xs.flatMap e).map .p:=by rfl)(ao:H[i]? =D .bW:=by exact Jt)(lJ:parts=(parts.map (·.2)).zipIdx.map (λp=>(p.2,p.1)):=by rfl)(a1:(ds.all λd=>d.cells.all V.one&&d' d.cells.length k)=ah:=by rfl)(a_:ds.length=xs.length:=by rfl)(hle:ev (xs.length*k) 16777216=ah:=by rfl)(hm:ev xs.length 16777216=ah:=by rfl):gC av H (.buildSlice b1 n parts.toArray) ty (bO l) [(i,.bW)] [(i,.bl bA k 0)] (cT k e xs i 0):=⟨Wr xs e ai.h au.h bj.h ar lJ a1 e9 a_ ld hle hm,da ao⟩
variable {S f:Nat}
theorem aiJ {o:Nat} [h:eA av S f off](ar:bO l x=D (.aR i o)):gC av H (.fieldAddr S x f) ty (bO l) [] [] (.aR i (o+off)):=.p (VR h.h ar)
theorem aiK{cs:List P} [h:eA av S f off](ar:bO l x=D (.bA cs))(aK:ev off cs.length=ah):gC av H (.fieldAddr S x f) ty (bO l) [] [] (.bA (cs.drop off)):=.p (VS h.h ar aK)
theorem aiL{T:b3}{cs:List P}{c:P} [h:fy av T aQ](ar:bO l x=D (.bA cs))(aP:cs[0]? =D c):gC av H (.load T x) ty (bO l) [] [] (.p c):=.p (VT h.h ar aP)
variable {T:Nat}
theorem aiM {n:Nat}{cs:List P} [h:fy av T ah] [k:gU av T n](ar:bO l x=D (.bA cs))(aK:ev n cs.length=ah):gC av H (.load T x) ty (bO l) [] [] (.agg ((cs.take n).map .p)):=.p (afb h.h k.h ar aK)
variable {E:Nat}
theorem aiN {k:Nat} [h:iw av T (.slice E)](ar:bO l x=D d)(aV:V.lZ k e d xs):gC av H (.call {callee:=.builtin .len,args:=#[x],argTypes:=#[T]}) ty (bO l) [] [] (aI xs.length):=.p (afK h.h ar aV)
theorem aiO{T:b3}{s:ByteArray} [h:iw av T .string](ar:bO l x=D (cG s)):gC av H (.call {callee:=.builtin .len,args:=#[x],argTypes:=#[T]}) ty (bO l) [] [] (aI s.size):=.p (agb h.h ar)
theorem aiP {n cap:Nat} [h:iw av T (.slice E)](ar:bO l x=D (.dX i off n cap)):gC av H (.call {callee:=.builtin .len,args:=#[x],argTypes:=#[T]}) ty (bO l) [] [] (aI n):=.p (agv h.h ar)
theorem aiQ [h:iw av T (.slice E)](ar:bO l x=D (.p (.v (.slice aF 0 0)))):gC av H (.call {callee:=.builtin .len,args:=#[x],argTypes:=#[T]}) ty (bO l) [] [] (aI 0):=.p (ahU h.h ar)
variable {b:Int}
theorem aiR{tys:Array b3}{k:hv} {a:Int}(ar:bO l x=D (.p (.v (.int k a))))(bh:bO l y=D (.p (.v (.int k b)))):gC av H (.call {callee:=.builtin .max,args:=#[x,y],argTypes:=tys}) ty (bO l) [] [] (.p (.v (.int k (fR a b)))):=.p (agn ar bh)
theorem aiS{tys:Array b3}{k:hv} {a:Int}(ar:bO l x=D (.p (.v (.int k a))))(bh:bO l y=D (.p (.v (.int k b)))):gC av H (.call {callee:=.builtin .min,args:=#[x,y],argTypes:=tys}) ty (bO l) [] [] (.p (.v (.int k (ih a b)))):=.p (ago ar bh)
theorem aiT{pl:List (Nat×Nat)}{e':List a4}{dk:List V} [h:l4 av T pl e'](ar:lW l (parts.map (·.2))=D ds)(a1:(((parts.map (·.1)).zip ds).all λq=>q.2.cells.all V.one)=ah)(a8:Bl pl (e'.map λv=>.p (.v v)) ((parts.map (·.1)).zip ds)=D dk):gC av H (.build T parts.toArray) ty (bO l) [] [] (.agg dk):=.p (afp h.h (BA ar) a1 a8)
theorem Ys{T:b3}{cs:List P}(ar:bO l x=D d)(aP:d.cells=cs.map .p)(h1:cs.all P.one=ah):gC av H (.box T x) ty (bO l) [] [] (.bA cs):=.p (afZ ar aP h1)
theorem aiU{S T:b3}{k cA:hv}{n:Int} [eT:iw av S (.int k)] [cc:iw av T (.int cA)](ar:bO l x=D (.p (.v (.int k n)))):gC av H (.convert S T x) ty (bO l) [] [] (.p (.v (.int cA (cA.wrap n)))):=.p (afY eT.h cc.h ar)
theorem aiV{g:gh}{cI cap:List bM} {bH:List V}(aB:lW l cI=D bH)(aP:lW l cap=D cs):gC av H (.makeFunc (.func g) cI.toArray cap.toArray) ty (bO l) [] [] (.fn (.func g) bH cs):=.p (afq (BA aB) (BA aP))
def pP:List a4:=(List.range 256).map λi=>.int .u8 (cond (d' i 32||(ev 9 i&&ev i 13)) 1 0)
class Yt(q:Nat):Prop where h:(q,pP)∈yP
def Cd(j:Int):Option Int:=if 0<=j/\j< 256 then D (cond (d' j.toNat 32||(ev 9 j.toNat&&ev j.toNat 13)) 1 0)else aF
theorem aiW {q:Nat}{K:hv}{j:Int} [iD:Yt q] [cc:iw av T (.array 256 E)] [aS:gU av E 1](bh:bO l y=D (.p (.v (.int K j)))):∀z,Cd j=D z->gC av H (.indexAddr T (.global q) y) ty (bO l) [] [] (.bA [.v (.int .u8 z)]):=λz bj=>.p (.pure λg w H e o aE _ aM h=>by
 unfold Cd at bj;split at bj
 ·next aB=>
  cases bj;obtain⟨ef,eM,gS⟩:=aM.mT (q,pP) iD.h;have a5:=(h (.global q) (by simp[Op.operands]) _ rfl).g4;have bk:=(h y (by simp[Op.operands]) _ bh).g4;have aK:pP.length=256:=by unfold pP;simp
  have eM:pP.length<=g.E q:=eM;refine⟨.pointer (D ⟨q,j.toNat,aF⟩),?_,H9 (us:=[.int .u8 (cond (d' j.toNat 32||(ev 9 j.toNat&&ev j.toNat 13)) 1 0)]) ⟨rfl,λi c u h1 h2=>?_⟩ (by simp;omega) ef λi u ao=>?_⟩
  ·unfold execOp;rw[aE];simp[a5,bk,Instr.indexAt,Instr.sureAddr,asIntOf,cc.h,aS.h,Sem.run_bind,Result.andThen,aB,qb]
  ·rcases i with _|i
   ·cases h1;cases h2;exact .v
   ·simp at h1
  ·rcases i with _|i
   ·refine gS j.toNat u ?_;rw[show u=_ from(Option.some.inj ao).symm];show pP[j.toNat]? =_;unfold pP;rw[List.getElem?_map,List.getElem?_range (by omega)];rfl
   ·simp at ao
 ·cases bj)
section
variable {α : Type} {T E k : Nat} {e : α -> List P} {x y : bM} {K : hv} {j a b : Int} {d : V} {xs : List α} {s : ByteArray} {lo ao : Option bM}
theorem aiX [cc:iw av T (.slice E)] [aS:gU av E k](ar:bO l x=D d)(aV:V.lZ k e d xs)(bh:bO l y=D (.p (.v (.int K j))))(au:∀x,(e x).length=k):∀z,aL xs j=D z->gC av H (.indexAddr T x y) ty (bO l) [] [] (.bA (e z)):=λ_ h=>.p (Iy cc.h aS.h ar bh aV au (w3 h).1 (w3 h).2)
theorem aiY{i n cap:Nat} [cc:iw av T (.slice E)] [aS:gU av E 1](ar:bO l x=D (.dX i 0 n cap))(bh:bO l y=D (.p (.v (.int K j)))):∀z,fK n xs j=D z->gC av H (.indexAddr T x y) ty (bO l) [] [] (.aR i z.1.1):=λ_ h=>.p (agq cc.h aS.h ar bh h)
theorem aiZ [cc:iw av T .string](ar:bO l x=D (cG s))(bh:bO l y=D (.p (.v (.int K j)))):∀z,gB s j=D z->gC av H (.index T x y) ty (bO l) [] [] (fw z):=λ_ h=>.p (agc cc.h ar bh h)
theorem ai0{b1:b3}{c:ByteArray}(ar:bO l x=D (cG s))(bh:bO l y=D (cG c)):∀z,nr s c=D z->gC av H (.binOp .add T x y b1) ty (bO l) [] [] (cG z):=λ_ h=>by obtain⟨aJ,rfl⟩:=af4 h;exact .p (aga ar bh aJ)
theorem ai1{b1:b3}(ar:bO l x=D (.p (.v (.int K a))))(bh:bO l y=D (.p (.v (.int K b)))):∀z,uq a b=D z->gC av H (.binOp .quo T x y b1) ty (bO l) [] [] (.p (.v (.int K (K.wrap z)))):=λ_ h=>by obtain⟨aJ,rfl⟩:=afS h;exact .p (afX ar bh aJ)
theorem ai2{b1:b3}(ar:bO l x=D (.p (.v (.int K a))))(bh:bO l y=D (.p (.v (.int K b)))):∀z,ur a b=D z->gC av H (.binOp .rem T x y b1) ty (bO l) [] [] (.p (.v (.int K z))):=λ_ h=>by obtain⟨aJ,rfl⟩:=afT h;exact .p (aeY ar bh aJ)
inductive xr (l:bY) (d:Int):Option bM->Int->Prop
 |n:xr l d aF d
 |s {y:bM} {K:hv} {a:Int} (h:bO l y=D (.p (.v (.int K a)))):xr l d (D y) a
theorem xr.h1{o:Option bM}{dd:Int}(h:xr l dd o a):(∀y,o=D y->∃K,bO l y=D (.p (.v (.int K a))))/\(o=aF->a=dd):=by
 cases h with
 |n=>exact⟨λ_ h=>(by cases h),λ_=>rfl⟩
 |s h=>exact⟨λ_ e=>(by cases e;exact⟨_,h⟩),λe=>(by cases e)⟩
theorem ai3 [cc:iw av T .string](ar:bO l x=D (cG s))(h1:xr l 0 lo a)(h2:xr l s.size ao b):∀z,hg s a b=D z->gC av H (.slice T x lo ao aF) ty (bO l) [] [] (cG z):=λ_ h=>.p (agd cc.h ar h1.h1.1 h1.h1.2 h2.h1.1 h2.h1.2 h)
theorem ai4 [cc:iw av T (.slice E)] [aS:gU av E k](ar:bO l x=D d)(aV:V.lZ k e d xs)(h1:xr l 0 lo a)(h2:xr l xs.length ao b)(au:∀x,(e x).length=k):∀z,hG xs a b=D z->gC av H (.slice T x lo ao aF) ty (bO l) [] [] (bT k e z):=λ_ h=>.p (O0 (q:=0) cc.h aS.h ar aV au h1.h1.1 h1.h1.2 h2.h1.1 (λq=>⟨h2.h1.2 q,rfl⟩) (λy bh=>by cases bh) (λq=>absurd rfl q) h)
theorem ai5{c:Int}{mX:hv}{h m:bM} [cc:iw av T (.slice E)] [aS:gU av E k](ar:bO l x=D d)(aV:V.lZ k e d xs)(fG:bO l h=D (.p (.v (.int K b))))(hm:bO l m=D (.p (.v (.int mX c))))(au:∀x,(e x).length=k):∀z,uv xs 0 b c=D z->gC av H (.slice T x aF (D h) (D m)) ty (bO l) [] [] (bT k e z):=λ_ h1=>.p (O0 cc.h aS.h ar aV au (λy bh=>by cases bh) (λ_=>rfl) (λy bh=>by cases bh;exact⟨_,fG⟩) (λq=>by cases q) (λy bh=>by cases bh;exact⟨_,hm⟩) (λ_=>(IG h1).1) (IG h1).2)
theorem ai6{b1 bA vu i v:Nat}{mx:a4}{cX:List α} [h:vF av b1 bA mx k vu](aV:bO l x=D (cT k e xs i v):=by rfl)(ar:bO l y=D d:=by rfl)(y9:V.lZ k e d cX:=by(first|exact qf|exact By))(ao:H[i]? =D (.bl bA k v):=by rfl)(a1:∀y,(e y).all P.one=ah:=by(first|exact λ_=>rfl|exact sc.o))(bj:mx.cells.size=k:=by rfl)(au:fV 0 k=ah:=by rfl)(aB:ev vu 128=ah:=by rfl):∀z,eR xs cX=D z->gC av H (.call {callee:=.builtin .append,args:=#[x,y],argTypes:=#[b1,b1]}) b1 (bO l) [(i,.bl bA k v)] [(i,.bl bA k (v+1))] (cT k e z i (v+1)):=λz fG=>by obtain⟨aJ,rfl⟩:=ID fG;exact⟨Iz h.u h.i bj (by simpa[iu]using au) aV ar y9 a1 (by omega) (IE aJ aB),da ao⟩
theorem ai7{b1 bA vu i:Nat}{mx:a4}{cX:List α} [h:vF av b1 bA mx k vu](aV:bO l x=D (.p (.v (.slice aF 0 0))):=by rfl)(ar:bO l y=D d:=by rfl)(y9:V.lZ k e d cX:=by(first|exact qf|exact By))(ao:H[i]? =D .bW:=by exact Jt)(a1:∀y,(e y).all P.one=ah:=by(first|exact λ_=>rfl|exact sc.o))(bj:mx.cells.size=k:=by rfl)(au:fV 0 k=ah:=by rfl)(aB:ev vu 128=ah:=by rfl):∀z,eR [] cX=D z->gC av H (.call {callee:=.builtin .append,args:=#[x,y],argTypes:=#[b1,b1]}) b1 (bO l) [(i,.bW)] [(i,.bl bA k 1)] (cT k e z i 1):=λz fG=>by obtain⟨aJ,rfl⟩:=ID fG;exact⟨agl h.u h.i bj (by simpa[iu]using au) aV ar y9 a1 (by simpa using aJ) aB,da ao⟩
end
inductive kI (ρ:bM->Option V):List V->List bM->List V->List V->Prop
 |n:kI ρ [] [] [] []
 |b {d:V} {cI en dJ:List V} {args:List bM} (t:kI ρ cI args en dJ):kI ρ (d::cI) args en (d::dJ)
 |a {x:bM} {d cQ:V} {en dJ:List V} {args:List bM} (h:ρ x=D d) (w:fY d cQ) (t:kI ρ [] args en dJ):kI ρ [] (x::args) en (cQ::dJ)
 |c {d:V} {en dJ:List V} (t:kI ρ [] [] en dJ):kI ρ [] [] (d::en) (d::dJ)
theorem kI.sd{ρ:bM->Option V}{cI en dJ:List V}{args:List bM}(h:kI ρ cI args en dJ):∃s3,l1 ρ args s3/\cI++s3++en=dJ:=by
 induction h with
 |n=>exact⟨[],.n,rfl⟩
 |b t bB=>obtain⟨s3,h1,h2⟩:=bB;exact⟨s3,h1,by rw[<-h2];rfl⟩
 |a h w t bB=>obtain⟨s3,h1,h2⟩:=bB;exact⟨_,.c h w h1,by rw[<-h2];rfl⟩
 |c t bB=>obtain⟨s3,h1,h2⟩:=bB;cases h1;exact⟨[],.n,by rw[<-h2];rfl⟩
def Qk(l:bY)(y:bM)(g:gh)(cI en:List V):Prop:=(y=.func g/\cI=[]/\en=[])\/bO l y=D (.fn (.func g) cI en)\/(bO l y=D (.p (.v (.func (.func g) #[] #[])))/\cI=[]/\en=[])
theorem bE.k{g:gh}{y:bM}{cI en ds:List V}{args:List bM}{tys:Array b3}{Hc dZ:List aG}{aU fr:List Nat}{r:V}(b2:Qk l y g cI en)(aP:y4 av g ds Hc r dZ)(a8:∀args w,(callFunc g args).run av w=.ok (.enter g args) w)(a9:kI (bO l) cI args en (gb (bQ aU) ds))(eE:pE Hc dZ ds aU fr):
  bE av (.call {callee:=.value y,args:=args.toArray,argTypes:=tys}) ty (bO l) (ek (bQ aU) aU Hc++fr.map λj=>(j,.bW)) (ek (bQ (aU++fr)) (aU++fr) dZ) (r.dc (bQ (aU++fr))):=by
 obtain⟨s3,h1,h2⟩:=a9.sd;rcases b2 with⟨rfl,rfl,rfl⟩|b2|⟨b2,rfl,rfl⟩
 ·rw[Qi,j3]at h2;exact bE.WF aP a8 rfl (h2▸h1) eE
 ·exact bE.WG aP a8 b2 h1 h2 eE
 ·rw[Qi,j3]at h2;exact bE.II aP a8 b2 (h2▸h1) eE
def hH(H:List aG)(_:Nat)(n:Nat)(fr:List Nat):Prop:=fr.length=n/\∀j∈fr,H[j]? =D .bW
theorem hH.n{lo:Nat}:hH H lo 0 []:=⟨rfl,λ_ h=>by cases h⟩
theorem hH.c{lo n:Nat}{fr:List Nat}(j:Nat)(_:ev lo j=ah)(h:H[j]? =D .bW)(k:hH H (j+1) n fr):hH H lo (n+1) (j::fr):=⟨by rw[List.length_cons,k.1],λi ao=>by
 rcases List.mem_cons.1 ao with rfl|ao
 ·exact h
 ·exact k.2 i ao⟩
theorem hH.cV{lo n:Nat}{fr:List Nat}{cV:List (Nat×aG)}(h:hH H lo n fr)(aM:fq H cV):fq H (cV++fr.map λj=>(j,.bW)):=λq aE=>by
 rcases List.mem_append.1 aE with aE|aE
 ·exact aM q aE
 ·obtain⟨j,ae,rfl⟩:=lH.1 aE;exact h.2 j ae
section
variable {α : Type} {x : Option α} {g : gh} {y : bM} {cI en ds : List V} {args : List bM} {tys : Array b3} {Hc : List aG} {zt : Nat} {fa : α -> V} {iG : α -> List aG} {aU fr : List Nat}
theorem ai8 [c:fC x av g ds [] 0 fa λ_=>[]](b2:Qk l y g cI en:=by(first|exact .inl ⟨rfl,rfl,rfl⟩|exact .inr (.inl rfl)|exact .inr (.inr ⟨rfl,rfl,rfl⟩)))(a9:kI (bO l) cI args en (gb (bQ []) ds):=by(repeat first|exact kI.n|(apply kI.a;exact rfl;exact pO)|apply kI.b|apply kI.c))(cf:le 0 ds=ah:=by rfl)(aM:∀z,(fa z).dc (bQ [])=fa z:=by(first|exact λ_=>rfl|exact λz=>tg.h z _|exact xt (λ_=>rfl) (λ_=>rfl)))(a8:∀args w,(callFunc g args).run av w=.ok (.enter g args) w:=by exact λ_ _=>rfl):∀z,x=D z->gC av H (.call {callee:=.value y,args:=args.toArray,argTypes:=tys}) ty (bO l) [] [] (fa z):=λz bj=>.p (by have:=bE.k (ty:=ty) (tys:=tys) (aU:=[]) (fr:=[]) b2 (c.h bj) a8 a9 ⟨rfl,cf,rfl,List.nodup_nil,b5 _,b5 _⟩;simp only[j3,aM z]at this;exact this)
theorem gK{ww:α->List (Nat×aG)} [c:fC x av g ds Hc zt fa iG](b2:Qk l y g cI en:=by(first|exact .inl ⟨rfl,rfl,rfl⟩|exact .inr (.inl rfl)|exact .inr (.inr ⟨rfl,rfl,rfl⟩)))(_:d' aU.length Hc.length=ah:=by rfl)(a9:kI (bO l) cI args en (gb (bQ aU) ds):=by(repeat first|exact kI.n|(apply kI.a;exact rfl;exact pO)|apply kI.b|apply kI.c))(aM:fq H (ek (bQ aU) aU Hc):=by(repeat first|exact e6|(apply bK;exact rfl)))(c1:hH H 0 zt fr:=by(repeat first|exact hH.n|(apply hH.c 0;exact rfl;exact rfl)|(apply hH.c 1;exact rfl;exact rfl)|(apply hH.c 2;exact rfl;exact rfl)|(apply hH.c 3;exact rfl;exact rfl)|(apply hH.c 4;exact rfl;exact rfl)|(apply hH.c 5;exact rfl;exact rfl)|(apply hH.c 6;exact rfl;exact rfl)|(apply hH.c 7;exact rfl;exact rfl)|(apply hH.c 8;exact rfl;exact rfl)|(apply hH.c 9;exact rfl;exact rfl)|(apply hH.c 10;exact rfl;exact rfl)|(apply hH.c 11;exact rfl;exact rfl)|(apply hH.c 12;exact rfl;exact rfl)|(apply hH.c 13;exact rfl;exact rfl)|(apply hH.c 14;exact rfl;exact rfl)|(apply hH.c 15;exact rfl;exact rfl)|(apply hH.c 16;exact rfl;exact rfl)|(apply hH.c 17;exact rfl;exact rfl)|(apply hH.c 18;exact rfl;exact rfl)|(apply hH.c 19;exact rfl;exact rfl)|(apply hH.c 20;exact rfl;exact rfl)|(apply hH.c 21;exact rfl;exact rfl)|(apply hH.c 22;exact rfl;exact rfl)|(apply hH.c 23;exact rfl;exact rfl)|(apply hH.c 24;exact rfl;exact rfl)|(apply hH.c 25;exact rfl;exact rfl)|(apply hH.c 26;exact rfl;exact rfl)|(apply hH.c 27;exact rfl;exact rfl)|(apply hH.c 28;exact rfl;exact rfl)|(apply hH.c 29;exact rfl;exact rfl)))(eE:∀z,pE Hc (iG z) ds aU fr:=by((repeat' refine xt ?_ ?_);all_goals (exact λ_=>.lf rfl)))(hu:∀z,pN (ek (bQ (aU++fr)) (aU++fr) (iG z)) (ek (bQ aU) aU Hc++fr.map λj=>(j,.bW)) (ww z):=by((repeat' refine xt ?_ ?_);all_goals (intro z;repeat first|exact pN.n|apply pN.s|apply pN.d)))(au:(ek (bQ aU) aU Hc++fr.map λj=>(j,aG.bW)).map (·.1)=aU++fr:=by rfl)(a8:∀args w,(callFunc g args).run av w=.ok (.enter g args) w:=by exact λ_ _=>rfl):∀z,x=D z->gC av H (.call {callee:=.value y,args:=args.toArray,argTypes:=tys}) ty (bO l) (ek (bQ aU) aU Hc++fr.map λj=>(j,.bW)) (ww z) ((fa z).dc (bQ (aU++fr))):=
 λz bj=>⟨(bE.k b2 (c.h bj) a8 a9 (eE z)).drop ((hu z).set (au▸(eE z).af)),c1.cV aM⟩
theorem gY{ww:α->List (Nat×aG)} [c:Jr x av ds Hc fa iG](_:d' aU.length Hc.length=ah:=by rfl)(bh:bO l y=D (.fW (bQ aU 0)):=by rfl)(a9:kI (bO l) [] args [] (gb (bQ aU) ds):=by(repeat first|exact kI.n|(apply kI.a;exact rfl;exact pO)|apply kI.b|apply kI.c))(aM:fq H (ek (bQ aU) aU Hc):=by(repeat first|exact e6|(apply bK;exact rfl)))(eE:∀z,pE Hc (iG z) ds aU []:=by((repeat' refine xt ?_ ?_);all_goals (exact λ_=>.lf rfl)))(hu:∀z,pN (ek (bQ (aU++[])) (aU++[]) (iG z)) (ek (bQ aU) aU Hc++([]:List Nat).map λj=>(j,.bW)) (ww z):=by((repeat' refine xt ?_ ?_);all_goals (intro z;repeat first|exact pN.n|apply pN.s|apply pN.d)))(au:(ek (bQ aU) aU Hc++([]:List Nat).map λj=>(j,aG.bW)).map (·.1)=aU++[]:=by rfl):∀z,x=D z->gC av H (.call {callee:=.value y,args:=args.toArray,argTypes:=tys}) ty (bO l) (ek (bQ aU) aU Hc++([]:List Nat).map λj=>(j,.bW)) (ww z) ((fa z).dc (bQ (aU++[]))):=λz bj=>⟨(bE.fW (c.h bj) bh (by obtain⟨s3,h1,h2⟩:=a9.sd;rw[Qi,j3]at h2;exact h2▸h1) (eE z)).drop ((hu z).set (au▸(eE z).af)),(hH.n (lo:=0)).cV aM⟩
theorem fD{β:Type}{x:Option (α ⊕ β)}{dG:α ⊕ β->Prop}(h:∀z,x=D z->dG z):∀z,x=D z->dG z:=h
theorem iF{β lj:Type}{x:Option (α ⊕ (β ⊕ lj))}{dG:α ⊕ (β ⊕ lj)->Prop}(h:∀z,x=D z->dG z):∀z,x=D z->dG z:=h
end
end
section
variable {Y : gj} {Q : cN -> Act -> bb -> Prop} {l : bY} {H : List aG} {R : Type} {m m' : Option R} {T : R -> Prop} {ops : Array bU} {os rest : List bU} {acc : List (List Nat × List Nat)} {dB : List mE} {t : Nat} {op : Op} {ty : b3} {pos : String} {cx : Array Edge} {eF : Option (Nat × Bool)} {dst : Option Tmp} {G : Prop} {α : Type} {b : Bool} {c : bM} {x y : dS}
theorem bI.Fq(h:bI Y ops Q ({dst:=dst,op:=op,type:=ty,pos:=pos,after:=cx,guard:=aF}::rest) l H m T):bI Y ops Q ({dst:=dst,op:=op,type:=ty,pos:=pos,after:=cx,guard:=aF}::rest) l H m T:=h
theorem cW.Fq(h:cW dB Y Q os ({dst:=dst,op:=op,type:=ty,pos:=pos,after:=cx,guard:=eF}::rest) l H acc m T):cW dB Y Q os ({dst:=dst,op:=op,type:=ty,pos:=pos,after:=cx,guard:=eF}::rest) l H acc m T:=h
theorem co.ai9{id:Nat}{o:Array bU}{vu:Bool}{y:dS}(h:co Y (.region id o vu) (pp Y.X y Q) l H m T):co Y (.seq (.region id o vu) y) Q l H m T:=.seq h
theorem co.aja{a b y:dS}(h:co Y (.seq a b) (pp Y.X y Q) l H m T):co Y (.seq (.seq a b) y) Q l H m T:=.seq h
theorem co.ajb{y:dS}(h:co Y .skip (pp Y.X y Q) l H m T):co Y (.seq .skip y) Q l H m T:=.seq h
theorem bZ.Yu{e:cN}(h:bZ Y Q e l H m T):bZ Y Q e l H m T:=h
variable {oe:bM}
theorem co.ajc(aP:bO l oe=D (bs b))(aB:b=ah)(ai:co Y x Q l H m T):co Y (.cond oe x y) Q l H m T:=.Ia (aB▸aP) ai
theorem co.ajd(aP:bO l oe=D (bs b))(aB:b=aQ)(ai:co Y y Q l H m T):co Y (.cond oe x y) Q l H m T:=.Bh (aB▸aP) ai
variable {db j:Nat}
theorem bI.Yv(ae:(ops[j]?).bind (·.dst)=D db)(aB:cR l db=D (bs b))(he:b=aQ)(az:kT Y.X.N dst=ah)(k:bI Y ops Q rest (gn dst (.p (.v undef)) l) H m T):bI Y ops Q ({dst:=dst,op:=op,type:=ty,pos:=pos,after:=cx,guard:=D (j,ah)}::rest) l H m T:=.br db ae aB he az k
theorem bI.Yw(ae:(ops[j]?).bind (·.dst)=D db)(aB:cR l db=D (bs b))(he:b=ah)(az:kT Y.X.N dst=ah)(k:bI Y ops Q rest (gn dst (.p (.v undef)) l) H m T):bI Y ops Q ({dst:=dst,op:=op,type:=ty,pos:=pos,after:=cx,guard:=D (j,aQ)}::rest) l H m T:=.br db ae aB he az k
def Ju(db:Nat):Nat->List bU->Option (Nat×Nat)
 |_,[]=>aF
 |n,o::r=>match o.op,o.dst with
  |.pick (.tmp d) _ _,D s=>cond (d' d db) (D (n,s)) (Ju db (n+1) r)
  |_,_=>Ju db (n+1) r
variable {d:Nat}{want:Bool}
theorem bI.Fr(ae:(ops[j]?).bind (·.dst)=D d)(aB:cR l d=D (bs b))(ai:bI Y ops Q ({dst:=dst,op:=op,type:=ty,pos:=pos,after:=cx,guard:=D (j,want)}::rest) ((d,bs ah)::l) H m T)(a8:bI Y ops Q ({dst:=dst,op:=op,type:=ty,pos:=pos,after:=cx,guard:=D (j,want)}::rest) ((d,bs aQ)::l) H m' T):bI Y ops Q ({dst:=dst,op:=op,type:=ty,pos:=pos,after:=cx,guard:=D (j,want)}::rest) l H (if b=ah then m else m') T:=.OT d aB ai a8
theorem cW.Fr(ae:(os[j]?).bind (·.dst)=D d)(aB:cR l d=D (bs b))(ai:cW dB Y Q os ({dst:=dst,op:=op,type:=ty,pos:=pos,after:=cx,guard:=D (j,want)}::rest) ((d,bs ah)::l) H acc m T)(a8:cW dB Y Q os ({dst:=dst,op:=op,type:=ty,pos:=pos,after:=cx,guard:=D (j,want)}::rest) ((d,bs aQ)::l) H acc m' T):cW dB Y Q os ({dst:=dst,op:=op,type:=ty,pos:=pos,after:=cx,guard:=D (j,want)}::rest) l H acc (if b=ah then m else m') T:=.OT d aB ai a8
variable {r:Bool}
theorem bI.Jv {n:Nat}(ae:(ops[j]?).bind (·.dst)=D db)(aB:cR l db=D (bs b))(hp:Ju db 1 ({dst:=dst,op:=op,type:=ty,pos:=pos,after:=cx,guard:=D (j,aQ)}::rest)=D (n,d))(a8:(∀l',dM l' ((d,bs r)::(db,bs aQ)::l)->bI Y ops Q (({dst:=dst,op:=op,type:=ty,pos:=pos,after:=cx,guard:=D (j,aQ)}::rest).drop n) l' H m T)->bI Y ops Q ({dst:=dst,op:=op,type:=ty,pos:=pos,after:=cx,guard:=D (j,aQ)}::rest) ((db,bs aQ)::l) H m T)
  (ai:(∀l',dM l' ((d,bs ah)::(db,bs ah)::l)->bI Y ops Q (({dst:=dst,op:=op,type:=ty,pos:=pos,after:=cx,guard:=D (j,aQ)}::rest).drop n) l' H m T)->bI Y ops Q ({dst:=dst,op:=op,type:=ty,pos:=pos,after:=cx,guard:=D (j,aQ)}::rest) ((db,bs ah)::l) H m T) (k:bI Y ops Q (({dst:=dst,op:=op,type:=ty,pos:=pos,after:=cx,guard:=D (j,aQ)}::rest).drop n) ((d,bs (b||r))::l) H m T):bI Y ops Q ({dst:=dst,op:=op,type:=ty,pos:=pos,after:=cx,guard:=D (j,aQ)}::rest) l H m T:=.or n d db aB a8 ai k
theorem bI.Jw {n:Nat}(ae:(ops[j]?).bind (·.dst)=D db)(aB:cR l db=D (bs b))(hp:Ju db 1 ({dst:=dst,op:=op,type:=ty,pos:=pos,after:=cx,guard:=D (j,ah)}::rest)=D (n,d))(ai:(∀l',dM l' ((d,bs r)::(db,bs ah)::l)->bI Y ops Q (({dst:=dst,op:=op,type:=ty,pos:=pos,after:=cx,guard:=D (j,ah)}::rest).drop n) l' H m T)->bI Y ops Q ({dst:=dst,op:=op,type:=ty,pos:=pos,after:=cx,guard:=D (j,ah)}::rest) ((db,bs ah)::l) H m T)
  (a8:(∀l',dM l' ((d,bs aQ)::(db,bs aQ)::l)->bI Y ops Q (({dst:=dst,op:=op,type:=ty,pos:=pos,after:=cx,guard:=D (j,ah)}::rest).drop n) l' H m T)->bI Y ops Q ({dst:=dst,op:=op,type:=ty,pos:=pos,after:=cx,guard:=D (j,ah)}::rest) ((db,bs aQ)::l) H m T) (k:bI Y ops Q (({dst:=dst,op:=op,type:=ty,pos:=pos,after:=cx,guard:=D (j,ah)}::rest).drop n) ((d,bs (b&&r))::l) H m T):bI Y ops Q ({dst:=dst,op:=op,type:=ty,pos:=pos,after:=cx,guard:=D (j,ah)}::rest) l H m T:=.and n d db aB ai a8 k
section
variable {av : cj} {N : Nat} {fn : Func} {e : cN} {cn : bb} {b0 : b_} {bS el : List aG} {P : R -> V -> List aG -> Prop} {pre s : List Nat} {q r : R} {rv oQ wW : ResultVar} {d cQ uh x mu y7 : V}
structure oV(bS H el:List aG)(aU:List Nat):Prop where
 h:fq H (ek (bQ aU) aU el)
 b:(d' aU.length el.length&&decide aU.Nodup&&el.all (aG.lt el.length)&&Wm bS.length aU)=ah
theorem oV.k{aU:List Nat}(h:oV bS H el aU):np bS H el aU:=by have aB:=h.b;simp only[Bool.and_eq_true,decide_eq_true_eq]at aB;exact .aY (kz aB.1.1.1) h.h aB.1.1.2 aB.1.2 aB.2
theorem bZ.oW(hp:P q (.cg []) el:=by exact⟨rfl,rfl⟩)(aS:Exit.kf e=ah:=by rfl)(jY:fn.results=#[]:=by rfl)(_:k1 bS 0 pre:=by(repeat first|exact k1.n|apply k1.c))(_:d' s.length (el.drop pre.length).length=ah:=by rfl)(au:oV bS H el (pre++s):=by(refine oV.mk ?_ ?_;((repeat first|exact e6|(apply bK;exact rfl)));exact rfl)):bZ ⟨⟨aF,av,N,[]⟩,cn,b0,bS⟩ (bodyPost av fn (i6 cn b0 bS (P r))) e l H (D q) (λq=>q=r):=.OC hp aS jY au.k
theorem bZ.fH(hp:P q x el:=by exact⟨rfl,rfl⟩)(aS:Exit.kf e=ah:=by rfl)(jY:fn.results=#[rv]:=by rfl)(h1:kB av l H rv d:=by(first|exact .tmp rfl|exact .yL rfl rfl fy.h gU.h rfl|exact .cell rfl rfl fy.h rfl))(_:k1 bS 0 pre:=by(repeat first|exact k1.n|apply k1.c))(_:d' s.length (el.drop pre.length).length=ah:=by rfl)(hw:fY d (x.dc (bQ (pre++s))):=by exact pO)(au:oV bS H el (pre++s):=by(refine oV.mk ?_ ?_;((repeat first|exact e6|(apply bK;exact rfl)));exact rfl))(cf:x.lt el.length=ah:=by first|rfl|exact tg.l _ _):bZ ⟨⟨aF,av,N,[]⟩,cn,b0,bS⟩ (bodyPost av fn (i6 cn b0 bS (P r))) e l H (D q) (λq=>q=r):=.OD hp aS jY h1 hw au.k cf
theorem bZ.iC(hp:P q (.cg [x,mu]) el:=by exact⟨rfl,rfl⟩)(aS:Exit.kf e=ah:=by rfl)(jY:fn.results=#[rv,oQ]:=by rfl)(h1:kB av l H rv d:=by(first|exact .tmp rfl|exact .yL rfl rfl fy.h gU.h rfl|exact .cell rfl rfl fy.h rfl))(h2:kB av l H oQ cQ:=by(first|exact .tmp rfl|exact .yL rfl rfl fy.h gU.h rfl|exact .cell rfl rfl fy.h rfl))(_:k1 bS 0 pre:=by(repeat first|exact k1.n|apply k1.c))(_:d' s.length (el.drop pre.length).length=ah:=by rfl)(hw:fY d (x.dc (bQ (pre++s))):=by exact pO)(sX:fY cQ (mu.dc (bQ (pre++s))):=by exact pO)(au:oV bS H el (pre++s):=by(refine oV.mk ?_ ?_;((repeat first|exact e6|(apply bK;exact rfl)));exact rfl))(cf:(V.cg [x,mu]).lt el.length=ah:=by first|rfl|exact tg.l _ _):bZ ⟨⟨aF,av,N,[]⟩,cn,b0,bS⟩ (bodyPost av fn (i6 cn b0 bS (P r))) e l H (D q) (λq=>q=r):=.OE hp aS jY h1 h2 hw sX au.k cf
theorem bZ.iS(hp:P q (.cg [x,mu,y7]) el:=by exact⟨rfl,rfl⟩)(aS:Exit.kf e=ah:=by rfl)(jY:fn.results=#[rv,oQ,wW]:=by rfl)(h1:kB av l H rv d:=by(first|exact .tmp rfl|exact .yL rfl rfl fy.h gU.h rfl|exact .cell rfl rfl fy.h rfl))(h2:kB av l H oQ cQ:=by(first|exact .tmp rfl|exact .yL rfl rfl fy.h gU.h rfl|exact .cell rfl rfl fy.h rfl))(aJ:kB av l H wW uh:=by(first|exact .tmp rfl|exact .yL rfl rfl fy.h gU.h rfl|exact .cell rfl rfl fy.h rfl))(_:k1 bS 0 pre:=by(repeat first|exact k1.n|apply k1.c))(_:d' s.length (el.drop pre.length).length=ah:=by rfl)(hw:fY d (x.dc (bQ (pre++s))):=by exact pO)(sX:fY cQ (mu.dc (bQ (pre++s))):=by exact pO)(Eu:fY uh (y7.dc (bQ (pre++s))):=by exact pO)(au:oV bS H el (pre++s):=by(refine oV.mk ?_ ?_;((repeat first|exact e6|(apply bK;exact rfl)));exact rfl))(cf:(V.cg [x,mu,y7]).lt el.length=ah:=by first|rfl|exact tg.l _ _):bZ ⟨⟨aF,av,N,[]⟩,cn,b0,bS⟩ (bodyPost av fn (i6 cn b0 bS (P r))) e l H (D q) (λq=>q=r):=.OF hp aS jY h1 h2 aJ hw sX Eu au.k cf
end
section
variable {av : cj} {cn : bb} {b0 : b_} {bS el : List aG} {P : R -> V -> List aG -> Prop} {aU : List Nat} {q r : R} {st : LoopState} {dJ : Option dS} {fx hO e8 i : Nat} {fZ : bY} {hR : Array Nat} {hP hQ : dS} {X : hY}
theorem bZ.aje(hp:P q (bs ah) el:=by exact⟨rfl,rfl⟩)(ju:ct bS i:=by trivial)(ao:H[i]? =D (.loop st dJ fx hO fZ hR hP hQ e8):=by rfl)(_:k1 bS 0 aU:=by(repeat first|exact k1.n|apply k1.c))(au:oV bS (H.set i (.loop .ready aF fx hO fZ hR hP hQ e8)) el aU:=by(refine oV.mk ?_ ?_;((repeat first|exact e6|(apply bK;exact rfl)));exact rfl)):bZ ⟨X,cn,b0,bS⟩ (roundPost av (b0.β i) (i6 cn b0 bS (P r))) .normal l H (D q) (λq=>q=r):=.ahy hp ju ao au.k
theorem bZ.ajf(hp:P q (bs aQ) el:=by exact⟨rfl,rfl⟩)(ju:ct bS i:=by trivial)(ao:H[i]? =D (.loop st dJ fx hO fZ hR hP hQ e8):=by rfl)(_:k1 bS 0 aU:=by(repeat first|exact k1.n|apply k1.c))(au:oV bS (H.set i (.loop .done (D .ret) fx hO fZ hR hP hQ e8)) el aU:=by(refine oV.mk ?_ ?_;((repeat first|exact e6|(apply bK;exact rfl)));exact rfl)):bZ ⟨X,cn,b0,bS⟩ (roundPost av (b0.β i) (i6 cn b0 bS (P r))) .ret l H (D q) (λq=>q=r):=.ahz hp ju ao au.k
theorem bZ.ajg{id:Nat}(hp:P q (bs aQ) el:=by exact⟨rfl,rfl⟩)(ju:ct bS i:=by trivial)(ao:H[i]? =D (.loop st dJ fx hO fZ hR hP hQ e8):=by rfl)(_:k1 bS 0 aU:=by(repeat first|exact k1.n|apply k1.c))(au:oV bS (H.set i (.loop .done (D (.exit id)) fx hO fZ hR hP hQ e8)) el aU:=by(refine oV.mk ?_ ?_;((repeat first|exact e6|(apply bK;exact rfl)));exact rfl)):bZ ⟨X,cn,b0,bS⟩ (roundPost av (b0.β i) (i6 cn b0 bS (P r))) (.exit id) l H (D q) (λq=>q=r):=.ahA hp ju ao au.k
end
theorem xt{α β:Type}{P:α ⊕ β->Prop}(h:∀a,P (.inl a))(k:∀b,P (.inr b)):∀z,P z
 |.inl a=>h a
 |.inr b=>k b
theorem bZ.Ql{bX α:Type}{dG:α->bY}{G:α->List aG}{body:bX->Option (bX ⊕ R)}{j1:α->bX}{n:Nat}{s:bX}{x:α}(ar:j1 x=s:=by rfl)(aV:dM l (dG x):=by((first|dsimp only|skip);(repeat first|exact .n|(apply dM.s;exact rfl)|(apply dM.c;exact rfl;exact pO))))(iD:H=G x:=by((first|dsimp only|skip)<;>rfl)):bZ Y (uo Y j1 dG G body T n Q) .normal l H (D (.inl s)) (um body T n):=.next x ar aV iD
theorem bZ.Yx{β:Type}{dG:β->bY}{G:β->List aG}{k:β->Option R}{e:cN}{b:β}(j:∀l H b,dM l (dG b)->H=G b->bZ Y Q e l H (k b) T)(aV:dM l (dG b):=by((first|dsimp only|skip);(repeat first|exact .n|(apply dM.s;exact rfl)|(apply dM.c;exact rfl;exact pO))))(iD:H=G b:=by((first|dsimp only|skip)<;>rfl)):bZ Y Q e l H (k b) T:=j _ _ b aV iD
theorem bZ.hS{bX α:Type}{dG:α->bY}{G:α->List aG}{body:bX->Option (bX ⊕ R)}{j1:α->bX}{n:Nat}{s:bX}(is:List Nat)(x:α)(ar:j1 x=s:=by rfl)(aV:dM l (dG x):=by((first|dsimp only|skip);(repeat first|exact .n|(apply dM.s;exact rfl)|(apply dM.c;exact rfl;exact pO))))(a_:vr Y.bS.length (dG x) H is=ah:=by rfl)(iD:vq H is=G x:=by((first|dsimp only|skip)<;>rfl)):bZ Y (uo Y j1 dG G body T n Q) .normal l H (D (.inl s)) (um body T n):=.af2 is x ar aV a_ iD
theorem bZ.re{β:Type}{dG:β->bY}{G:β->List aG}{k:β->Option R}{e:cN}(j:∀l H b,dM l (dG b)->H=G b->bZ Y Q e l H (k b) T)(is:List Nat)(b:β)(aV:dM l (dG b):=by((first|dsimp only|skip);(repeat first|exact .n|(apply dM.s;exact rfl)|(apply dM.c;exact rfl;exact pO))))(a_:vr Y.bS.length (dG b) H is=ah:=by rfl)(iD:vq H is=G b:=by((first|dsimp only|skip)<;>rfl)):bZ Y Q e l H (k b) T:=.af1 j is b aV a_ iD
attribute [local irreducible] bI cW co bZ
theorem Jx{G:Prop}(h:G:=by first|(apply aiB;exact rfl)|(apply aiJ;exact rfl)|(apply aiC;exact rfl;exact rfl;exact rfl)|(apply aiK;exact rfl;exact rfl)|(apply aiL;exact rfl;exact rfl)|(apply aiN;exact rfl;(first|exact qf|exact By))|(apply aiM;exact rfl;exact rfl)|(apply aiD;exact rfl;exact rfl;exact rfl)|(apply aiE;exact rfl;exact rfl)|(apply aiO;exact rfl)|(apply aiP;exact rfl)|(apply aiT;exact rfl;exact rfl;exact rfl)|(apply aiU;exact rfl)|(apply aiV;exact rfl;exact rfl)|(apply aiR;exact rfl;exact rfl)|(apply aiS;exact rfl;exact rfl)|(apply aiQ;exact rfl)):G:=h
theorem Yy{G:Prop}(h:G:=by first|(apply Ys;exact rfl;exact rfl;exact rfl)|(apply Ys (cs:=[_]);exact rfl;exact rfl;exact rfl)|exact vI (xs:=[])|exact vI (xs:=[_])|exact vI (xs:=[_,_])|exact vI (xs:=[_,_,_])|exact vI (xs:=[_,_,_,_])|exact vI (xs:=[_,_,_,_,_])|exact vI (xs:=[_,_,_,_,_,_])|exact vI (xs:=[_,_,_,_,_,_,_])|exact vI (xs:=[_,_,_,_,_,_,_,_])):G:=h
theorem Jy{G:Prop}(h:G:=by first|(apply aiX;exact rfl;(first|exact qf|exact By);exact rfl;exact λ_=>rfl)|exact ai8|(apply aiZ;exact rfl;exact rfl)|(apply aiW;exact rfl)|(apply aiY;exact rfl;exact rfl)|(apply ai0;exact rfl;exact rfl)|(apply ai3;exact rfl;(first|exact .n|exact .s rfl);(first|exact .n|exact .s rfl))|(apply ai4;exact rfl;(first|exact qf|exact By);(first|exact .n|exact .s rfl);(first|exact .n|exact .s rfl);exact λ_=>rfl)|(apply ai5;exact rfl;(first|exact qf|exact By);exact rfl;exact rfl;exact λ_=>rfl)|(apply ai1;exact rfl;exact rfl)|(apply ai2;exact rfl;exact rfl)):G:=h
theorem Jz{G:Prop}(h:G:=by first|(apply aiF;exact rfl;exact rfl;exact rfl;exact rfl;exact rfl;exact rfl)|exact aiI|(apply aiG;exact rfl;exact rfl;exact rfl;exact rfl)):G:=h
theorem xu{G:Prop}(h:G:=by first|exact ai6|(refine iF ?_;first|exact gK (aU:=[]) (ww:=Sum.elim _ (Sum.elim _ _))|exact gK (aU:=[_]) (ww:=Sum.elim _ (Sum.elim _ _))|exact gK (aU:=[_,_]) (ww:=Sum.elim _ (Sum.elim _ _))|exact gK (aU:=[_,_,_]) (ww:=Sum.elim _ (Sum.elim _ _))|exact gK (aU:=[_,_,_,_]) (ww:=Sum.elim _ (Sum.elim _ _))|exact gK (aU:=[_,_,_,_,_]) (ww:=Sum.elim _ (Sum.elim _ _))|exact gK (aU:=[_,_,_,_,_,_]) (ww:=Sum.elim _ (Sum.elim _ _))|exact gK (aU:=[_,_,_,_,_,_,_]) (ww:=Sum.elim _ (Sum.elim _ _))|exact gK (aU:=[_,_,_,_,_,_,_,_]) (ww:=Sum.elim _ (Sum.elim _ _))|exact gK (aU:=[_,_,_,_,_,_,_,_,_]) (ww:=Sum.elim _ (Sum.elim _ _))|exact gK (aU:=[_,_,_,_,_,_,_,_,_,_]) (ww:=Sum.elim _ (Sum.elim _ _))|exact gK (aU:=[_,_,_,_,_,_,_,_,_,_,_]) (ww:=Sum.elim _ (Sum.elim _ _))|exact gK (aU:=[_,_,_,_,_,_,_,_,_,_,_,_]) (ww:=Sum.elim _ (Sum.elim _ _))|exact gK (aU:=[_,_,_,_,_,_,_,_,_,_,_,_,_]) (ww:=Sum.elim _ (Sum.elim _ _))|exact gK (aU:=[_,_,_,_,_,_,_,_,_,_,_,_,_,_]) (ww:=Sum.elim _ (Sum.elim _ _))|exact gK (aU:=[_,_,_,_,_,_,_,_,_,_,_,_,_,_,_]) (ww:=Sum.elim _ (Sum.elim _ _))|exact gY (aU:=[_]) (ww:=Sum.elim _ (Sum.elim _ _))|exact gY (aU:=[_,_]) (ww:=Sum.elim _ (Sum.elim _ _))|exact gY (aU:=[_,_,_]) (ww:=Sum.elim _ (Sum.elim _ _))|exact gY (aU:=[_,_,_,_]) (ww:=Sum.elim _ (Sum.elim _ _))|exact gY (aU:=[_,_,_,_,_]) (ww:=Sum.elim _ (Sum.elim _ _))|exact gY (aU:=[_,_,_,_,_,_]) (ww:=Sum.elim _ (Sum.elim _ _))|exact gY (aU:=[_,_,_,_,_,_,_]) (ww:=Sum.elim _ (Sum.elim _ _))|exact gY (aU:=[_,_,_,_,_,_,_,_]) (ww:=Sum.elim _ (Sum.elim _ _))|exact gY (aU:=[_,_,_,_,_,_,_,_,_]) (ww:=Sum.elim _ (Sum.elim _ _))|exact gY (aU:=[_,_,_,_,_,_,_,_,_,_]) (ww:=Sum.elim _ (Sum.elim _ _))|exact gY (aU:=[_,_,_,_,_,_,_,_,_,_,_]) (ww:=Sum.elim _ (Sum.elim _ _))|exact gY (aU:=[_,_,_,_,_,_,_,_,_,_,_,_]) (ww:=Sum.elim _ (Sum.elim _ _))|exact gY (aU:=[_,_,_,_,_,_,_,_,_,_,_,_,_]) (ww:=Sum.elim _ (Sum.elim _ _))|exact gY (aU:=[_,_,_,_,_,_,_,_,_,_,_,_,_,_]) (ww:=Sum.elim _ (Sum.elim _ _))|exact gY (aU:=[_,_,_,_,_,_,_,_,_,_,_,_,_,_,_]) (ww:=Sum.elim _ (Sum.elim _ _)))|(refine fD ?_;first|exact gK (aU:=[]) (ww:=Sum.elim _ _)|exact gK (aU:=[_]) (ww:=Sum.elim _ _)|exact gK (aU:=[_,_]) (ww:=Sum.elim _ _)|exact gK (aU:=[_,_,_]) (ww:=Sum.elim _ _)|exact gK (aU:=[_,_,_,_]) (ww:=Sum.elim _ _)|exact gK (aU:=[_,_,_,_,_]) (ww:=Sum.elim _ _)|exact gK (aU:=[_,_,_,_,_,_]) (ww:=Sum.elim _ _)|exact gK (aU:=[_,_,_,_,_,_,_]) (ww:=Sum.elim _ _)|exact gK (aU:=[_,_,_,_,_,_,_,_]) (ww:=Sum.elim _ _)|exact gK (aU:=[_,_,_,_,_,_,_,_,_]) (ww:=Sum.elim _ _)|exact gK (aU:=[_,_,_,_,_,_,_,_,_,_]) (ww:=Sum.elim _ _)|exact gK (aU:=[_,_,_,_,_,_,_,_,_,_,_]) (ww:=Sum.elim _ _)|exact gK (aU:=[_,_,_,_,_,_,_,_,_,_,_,_]) (ww:=Sum.elim _ _)|exact gK (aU:=[_,_,_,_,_,_,_,_,_,_,_,_,_]) (ww:=Sum.elim _ _)|exact gK (aU:=[_,_,_,_,_,_,_,_,_,_,_,_,_,_]) (ww:=Sum.elim _ _)|exact gK (aU:=[_,_,_,_,_,_,_,_,_,_,_,_,_,_,_]) (ww:=Sum.elim _ _)|exact gY (aU:=[_]) (ww:=Sum.elim _ _)|exact gY (aU:=[_,_]) (ww:=Sum.elim _ _)|exact gY (aU:=[_,_,_]) (ww:=Sum.elim _ _)|exact gY (aU:=[_,_,_,_]) (ww:=Sum.elim _ _)|exact gY (aU:=[_,_,_,_,_]) (ww:=Sum.elim _ _)|exact gY (aU:=[_,_,_,_,_,_]) (ww:=Sum.elim _ _)|exact gY (aU:=[_,_,_,_,_,_,_]) (ww:=Sum.elim _ _)|exact gY (aU:=[_,_,_,_,_,_,_,_]) (ww:=Sum.elim _ _)|exact gY (aU:=[_,_,_,_,_,_,_,_,_]) (ww:=Sum.elim _ _)|exact gY (aU:=[_,_,_,_,_,_,_,_,_,_]) (ww:=Sum.elim _ _)|exact gY (aU:=[_,_,_,_,_,_,_,_,_,_,_]) (ww:=Sum.elim _ _)|exact gY (aU:=[_,_,_,_,_,_,_,_,_,_,_,_]) (ww:=Sum.elim _ _)|exact gY (aU:=[_,_,_,_,_,_,_,_,_,_,_,_,_]) (ww:=Sum.elim _ _)|exact gY (aU:=[_,_,_,_,_,_,_,_,_,_,_,_,_,_]) (ww:=Sum.elim _ _)|exact gY (aU:=[_,_,_,_,_,_,_,_,_,_,_,_,_,_,_]) (ww:=Sum.elim _ _))|exact gK (aU:=[])|exact gK (aU:=[_])|exact gK (aU:=[_,_])|exact gK (aU:=[_,_,_])|exact gK (aU:=[_,_,_,_])|exact gK (aU:=[_,_,_,_,_])|exact gK (aU:=[_,_,_,_,_,_])|exact gK (aU:=[_,_,_,_,_,_,_])|exact gK (aU:=[_,_,_,_,_,_,_,_])|exact gK (aU:=[_,_,_,_,_,_,_,_,_])|exact gK (aU:=[_,_,_,_,_,_,_,_,_,_])|exact gK (aU:=[_,_,_,_,_,_,_,_,_,_,_])|exact gK (aU:=[_,_,_,_,_,_,_,_,_,_,_,_])|exact gK (aU:=[_,_,_,_,_,_,_,_,_,_,_,_,_])|exact gK (aU:=[_,_,_,_,_,_,_,_,_,_,_,_,_,_])|exact gK (aU:=[_,_,_,_,_,_,_,_,_,_,_,_,_,_,_])|exact gY (aU:=[_])|exact gY (aU:=[_,_])|exact gY (aU:=[_,_,_])|exact gY (aU:=[_,_,_,_])|exact gY (aU:=[_,_,_,_,_])|exact gY (aU:=[_,_,_,_,_,_])|exact gY (aU:=[_,_,_,_,_,_,_])|exact gY (aU:=[_,_,_,_,_,_,_,_])|exact gY (aU:=[_,_,_,_,_,_,_,_,_])|exact gY (aU:=[_,_,_,_,_,_,_,_,_,_])|exact gY (aU:=[_,_,_,_,_,_,_,_,_,_,_])|exact gY (aU:=[_,_,_,_,_,_,_,_,_,_,_,_])|exact gY (aU:=[_,_,_,_,_,_,_,_,_,_,_,_,_])|exact gY (aU:=[_,_,_,_,_,_,_,_,_,_,_,_,_,_])|exact gY (aU:=[_,_,_,_,_,_,_,_,_,_,_,_,_,_,_])|exact ai7):G:=h
theorem Yz{G:Prop}(h:G:=by first|exact aiH):G:=h
theorem YA{G:Prop}(h:G:=by first|exact th (xs:=[])|exact th (xs:=[_])|exact th (xs:=[_,_])|exact th (xs:=[_,_,_])|exact th (xs:=[_,_,_,_])|exact th (xs:=[_,_,_,_,_])):G:=h
theorem se{G:Prop}(h:G:=by((repeat' refine xt ?_ ?_);all_goals (intro z;repeat first|exact vH.n|apply vH.c))):G:=h
theorem rf{G:Prop}(h:G:=by first|(dsimp only[dT,ek,List.set_cons_zero,List.set_cons_succ,aG.dc,V.dc,gb,rW,BX,BY,BZ,B0,B1,B2,B3,B4,B5,B6,B7,B8,B9,B_,B',Ca,Cb,Cc,List.append_nil,List.nil_append,List.cons_append,List.map_cons,List.map_nil,oL,V.cells,Sum.elim_inl,Sum.elim_inr];exact rfl)|exact rfl):G:=h
theorem ajh{G R:Prop}(r:R)(h:R->G:=by intro r;(first|(refine bI.Fq ?_;first|(apply bI.o;exact Jx;exact rfl)|(apply bI.w;exact Jz;exact rfl;exact rf))|(refine cW.Fq ?_;first|(apply cW.o;exact Jx;(first|exact .n|exact .y rfl rfl))|(apply cW.w;exact Jz;(first|exact .n|exact .y rfl rfl);(first|exact trivial|exact λ_=>trivial|exact λ_=>⟨⟨trivial,trivial⟩,trivial⟩|exact λ_=>⟨⟨rfl,trivial,trivial⟩,trivial⟩);exact rf))|(apply bI.Ib;apply rfl;apply rfl;(with_reducible apply rfl))|(apply bI.Yv;apply rfl;apply rfl;(with_reducible apply rfl);apply rfl)|(apply bI.Yw;apply rfl;apply rfl;(with_reducible apply rfl);apply rfl)|(apply bI.EJ;apply rfl;apply rfl;apply rfl)|(apply cW.br;apply rfl;apply rfl)|(apply cW.EJ;apply rfl;apply rfl));exact r):G:=h r
theorem Ce{G R:Prop}(r:R)(h:R->G:=by intro r;(first|(refine bI.Fq ?_;first|(apply bI.o;exact Jx;exact rfl)|(apply bI.w;exact Jz;exact rfl;exact rf))|refine bZ.i7 ?_ |(apply bZ.XK;exact trivial;exact rfl)|refine bI.nil ?_ |refine bZ.afO ?_ |refine bZ.afP ?_ |refine bZ.iQ ?_ |refine bZ.un ?_ |refine bZ.rV ?_ |refine bZ.up ?_ |refine bZ.afR ?_ |(apply bZ.Oc;apply rfl)|(apply cW.nil;kernel_rfl)|(refine cW.Fq ?_;first|(apply cW.o;exact Jx;(first|exact .n|exact .y rfl rfl))|(apply cW.w;exact Jz;(first|exact .n|exact .y rfl rfl);(first|exact trivial|exact λ_=>trivial|exact λ_=>⟨⟨trivial,trivial⟩,trivial⟩|exact λ_=>⟨⟨rfl,trivial,trivial⟩,trivial⟩);exact rf))|(apply bI.Ib;apply rfl;apply rfl;(with_reducible apply rfl))|(apply bI.Yv;apply rfl;apply rfl;(with_reducible apply rfl);apply rfl)|(apply bI.Yw;apply rfl;apply rfl;(with_reducible apply rfl);apply rfl)|(apply bI.EJ;apply rfl;apply rfl;apply rfl)|(apply cW.br;apply rfl;apply rfl)|(apply cW.EJ;apply rfl;apply rfl));exact r):G:=h r
theorem zu{G R:Prop}(r:R)(h:R->G:=by intro r;(first|(apply bI.o;exact Yy;exact rfl)|(apply cW.o;exact Yy;(first|exact .n|exact .y rfl rfl)));exact r):G:=h r
theorem Fs{G R:Prop}(r:R)(h:R->G:=by intro r;(first|refine co.region ?_ |refine co.iQ ?_ |refine co.ret ?_ |refine co.skip ?_ |refine co.exit ?_ |(apply co.BV [];exact Yo.h;exact trivial)|(apply co.ajc;apply rfl;(with_reducible apply rfl))|(apply co.ajd;apply rfl;(with_reducible apply rfl))|(apply co.Ia;exact rfl)|(apply co.Bh;exact rfl));exact r):G:=h r
theorem aW{G:Prop}(h:G:=by(repeat' (first|exact c _ (.y8 rfl rfl rfl)|(apply bZ.Yu;first|exact bZ.Yx (b:=_) ‹_› |exact bZ.Yx (b:=(_,_)) ‹_›)|refine Ce ?_ |refine zu ?_ |refine Fs ?_ |refine co.seq ?_ |(apply bI.a;exact Jy;exact rfl;intro z)|(apply cW.a;exact Jy;(first|exact .n|exact .y rfl rfl);intro z)|((first|(apply bI.sd;exact xu;exact rfl)|(apply cW.sd;exact xu;exact se;exact se;(first|exact .n|exact .y rfl rfl);(first|exact trivial|exact λ_=>trivial|exact λ_=>⟨⟨trivial,trivial⟩,trivial⟩|exact λ_=>⟨⟨rfl,trivial,trivial⟩,trivial⟩))|(apply cW.sd (ws:=Sum.elim _ _);exact xu;exact se;exact se;(first|exact .n|exact .y rfl rfl);(first|exact trivial|exact λ_=>trivial|exact λ_=>⟨⟨trivial,trivial⟩,trivial⟩|exact λ_=>⟨⟨rfl,trivial,trivial⟩,trivial⟩))|(apply cW.sd (ws:=Sum.elim _ (Sum.elim _ _));exact xu;exact se;exact se;(first|exact .n|exact .y rfl rfl);(first|exact trivial|exact λ_=>trivial|exact λ_=>⟨⟨trivial,trivial⟩,trivial⟩|exact λ_=>⟨⟨rfl,trivial,trivial⟩,trivial⟩)));(repeat' refine xt ?_ ?_);all_goals (intro z d H2 m az jZ hm;dsimp only[dT,ek,List.set_cons_zero,List.set_cons_succ,aG.dc,V.dc,gb,rW,BX,BY,BZ,B0,B1,B2,B3,B4,B5,B6,B7,B8,B9,B_,B',Ca,Cb,Cc,List.append_nil,List.nil_append,List.cons_append,List.map_cons,List.map_nil,oL,V.cells,Sum.elim_inl,Sum.elim_inr]at az jZ hm;subst az jZ hm))|(apply co.cond;apply rfl)|(apply bI.Fr;apply rfl;apply rfl)|(apply cW.Fr;apply rfl;apply rfl)|(apply bI.Jv;apply rfl;apply rfl;apply rfl)|(apply bI.Jw;apply rfl;apply rfl;apply rfl)|(apply co.or;apply rfl)|(apply co.and;apply rfl)|intro c|(apply bZ.Yu;first|exact bZ.fH (s:=[])|exact bZ.iC (s:=[])|exact bZ.iS (s:=[])|exact bZ.oW (s:=[])|exact bZ.fH (s:=[_])|exact bZ.iC (s:=[_])|exact bZ.iS (s:=[_])|exact bZ.oW (s:=[_])|exact bZ.fH (s:=[_,_])|exact bZ.iC (s:=[_,_])|exact bZ.iS (s:=[_,_])|exact bZ.oW (s:=[_,_])|exact bZ.fH (s:=[_,_,_])|exact bZ.iC (s:=[_,_,_])|exact bZ.iS (s:=[_,_,_])|exact bZ.oW (s:=[_,_,_])|exact bZ.fH (s:=[_,_,_,_])|exact bZ.iC (s:=[_,_,_,_])|exact bZ.iS (s:=[_,_,_,_])|exact bZ.oW (s:=[_,_,_,_])|exact bZ.fH (s:=[_,_,_,_,_])|exact bZ.iC (s:=[_,_,_,_,_])|exact bZ.iS (s:=[_,_,_,_,_])|exact bZ.oW (s:=[_,_,_,_,_])|exact bZ.fH (s:=[_,_,_,_,_,_])|exact bZ.iC (s:=[_,_,_,_,_,_])|exact bZ.iS (s:=[_,_,_,_,_,_])|exact bZ.oW (s:=[_,_,_,_,_,_])|exact bZ.fH (s:=[_,_,_,_,_,_,_])|exact bZ.iC (s:=[_,_,_,_,_,_,_])|exact bZ.iS (s:=[_,_,_,_,_,_,_])|exact bZ.oW (s:=[_,_,_,_,_,_,_])|exact bZ.aje|exact bZ.ajf|exact bZ.ajg|exact bZ.Ql (x:=_)|exact bZ.Ql (x:=(_,_))|exact bZ.Ql (x:=(_,_,_)))));all_goals fail):G:=h
theorem YB{G R:Prop}(r:R)(h:R->G:=by intro r;(repeat first|refine Ce ?_ |refine zu ?_ |refine Fs ?_ |refine co.seq ?_);exact r):G:=h r
theorem q9{G R:Prop}(r:R)(h:R->G:=by intro r;refine YB ?_;(first|(apply bI.Jv rfl rfl rfl;(case a8=>exact aW);(case ai=>exact aW))|(apply bI.Jw rfl rfl rfl;(case ai=>exact aW);(case a8=>exact aW)));exact r):G:=h r
theorem b4{G R:Prop}(r:R)(h:R->G:=by intro r;(repeat first|refine Ce ?_ |refine zu ?_ |refine Fs ?_ |refine co.seq ?_ |(apply bI.Jv rfl rfl rfl;(case a8=>exact aW);(case ai=>exact aW))|(apply bI.Jw rfl rfl rfl;(case ai=>exact aW);(case a8=>exact aW)));exact r):G:=h r
theorem Ft{G R:Prop}(r:R)(h:R->G:=by intro r;(repeat first|refine Ce ?_ |refine zu ?_ |refine Fs ?_ |refine co.ai9 ?_ |refine co.aja ?_ |refine co.ajb ?_ |(apply bI.Jv rfl rfl rfl;(case a8=>exact aW);(case ai=>exact aW))|(apply bI.Jw rfl rfl rfl;(case ai=>exact aW);(case a8=>exact aW)));exact r):G:=h r
theorem fl{G R:Prop}(r:R)(h:R->G:=by intro r;(repeat first|refine Ce ?_ |refine zu ?_);exact r):G:=h r
theorem kJ{G R:Prop}(r:R)(h:R->G:=by intro r;(repeat first|refine ajh ?_ |refine zu ?_);exact r):G:=h r
theorem JA{G R:Prop}(r:R)(h:R->G:=by intro r;(repeat first|refine Ce ?_ |refine Fs ?_ |refine co.seq ?_);exact r):G:=h r
theorem cu{G R:Prop}(r:R)(h:R->G:=by intro r;refine JA ?_;refine zu ?_;exact r):G:=h r
theorem gc{G R:Prop}(r:R)(h:R->G:=by intro r;refine JA ?_;(first|(apply bI.w;exact Yz;exact rfl;exact rf)|(apply cW.w;exact Yz;(first|exact .n|exact .y rfl rfl);(first|exact trivial|exact λ_=>trivial|exact λ_=>⟨⟨trivial,trivial⟩,trivial⟩|exact λ_=>⟨⟨rfl,trivial,trivial⟩,trivial⟩);exact rf));exact r):G:=h r
theorem kt{G R:Prop}(r:R)(h:R->G:=by intro r;refine JA ?_;(first|(apply bI.w;exact YA;exact rfl;exact rf)|(apply cW.w;exact YA;(first|exact .n|exact .y rfl rfl);(first|exact trivial|exact λ_=>trivial|exact λ_=>⟨⟨trivial,trivial⟩,trivial⟩|exact λ_=>⟨⟨rfl,trivial,trivial⟩,trivial⟩);exact rf));exact r):G:=h r
theorem YC{K G:Prop}(k:K)(h:K->G:=by intro k;refine b4 ?_;(first|(apply bI.a;exact Jy;exact rfl;intro z)|(apply cW.a;exact Jy;(first|exact .n|exact .y rfl rfl);intro z)|((first|(apply bI.sd;exact xu;exact rfl)|(apply cW.sd;exact xu;exact se;exact se;(first|exact .n|exact .y rfl rfl);(first|exact trivial|exact λ_=>trivial|exact λ_=>⟨⟨trivial,trivial⟩,trivial⟩|exact λ_=>⟨⟨rfl,trivial,trivial⟩,trivial⟩))|(apply cW.sd (ws:=Sum.elim _ _);exact xu;exact se;exact se;(first|exact .n|exact .y rfl rfl);(first|exact trivial|exact λ_=>trivial|exact λ_=>⟨⟨trivial,trivial⟩,trivial⟩|exact λ_=>⟨⟨rfl,trivial,trivial⟩,trivial⟩))|(apply cW.sd (ws:=Sum.elim _ (Sum.elim _ _));exact xu;exact se;exact se;(first|exact .n|exact .y rfl rfl);(first|exact trivial|exact λ_=>trivial|exact λ_=>⟨⟨trivial,trivial⟩,trivial⟩|exact λ_=>⟨⟨rfl,trivial,trivial⟩,trivial⟩)));(repeat' refine xt ?_ ?_);all_goals (intro z d H2 m az jZ hm;dsimp only[dT,ek,List.set_cons_zero,List.set_cons_succ,aG.dc,V.dc,gb,rW,BX,BY,BZ,B0,B1,B2,B3,B4,B5,B6,B7,B8,B9,B_,B',Ca,Cb,Cc,List.append_nil,List.nil_append,List.cons_append,List.map_cons,List.map_nil,oL,V.cells,Sum.elim_inl,Sum.elim_inr]at az jZ hm;subst az jZ hm)));first|(exact k.1 z;exact k.2.1 z;exact k.2.2 z)|(exact k.1 z;exact k.2 z)|exact k z):G:=h k
theorem a7{jR:α->Prop}(r:∀z,jR z)(h:(∀z,jR z)->G:=by intro r;exact YC r):G:=h r
variable {β:Type}
theorem pQ{jR:α->Prop}{zv:β->Prop}(r:∀z,jR z)(s:∀z,zv z)(h:(∀z,jR z)->(∀z,zv z)->G:=by intro r s;exact YC (And.intro r s)):G:=h r s
variable {oe:bM}
theorem gL(ai:co Y x Q l H m T)(a8:co Y y Q l H m' T)(pre:co Y (.cond oe x y) Q l H (if b=ah then m else m') T->G:=by exact λr=>b4 r)(aP:bO l oe=D (bs b):=by rfl):G:=pre (.cond aP ai a8)
variable {A B:Prop}
theorem nu(ai:A)(a8:B)(h:A->B->G:=by intro r gJ;refine YB ?_;first|exact bI.Fr rfl rfl r gJ|exact cW.Fr rfl rfl r gJ):G:=h ai a8
theorem cp(a8:co Y y Q l H m' T)(pre:co Y (.cond oe x y) Q l H (if b=ah then m else m') T->G:=by exact λr=>b4 r)(aP:bO l oe=D (bs b):=by rfl)(ai:co Y x Q l H m T:=by exact aW):G:=pre (.cond aP ai a8)
theorem fm(ai:co Y x Q l H m T)(pre:co Y (.cond oe x y) Q l H (if b=ah then m else m') T->G:=by exact λr=>b4 r)(aP:bO l oe=D (bs b):=by rfl)(a8:co Y y Q l H m' T:=by exact aW):G:=pre (.cond aP ai a8)
theorem mF(a8:B)(h:A->B->G:=by exact λr gJ=>nu r gJ)(ai:A:=by exact aW):G:=h ai a8
theorem YD(a8:B)(ai:A)(h:A->B->G:=by exact λr gJ=>nu r gJ):G:=h ai a8
theorem xv{jR:Prop}(r:jR)(h:jR->G:=by intro r;refine b4 ?_;(first|(apply co.or rfl;(case a8=>exact aW))|(apply co.and rfl;(case ai=>exact aW)));exact r):G:=h r
inductive of (l:bY):List Nat->bY->Prop
 |n:of l [] []
 |c {t:Nat} {JB:List Nat} {d:V} {l':bY} (h:cR l t=D d) (k:of l JB l'):of l (t::JB) ((t,d)::l')
inductive sf {β:Type}:List β->List β->List β->Prop
 |n {l:List β}:sf [] l l
 |c {z:β} {a l r:List β} (t:sf a l r):sf (z::a) l (z::r)
def JC{β:Type}(dG:α->bY)(G:List aG->α->List aG)(ks:List Nat)(x:β):Prop:=True
variable {J:ax}{ks:List Nat}{l':bY}
theorem co.aji{zw dG:α->bY}{ti:List aG->α->List aG}{G:α->List aG}{body:α->Option (α ⊕ R)}{oe:dS}{jv:α}{ajj:β}(_:JC zw ti ks ajj)(round:∀x n,co Y oe (uo Y id dG G body T n Q) (dG x) (G x) (body x) (um body T n))(au:of l ks l':=by(repeat first|exact of.n|(apply of.c;exact rfl)))(bx:∀x,sf (zw x) l' (dG x):=by(intro x;repeat first|exact sf.n|apply sf.c))(iD:∀x,ti H x=G x:=by(intro x;first|(dsimp only[dT,ek,List.set_cons_zero,List.set_cons_succ,aG.dc,V.dc,gb,rW,BX,BY,BZ,B0,B1,B2,B3,B4,B5,B6,B7,B8,B9,B_,B',Ca,Cb,Cc,List.append_nil,List.nil_append,List.cons_append,List.map_cons,List.map_nil,oL,V.cells,Sum.elim_inl,Sum.elim_inr];exact rfl)|exact rfl))(bw:dM l (dG jv):=by(repeat first|exact .n|(apply dM.s;exact rfl)|(apply dM.c;exact rfl;exact pO)))(jZ:H=G jv:=by rfl):co Y (.loop oe) Q l H (J.b8 body jv) T:=co.Yi id dG G jv rfl bw jZ round
theorem co.ajk{bX lj:Type}{zw dG:bX×lj->bY}{ti:List aG->bX×lj->List aG}{G:bX×lj->List aG}{body:bX->Option (bX ⊕ R)}{oe:dS}{jv:bX}{er:bX×lj}(_:JC zw ti ks er)(round:∀x n,co Y oe (uo Y Prod.fst dG G body T n Q) (dG x) (G x) (body x.1) (um body T n))(ar:er.1=jv:=by rfl)(au:of l ks l':=by(repeat first|exact of.n|(apply of.c;exact rfl)))(bx:∀x,sf (zw x) l' (dG x):=by(intro x;repeat first|exact sf.n|apply sf.c))(iD:∀x,ti H x=G x:=by(intro x;first|(dsimp only[dT,ek,List.set_cons_zero,List.set_cons_succ,aG.dc,V.dc,gb,rW,BX,BY,BZ,B0,B1,B2,B3,B4,B5,B6,B7,B8,B9,B_,B',Ca,Cb,Cc,List.append_nil,List.nil_append,List.cons_append,List.map_cons,List.map_nil,oL,V.cells,Sum.elim_inl,Sum.elim_inr];exact rfl)|exact rfl))(bw:dM l (dG er):=by(repeat first|exact .n|(apply dM.s;exact rfl)|(apply dM.c;exact rfl;exact pO)))(jZ:H=G er:=by rfl):co Y (.loop oe) Q l H (J.b8 body jv) T:=co.Yi Prod.fst dG G er ar bw jZ round
theorem co.fb{dG:β->bY}{G:β->List aG}(zw:β->bY)(ti:List aG->β->List aG)(ks:List Nat)(k:β->Option R)(h:∀b,co Y y Q (dG b) (G b) (k b) T)(ar:(∀l H b,dM l (dG b)->H=G b->bZ Y (pp Y.X y Q) .normal l H (k b) T)->co Y x (pp Y.X y Q) l H m T)(au:of l ks l':=by(repeat first|exact of.n|(apply of.c;exact rfl)))(bx:∀x,sf (zw x) l' (dG x):=by(intro x;repeat first|exact sf.n|apply sf.c))(iD:∀x,ti H x=G x:=by(intro x;first|(dsimp only[dT,ek,List.set_cons_zero,List.set_cons_succ,aG.dc,V.dc,gb,rW,BX,BY,BZ,B0,B1,B2,B3,B4,B5,B6,B7,B8,B9,B_,B',Ca,Cb,Cc,List.append_nil,List.nil_append,List.cons_append,List.map_cons,List.map_nil,oL,V.cells,Sum.elim_inl,Sum.elim_inr];exact rfl)|exact rfl)):co Y (.seq x y) Q l H m T:=co.afQ dG G k h ar
theorem cJ{jR:α->Nat->Prop}(dG:α->bY)(ti:List aG->α->List aG)(ks:List Nat)(r:∀x n,jR x n)(h:JC dG ti ks ()->(∀x n,jR x n)->G:=by intro er r;refine b4 ?_;exact co.aji er r):G:=h trivial r
theorem nA{jR:α->Nat->Prop}(dG:α->bY)(ti:List aG->α->List aG)(ks:List Nat)(x:α)(r:∀x n,jR x n)(h:JC dG ti ks x->(∀x n,jR x n)->G:=by intro er r;refine b4 ?_;exact co.ajk er r):G:=h trivial r
end
abbrev xw{R:Type}(fa:R->V)(iG:R->List aG)(r:R)(v:V)(H:List aG):Prop:=v=fa r/\H=iG r
section
variable {R : Type} {av : cj} {f : gh} {fn : Func} {c : dS} {N : Nat} {ds : List V} {H : List aG} {zt : Nat} {m : Option R} {fa : R -> V} {iG : R -> List aG}
class vJ(H:List aG)(n:Nat)(H':outParam (List aG)):Prop where h:H++List.replicate n .bW=H'
instance:vJ [] 0 []:=⟨rfl⟩
instance{n:Nat}{r:List aG} [k:vJ [] n r]:vJ [] (n+1) (.bW::r):=⟨by rw[<-k.h];rfl⟩
instance{o:aG}{t r:List aG}{n:Nat} [k:vJ t n r]:vJ (o::t) n (o::r):=⟨by rw[<-k.h];rfl⟩
variable {H':List aG}
theorem fC.aY(n:Nat) [ar:vJ H n H'](a8:av.funcs[f]? =D fn)(aB:fn.body=D c)(e0:fn.ntmps=N)(h:∀r w g,co ⟨⟨aF,av,N,[]⟩,w,g,H⟩ c (bodyPost av fn (i6 w g H (xw fa iG r))) (sW 0 ds) H' m (λq=>q=r))(hle:ev ds.length N=ah:=by rfl):fC m av f ds H zt fa iG:=⟨λ_ hm=>q1.qh (P:=xw fa iG) hm a8 aB e0 hle λw g=>.ext n (ar.h▸h _ w g)⟩
theorem fC.qh(n:Nat) [ar:vJ H n H'](a8:av.funcs[f]? =D fn)(aB:fn.body=D c)(e0:fn.ntmps=N)(h:∀r w g,co ⟨⟨aF,av,N,[]⟩,w,g,H⟩ c (bodyPostM (hK aF) 0 av fn (i6 w g H (xw fa iG r))) (sW 0 ds) H' m (λq=>q=r))(hle:ev ds.length N=ah:=by rfl):fC m av f ds H zt fa iG:=⟨λ_ hm=>q1.ahE (P:=xw fa iG) hm a8 aB e0 hle λw g=>.ext n (ar.h▸h _ w g)⟩
def JD{R:Type}(m:Option R)(av:cj)(f:gh)(ds:List V)(H:List aG)(fa:R->V)(iG:R->List aG):Prop:=∀ ⦃r:R⦄,m=D r->ahI av f ds H (fa r) (iG r)
theorem JD.aY(n:Nat) [ar:vJ H n H'](a8:av.funcs[f]? =D fn)(aB:fn.body=D c)(e0:fn.ntmps=N)(h:∀r w g,co ⟨⟨aF,av,N,[]⟩,w,g,H⟩ c (bodyPost av fn (i6 w g H (xw fa iG r))) (sW 0 ds) H' m (λq=>q=r))(hle:ev ds.length N=ah:=by rfl):JD m av f ds H fa iG:=λ_ hm=>Fg.qh (P:=xw fa iG) hm a8 aB e0 hle λw g=>.ext n (ar.h▸h _ w g)
theorem fC.p{m:Option R}{r:R} [c:fC m av f ds [] 0 fa λ_=>[]](h:m=D r):y5 av f ds (fa r):=c.h h
theorem fC.br(h:m=aF):fC m av f ds H zt fa iG:=⟨λ_ e=>by rw[h]at e;cases e⟩
theorem Jr.aY{f N j:Nat}{dJ:Option dS}{fr:bY}{ps:Array Nat}{as eD:dS}(n:Nat) [ar:vJ (.loop .ready dJ f N fr ps as eD j::H) n H'](h:∀r w (g:b_),co ⟨⟨D (g.β 0),av,N,[]⟩,w,g,.loop .ready dJ f N fr ps as eD j::H⟩ as (PB av (g.β 0) eD (i6 w g (.loop .ready dJ f N fr ps as eD j::H) (xw fa iG r))) (I8 ps.toList ds fr) H' m (λq=>q=r))(ta:(d' ps.toList.length ds.length&&ps.toList.all (λp=>fV p N))=ah:=by rfl):Jr m av ds (.loop .ready dJ f N fr ps as eD j::H) fa iG:=⟨λ_ hm=>I7.qh (i:=0) (P:=xw fa iG) hm rfl ta λw g=>.ext n (ar.h▸h _ w g)⟩
end
end Go.Dp

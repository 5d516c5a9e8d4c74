/- Steps that find themselves: contracts and facts of types by instances, whole walks by one script. -/
import Derived.Test.YtjfgooffdmnnkaaGreatDoorF
set_option linter.all false
set_option maxRecDepth 100000
namespace Go.Dp
open Go Go.Mi Go.RowKit
open Bool renaming true->ad,false->aS
open Go renaming Operand->bY,TypeId->co,Program->cF,IntKind->ip,Value->be,FuncId->hE,Code->eZ,World->bj,Oper->b_,Exit->df
open List renaming append_nil->iZ,nil_append->F0,map_cons->hH,mem_cons_of_mem->F1,nodup_cons->q3,mem_map->lz
open Nat renaming ble->fb,beq->eF,blt->h4,eq_of_beq_eq_true->mi,le_refl->bL,blt_eq->lA
open Option renaming some->I,none->aJ
class gb(aw:cF)(t:co)(b:outParam Bool):Prop where h:∀w,(isAgg t).run aw w=.ok b w
class hh(aw:cF)(t:co)(n:outParam Nat):Prop where h:∀w,(sizeOf t).run aw w=.ok n w
class jm(aw:cF)(t:co)(u:outParam TypeDesc):Prop where h:∀w,(underlying t).run aw w=.ok u w
class e8(aw:cF)(S f:Nat)(o:outParam Nat):Prop where h:∀w a,(Instr.fieldAt S (.pointer (I a)) f).run aw w=.ok (.pointer (I (a.add o))) w
class mN(aw:cF)(cf:Nat)(pl:outParam (List (Nat×Nat)))(f':outParam (List be)):Prop where h:∀(c:Array be)(ps:List (Nat×be))(w:bj),Instr.fill (λi=>pl[i]?) f'.toArray ps=I c->(Instr.build cf ps.toArray).run aw w=.ok (.agg c) w
class ade(aw:cF):Prop where h:aw.follows .mixedOrders=ad
class kj(aw:cF)(t:co)(v:outParam be):Prop where h:∀w,(zeroValue t).run aw w=.ok v w
class x9{α:Type}(ga:α->V):Prop where
 h:∀z s,(ga z).dN s=ga z
 l:∀z k,(ga z).lt k=ad
theorem x9.w{α:Type}{ga:α->V} [c:x9 ga]{z:α}{s:Nat->Nat}:hg (ga z) ((ga z).dN s):=by rw[c.h];exact .lB
class s6(aw:cF)(bG:co)(k:outParam Nat){α:outParam Type}(e:outParam (α->List P)):Prop where
 l:∀x,(e x).length=k
 o:∀x,(e x).all P.one=ad
class wF(aw:cF)(cf:co)(bG:outParam co)(z:outParam be)(k b:outParam Nat):Prop where
 u:aw.underlying cf=I (.slice bG)
 i:(aw.info? bG).map (λi=>(i.zero,i.size,i.bytes))=I (I z,k,b)
class gB{R:Type}(m:Option R)(aw:cF)(f:outParam hE)(ds:outParam (List V))(Hc:outParam (List aN))(Dl:outParam Nat)(ga:outParam (R->V))(j1:outParam (R->List aN)):Prop where h:∀ ⦃r:R⦄,m=I r->CX aw f ds Hc (ga r) (j1 r)
class N4{R:Type}(m:Option R)(aw:cF)(ds:outParam (List V))(Hc:outParam (List aN))(ga:outParam (R->V))(j1:outParam (R->List aN)):Prop where h:∀ ⦃r:R⦄,m=I r->AX aw 0 ds Hc (ga r) (j1 r)
def amY(k:ip)(a b:Int):BinOp->Option V
 |.add=>I (.p (.v (.int k (k.wrap (a+b)))))
 |.sub=>I (.p (.v (.int k (k.wrap (a-b)))))
 |.mul=>I (.p (.v (.int k (k.wrap (a*b)))))
 |.lss=>I (bD (decide (a<b)))
 |.leq=>I (bD (decide (a<=b)))
 |.gtr=>I (bD (decide (b<a)))
 |.geq=>I (bD (decide (b<=a)))
 |.eql=>I (bD (decide (a=b)))
 |.neq=>I (bD (!decide (a=b)))
 |.and=>I (.p (.v (.int k (ui k a b))))
 |.or=>I (.p (.v (.int k (NS k a b))))
 |.xor=>I (.p (.v (.int k (Dd k a b))))
 |_=>aJ
def amZ(a b:ByteArray):BinOp->Option V
 |.eql=>I (bD (decide (a=b)))
 |.neq=>I (bD (!decide (a=b)))
 |_=>aJ
def adf(o:BinOp):V->V->Option V
 |.p (.v (.int k a)),.p (.v (.int cV b))=>if k=cV then amY k a b o else aJ
 |.p (.v (.string a)),.p (.v (.string b))=>amZ a b o
 |_,_=>aJ
def zi(x:Option V)(f:V->Option V):Option V:=match x with
 |some d=>f d
 |none=>aJ
def adg(l:ce):Op->Option V
 |.move x=>bV l x
 |.assign x=>bV l x
 |.nilCheck x=>zi (bV l x) λ| .aV i o=>I (.aV i o)|_=>aJ
 |.extract x i=>zi (bV l x) λ| .cx ds=>ds[i]? |_=>aJ
 |.pick c x y=>zi (bV l c) λ| .p (.v (.bool ad))=>bV l x| .p (.v (.bool aS))=>bV l y|_=>aJ
 |.unOp .not _ x=>zi (bV l x) λ| .p (.v (.bool b))=>I (bD (!b))|_=>aJ
 |.unOp .neg _ x=>zi (bV l x) λ| .p (.v (.int k n))=>I (.p (.v (.int k (k.wrap (-n)))))|_=>aJ
 |.unOp .xor _ x=>zi (bV l x) λ| .p (.v (.int .i64 n))=>I (.p (.v (.int .i64 (Dd .i64 (-1) n))))|_=>aJ
 |.binOp o _ x y _=>zi (bV l x) λa=>zi (bV l y) λb=>adf o a b
 |_=>aJ
variable {d:V}
theorem A7{x:Option V}{f:V->Option V}(h:zi x f=I d):∃a,x=I a/\f a=I d:=by
 cases x with
 |none=>cases h
 |some a=>exact⟨a,rfl,h⟩
variable {aw:cF}{ty:co}
theorem am0 {T:co}{ρ:bY->Option V}{x:bY}{n:Int}(ak:ρ x=I (.p (.v (.int .i64 n)))):bP aw (.unOp .xor T x) ty ρ [] [] (.p (.v (.int .i64 (Dd .i64 (-1) n)))):=.plain λw e o aU _ bg=>by have a2:=bg x (by simp[Op.operands]) _ ak;unfold execOp;rw[aU];simp[a2,Op.unary,Op.intBits,Dd,IntKind.signed,Sem.run_bind,Result.andThen]
theorem am1{l:ce}{op:Op}(h:adg l op=I d):bP aw op ty (bV l) [] [] d:=by
 cases op with
 |move x=>exact aak h
 |assign x=>exact S5 h
 |nilCheck x=>
  obtain⟨a,h1,h2⟩:=A7 h;cases a<;>cases h2
  exact MN h1
 |extract x i=>obtain⟨a,h1,h2⟩:=A7 h;cases a<;>first|exact ajo h1 h2|cases h2
 |pick c x y=>
  obtain⟨a,h1,h2⟩:=A7 h;cases a with
  |p a=>cases a with
   |v a=>cases a with
    |bool b=>cases b with
     |true=>exact aje h1 h2
     |false=>exact ajf h1 h2
    |_=>cases h2
   |_=>cases h2
  |_=>cases h2
 |unOp o T x=>cases o with
  |not=>
   obtain⟨a,h1,h2⟩:=A7 h;cases a with
   |p a=>cases a with
    |v a=>cases a<;>cases h2;exact ajn h1
    |_=>cases h2
   |_=>cases h2
  |neg=>
   obtain⟨a,h1,h2⟩:=A7 h;cases a with
   |p a=>cases a with
    |v a=>cases a<;>cases h2;exact aky h1
    |_=>cases h2
   |_=>cases h2
  |xor=>
   obtain⟨a,h1,h2⟩:=A7 h;split at h2
   ·cases h2;exact am0 h1
   ·cases h2
  |_=>cases h
 |binOp o T x y cf=>
  obtain⟨a,h1,h2⟩:=A7 h;obtain⟨b,ay,bl⟩:=A7 h2;unfold adf at bl;split at bl
  ·split at bl
   ·next e=>
    subst e;cases o<;>cases bl
    all_goals first|exact akc h1 ay|exact akd h1 ay|exact ake h1 ay|exact ajh h1 ay|exact aji h1 ay|exact ajj h1 ay|exact ajk h1 ay|exact ajl h1 ay|exact ajm h1 ay|exact al7 h1 ay|exact al8 h1 ay|exact al9 h1 ay
   ·cases bl
  ·cases o<;>cases bl
   all_goals first|exact akr h1 ay|exact aks h1 ay
  ·cases bl
 |_=>cases h
variable {Z:Nat}{l:List Nat}
theorem F2:b0 (Z::l) 0=Z:=rfl
variable {an:Nat}
theorem F3:b0 (Z::an::l) 1=an:=rfl
variable {a':Nat}
theorem F4:b0 (Z::an::a'::l) 2=a':=rfl
variable {dr:Nat}
theorem F5:b0 (Z::an::a'::dr::l) 3=dr:=rfl
variable {gp:Nat}
theorem F6:b0 (Z::an::a'::dr::gp::l) 4=gp:=rfl
variable {jk:Nat}
theorem F7:b0 (Z::an::a'::dr::gp::jk::l) 5=jk:=rfl
variable {iQ:Nat}
theorem F8:b0 (Z::an::a'::dr::gp::jk::iQ::l) 6=iQ:=rfl
variable {jt:Nat}
theorem F9:b0 (Z::an::a'::dr::gp::jk::iQ::jt::l) 7=jt:=rfl
variable {lm:Nat}
theorem F_:b0 (Z::an::a'::dr::gp::jk::iQ::jt::lm::l) 8=lm:=rfl
variable {ky:Nat}
theorem F':b0 (Z::an::a'::dr::gp::jk::iQ::jt::lm::ky::l) 9=ky:=rfl
variable {mK:Nat}
theorem Ga:b0 (Z::an::a'::dr::gp::jk::iQ::jt::lm::ky::mK::l) 10=mK:=rfl
variable {l1:Nat}
theorem Gb:b0 (Z::an::a'::dr::gp::jk::iQ::jt::lm::ky::mK::l1::l) 11=l1:=rfl
variable {m9:Nat}
theorem Gc:b0 (Z::an::a'::dr::gp::jk::iQ::jt::lm::ky::mK::l1::m9::l) 12=m9:=rfl
variable {nN:Nat}
theorem Gd:b0 (Z::an::a'::dr::gp::jk::iQ::jt::lm::ky::mK::l1::m9::nN::l) 13=nN:=rfl
variable {vb:Nat}
theorem Ge:b0 (Z::an::a'::dr::gp::jk::iQ::jt::lm::ky::mK::l1::m9::nN::vb::l) 14=vb:=rfl
variable {N5:Nat}
theorem Gf:b0 (Z::an::a'::dr::gp::jk::iQ::jt::lm::ky::mK::l1::m9::nN::vb::N5::l) 15=N5:=rfl
variable {Va:Nat}
theorem Gg:b0 (Z::an::a'::dr::gp::jk::iQ::jt::lm::ky::mK::l1::m9::nN::vb::N5::Va::l) 16=Va:=rfl
theorem Gh {adh:Nat}:b0 (Z::an::a'::dr::gp::jk::iQ::jt::lm::ky::mK::l1::m9::nN::vb::N5::Va::adh::l) 17=adh:=rfl
inductive zj:List (Nat×aN)->List Nat->Prop
 |n:zj [] []
 |c {j:Nat} {o:aN} {l:List (Nat×aN)} {s:List Nat} (t:zj l s):zj ((j,o)::l) (j::s)
theorem zj.br{l:List (Nat×aN)}{s:List Nat}(h:zj l s):l.map (·.1)=s:=by
 induction h with
 |n=>rfl
 |c t bx=>rw[hH,bx]
inductive r6:List (Nat×aN)->List (Nat×aN)->List (Nat×aN)->Prop
 |n {dx:List (Nat×aN)}:r6 [] dx []
 |s {q:Nat×aN} {c0 dx ww:List (Nat×aN)} (t:r6 c0 dx ww):r6 (q::c0) (q::dx) ww
 |d {j:Nat} {o o':aN} {c0 dx ww:List (Nat×aN)} (t:r6 c0 dx ww):r6 ((j,o)::c0) ((j,o')::dx) ((j,o)::ww)
theorem r6.set{c0 dx ww:List (Nat×aN)}(h:r6 c0 dx ww)(a6:(dx.map (·.1)).Nodup):∀H,gx H dx->eH H c0=eH H ww:=by
 induction h with
 |n=>exact λ_ _=>rfl
 |@s q c0 dx ww t bx=>intro H aO;rw[hH,q3]at a6;rw[show eH H (q::c0)=eH (H.set q.1 q.2) c0 from rfl,acZ (aO q List.mem_cons_self)];exact bx a6.2 H λp hp=>aO p (F1 _ hp)
 |@d j o o' c0 dx ww t bx=>intro H aO;rw[hH,q3]at a6;refine bx a6.2 (H.set j o) λp hp=>?_;rw[lf λe=>a6.1 (lz.2 ⟨p,hp,e⟩)];exact aO p (F1 _ hp)
def hB(aw:cF)(H:List aN)(op:Op)(ty:co)(ρ:bY->Option V)(dx c0:List (Nat×aN))(d:V):Prop:=bP aw op ty ρ dx c0 d/\gx H dx
section
variable {Y : gY} {Q : df -> Act -> bj -> Prop} {l : ce} {H : List aN} {R : Type} {m m' : Option R} {T : R -> Prop} {ops : Array b_} {os rest : List b_} {acc : List (List Nat × List Nat)} {en : List oo} {t : Nat} {op : Op} {ty : co} {pos : String} {cT : Array Edge} {fs : Option (Nat × Bool)} {dst : Option Tmp} {dx c0 : List (Nat × aN)} {d : V} {α : Type} {x : Option α} {f : α -> Option R} {rr ww : α -> List (Nat × aN)} {dd : α -> V}
theorem bS.o(h:hB Y.X.P H op ty (bV l) dx [] d)(aG:h4 t Y.X.N=ad)(k:bS Y ops Q rest ((t,d)::l) H m T):bS Y ops Q ({dst:=I t,op:=op,type:=ty,pos:=pos,after:=cT,guard:=aJ}::rest) l H m T:=.ar (dst:=I t) h.1 h.2 aG k
variable {H2:List aN}
theorem bS.w(h:hB Y.X.P H op ty (bV l) dx c0 d)(aG:m4 Y.X.N dst=ad)(a6:eH H c0=H2)(k:bS Y ops Q rest (hJ dst d l) H2 m T):bS Y ops Q ({dst:=dst,op:=op,type:=ty,pos:=pos,after:=cT,guard:=aJ}::rest) l H m T:=.ar h.1 h.2 aG (a6▸k)
theorem bS.a(h:∀z,x=I z->hB Y.X.P H op ty (bV l) dx [] (dd z))(aG:h4 t Y.X.N=ad)(k:∀z,bS Y ops Q rest ((t,dd z)::l) H (f z) T):bS Y ops Q ({dst:=I t,op:=op,type:=ty,pos:=pos,after:=cT,guard:=aJ}::rest) l H (x.bind f) T:=λe=>by obtain⟨z,h1,h2⟩:=e.bind;exact e0.ar (dst:=I t) (h z h1).1 (h z h1).2 aG (k z h2)
theorem bS.vk(h:∀z,x=I z->hB Y.X.P H op ty (bV l) (rr z) (ww z) (dd z))(aG:m4 Y.X.N dst=ad)(k:∀z d H2 m',dd z=d->eH H (ww z)=H2->f z=m'->bS Y ops Q rest (hJ dst d l) H2 m' T):bS Y ops Q ({dst:=dst,op:=op,type:=ty,pos:=pos,after:=cT,guard:=aJ}::rest) l H (x.bind f) T:=λe=>by obtain⟨z,h1,h2⟩:=e.bind;exact e0.ar (h z h1).1 (h z h1).2 aG (k z _ _ _ rfl rfl rfl h2)
theorem dl.o(h:hB Y.X.P H op ty (bV l) dx [] d)(b5:kH os l fs)(k:dl en Y Q os rest ((t,d)::l) H (acc++[(dx.map (·.1),[])]) m T):dl en Y Q os ({dst:=I t,op:=op,type:=ty,pos:=pos,after:=cT,guard:=fs}::rest) l H acc m T:=λe=>jl.oO (dst:=I t) h.1 h.2 b5 (k e)
theorem dl.w(h:hB Y.X.P H op ty (bV l) dx c0 d)(b5:kH os l fs)(ap:wE c0 en)(a6:eH H c0=H2)(k:dl en Y Q os rest (hJ dst d l) H2 (acc++[(dx.map (·.1),c0.map (·.1))]) m T):dl en Y Q os ({dst:=dst,op:=op,type:=ty,pos:=pos,after:=cT,guard:=fs}::rest) l H acc m T:=λe=>jl.Dj h.1 h.2 ap b5 (a6▸k e)
theorem dl.a(h:∀z,x=I z->hB Y.X.P H op ty (bV l) dx [] (dd z))(b5:kH os l fs)(k:∀z,dl en Y Q os rest ((t,dd z)::l) H (acc++[(dx.map (·.1),[])]) (f z) T):dl en Y Q os ({dst:=I t,op:=op,type:=ty,pos:=pos,after:=cT,guard:=fs}::rest) l H acc (x.bind f) T:=λe=>by obtain⟨z,h1,h2⟩:=e.bind;exact jl.oO (dst:=I t) (h z h1).1 (h z h1).2 b5 (k z h2)
theorem dl.vk{kf:List Nat}{ws:α->List Nat}(h:∀z,x=I z->hB Y.X.P H op ty (bV l) (rr z) (ww z) (dd z))(IX:∀z,zj (rr z) kf)(am2:∀z,zj (ww z) (ws z))(b5:kH os l fs)(ap:∀z,wE (ww z) en)(k:∀z d H2 m',dd z=d->eH H (ww z)=H2->f z=m'->dl en Y Q os rest (hJ dst d l) H2 (acc++[(kf,ws z)]) m' T):dl en Y Q os ({dst:=dst,op:=op,type:=ty,pos:=pos,after:=cT,guard:=fs}::rest) l H acc (x.bind f) T:=λe=>by obtain⟨z,h1,h2⟩:=e.bind;have:=k z _ _ _ rfl rfl rfl h2;rw[<-(IX z).br,<-(am2 z).br]at this;exact jl.Dj (h z h1).1 (h z h1).2 (ap z) b5 this
theorem dl.ar(h:bP Y.X.P op ty (bV l) dx c0 d)(ev:gx H dx)(b5:kH os l fs)(k:dl en Y Q os rest (hJ dst d l) (eH H c0) (acc++[(dx.map (·.1),c0.map (·.1))]) m T)(ap:wE c0 en:=by trivial):dl en Y Q os ({dst:=dst,op:=op,type:=ty,pos:=pos,after:=cT,guard:=fs}::rest) l H acc m T:=λe=>jl.Dj h ev ap b5 (k e)
theorem dl.q(h:bP Y.X.P op ty (bV l) [] [] d)(b5:kH os l fs)(k:dl en Y Q os rest ((t,d)::l) H (acc++[([],[])]) m T):dl en Y Q os ({dst:=I t,op:=op,type:=ty,pos:=pos,after:=cT,guard:=fs}::rest) l H acc m T:=λe=>jl.oO (dst:=I t) h fy b5 (k e)
theorem dl.q8(h:∀z,x=I z->bP Y.X.P op ty (bV l) (rr z) (ww z) (dd z))(ev:∀z,gx H (rr z))(b5:kH os l fs)(k:∀z,dl en Y Q os rest (hJ dst (dd z) l) (eH H (ww z)) (acc++[((rr z).map (·.1),(ww z).map (·.1))]) (f z) T)(ap:∀z,wE (ww z) en:=by exact λ_=>trivial):dl en Y Q os ({dst:=dst,op:=op,type:=ty,pos:=pos,after:=cT,guard:=fs}::rest) l H acc (x.bind f) T:=λe=>by obtain⟨z,h1,h2⟩:=e.bind;exact jl.Dj (h z h1) (ev z) (ap z) b5 (k z h2)
theorem dl.mk{β:Type}{cf bG bytes:Nat}{mJ:be}{y:bY}{K:ip}{n:Int}{f:List β->Option R}(i:Nat)(c:β->P)(fc:β)(aj:Y.X.P.underlying cf=I (.slice bG))(gM:(Y.X.P.info? bG).map (λi=>(i.zero,i.size,i.bytes))=I (I mJ,1,bytes))(aP:mJ.cells=#[mJ])(ak:bV l y=I (.p (.v (.int K n))))(aF:fb bytes 128=ad)(bh:∀E w,iW E w (c fc) mJ)(hi:H[i]? =I .cc)(b5:kH os l fs)(k:∀z:List β,dl [] Y Q os rest ((t,.ek i 0 z.length z.length)::l) (H.set i (.bA bG (z.map c))) (acc++[([i],[i])]) (f z) T):dl [] Y Q os ({dst:=I t,op:=.makeSlice cf y y,type:=ty,pos:=pos,after:=cT,guard:=fs}::rest) l H acc ((Go.Dp.mk n fc).bind f) T:=λdt=>by obtain⟨z,h1,h2⟩:=dt.bind;exact jl.Dj (dst:=I t) (abm (i:=i) aj gM aP ak aF h1 bh) (fa hi) trivial b5 (k _ h2)
theorem dl.bT{β:Type}{cf bG k n:Nat}{z:be}{parts:List (Nat×bY)}{ds:List V}(xs:List β)(e:β->List P)(aj:∀w,(underlying cf).run Y.X.P w=.ok (.slice bG) w)(ap:∀w,(sizeOf bG).run Y.X.P w=.ok k w)(aP:∀w,(zeroValue bG).run Y.X.P w=.ok z w)(ak:nF l (parts.map (·.2))=I ds)(no:parts=(parts.map (·.2)).zipIdx.map (λp=>(p.2,p.1)))(aU:(ds.all λd=>d.cells.all V.one&&eF d.cells.length k)=ad)(gl:ds.flatMap V.cells=(xs.flatMap e).map .p)(a6:ds.length=xs.length)(mh:xs.length=n)(hle:fb (xs.length*k) 16777216=ad)(b5:kH os l fs)(cI:dl en Y Q os rest ((t,bM k e xs)::l) H (acc++[([],[])]) m T):dl en Y Q os ({dst:=I t,op:=.buildSlice cf n parts.toArray,type:=ty,pos:=pos,after:=cT,guard:=fs}::rest) l H acc m T:=.q (TP xs e aj ap aP ak no aU gl a6 mh hle) b5 cI
theorem dl.TO{b:Bool}{m':Option R}(d:Nat)(aF:c6 l d=I (bD b))(aj:dl en Y Q os rest ((d,bD ad)::l) H acc m T)(bg:dl en Y Q os rest ((d,bD aS)::l) H acc m' T):dl en Y Q os rest l H acc (if b=ad then m else m') T:=λe=>by
 have ak:∀{c:Bool},b=c->∀t,c6 ((d,bD c)::l) t=c6 l t:=λq t=>by
  subst q;simp only[c6];cases ax:eF d t with
  |true=>have:=mi ax;subst this;exact aF.symm
  |false=>rfl
 have ext:∀{l':ce},(∀t,c6 l' t=c6 l t)->jl en Y Q os rest l' H acc->jl en Y Q os rest l H acc:=λ{l'} h k=>by obtain⟨ms,h1,h2,bO,ay,bl⟩:=k;exact⟨ms,h1.ext h,h2,bO,ay,fI.sub (λt d aG=>⟨d,by rw[<-TR 0 rest ms l' l h];exact aG,.lB⟩) bl⟩
 rcases e.bK with⟨q,e⟩|⟨q,e⟩
 ·exact ext (ak q) (aj e)
 ·exact ext (ak q) (bg e)
theorem dl.bt{j dM:Nat}{want:Bool}(ag:(os[j]?).bind (·.dst)=I dM)(aF:c6 l dM=I (bD (!want)))(k:dl en Y Q os rest (hJ dst (.p (.v undef)) l) H (acc++[([],[])]) m T):
  dl en Y Q os ({dst:=dst,op:=op,type:=ty,pos:=pos,after:=cT,guard:=I (j,want)}::rest) l H acc m T:=λe=>jl.cons (m:=gy.bt) (.off rfl ag aF rfl) fy ⟨.inl rfl,JR⟩ (k e)
theorem dl.Je{j dM:Nat}{want:Bool}(ag:(os[j]?).bind (·.dst)=I dM)(aF:c6 l dM=I (.p (.v undef)))(k:dl en Y Q os rest (hJ dst (.p (.v undef)) l) H (acc++[([],[])]) m T):
  dl en Y Q os ({dst:=dst,op:=op,type:=ty,pos:=pos,after:=cT,guard:=I (j,want)}::rest) l H acc m T:=λe=>jl.cons (m:=gy.bt) (.Ft rfl ag aF rfl) fy ⟨.inl rfl,JR⟩ (k e)
theorem dl.as(h:m=m')(k:dl en Y Q os rest l H acc m' T):dl en Y Q os rest l H acc m T:=h▸k
end
section
variable {aw : cF} {H : List aN} {l : ce} {ty : co}
variable {d:V}{op:Op}
theorem hB.p{ρ:bY->Option V}(h:bP aw op ty ρ [] [] d):hB aw H op ty ρ [] [] d:=⟨h,fy⟩
theorem am3(h:adg l op=I d):hB aw H op ty (bV l) [] [] d:=.p (am1 h)
variable {c8 cf:Nat}{cs:List V}{i off:Nat}{x:bY}
theorem am4 [h:gb aw cf aS](ak:bV l x=I (.aV i off))(hi:H[i]? =I (.cells c8 cs))(ax:cs[off]? =I d):hB aw H (.load cf x) ty (bV l) [(i,.cells c8 cs)] [] d:=⟨Ta h.h ak ax,fa hi⟩
theorem am5 {n:Nat} [h:gb aw cf ad] [k:hh aw cf n](ak:bV l x=I (.aV i off))(hi:H[i]? =I (.cells c8 cs))(aC:fb (off+n) cs.length=ad):hB aw H (.load cf x) ty (bV l) [(i,.cells c8 cs)] [] (.agg ((cs.drop off).take n)):=⟨aju h.h k.h ak aC,fa hi⟩
variable {α:Type}{xs:List α}
theorem am6{c:α->P}{q:{q:Nat×α // xs[q.1]? =I q.2}} [h:gb aw cf aS](ak:bV l x=I (.aV i q.1.1))(hi:H[i]? =I (.bA c8 (xs.map c))):hB aw H (.load cf x) ty (bV l) [(i,.bA c8 (xs.map c))] [] (.p (c q.1.2)):=⟨akL q h.h ak,fa hi⟩
variable {y:bY}
theorem am7 {n:Nat} [h:hh aw cf n](ak:bV l x=I (.aV i off))(a9:bV l y=I d)(hi:H[i]? =I (.cells c8 cs))(h1:d.cells.all V.one=ad)(sO:d.cells.length=n)(hle:fb (off+n) cs.length=ad):hB aw H (.store cf x y) ty (bV l) [(i,.cells c8 cs)] [(i,.cells c8 (q4 cs off d.cells))] (.p (.v undef)):=⟨Tb h.h ak a9 h1 sO hle,fa hi⟩
theorem am8{c:α->P}{v:α}{q:{q:Nat×α // xs[q.1]? =I q.2}} [h:hh aw cf 1](ak:bV l x=I (.aV i q.1.1))(hi:H[i]? =I (.bA c8 (xs.map c)))(a9:bV l y=I (.p (c v)))(h1:(c v).one=ad):hB aw H (.store cf x y) ty (bV l) [(i,.bA c8 (xs.map c))] [(i,.bA c8 ((xs.set q.1.1 v).map c))] (.p (.v undef)):=⟨akM q h.h ak a9 h1,fa hi⟩
theorem r7{G:Prop}(h:G:=by(repeat first|exact .lB|exact x9.w|exact .TM|exact .nil|exact .n|refine .agg ?_ |refine .c ?_ ?_);all_goals fail):G:=h
theorem dd{H:List aN}(i:Nat)(h:H[i]? =I .cc):H[i]? =I .cc:=h
theorem N6{G:Prop}(h:G:=by first|exact dd 0 rfl|exact dd 1 rfl|exact dd 2 rfl|exact dd 3 rfl|exact dd 4 rfl|exact dd 5 rfl|exact dd 6 rfl|exact dd 7 rfl|exact dd 8 rfl|exact dd 9 rfl|exact dd 10 rfl|exact dd 11 rfl|exact dd 12 rfl|exact dd 13 rfl|exact dd 14 rfl|exact dd 15 rfl|exact dd 16 rfl|exact dd 17 rfl|exact dd 18 rfl|exact dd 19 rfl|exact dd 20 rfl|exact dd 21 rfl|exact dd 22 rfl|exact dd 23 rfl|exact dd 24 rfl|exact dd 25 rfl|exact dd 26 rfl|exact dd 27 rfl|exact dd 28 rfl|exact dd 29 rfl):G:=h
theorem am9(ak:bV l x=I d:=by rfl)(h1:d.cells.all V.one=ad:=by rfl)(hi:H[i]? =I .cc:=by exact N6):hB aw H (.box cf x) ty (bV l) [(i,.cc)] [(i,.cells cf d.cells)] (.aV i 0):=⟨ajv ak h1,fa hi⟩
theorem ana{v:be}{vs:List be} [h:kj aw cf v](q5:v.cells=vs.toArray:=by rfl)(hi:H[i]? =I .cc:=by exact N6):hB aw H (.alloc cf) ty (bV l) [(i,.cc)] [(i,.cells cf (vs.map λu=>.p (.v u)))] (.aV i 0):=⟨ajw h.h q5,fa hi⟩
inductive mO {α:Type}:List α->Nat->List Nat->Prop
 |n {k:Nat}:mO [] k []
 |c {k:Nat} {o:α} {t:List α} {s:List Nat} (h:mO t (k+1) s):mO (o::t) k (k::s)
variable {ds:List V}{e:α->List P}{bG:Nat}{parts:List (Nat×bY)}{z:be}
theorem zk {k n:Nat} [aj:jm aw cf (.slice bG)] [s6 aw bG k e] [ap:hh aw bG k] [aP:kj aw bG z](mh:xs.length=n:=by rfl)(ak:nF l (parts.map (·.2))=I ds:=by rfl)(gl:ds.flatMap V.cells=(xs.flatMap e).map .p:=by rfl)(no:parts=(parts.map (·.2)).zipIdx.map (λp=>(p.2,p.1)):=by rfl)(aU:(ds.all λd=>d.cells.all V.one&&eF d.cells.length k)=ad:=by rfl)(a6:ds.length=xs.length:=by rfl)(hle:fb (xs.length*k) 16777216=ad:=by rfl):hB aw H (.buildSlice cf n parts.toArray) ty (bV l) [] [] (bM k e xs):=.p (TP xs e aj.h ap.h aP.h ak no aU gl a6 mh hle)
theorem Gi {k n:Nat} [aj:jm aw cf (.slice bG)] [s6 aw bG k e] [ap:hh aw bG k] [aP:kj aw bG z](mh:xs.length=n:=by rfl)(ak:nF l (parts.map (·.2))=I ds:=by rfl)(gl:ds.flatMap V.cells=(xs.flatMap e).map .p:=by rfl)(hi:H[i]? =I .cc:=by exact N6)(no:parts=(parts.map (·.2)).zipIdx.map (λp=>(p.2,p.1)):=by rfl)(aU:(ds.all λd=>d.cells.all V.one&&eF d.cells.length k)=ad:=by rfl)(a6:ds.length=xs.length:=by rfl)(hle:fb (xs.length*k) 16777216=ad:=by rfl)(hm:fb xs.length 16777216=ad:=by rfl):hB aw H (.buildSlice cf n parts.toArray) ty (bV l) [(i,.cc)] [(i,.bs bG k 0)] (cZ k e xs i 0):=⟨aa4 xs e aj.h ap.h aP.h ak no aU gl a6 mh hle hm,fa hi⟩
variable {S f:Nat}
theorem anb {o:Nat} [h:e8 aw S f off](ak:bV l x=I (.aV i o)):hB aw H (.fieldAddr S x f) ty (bV l) [] [] (.aV i (o+off)):=.p (aaw h.h ak)
theorem anc{cs:List P} [h:e8 aw S f off](ak:bV l x=I (.bG cs))(aC:fb off cs.length=ad):hB aw H (.fieldAddr S x f) ty (bV l) [] [] (.bG (cs.drop off)):=.p (aax h.h ak aC)
theorem ane{T:co}{cs:List P}{c:P} [h:gb aw T aS](ak:bV l x=I (.bG cs))(ax:cs[0]? =I c):hB aw H (.load T x) ty (bV l) [] [] (.p c):=.p (aay h.h ak ax)
variable {T:Nat}
theorem anf {n:Nat}{cs:List P} [h:gb aw T ad] [k:hh aw T n](ak:bV l x=I (.bG cs))(aC:fb n cs.length=ad):hB aw H (.load T x) ty (bV l) [] [] (.agg ((cs.take n).map .p)):=.p (ajt h.h k.h ak aC)
variable {E:Nat}
theorem ang {k:Nat} [h:jm aw T (.slice E)](ak:bV l x=I d)(aQ:V.nJ k e d xs):hB aw H (.call {callee:=.builtin .len,args:=#[x],argTypes:=#[T]}) ty (bV l) [] [] (aL xs.length):=.p (aj2 h.h ak aQ)
theorem anh{T:co}{s:ByteArray} [h:jm aw T .string](ak:bV l x=I (cE s)):hB aw H (.call {callee:=.builtin .len,args:=#[x],argTypes:=#[T]}) ty (bV l) [] [] (aL s.size):=.p (aku h.h ak)
theorem ani {n cap:Nat} [h:jm aw T (.slice E)](ak:bV l x=I (.ek i off n cap)):hB aw H (.call {callee:=.builtin .len,args:=#[x],argTypes:=#[T]}) ty (bV l) [] [] (aL n):=.p (akN h.h ak)
theorem anj [h:jm aw T (.slice E)](ak:bV l x=I (.p (.v (.slice aJ 0 0)))):hB aw H (.call {callee:=.builtin .len,args:=#[x],argTypes:=#[T]}) ty (bV l) [] [] (aL 0):=.p (amh h.h ak)
variable {b:Int}
theorem ank{tys:Array co}{k:ip} {a:Int}(ak:bV l x=I (.p (.v (.int k a))))(a9:bV l y=I (.p (.v (.int k b)))):hB aw H (.call {callee:=.builtin .max,args:=#[x,y],argTypes:=tys}) ty (bV l) [] [] (.p (.v (.int k (gX a b)))):=.p (akF ak a9)
theorem anl{tys:Array co}{k:ip} {a:Int}(ak:bV l x=I (.p (.v (.int k a))))(a9:bV l y=I (.p (.v (.int k b)))):hB aw H (.call {callee:=.builtin .min,args:=#[x,y],argTypes:=tys}) ty (bV l) [] [] (.p (.v (.int k (it a b)))):=.p (akG ak a9)
theorem anm{pl:List (Nat×Nat)}{f':List be}{bu:List V} [h:mN aw T pl f'](ak:nF l (parts.map (·.2))=I ds)(aU:(((parts.map (·.1)).zip ds).all λq=>q.2.cells.all V.one)=ad)(bg:Fq pl (f'.map λv=>.p (.v v)) ((parts.map (·.1)).zip ds)=I bu):hB aw H (.build T parts.toArray) ty (bV l) [] [] (.agg bu):=.p (ajH h.h (FG ak) aU bg)
theorem adi{T:co}{cs:List P}(ak:bV l x=I d)(ax:d.cells=cs.map .p)(h1:cs.all P.one=ad):hB aw H (.box T x) ty (bV l) [] [] (.bG cs):=.p (akh ak ax h1)
theorem ann{S T:co}{k cV:ip}{n:Int} [fG:jm aw S (.int k)] [cw:jm aw T (.int cV)](ak:bV l x=I (.p (.v (.int k n)))):hB aw H (.convert S T x) ty (bV l) [] [] (.p (.v (.int cV (cV.wrap n)))):=.p (akg fG.h cw.h ak)
theorem ano{g:hE}{c3 cap:List bY} {bT:List V}(aF:nF l c3=I bT)(ax:nF l cap=I cs):hB aw H (.makeFunc (.func g) c3.toArray cap.toArray) ty (bV l) [] [] (.fn (.func g) bT cs):=.p (ajI (FG aF) (FG ax))
def r8:List be:=(List.range 256).map λi=>.int .u8 (cond (eF i 32||(fb 9 i&&fb i 13)) 1 0)
class adj(q:Nat):Prop where h:(q,r8)∈CG
def Gj(j:Int):Option Int:=if 0<=j/\j< 256 then I (cond (eF j.toNat 32||(fb 9 j.toNat&&fb j.toNat 13)) 1 0)else aJ
theorem anp {q:Nat}{K:ip}{j:Int} [jr:adj q] [cw:jm aw T (.array 256 E)] [aY:hh aw E 1](a9:bV l y=I (.p (.v (.int K j)))):∀z,Gj j=I z->hB aw H (.indexAddr T (.global q) y) ty (bV l) [] [] (.bG [.v (.int .u8 z)]):=λz aP=>.p (.pure λg w H e o aB _ aO h=>by
 unfold Gj at aP;split at aP
 ·next aF=>
  cases aP;obtain⟨c9,dU,dE⟩:=aO.oe (q,r8) jr.h;have a2:=(h (.global q) (by simp[Op.operands]) _ rfl).ic;have bc:=(h y (by simp[Op.operands]) _ a9).ic;have aC:r8.length=256:=by unfold r8;simp
  have dU:r8.length<=g.E q:=dU;refine⟨.pointer (I ⟨q,j.toNat,aJ⟩),?_,MR (us:=[.int .u8 (cond (eF j.toNat 32||(fb 9 j.toNat&&fb j.toNat 13)) 1 0)]) ⟨rfl,λi c u h1 h2=>?_⟩ (by simp;omega) c9 λi u hi=>?_⟩
  ·unfold execOp;rw[aB];simp[a2,bc,Instr.indexAt,Instr.sureAddr,asIntOf,cw.h,aY.h,Sem.run_bind,Result.andThen,aF,rJ]
  ·rcases i with _|i
   ·cases h1;cases h2;exact .v
   ·simp at h1
  ·rcases i with _|i
   ·refine dE j.toNat u ?_;rw[show u=_ from(Option.some.inj hi).symm];show r8[j.toNat]? =_;unfold r8;rw[List.getElem?_map,List.getElem?_range (by omega)];rfl
   ·simp at hi
 ·cases aP)
section
variable {α : Type} {T E k : Nat} {e : α -> List P} {x y : bY} {K : ip} {j a b : Int} {d : V} {xs : List α} {s : ByteArray} {lo hi : Option bY}
theorem anq [cw:jm aw T (.slice E)] [aY:hh aw E k](ak:bV l x=I d)(aQ:V.nJ k e d xs)(a9:bV l y=I (.p (.v (.int K j))))(ap:∀x,(e x).length=k):∀z,aH xs j=I z->hB aw H (.indexAddr T x y) ty (bV l) [] [] (.bG (e z)):=λ_ h=>.p (Ng cw.h aY.h ak a9 aQ ap (AI h).1 (AI h).2)
theorem anr{i n cap:Nat} [cw:jm aw T (.slice E)] [aY:hh aw E 1](ak:bV l x=I (.ek i 0 n cap))(a9:bV l y=I (.p (.v (.int K j)))):∀z,gz n xs j=I z->hB aw H (.indexAddr T x y) ty (bV l) [] [] (.aV i z.1.1):=λ_ h=>.p (akI cw.h aY.h ak a9 h)
theorem ans [cw:jm aw T .string](ak:bV l x=I (cE s))(a9:bV l y=I (.p (.v (.int K j)))):∀z,gW s j=I z->hB aw H (.index T x y) ty (bV l) [] [] (gh z):=λ_ h=>.p (akv cw.h ak a9 h)
theorem ant{cf:co}{c:ByteArray}(ak:bV l x=I (cE s))(a9:bV l y=I (cE c)):∀z,pz s c=I z->hB aw H (.binOp .add T x y cf) ty (bV l) [] [] (cE z):=λ_ h=>by obtain⟨ay,rfl⟩:=akn h;exact .p (akt ak a9 ay)
theorem anu{cf:co}(ak:bV l x=I (.p (.v (.int K a))))(a9:bV l y=I (.p (.v (.int K b)))):∀z,nq a b=I z->hB aw H (.binOp .quo T x y cf) ty (bV l) [] [] (.p (.v (.int K (K.wrap z)))):=λ_ h=>by obtain⟨ay,rfl⟩:=aka h;exact .p (akf ak a9 ay)
theorem anv{cf:co}(ak:bV l x=I (.p (.v (.int K a))))(a9:bV l y=I (.p (.v (.int K b)))):∀z,nr a b=I z->hB aw H (.binOp .rem T x y cf) ty (bV l) [] [] (.p (.v (.int K z))):=λ_ h=>by obtain⟨ay,rfl⟩:=akb h;exact .p (ajg ak a9 ay)
inductive A8 (l:ce) (d:Int):Option bY->Int->Prop
 |n:A8 l d aJ d
 |s {y:bY} {K:ip} {a:Int} (h:bV l y=I (.p (.v (.int K a)))):A8 l d (I y) a
theorem A8.h1{o:Option bY}{dd:Int}(h:A8 l dd o a):(∀y,o=I y->∃K,bV l y=I (.p (.v (.int K a))))/\(o=aJ->a=dd):=by
 cases h with
 |n=>exact⟨λ_ h=>(by cases h),λ_=>rfl⟩
 |s h=>exact⟨λ_ e=>(by cases e;exact⟨_,h⟩),λe=>(by cases e)⟩
theorem anw [cw:jm aw T .string](ak:bV l x=I (cE s))(h1:A8 l 0 lo a)(h2:A8 l s.size hi b):∀z,iP s a b=I z->hB aw H (.slice T x lo hi aJ) ty (bV l) [] [] (cE z):=λ_ h=>.p (akw cw.h ak h1.h1.1 h1.h1.2 h2.h1.1 h2.h1.2 h)
theorem anx [cw:jm aw T (.slice E)] [aY:hh aw E k](ak:bV l x=I d)(aQ:V.nJ k e d xs)(h1:A8 l 0 lo a)(h2:A8 l xs.length hi b)(ap:∀x,(e x).length=k):∀z,iC xs a b=I z->hB aw H (.slice T x lo hi aJ) ty (bV l) [] [] (bM k e z):=λ_ h=>.p (TV (q:=0) cw.h aY.h ak aQ ap h1.h1.1 h1.h1.2 h2.h1.1 (λq=>⟨h2.h1.2 q,rfl⟩) (λy a9=>by cases a9) (λq=>absurd rfl q) h)
theorem anz{c:Int}{js:ip}{h m:bY} [cw:jm aw T (.slice E)] [aY:hh aw E k](ak:bV l x=I d)(aQ:V.nJ k e d xs)(gf:bV l h=I (.p (.v (.int K b))))(hm:bV l m=I (.p (.v (.int js c))))(ap:∀x,(e x).length=k):∀z,xU xs 0 b c=I z->hB aw H (.slice T x aJ (I h) (I m)) ty (bV l) [] [] (bM k e z):=λ_ h1=>.p (TV cw.h aY.h ak aQ ap (λy a9=>by cases a9) (λ_=>rfl) (λy a9=>by cases a9;exact⟨_,gf⟩) (λq=>by cases q) (λy a9=>by cases a9;exact⟨_,hm⟩) (λ_=>(Nn h1).1) (Nn h1).2)
theorem anA{cf bG y_ i v:Nat}{mJ:be}{cO:List α} [h:wF aw cf bG mJ k y_](aQ:bV l x=I (cZ k e xs i v):=by rfl)(ak:bV l y=I d:=by rfl)(C1:V.nJ k e d cO:=by(first|exact sR|exact FD))(hi:H[i]? =I (.bs bG k v):=by rfl)(aU:∀y,(e y).all P.one=ad:=by(first|exact λ_=>rfl|exact s6.o))(aP:mJ.cells.size=k:=by rfl)(ap:h4 0 k=ad:=by rfl)(aF:fb y_ 128=ad:=by rfl):∀z,e6 xs cO=I z->hB aw H (.call {callee:=.builtin .append,args:=#[x,y],argTypes:=#[cf,cf]}) cf (bV l) [(i,.bs bG k v)] [(i,.bs bG k (v+1))] (cZ k e z i (v+1)):=λz gf=>by obtain⟨ay,rfl⟩:=Nk gf;exact⟨Nh h.u h.i aP (by simpa[lA]using ap) aQ ak C1 aU (by omega) (Nl ay aF),fa hi⟩
theorem anB{cf bG y_ i:Nat}{mJ:be}{cO:List α} [h:wF aw cf bG mJ k y_](aQ:bV l x=I (.p (.v (.slice aJ 0 0))):=by rfl)(ak:bV l y=I d:=by rfl)(C1:V.nJ k e d cO:=by(first|exact sR|exact FD))(hi:H[i]? =I .cc:=by exact N6)(aU:∀y,(e y).all P.one=ad:=by(first|exact λ_=>rfl|exact s6.o))(aP:mJ.cells.size=k:=by rfl)(ap:h4 0 k=ad:=by rfl)(aF:fb y_ 128=ad:=by rfl):∀z,e6 [] cO=I z->hB aw H (.call {callee:=.builtin .append,args:=#[x,y],argTypes:=#[cf,cf]}) cf (bV l) [(i,.cc)] [(i,.bs bG k 1)] (cZ k e z i 1):=λz gf=>by obtain⟨ay,rfl⟩:=Nk gf;exact⟨akD h.u h.i aP (by simpa[lA]using ap) aQ ak C1 aU (by simpa using ay) aF,fa hi⟩
end
inductive mo (ρ:bY->Option V):List V->List bY->List V->List V->Prop
 |n:mo ρ [] [] [] []
 |b {d:V} {c3 fp ee:List V} {args:List bY} (t:mo ρ c3 args fp ee):mo ρ (d::c3) args fp (d::ee)
 |a {x:bY} {d db:V} {fp ee:List V} {args:List bY} (h:ρ x=I d) (w:hg d db) (t:mo ρ [] args fp ee):mo ρ [] (x::args) fp (db::ee)
 |c {d:V} {fp ee:List V} (t:mo ρ [] [] fp ee):mo ρ [] [] (d::fp) (d::ee)
theorem mo.vk{ρ:bY->Option V}{c3 fp ee:List V}{args:List bY}(h:mo ρ c3 args fp ee):∃wm,nL ρ args wm/\c3++wm++fp=ee:=by
 induction h with
 |n=>exact⟨[],.n,rfl⟩
 |b t bx=>obtain⟨wm,h1,h2⟩:=bx;exact⟨wm,h1,by rw[<-h2];rfl⟩
 |a h w t bx=>obtain⟨wm,h1,h2⟩:=bx;exact⟨_,.c h w h1,by rw[<-h2];rfl⟩
 |c t bx=>obtain⟨wm,h1,h2⟩:=bx;cases h1;exact⟨[],.n,by rw[<-h2];rfl⟩
def Vb(l:ce)(y:bY)(g:hE)(c3 fp:List V):Prop:=(y=.func g/\c3=[]/\fp=[])\/bV l y=I (.fn (.func g) c3 fp)\/(bV l y=I (.p (.v (.func (.func g) #[] #[])))/\c3=[]/\fp=[])
theorem bP.k{g:hE}{y:bY}{c3 fp ds:List V}{args:List bY}{tys:Array co}{Hc eM:List aN}{a1 fr:List Nat}{r:V}(b5:Vb l y g c3 fp)(ax:CX aw g ds Hc r eM)(bg:∀args w,(callFunc g args).run aw w=.ok (.enter g args) w)(a4:mo (bV l) c3 args fp (g7 (b0 a1) ds))(dy:rX Hc eM ds a1 fr):
  bP aw (.call {callee:=.value y,args:=args.toArray,argTypes:=tys}) ty (bV l) (eW (b0 a1) a1 Hc++fr.map λj=>(j,.cc)) (eW (b0 (a1++fr)) (a1++fr) eM) (r.dN (b0 (a1++fr))):=by
 obtain⟨wm,h1,h2⟩:=a4.vk;rcases b5 with⟨rfl,rfl,rfl⟩|b5|⟨b5,rfl,rfl⟩
 ·rw[F0,iZ]at h2;exact bP.abh ax bg rfl (h2▸h1) dy
 ·exact bP.abi ax bg b5 h1 h2 dy
 ·rw[F0,iZ]at h2;exact bP.Np ax bg b5 (h2▸h1) dy
def iR(H:List aN)(_:Nat)(n:Nat)(fr:List Nat):Prop:=fr.length=n/\∀j∈fr,H[j]? =I .cc
theorem iR.n{lo:Nat}:iR H lo 0 []:=⟨rfl,λ_ h=>by cases h⟩
theorem iR.c{lo n:Nat}{fr:List Nat}(j:Nat)(_:fb lo j=ad)(h:H[j]? =I .cc)(k:iR H (j+1) n fr):iR H lo (n+1) (j::fr):=⟨by rw[List.length_cons,k.1],λi hi=>by
 rcases List.mem_cons.1 hi with rfl|hi
 ·exact h
 ·exact k.2 i hi⟩
theorem iR.dx{lo n:Nat}{fr:List Nat}{dx:List (Nat×aN)}(h:iR H lo n fr)(aO:gx H dx):gx H (dx++fr.map λj=>(j,.cc)):=λq aB=>by
 rcases List.mem_append.1 aB with aB|aB
 ·exact aO q aB
 ·obtain⟨j,ag,rfl⟩:=lz.1 aB;exact h.2 j ag
section
variable {α : Type} {x : Option α} {g : hE} {y : bY} {c3 fp ds : List V} {args : List bY} {tys : Array co} {Hc : List aN} {Dl : Nat} {ga : α -> V} {j1 : α -> List aN} {a1 fr : List Nat}
theorem anC [c:gB x aw g ds [] 0 ga λ_=>[]](b5:Vb l y g c3 fp:=by(first|exact .inl ⟨rfl,rfl,rfl⟩|exact .inr (.inl rfl)|exact .inr (.inr ⟨rfl,rfl,rfl⟩)))(a4:mo (bV l) c3 args fp (g7 (b0 []) ds):=by(repeat first|exact mo.n|(apply mo.a;exact rfl;exact r7)|apply mo.b|apply mo.c))(b':m5 0 ds=ad:=by rfl)(aO:∀z,(ga z).dN (b0 [])=ga z:=by(first|exact λ_=>rfl|exact λz=>x9.h z _|exact A9 (λ_=>rfl) (λ_=>rfl)))(bg:∀args w,(callFunc g args).run aw w=.ok (.enter g args) w:=by exact λ_ _=>rfl):∀z,x=I z->hB aw H (.call {callee:=.value y,args:=args.toArray,argTypes:=tys}) ty (bV l) [] [] (ga z):=λz aP=>.p (by have:=bP.k (ty:=ty) (tys:=tys) (a1:=[]) (fr:=[]) b5 (c.h aP) bg a4 ⟨rfl,b',rfl,List.nodup_nil,bL _,bL _⟩;simp only[iZ,aO z]at this;exact this)
theorem hL{ww:α->List (Nat×aN)} [c:gB x aw g ds Hc Dl ga j1](b5:Vb l y g c3 fp:=by(first|exact .inl ⟨rfl,rfl,rfl⟩|exact .inr (.inl rfl)|exact .inr (.inr ⟨rfl,rfl,rfl⟩)))(_:eF a1.length Hc.length=ad:=by rfl)(a4:mo (bV l) c3 args fp (g7 (b0 a1) ds):=by(repeat first|exact mo.n|(apply mo.a;exact rfl;exact r7)|apply mo.b|apply mo.c))(aO:gx H (eW (b0 a1) a1 Hc):=by(repeat first|exact fy|(apply bU;exact rfl)))(dH:iR H 0 Dl fr:=by(repeat first|exact iR.n|(apply iR.c 0;exact rfl;exact rfl)|(apply iR.c 1;exact rfl;exact rfl)|(apply iR.c 2;exact rfl;exact rfl)|(apply iR.c 3;exact rfl;exact rfl)|(apply iR.c 4;exact rfl;exact rfl)|(apply iR.c 5;exact rfl;exact rfl)|(apply iR.c 6;exact rfl;exact rfl)|(apply iR.c 7;exact rfl;exact rfl)|(apply iR.c 8;exact rfl;exact rfl)|(apply iR.c 9;exact rfl;exact rfl)|(apply iR.c 10;exact rfl;exact rfl)|(apply iR.c 11;exact rfl;exact rfl)|(apply iR.c 12;exact rfl;exact rfl)|(apply iR.c 13;exact rfl;exact rfl)|(apply iR.c 14;exact rfl;exact rfl)|(apply iR.c 15;exact rfl;exact rfl)|(apply iR.c 16;exact rfl;exact rfl)|(apply iR.c 17;exact rfl;exact rfl)|(apply iR.c 18;exact rfl;exact rfl)|(apply iR.c 19;exact rfl;exact rfl)|(apply iR.c 20;exact rfl;exact rfl)|(apply iR.c 21;exact rfl;exact rfl)|(apply iR.c 22;exact rfl;exact rfl)|(apply iR.c 23;exact rfl;exact rfl)|(apply iR.c 24;exact rfl;exact rfl)|(apply iR.c 25;exact rfl;exact rfl)|(apply iR.c 26;exact rfl;exact rfl)|(apply iR.c 27;exact rfl;exact rfl)|(apply iR.c 28;exact rfl;exact rfl)|(apply iR.c 29;exact rfl;exact rfl)))(dy:∀z,rX Hc (j1 z) ds a1 fr:=by((repeat' refine A9 ?_ ?_);all_goals (exact λ_=>.mH rfl)))(hu:∀z,r6 (eW (b0 (a1++fr)) (a1++fr) (j1 z)) (eW (b0 a1) a1 Hc++fr.map λj=>(j,.cc)) (ww z):=by((repeat' refine A9 ?_ ?_);all_goals (intro z;repeat first|exact r6.n|apply r6.s|apply r6.d)))(ap:(eW (b0 a1) a1 Hc++fr.map λj=>(j,aN.cc)).map (·.1)=a1++fr:=by rfl)(bg:∀args w,(callFunc g args).run aw w=.ok (.enter g args) w:=by exact λ_ _=>rfl):∀z,x=I z->hB aw H (.call {callee:=.value y,args:=args.toArray,argTypes:=tys}) ty (bV l) (eW (b0 a1) a1 Hc++fr.map λj=>(j,.cc)) (ww z) ((ga z).dN (b0 (a1++fr))):=
 λz aP=>⟨(bP.k b5 (c.h aP) bg a4 (dy z)).drop ((hu z).set (ap▸(dy z).af)),dH.dx aO⟩
theorem h7{ww:α->List (Nat×aN)} [c:N4 x aw ds Hc ga j1](_:eF a1.length Hc.length=ad:=by rfl)(a9:bV l y=I (.gV (b0 a1 0)):=by rfl)(a4:mo (bV l) [] args [] (g7 (b0 a1) ds):=by(repeat first|exact mo.n|(apply mo.a;exact rfl;exact r7)|apply mo.b|apply mo.c))(aO:gx H (eW (b0 a1) a1 Hc):=by(repeat first|exact fy|(apply bU;exact rfl)))(dy:∀z,rX Hc (j1 z) ds a1 []:=by((repeat' refine A9 ?_ ?_);all_goals (exact λ_=>.mH rfl)))(hu:∀z,r6 (eW (b0 (a1++[])) (a1++[]) (j1 z)) (eW (b0 a1) a1 Hc++([]:List Nat).map λj=>(j,.cc)) (ww z):=by((repeat' refine A9 ?_ ?_);all_goals (intro z;repeat first|exact r6.n|apply r6.s|apply r6.d)))(ap:(eW (b0 a1) a1 Hc++([]:List Nat).map λj=>(j,aN.cc)).map (·.1)=a1++[]:=by rfl):∀z,x=I z->hB aw H (.call {callee:=.value y,args:=args.toArray,argTypes:=tys}) ty (bV l) (eW (b0 a1) a1 Hc++([]:List Nat).map λj=>(j,.cc)) (ww z) ((ga z).dN (b0 (a1++[]))):=λz aP=>⟨(bP.gV (c.h aP) a9 (by obtain⟨wm,h1,h2⟩:=a4.vk;rw[F0,iZ]at h2;exact h2▸h1) (dy z)).drop ((hu z).set (ap▸(dy z).af)),(iR.n (lo:=0)).dx aO⟩
theorem fN{β:Type}{x:Option (α ⊕ β)}{eh:α ⊕ β->Prop}(h:∀z,x=I z->eh z):∀z,x=I z->eh z:=h
theorem jZ{β m8:Type}{x:Option (α ⊕ (β ⊕ m8))}{eh:α ⊕ (β ⊕ m8)->Prop}(h:∀z,x=I z->eh z):∀z,x=I z->eh z:=h
end
end
section
variable {Y : gY} {Q : df -> Act -> bj -> Prop} {l : ce} {H : List aN} {R : Type} {m m' : Option R} {T : R -> Prop} {ops : Array b_} {os rest : List b_} {acc : List (List Nat × List Nat)} {en : List oo} {t : Nat} {op : Op} {ty : co} {pos : String} {cT : Array Edge} {fs : Option (Nat × Bool)} {dst : Option Tmp} {G : Prop} {α : Type} {b : Bool} {c : bY} {x y : eZ}
theorem bS.JT(h:bS Y ops Q ({dst:=dst,op:=op,type:=ty,pos:=pos,after:=cT,guard:=aJ}::rest) l H m T):bS Y ops Q ({dst:=dst,op:=op,type:=ty,pos:=pos,after:=cT,guard:=aJ}::rest) l H m T:=h
theorem dl.JT(h:dl en Y Q os ({dst:=dst,op:=op,type:=ty,pos:=pos,after:=cT,guard:=fs}::rest) l H acc m T):dl en Y Q os ({dst:=dst,op:=op,type:=ty,pos:=pos,after:=cT,guard:=fs}::rest) l H acc m T:=h
theorem cv.anD{id:Nat}{o:Array b_}{y_:Bool}{y:eZ}(h:cv Y (.region id o y_) (tT Y.X y Q) l H m T):cv Y (.seq (.region id o y_) y) Q l H m T:=.seq h
theorem cv.anE{a b y:eZ}(h:cv Y (.seq a b) (tT Y.X y Q) l H m T):cv Y (.seq (.seq a b) y) Q l H m T:=.seq h
theorem cv.anF{y:eZ}(h:cv Y .skip (tT Y.X y Q) l H m T):cv Y (.seq .skip y) Q l H m T:=.seq h
theorem b7.adk{e:df}(h:b7 Y Q e l H m T):b7 Y Q e l H m T:=h
variable {oq:bY}
theorem cv.anG(ax:bV l oq=I (bD b))(aF:b=ad)(aj:cv Y x Q l H m T):cv Y (.cond oq x y) Q l H m T:=.MT (aF▸ax) aj
theorem cv.anH(ax:bV l oq=I (bD b))(aF:b=aS)(aj:cv Y y Q l H m T):cv Y (.cond oq x y) Q l H m T:=.CM (aF▸ax) aj
variable {dM j:Nat}
theorem bS.adl(ag:(ops[j]?).bind (·.dst)=I dM)(aF:c6 l dM=I (bD b))(he:b=aS)(aG:m4 Y.X.N dst=ad)(k:bS Y ops Q rest (hJ dst (.p (.v undef)) l) H m T):bS Y ops Q ({dst:=dst,op:=op,type:=ty,pos:=pos,after:=cT,guard:=I (j,ad)}::rest) l H m T:=.bt dM ag aF he aG k
theorem bS.adm(ag:(ops[j]?).bind (·.dst)=I dM)(aF:c6 l dM=I (bD b))(he:b=ad)(aG:m4 Y.X.N dst=ad)(k:bS Y ops Q rest (hJ dst (.p (.v undef)) l) H m T):bS Y ops Q ({dst:=dst,op:=op,type:=ty,pos:=pos,after:=cT,guard:=I (j,aS)}::rest) l H m T:=.bt dM ag aF he aG k
def N7(dM:Nat):Nat->List b_->Option (Nat×Nat)
 |_,[]=>aJ
 |n,o::r=>match o.op,o.dst with
  |.pick (.tmp d) _ _,I s=>cond (eF d dM) (I (n,s)) (N7 dM (n+1) r)
  |_,_=>N7 dM (n+1) r
variable {d:Nat}{want:Bool}
theorem bS.JU(ag:(ops[j]?).bind (·.dst)=I d)(aF:c6 l d=I (bD b))(aj:bS Y ops Q ({dst:=dst,op:=op,type:=ty,pos:=pos,after:=cT,guard:=I (j,want)}::rest) ((d,bD ad)::l) H m T)(bg:bS Y ops Q ({dst:=dst,op:=op,type:=ty,pos:=pos,after:=cT,guard:=I (j,want)}::rest) ((d,bD aS)::l) H m' T):bS Y ops Q ({dst:=dst,op:=op,type:=ty,pos:=pos,after:=cT,guard:=I (j,want)}::rest) l H (if b=ad then m else m') T:=.TO d aF aj bg
theorem dl.JU(ag:(os[j]?).bind (·.dst)=I d)(aF:c6 l d=I (bD b))(aj:dl en Y Q os ({dst:=dst,op:=op,type:=ty,pos:=pos,after:=cT,guard:=I (j,want)}::rest) ((d,bD ad)::l) H acc m T)(bg:dl en Y Q os ({dst:=dst,op:=op,type:=ty,pos:=pos,after:=cT,guard:=I (j,want)}::rest) ((d,bD aS)::l) H acc m' T):dl en Y Q os ({dst:=dst,op:=op,type:=ty,pos:=pos,after:=cT,guard:=I (j,want)}::rest) l H acc (if b=ad then m else m') T:=.TO d aF aj bg
variable {r:Bool}
theorem bS.N8 {n:Nat}(ag:(ops[j]?).bind (·.dst)=I dM)(aF:c6 l dM=I (bD b))(hp:N7 dM 1 ({dst:=dst,op:=op,type:=ty,pos:=pos,after:=cT,guard:=I (j,aS)}::rest)=I (n,d))(bg:(∀l',ew l' ((d,bD r)::(dM,bD aS)::l)->bS Y ops Q (({dst:=dst,op:=op,type:=ty,pos:=pos,after:=cT,guard:=I (j,aS)}::rest).drop n) l' H m T)->bS Y ops Q ({dst:=dst,op:=op,type:=ty,pos:=pos,after:=cT,guard:=I (j,aS)}::rest) ((dM,bD aS)::l) H m T)
  (aj:(∀l',ew l' ((d,bD ad)::(dM,bD ad)::l)->bS Y ops Q (({dst:=dst,op:=op,type:=ty,pos:=pos,after:=cT,guard:=I (j,aS)}::rest).drop n) l' H m T)->bS Y ops Q ({dst:=dst,op:=op,type:=ty,pos:=pos,after:=cT,guard:=I (j,aS)}::rest) ((dM,bD ad)::l) H m T) (k:bS Y ops Q (({dst:=dst,op:=op,type:=ty,pos:=pos,after:=cT,guard:=I (j,aS)}::rest).drop n) ((d,bD (b||r))::l) H m T):bS Y ops Q ({dst:=dst,op:=op,type:=ty,pos:=pos,after:=cT,guard:=I (j,aS)}::rest) l H m T:=.or n d dM aF bg aj k
theorem bS.N9 {n:Nat}(ag:(ops[j]?).bind (·.dst)=I dM)(aF:c6 l dM=I (bD b))(hp:N7 dM 1 ({dst:=dst,op:=op,type:=ty,pos:=pos,after:=cT,guard:=I (j,ad)}::rest)=I (n,d))(aj:(∀l',ew l' ((d,bD r)::(dM,bD ad)::l)->bS Y ops Q (({dst:=dst,op:=op,type:=ty,pos:=pos,after:=cT,guard:=I (j,ad)}::rest).drop n) l' H m T)->bS Y ops Q ({dst:=dst,op:=op,type:=ty,pos:=pos,after:=cT,guard:=I (j,ad)}::rest) ((dM,bD ad)::l) H m T)
  (bg:(∀l',ew l' ((d,bD aS)::(dM,bD aS)::l)->bS Y ops Q (({dst:=dst,op:=op,type:=ty,pos:=pos,after:=cT,guard:=I (j,ad)}::rest).drop n) l' H m T)->bS Y ops Q ({dst:=dst,op:=op,type:=ty,pos:=pos,after:=cT,guard:=I (j,ad)}::rest) ((dM,bD aS)::l) H m T) (k:bS Y ops Q (({dst:=dst,op:=op,type:=ty,pos:=pos,after:=cT,guard:=I (j,ad)}::rest).drop n) ((d,bD (b&&r))::l) H m T):bS Y ops Q ({dst:=dst,op:=op,type:=ty,pos:=pos,after:=cT,guard:=I (j,ad)}::rest) l H m T:=.and n d dM aF aj bg k
section
variable {aw : cF} {N : Nat} {fn : Func} {e : df} {cK : bj} {cl : cu} {ca e1 : List aN} {P : R -> V -> List aN -> Prop} {pre s : List Nat} {q r : R} {rv q7 AC : ResultVar} {d db xK x of C0 : V}
structure rc(ca H e1:List aN)(a1:List Nat):Prop where
 h:gx H (eW (b0 a1) a1 e1)
 b:(eF a1.length e1.length&&decide a1.Nodup&&e1.all (aN.lt e1.length)&&aa1 ca.length a1)=ad
theorem rc.k{a1:List Nat}(h:rc ca H e1 a1):pv ca H e1 a1:=by have aF:=h.b;simp only[Bool.and_eq_true,decide_eq_true_eq]at aF;exact .aX (mi aF.1.1.1) h.h aF.1.1.2 aF.1.2 aF.2
theorem b7.pJ(hp:P q (.cx []) e1:=by exact⟨rfl,rfl⟩)(aY:Exit.m1 e=ad:=by rfl)(m6:fn.results=#[]:=by rfl)(_:mO ca 0 pre:=by(repeat first|exact mO.n|apply mO.c))(_:eF s.length (e1.drop pre.length).length=ad:=by rfl)(ap:rc ca H e1 (pre++s):=by(refine rc.mk ?_ ?_;((repeat first|exact fy|(apply bU;exact rfl)));exact rfl)):b7 ⟨⟨aJ,aw,N,[]⟩,cK,cl,ca⟩ (bodyPost aw fn (kx cK cl ca (P r))) e l H (I q) (λq=>q=r):=.Tz hp aY m6 ap.k
theorem b7.gR(hp:P q x e1:=by exact⟨rfl,rfl⟩)(aY:Exit.m1 e=ad:=by rfl)(m6:fn.results=#[rv]:=by rfl)(h1:mg aw l H rv d:=by(first|exact .tmp rfl|exact .CD rfl rfl gb.h hh.h rfl|exact .cell rfl rfl gb.h rfl))(_:mO ca 0 pre:=by(repeat first|exact mO.n|apply mO.c))(_:eF s.length (e1.drop pre.length).length=ad:=by rfl)(hw:hg d (x.dN (b0 (pre++s))):=by exact r7)(ap:rc ca H e1 (pre++s):=by(refine rc.mk ?_ ?_;((repeat first|exact fy|(apply bU;exact rfl)));exact rfl))(b':x.lt e1.length=ad:=by first|rfl|exact x9.l _ _):b7 ⟨⟨aJ,aw,N,[]⟩,cK,cl,ca⟩ (bodyPost aw fn (kx cK cl ca (P r))) e l H (I q) (λq=>q=r):=.TA hp aY m6 h1 hw ap.k b'
theorem b7.fu(hp:P q (.cx [x,of]) e1:=by exact⟨rfl,rfl⟩)(aY:Exit.m1 e=ad:=by rfl)(m6:fn.results=#[rv,q7]:=by rfl)(h1:mg aw l H rv d:=by(first|exact .tmp rfl|exact .CD rfl rfl gb.h hh.h rfl|exact .cell rfl rfl gb.h rfl))(h2:mg aw l H q7 db:=by(first|exact .tmp rfl|exact .CD rfl rfl gb.h hh.h rfl|exact .cell rfl rfl gb.h rfl))(_:mO ca 0 pre:=by(repeat first|exact mO.n|apply mO.c))(_:eF s.length (e1.drop pre.length).length=ad:=by rfl)(hw:hg d (x.dN (b0 (pre++s))):=by exact r7)(wj:hg db (of.dN (b0 (pre++s))):=by exact r7)(ap:rc ca H e1 (pre++s):=by(refine rc.mk ?_ ?_;((repeat first|exact fy|(apply bU;exact rfl)));exact rfl))(b':(V.cx [x,of]).lt e1.length=ad:=by first|rfl|exact x9.l _ _):b7 ⟨⟨aJ,aw,N,[]⟩,cK,cl,ca⟩ (bodyPost aw fn (kx cK cl ca (P r))) e l H (I q) (λq=>q=r):=.TB hp aY m6 h1 h2 hw wj ap.k b'
theorem b7.gG(hp:P q (.cx [x,of,C0]) e1:=by exact⟨rfl,rfl⟩)(aY:Exit.m1 e=ad:=by rfl)(m6:fn.results=#[rv,q7,AC]:=by rfl)(h1:mg aw l H rv d:=by(first|exact .tmp rfl|exact .CD rfl rfl gb.h hh.h rfl|exact .cell rfl rfl gb.h rfl))(h2:mg aw l H q7 db:=by(first|exact .tmp rfl|exact .CD rfl rfl gb.h hh.h rfl|exact .cell rfl rfl gb.h rfl))(ay:mg aw l H AC xK:=by(first|exact .tmp rfl|exact .CD rfl rfl gb.h hh.h rfl|exact .cell rfl rfl gb.h rfl))(_:mO ca 0 pre:=by(repeat first|exact mO.n|apply mO.c))(_:eF s.length (e1.drop pre.length).length=ad:=by rfl)(hw:hg d (x.dN (b0 (pre++s))):=by exact r7)(wj:hg db (of.dN (b0 (pre++s))):=by exact r7)(I3:hg xK (C0.dN (b0 (pre++s))):=by exact r7)(ap:rc ca H e1 (pre++s):=by(refine rc.mk ?_ ?_;((repeat first|exact fy|(apply bU;exact rfl)));exact rfl))(b':(V.cx [x,of,C0]).lt e1.length=ad:=by first|rfl|exact x9.l _ _):b7 ⟨⟨aJ,aw,N,[]⟩,cK,cl,ca⟩ (bodyPost aw fn (kx cK cl ca (P r))) e l H (I q) (λq=>q=r):=.TC hp aY m6 h1 h2 ay hw wj I3 ap.k b'
end
section
variable {aw : cF} {cK : bj} {cl : cu} {ca e1 : List aN} {P : R -> V -> List aN -> Prop} {a1 : List Nat} {q r : R} {st : LoopState} {ee : Option eZ} {gA i5 fX i : Nat} {g1 : ce} {i8 : Array Nat} {i6 i7 : eZ} {X : jU}
theorem b7.anI(hp:P q (bD ad) e1:=by exact⟨rfl,rfl⟩)(kW:cL ca i:=by trivial)(hi:H[i]? =I (.loop st ee gA i5 g1 i8 i6 i7 fX):=by rfl)(_:mO ca 0 a1:=by(repeat first|exact mO.n|apply mO.c))(ap:rc ca (H.set i (.loop .ready aJ gA i5 g1 i8 i6 i7 fX)) e1 a1:=by(refine rc.mk ?_ ?_;((repeat first|exact fy|(apply bU;exact rfl)));exact rfl)):b7 ⟨X,cK,cl,ca⟩ (roundPost aw (cl.β i) (kx cK cl ca (P r))) .normal l H (I q) (λq=>q=r):=.alW hp kW hi ap.k
theorem b7.anJ(hp:P q (bD aS) e1:=by exact⟨rfl,rfl⟩)(kW:cL ca i:=by trivial)(hi:H[i]? =I (.loop st ee gA i5 g1 i8 i6 i7 fX):=by rfl)(_:mO ca 0 a1:=by(repeat first|exact mO.n|apply mO.c))(ap:rc ca (H.set i (.loop .done (I .ret) gA i5 g1 i8 i6 i7 fX)) e1 a1:=by(refine rc.mk ?_ ?_;((repeat first|exact fy|(apply bU;exact rfl)));exact rfl)):b7 ⟨X,cK,cl,ca⟩ (roundPost aw (cl.β i) (kx cK cl ca (P r))) .ret l H (I q) (λq=>q=r):=.alX hp kW hi ap.k
theorem b7.anK{id:Nat}(hp:P q (bD aS) e1:=by exact⟨rfl,rfl⟩)(kW:cL ca i:=by trivial)(hi:H[i]? =I (.loop st ee gA i5 g1 i8 i6 i7 fX):=by rfl)(_:mO ca 0 a1:=by(repeat first|exact mO.n|apply mO.c))(ap:rc ca (H.set i (.loop .done (I (.exit id)) gA i5 g1 i8 i6 i7 fX)) e1 a1:=by(refine rc.mk ?_ ?_;((repeat first|exact fy|(apply bU;exact rfl)));exact rfl)):b7 ⟨X,cK,cl,ca⟩ (roundPost aw (cl.β i) (kx cK cl ca (P r))) (.exit id) l H (I q) (λq=>q=r):=.alY hp kW hi ap.k
end
theorem A9{α β:Type}{P:α ⊕ β->Prop}(h:∀a,P (.inl a))(k:∀b,P (.inr b)):∀z,P z
 |.inl a=>h a
 |.inr b=>k b
theorem b7.Vc{cd α:Type}{eh:α->ce}{G:α->List aN}{body:cd->Option (cd ⊕ R)}{lF:α->cd}{n:Nat}{s:cd}{x:α}(ak:lF x=s:=by rfl)(aQ:ew l (eh x):=by((first|dsimp only|skip);(repeat first|exact .n|(apply ew.s;exact rfl)|(apply ew.c;exact rfl;exact r7))))(jr:H=G x:=by((first|dsimp only|skip)<;>rfl)):b7 Y (xQ Y lF eh G body T n Q) .normal l H (I (.inl s)) (xP body T n):=.next x ak aQ jr
theorem b7.adn{β:Type}{eh:β->ce}{G:β->List aN}{k:β->Option R}{e:df}{b:β}(j:∀l H b,ew l (eh b)->H=G b->b7 Y Q e l H (k b) T)(aQ:ew l (eh b):=by((first|dsimp only|skip);(repeat first|exact .n|(apply ew.s;exact rfl)|(apply ew.c;exact rfl;exact r7))))(jr:H=G b:=by((first|dsimp only|skip)<;>rfl)):b7 Y Q e l H (k b) T:=j _ _ b aQ jr
theorem b7.iS{cd α:Type}{eh:α->ce}{G:α->List aN}{body:cd->Option (cd ⊕ R)}{lF:α->cd}{n:Nat}{s:cd}(is:List Nat)(x:α)(ak:lF x=s:=by rfl)(aQ:ew l (eh x):=by((first|dsimp only|skip);(repeat first|exact .n|(apply ew.s;exact rfl)|(apply ew.c;exact rfl;exact r7))))(a6:y8 Y.ca.length (eh x) H is=ad:=by rfl)(jr:y7 H is=G x:=by((first|dsimp only|skip)<;>rfl)):b7 Y (xQ Y lF eh G body T n Q) .normal l H (I (.inl s)) (xP body T n):=.akk is x ak aQ a6 jr
theorem b7.r9{β:Type}{eh:β->ce}{G:β->List aN}{k:β->Option R}{e:df}(j:∀l H b,ew l (eh b)->H=G b->b7 Y Q e l H (k b) T)(is:List Nat)(b:β)(aQ:ew l (eh b):=by((first|dsimp only|skip);(repeat first|exact .n|(apply ew.s;exact rfl)|(apply ew.c;exact rfl;exact r7))))(a6:y8 Y.ca.length (eh b) H is=ad:=by rfl)(jr:y7 H is=G b:=by((first|dsimp only|skip)<;>rfl)):b7 Y Q e l H (k b) T:=.akj j is b aQ a6 jr
attribute [local irreducible] bS dl cv b7
theorem N_{G:Prop}(h:G:=by first|(apply am3;exact rfl)|(apply anb;exact rfl)|(apply am4;exact rfl;exact rfl;exact rfl)|(apply anc;exact rfl;exact rfl)|(apply ane;exact rfl;exact rfl)|(apply ang;exact rfl;(first|exact sR|exact FD))|(apply anf;exact rfl;exact rfl)|(apply am5;exact rfl;exact rfl;exact rfl)|(apply am6;exact rfl;exact rfl)|(apply anh;exact rfl)|(apply ani;exact rfl)|(apply anm;exact rfl;exact rfl;exact rfl)|(apply ann;exact rfl)|(apply ano;exact rfl;exact rfl)|(apply ank;exact rfl;exact rfl)|(apply anl;exact rfl;exact rfl)|(apply anj;exact rfl)):G:=h
theorem ado{G:Prop}(h:G:=by first|(apply adi;exact rfl;exact rfl;exact rfl)|(apply adi (cs:=[_]);exact rfl;exact rfl;exact rfl)|exact zk (xs:=[])|exact zk (xs:=[_])|exact zk (xs:=[_,_])|exact zk (xs:=[_,_,_])|exact zk (xs:=[_,_,_,_])|exact zk (xs:=[_,_,_,_,_])|exact zk (xs:=[_,_,_,_,_,_])|exact zk (xs:=[_,_,_,_,_,_,_])|exact zk (xs:=[_,_,_,_,_,_,_,_])):G:=h
theorem N'{G:Prop}(h:G:=by first|(apply anq;exact rfl;(first|exact sR|exact FD);exact rfl;exact λ_=>rfl)|exact anC|(apply ans;exact rfl;exact rfl)|(apply anp;exact rfl)|(apply anr;exact rfl;exact rfl)|(apply ant;exact rfl;exact rfl)|(apply anw;exact rfl;(first|exact .n|exact .s rfl);(first|exact .n|exact .s rfl))|(apply anx;exact rfl;(first|exact sR|exact FD);(first|exact .n|exact .s rfl);(first|exact .n|exact .s rfl);exact λ_=>rfl)|(apply anz;exact rfl;(first|exact sR|exact FD);exact rfl;exact rfl;exact λ_=>rfl)|(apply anu;exact rfl;exact rfl)|(apply anv;exact rfl;exact rfl)):G:=h
theorem Oa{G:Prop}(h:G:=by first|(apply am7;exact rfl;exact rfl;exact rfl;exact rfl;exact rfl;exact rfl)|exact ana|(apply am8;exact rfl;exact rfl;exact rfl;exact rfl)):G:=h
theorem A_{G:Prop}(h:G:=by first|exact anA|(refine jZ ?_;first|exact hL (a1:=[]) (ww:=Sum.elim _ (Sum.elim _ _))|exact hL (a1:=[_]) (ww:=Sum.elim _ (Sum.elim _ _))|exact hL (a1:=[_,_]) (ww:=Sum.elim _ (Sum.elim _ _))|exact hL (a1:=[_,_,_]) (ww:=Sum.elim _ (Sum.elim _ _))|exact hL (a1:=[_,_,_,_]) (ww:=Sum.elim _ (Sum.elim _ _))|exact hL (a1:=[_,_,_,_,_]) (ww:=Sum.elim _ (Sum.elim _ _))|exact hL (a1:=[_,_,_,_,_,_]) (ww:=Sum.elim _ (Sum.elim _ _))|exact hL (a1:=[_,_,_,_,_,_,_]) (ww:=Sum.elim _ (Sum.elim _ _))|exact hL (a1:=[_,_,_,_,_,_,_,_]) (ww:=Sum.elim _ (Sum.elim _ _))|exact hL (a1:=[_,_,_,_,_,_,_,_,_]) (ww:=Sum.elim _ (Sum.elim _ _))|exact hL (a1:=[_,_,_,_,_,_,_,_,_,_]) (ww:=Sum.elim _ (Sum.elim _ _))|exact hL (a1:=[_,_,_,_,_,_,_,_,_,_,_]) (ww:=Sum.elim _ (Sum.elim _ _))|exact hL (a1:=[_,_,_,_,_,_,_,_,_,_,_,_]) (ww:=Sum.elim _ (Sum.elim _ _))|exact hL (a1:=[_,_,_,_,_,_,_,_,_,_,_,_,_]) (ww:=Sum.elim _ (Sum.elim _ _))|exact hL (a1:=[_,_,_,_,_,_,_,_,_,_,_,_,_,_]) (ww:=Sum.elim _ (Sum.elim _ _))|exact hL (a1:=[_,_,_,_,_,_,_,_,_,_,_,_,_,_,_]) (ww:=Sum.elim _ (Sum.elim _ _))|exact h7 (a1:=[_]) (ww:=Sum.elim _ (Sum.elim _ _))|exact h7 (a1:=[_,_]) (ww:=Sum.elim _ (Sum.elim _ _))|exact h7 (a1:=[_,_,_]) (ww:=Sum.elim _ (Sum.elim _ _))|exact h7 (a1:=[_,_,_,_]) (ww:=Sum.elim _ (Sum.elim _ _))|exact h7 (a1:=[_,_,_,_,_]) (ww:=Sum.elim _ (Sum.elim _ _))|exact h7 (a1:=[_,_,_,_,_,_]) (ww:=Sum.elim _ (Sum.elim _ _))|exact h7 (a1:=[_,_,_,_,_,_,_]) (ww:=Sum.elim _ (Sum.elim _ _))|exact h7 (a1:=[_,_,_,_,_,_,_,_]) (ww:=Sum.elim _ (Sum.elim _ _))|exact h7 (a1:=[_,_,_,_,_,_,_,_,_]) (ww:=Sum.elim _ (Sum.elim _ _))|exact h7 (a1:=[_,_,_,_,_,_,_,_,_,_]) (ww:=Sum.elim _ (Sum.elim _ _))|exact h7 (a1:=[_,_,_,_,_,_,_,_,_,_,_]) (ww:=Sum.elim _ (Sum.elim _ _))|exact h7 (a1:=[_,_,_,_,_,_,_,_,_,_,_,_]) (ww:=Sum.elim _ (Sum.elim _ _))|exact h7 (a1:=[_,_,_,_,_,_,_,_,_,_,_,_,_]) (ww:=Sum.elim _ (Sum.elim _ _))|exact h7 (a1:=[_,_,_,_,_,_,_,_,_,_,_,_,_,_]) (ww:=Sum.elim _ (Sum.elim _ _))|exact h7 (a1:=[_,_,_,_,_,_,_,_,_,_,_,_,_,_,_]) (ww:=Sum.elim _ (Sum.elim _ _)))|(refine fN ?_;first|exact hL (a1:=[]) (ww:=Sum.elim _ _)|exact hL (a1:=[_]) (ww:=Sum.elim _ _)|exact hL (a1:=[_,_]) (ww:=Sum.elim _ _)|exact hL (a1:=[_,_,_]) (ww:=Sum.elim _ _)|exact hL (a1:=[_,_,_,_]) (ww:=Sum.elim _ _)|exact hL (a1:=[_,_,_,_,_]) (ww:=Sum.elim _ _)|exact hL (a1:=[_,_,_,_,_,_]) (ww:=Sum.elim _ _)|exact hL (a1:=[_,_,_,_,_,_,_]) (ww:=Sum.elim _ _)|exact hL (a1:=[_,_,_,_,_,_,_,_]) (ww:=Sum.elim _ _)|exact hL (a1:=[_,_,_,_,_,_,_,_,_]) (ww:=Sum.elim _ _)|exact hL (a1:=[_,_,_,_,_,_,_,_,_,_]) (ww:=Sum.elim _ _)|exact hL (a1:=[_,_,_,_,_,_,_,_,_,_,_]) (ww:=Sum.elim _ _)|exact hL (a1:=[_,_,_,_,_,_,_,_,_,_,_,_]) (ww:=Sum.elim _ _)|exact hL (a1:=[_,_,_,_,_,_,_,_,_,_,_,_,_]) (ww:=Sum.elim _ _)|exact hL (a1:=[_,_,_,_,_,_,_,_,_,_,_,_,_,_]) (ww:=Sum.elim _ _)|exact hL (a1:=[_,_,_,_,_,_,_,_,_,_,_,_,_,_,_]) (ww:=Sum.elim _ _)|exact h7 (a1:=[_]) (ww:=Sum.elim _ _)|exact h7 (a1:=[_,_]) (ww:=Sum.elim _ _)|exact h7 (a1:=[_,_,_]) (ww:=Sum.elim _ _)|exact h7 (a1:=[_,_,_,_]) (ww:=Sum.elim _ _)|exact h7 (a1:=[_,_,_,_,_]) (ww:=Sum.elim _ _)|exact h7 (a1:=[_,_,_,_,_,_]) (ww:=Sum.elim _ _)|exact h7 (a1:=[_,_,_,_,_,_,_]) (ww:=Sum.elim _ _)|exact h7 (a1:=[_,_,_,_,_,_,_,_]) (ww:=Sum.elim _ _)|exact h7 (a1:=[_,_,_,_,_,_,_,_,_]) (ww:=Sum.elim _ _)|exact h7 (a1:=[_,_,_,_,_,_,_,_,_,_]) (ww:=Sum.elim _ _)|exact h7 (a1:=[_,_,_,_,_,_,_,_,_,_,_]) (ww:=Sum.elim _ _)|exact h7 (a1:=[_,_,_,_,_,_,_,_,_,_,_,_]) (ww:=Sum.elim _ _)|exact h7 (a1:=[_,_,_,_,_,_,_,_,_,_,_,_,_]) (ww:=Sum.elim _ _)|exact h7 (a1:=[_,_,_,_,_,_,_,_,_,_,_,_,_,_]) (ww:=Sum.elim _ _)|exact h7 (a1:=[_,_,_,_,_,_,_,_,_,_,_,_,_,_,_]) (ww:=Sum.elim _ _))|exact hL (a1:=[])|exact hL (a1:=[_])|exact hL (a1:=[_,_])|exact hL (a1:=[_,_,_])|exact hL (a1:=[_,_,_,_])|exact hL (a1:=[_,_,_,_,_])|exact hL (a1:=[_,_,_,_,_,_])|exact hL (a1:=[_,_,_,_,_,_,_])|exact hL (a1:=[_,_,_,_,_,_,_,_])|exact hL (a1:=[_,_,_,_,_,_,_,_,_])|exact hL (a1:=[_,_,_,_,_,_,_,_,_,_])|exact hL (a1:=[_,_,_,_,_,_,_,_,_,_,_])|exact hL (a1:=[_,_,_,_,_,_,_,_,_,_,_,_])|exact hL (a1:=[_,_,_,_,_,_,_,_,_,_,_,_,_])|exact hL (a1:=[_,_,_,_,_,_,_,_,_,_,_,_,_,_])|exact hL (a1:=[_,_,_,_,_,_,_,_,_,_,_,_,_,_,_])|exact h7 (a1:=[_])|exact h7 (a1:=[_,_])|exact h7 (a1:=[_,_,_])|exact h7 (a1:=[_,_,_,_])|exact h7 (a1:=[_,_,_,_,_])|exact h7 (a1:=[_,_,_,_,_,_])|exact h7 (a1:=[_,_,_,_,_,_,_])|exact h7 (a1:=[_,_,_,_,_,_,_,_])|exact h7 (a1:=[_,_,_,_,_,_,_,_,_])|exact h7 (a1:=[_,_,_,_,_,_,_,_,_,_])|exact h7 (a1:=[_,_,_,_,_,_,_,_,_,_,_])|exact h7 (a1:=[_,_,_,_,_,_,_,_,_,_,_,_])|exact h7 (a1:=[_,_,_,_,_,_,_,_,_,_,_,_,_])|exact h7 (a1:=[_,_,_,_,_,_,_,_,_,_,_,_,_,_])|exact h7 (a1:=[_,_,_,_,_,_,_,_,_,_,_,_,_,_,_])|exact anB):G:=h
theorem adp{G:Prop}(h:G:=by first|exact am9):G:=h
theorem adq{G:Prop}(h:G:=by first|exact Gi (xs:=[])|exact Gi (xs:=[_])|exact Gi (xs:=[_,_])|exact Gi (xs:=[_,_,_])|exact Gi (xs:=[_,_,_,_])|exact Gi (xs:=[_,_,_,_,_])):G:=h
theorem vl{G:Prop}(h:G:=by((repeat' refine A9 ?_ ?_);all_goals (intro z;repeat first|exact zj.n|apply zj.c))):G:=h
theorem A'{G:Prop}(h:G:=by first|(dsimp only[eH,eW,List.set_cons_zero,List.set_cons_succ,aN.dN,V.dN,g7,u6,F2,F3,F4,F5,F6,F7,F8,F9,F_,F',Ga,Gb,Gc,Gd,Ge,Gf,Gg,Gh,List.append_nil,List.nil_append,List.cons_append,List.map_cons,List.map_nil,q4,V.cells,Sum.elim_inl,Sum.elim_inr];exact rfl)|exact rfl):G:=h
theorem anL{G R:Prop}(r:R)(h:R->G:=by intro r;(first|(refine bS.JT ?_;first|(apply bS.o;exact N_;exact rfl)|(apply bS.w;exact Oa;exact rfl;exact A'))|(refine dl.JT ?_;first|(apply dl.o;exact N_;(first|exact .n|exact .y rfl rfl))|(apply dl.w;exact Oa;(first|exact .n|exact .y rfl rfl);(first|exact trivial|exact λ_=>trivial|exact λ_=>⟨⟨trivial,trivial⟩,trivial⟩|exact λ_=>⟨⟨rfl,trivial,trivial⟩,trivial⟩);exact A'))|(apply bS.MU;apply rfl;apply rfl;(with_reducible apply rfl))|(apply bS.adl;apply rfl;apply rfl;(with_reducible apply rfl);apply rfl)|(apply bS.adm;apply rfl;apply rfl;(with_reducible apply rfl);apply rfl)|(apply bS.Je;apply rfl;apply rfl;apply rfl)|(apply dl.bt;apply rfl;apply rfl)|(apply dl.Je;apply rfl;apply rfl));exact r):G:=h r
theorem Gk{G R:Prop}(r:R)(h:R->G:=by intro r;(first|(refine bS.JT ?_;first|(apply bS.o;exact N_;exact rfl)|(apply bS.w;exact Oa;exact rfl;exact A'))|refine b7.gH ?_ |(apply b7.acs;exact trivial;exact rfl)|refine bS.nil ?_ |refine b7.aj6 ?_ |refine b7.aj7 ?_ |refine b7.iq ?_ |refine b7.t' ?_ |refine b7.rU ?_ |refine b7.ua ?_ |refine b7.aj9 ?_ |(apply b7.Tc;apply rfl)|(apply dl.nil;kernel_rfl)|(refine dl.JT ?_;first|(apply dl.o;exact N_;(first|exact .n|exact .y rfl rfl))|(apply dl.w;exact Oa;(first|exact .n|exact .y rfl rfl);(first|exact trivial|exact λ_=>trivial|exact λ_=>⟨⟨trivial,trivial⟩,trivial⟩|exact λ_=>⟨⟨rfl,trivial,trivial⟩,trivial⟩);exact A'))|(apply bS.MU;apply rfl;apply rfl;(with_reducible apply rfl))|(apply bS.adl;apply rfl;apply rfl;(with_reducible apply rfl);apply rfl)|(apply bS.adm;apply rfl;apply rfl;(with_reducible apply rfl);apply rfl)|(apply bS.Je;apply rfl;apply rfl;apply rfl)|(apply dl.bt;apply rfl;apply rfl)|(apply dl.Je;apply rfl;apply rfl));exact r):G:=h r
theorem Dm{G R:Prop}(r:R)(h:R->G:=by intro r;(first|(apply bS.o;exact ado;exact rfl)|(apply dl.o;exact ado;(first|exact .n|exact .y rfl rfl)));exact r):G:=h r
theorem JV{G R:Prop}(r:R)(h:R->G:=by intro r;(first|refine cv.region ?_ |refine cv.iq ?_ |refine cv.ret ?_ |refine cv.skip ?_ |refine cv.exit ?_ |(apply cv.ac8 [];exact ade.h;exact trivial)|(apply cv.anG;apply rfl;(with_reducible apply rfl))|(apply cv.anH;apply rfl;(with_reducible apply rfl))|(apply cv.MT;exact rfl)|(apply cv.CM;exact rfl));exact r):G:=h r
theorem a0{G:Prop}(h:G:=by(repeat' (first|exact c _ (.ub rfl rfl rfl)|(apply b7.adk;first|exact b7.adn (b:=_) ‹_› |exact b7.adn (b:=(_,_)) ‹_›)|refine Gk ?_ |refine Dm ?_ |refine JV ?_ |refine cv.seq ?_ |(apply bS.a;exact N';exact rfl;intro z)|(apply dl.a;exact N';(first|exact .n|exact .y rfl rfl);intro z)|((first|(apply bS.vk;exact A_;exact rfl)|(apply dl.vk;exact A_;exact vl;exact vl;(first|exact .n|exact .y rfl rfl);(first|exact trivial|exact λ_=>trivial|exact λ_=>⟨⟨trivial,trivial⟩,trivial⟩|exact λ_=>⟨⟨rfl,trivial,trivial⟩,trivial⟩))|(apply dl.vk (ws:=Sum.elim _ _);exact A_;exact vl;exact vl;(first|exact .n|exact .y rfl rfl);(first|exact trivial|exact λ_=>trivial|exact λ_=>⟨⟨trivial,trivial⟩,trivial⟩|exact λ_=>⟨⟨rfl,trivial,trivial⟩,trivial⟩))|(apply dl.vk (ws:=Sum.elim _ (Sum.elim _ _));exact A_;exact vl;exact vl;(first|exact .n|exact .y rfl rfl);(first|exact trivial|exact λ_=>trivial|exact λ_=>⟨⟨trivial,trivial⟩,trivial⟩|exact λ_=>⟨⟨rfl,trivial,trivial⟩,trivial⟩)));(repeat' refine A9 ?_ ?_);all_goals (intro z d H2 m aG lD hm;dsimp only[eH,eW,List.set_cons_zero,List.set_cons_succ,aN.dN,V.dN,g7,u6,F2,F3,F4,F5,F6,F7,F8,F9,F_,F',Ga,Gb,Gc,Gd,Ge,Gf,Gg,Gh,List.append_nil,List.nil_append,List.cons_append,List.map_cons,List.map_nil,q4,V.cells,Sum.elim_inl,Sum.elim_inr]at aG lD hm;subst aG lD hm))|(apply cv.cond;apply rfl)|(apply bS.JU;apply rfl;apply rfl)|(apply dl.JU;apply rfl;apply rfl)|(apply bS.N8;apply rfl;apply rfl;apply rfl)|(apply bS.N9;apply rfl;apply rfl;apply rfl)|(apply cv.or;apply rfl)|(apply cv.and;apply rfl)|intro c|(apply b7.adk;first|exact b7.gR (s:=[])|exact b7.fu (s:=[])|exact b7.gG (s:=[])|exact b7.pJ (s:=[])|exact b7.gR (s:=[_])|exact b7.fu (s:=[_])|exact b7.gG (s:=[_])|exact b7.pJ (s:=[_])|exact b7.gR (s:=[_,_])|exact b7.fu (s:=[_,_])|exact b7.gG (s:=[_,_])|exact b7.pJ (s:=[_,_])|exact b7.gR (s:=[_,_,_])|exact b7.fu (s:=[_,_,_])|exact b7.gG (s:=[_,_,_])|exact b7.pJ (s:=[_,_,_])|exact b7.gR (s:=[_,_,_,_])|exact b7.fu (s:=[_,_,_,_])|exact b7.gG (s:=[_,_,_,_])|exact b7.pJ (s:=[_,_,_,_])|exact b7.gR (s:=[_,_,_,_,_])|exact b7.fu (s:=[_,_,_,_,_])|exact b7.gG (s:=[_,_,_,_,_])|exact b7.pJ (s:=[_,_,_,_,_])|exact b7.gR (s:=[_,_,_,_,_,_])|exact b7.fu (s:=[_,_,_,_,_,_])|exact b7.gG (s:=[_,_,_,_,_,_])|exact b7.pJ (s:=[_,_,_,_,_,_])|exact b7.gR (s:=[_,_,_,_,_,_,_])|exact b7.fu (s:=[_,_,_,_,_,_,_])|exact b7.gG (s:=[_,_,_,_,_,_,_])|exact b7.pJ (s:=[_,_,_,_,_,_,_])|exact b7.anI|exact b7.anJ|exact b7.anK|exact b7.Vc (x:=_)|exact b7.Vc (x:=(_,_))|exact b7.Vc (x:=(_,_,_)))));all_goals fail):G:=h
theorem adr{G R:Prop}(r:R)(h:R->G:=by intro r;(repeat first|refine Gk ?_ |refine Dm ?_ |refine JV ?_ |refine cv.seq ?_);exact r):G:=h r
theorem wx{G R:Prop}(r:R)(h:R->G:=by intro r;refine adr ?_;(first|(apply bS.N8 rfl rfl rfl;(case bg=>exact a0);(case aj=>exact a0))|(apply bS.N9 rfl rfl rfl;(case aj=>exact a0);(case bg=>exact a0)));exact r):G:=h r
theorem cg{G R:Prop}(r:R)(h:R->G:=by intro r;(repeat first|refine Gk ?_ |refine Dm ?_ |refine JV ?_ |refine cv.seq ?_ |(apply bS.N8 rfl rfl rfl;(case bg=>exact a0);(case aj=>exact a0))|(apply bS.N9 rfl rfl rfl;(case aj=>exact a0);(case bg=>exact a0)));exact r):G:=h r
theorem JW{G R:Prop}(r:R)(h:R->G:=by intro r;(repeat first|refine Gk ?_ |refine Dm ?_ |refine JV ?_ |refine cv.anD ?_ |refine cv.anE ?_ |refine cv.anF ?_ |(apply bS.N8 rfl rfl rfl;(case bg=>exact a0);(case aj=>exact a0))|(apply bS.N9 rfl rfl rfl;(case aj=>exact a0);(case bg=>exact a0)));exact r):G:=h r
theorem fO{G R:Prop}(r:R)(h:R->G:=by intro r;(repeat first|refine Gk ?_ |refine Dm ?_);exact r):G:=h r
theorem g3{G R:Prop}(r:R)(h:R->G:=by intro r;(repeat first|refine anL ?_ |refine Dm ?_);exact r):G:=h r
theorem Ob{G R:Prop}(r:R)(h:R->G:=by intro r;(repeat first|refine Gk ?_ |refine JV ?_ |refine cv.seq ?_);exact r):G:=h r
theorem cQ{G R:Prop}(r:R)(h:R->G:=by intro r;refine Ob ?_;refine Dm ?_;exact r):G:=h r
theorem g0{G R:Prop}(r:R)(h:R->G:=by intro r;refine Ob ?_;(first|(apply bS.w;exact adp;exact rfl;exact A')|(apply dl.w;exact adp;(first|exact .n|exact .y rfl rfl);(first|exact trivial|exact λ_=>trivial|exact λ_=>⟨⟨trivial,trivial⟩,trivial⟩|exact λ_=>⟨⟨rfl,trivial,trivial⟩,trivial⟩);exact A'));exact r):G:=h r
theorem kt{G R:Prop}(r:R)(h:R->G:=by intro r;refine Ob ?_;(first|(apply bS.w;exact adq;exact rfl;exact A')|(apply dl.w;exact adq;(first|exact .n|exact .y rfl rfl);(first|exact trivial|exact λ_=>trivial|exact λ_=>⟨⟨trivial,trivial⟩,trivial⟩|exact λ_=>⟨⟨rfl,trivial,trivial⟩,trivial⟩);exact A'));exact r):G:=h r
theorem ads{K G:Prop}(k:K)(h:K->G:=by intro k;refine cg ?_;(first|(apply bS.a;exact N';exact rfl;intro z)|(apply dl.a;exact N';(first|exact .n|exact .y rfl rfl);intro z)|((first|(apply bS.vk;exact A_;exact rfl)|(apply dl.vk;exact A_;exact vl;exact vl;(first|exact .n|exact .y rfl rfl);(first|exact trivial|exact λ_=>trivial|exact λ_=>⟨⟨trivial,trivial⟩,trivial⟩|exact λ_=>⟨⟨rfl,trivial,trivial⟩,trivial⟩))|(apply dl.vk (ws:=Sum.elim _ _);exact A_;exact vl;exact vl;(first|exact .n|exact .y rfl rfl);(first|exact trivial|exact λ_=>trivial|exact λ_=>⟨⟨trivial,trivial⟩,trivial⟩|exact λ_=>⟨⟨rfl,trivial,trivial⟩,trivial⟩))|(apply dl.vk (ws:=Sum.elim _ (Sum.elim _ _));exact A_;exact vl;exact vl;(first|exact .n|exact .y rfl rfl);(first|exact trivial|exact λ_=>trivial|exact λ_=>⟨⟨trivial,trivial⟩,trivial⟩|exact λ_=>⟨⟨rfl,trivial,trivial⟩,trivial⟩)));(repeat' refine A9 ?_ ?_);all_goals (intro z d H2 m aG lD hm;dsimp only[eH,eW,List.set_cons_zero,List.set_cons_succ,aN.dN,V.dN,g7,u6,F2,F3,F4,F5,F6,F7,F8,F9,F_,F',Ga,Gb,Gc,Gd,Ge,Gf,Gg,Gh,List.append_nil,List.nil_append,List.cons_append,List.map_cons,List.map_nil,q4,V.cells,Sum.elim_inl,Sum.elim_inr]at aG lD hm;subst aG lD hm)));first|(exact k.1 z;exact k.2.1 z;exact k.2.2 z)|(exact k.1 z;exact k.2 z)|exact k z):G:=h k
theorem ba{lw:α->Prop}(r:∀z,lw z)(h:(∀z,lw z)->G:=by intro r;exact ads r):G:=h r
variable {β:Type}
theorem oU{lw:α->Prop}{Dn:β->Prop}(r:∀z,lw z)(s:∀z,Dn z)(h:(∀z,lw z)->(∀z,Dn z)->G:=by intro r s;exact ads (And.intro r s)):G:=h r s
variable {oq:bY}
theorem ha(aj:cv Y x Q l H m T)(bg:cv Y y Q l H m' T)(pre:cv Y (.cond oq x y) Q l H (if b=ad then m else m') T->G:=by exact λr=>cg r)(ax:bV l oq=I (bD b):=by rfl):G:=pre (.cond ax aj bg)
variable {A B:Prop}
theorem pF(aj:A)(bg:B)(h:A->B->G:=by intro r h5;refine adr ?_;first|exact bS.JU rfl rfl r h5|exact dl.JU rfl rfl r h5):G:=h aj bg
theorem cy(bg:cv Y y Q l H m' T)(pre:cv Y (.cond oq x y) Q l H (if b=ad then m else m') T->G:=by exact λr=>cg r)(ax:bV l oq=I (bD b):=by rfl)(aj:cv Y x Q l H m T:=by exact a0):G:=pre (.cond ax aj bg)
theorem fg(aj:cv Y x Q l H m T)(pre:cv Y (.cond oq x y) Q l H (if b=ad then m else m') T->G:=by exact λr=>cg r)(ax:bV l oq=I (bD b):=by rfl)(bg:cv Y y Q l H m' T:=by exact a0):G:=pre (.cond ax aj bg)
theorem qq(bg:B)(h:A->B->G:=by exact λr h5=>pF r h5)(aj:A:=by exact a0):G:=h aj bg
theorem JX(bg:B)(aj:A)(h:A->B->G:=by exact λr h5=>pF r h5):G:=h aj bg
theorem zl{lw:Prop}(r:lw)(h:lw->G:=by intro r;refine cg ?_;(first|(apply cv.or rfl;(case bg=>exact a0))|(apply cv.and rfl;(case aj=>exact a0)));exact r):G:=h r
inductive qr (l:ce):List Nat->ce->Prop
 |n:qr l [] []
 |c {t:Nat} {Oc:List Nat} {d:V} {l':ce} (h:c6 l t=I d) (k:qr l Oc l'):qr l (t::Oc) ((t,d)::l')
inductive vm {β:Type}:List β->List β->List β->Prop
 |n {l:List β}:vm [] l l
 |c {z:β} {a l r:List β} (t:vm a l r):vm (z::a) l (z::r)
def Od{β:Type}(eh:α->ce)(G:List aN->α->List aN)(ks:List Nat)(x:β):Prop:=True
variable {J:aA}{ks:List Nat}{l':ce}
theorem cv.anM{Do eh:α->ce}{wG:List aN->α->List aN}{G:α->List aN}{body:α->Option (α ⊕ R)}{oq:eZ}{ir:α}{anN:β}(_:Od Do wG ks anN)(round:∀x n,cv Y oq (xQ Y id eh G body T n Q) (eh x) (G x) (body x) (xP body T n))(ap:qr l ks l':=by(repeat first|exact qr.n|(apply qr.c;exact rfl)))(bH:∀x,vm (Do x) l' (eh x):=by(intro x;repeat first|exact vm.n|apply vm.c))(jr:∀x,wG H x=G x:=by(intro x;first|(dsimp only[eH,eW,List.set_cons_zero,List.set_cons_succ,aN.dN,V.dN,g7,u6,F2,F3,F4,F5,F6,F7,F8,F9,F_,F',Ga,Gb,Gc,Gd,Ge,Gf,Gg,Gh,List.append_nil,List.nil_append,List.cons_append,List.map_cons,List.map_nil,q4,V.cells,Sum.elim_inl,Sum.elim_inr];exact rfl)|exact rfl))(bh:ew l (eh ir):=by(repeat first|exact .n|(apply ew.s;exact rfl)|(apply ew.c;exact rfl;exact r7)))(lD:H=G ir:=by rfl):cv Y (.loop oq) Q l H (J.b1 body ir) T:=cv.ac4 id eh G ir rfl bh lD round
theorem cv.anO{cd m8:Type}{Do eh:cd×m8->ce}{wG:List aN->cd×m8->List aN}{G:cd×m8->List aN}{body:cd->Option (cd ⊕ R)}{oq:eZ}{ir:cd}{fc:cd×m8}(_:Od Do wG ks fc)(round:∀x n,cv Y oq (xQ Y Prod.fst eh G body T n Q) (eh x) (G x) (body x.1) (xP body T n))(ak:fc.1=ir:=by rfl)(ap:qr l ks l':=by(repeat first|exact qr.n|(apply qr.c;exact rfl)))(bH:∀x,vm (Do x) l' (eh x):=by(intro x;repeat first|exact vm.n|apply vm.c))(jr:∀x,wG H x=G x:=by(intro x;first|(dsimp only[eH,eW,List.set_cons_zero,List.set_cons_succ,aN.dN,V.dN,g7,u6,F2,F3,F4,F5,F6,F7,F8,F9,F_,F',Ga,Gb,Gc,Gd,Ge,Gf,Gg,Gh,List.append_nil,List.nil_append,List.cons_append,List.map_cons,List.map_nil,q4,V.cells,Sum.elim_inl,Sum.elim_inr];exact rfl)|exact rfl))(bh:ew l (eh fc):=by(repeat first|exact .n|(apply ew.s;exact rfl)|(apply ew.c;exact rfl;exact r7)))(lD:H=G fc:=by rfl):cv Y (.loop oq) Q l H (J.b1 body ir) T:=cv.ac4 Prod.fst eh G fc ak bh lD round
theorem cv.gg{eh:β->ce}{G:β->List aN}(Do:β->ce)(wG:List aN->β->List aN)(ks:List Nat)(k:β->Option R)(h:∀b,cv Y y Q (eh b) (G b) (k b) T)(ak:(∀l H b,ew l (eh b)->H=G b->b7 Y (tT Y.X y Q) .normal l H (k b) T)->cv Y x (tT Y.X y Q) l H m T)(ap:qr l ks l':=by(repeat first|exact qr.n|(apply qr.c;exact rfl)))(bH:∀x,vm (Do x) l' (eh x):=by(intro x;repeat first|exact vm.n|apply vm.c))(jr:∀x,wG H x=G x:=by(intro x;first|(dsimp only[eH,eW,List.set_cons_zero,List.set_cons_succ,aN.dN,V.dN,g7,u6,F2,F3,F4,F5,F6,F7,F8,F9,F_,F',Ga,Gb,Gc,Gd,Ge,Gf,Gg,Gh,List.append_nil,List.nil_append,List.cons_append,List.map_cons,List.map_nil,q4,V.cells,Sum.elim_inl,Sum.elim_inr];exact rfl)|exact rfl)):cv Y (.seq x y) Q l H m T:=cv.aj8 eh G k h ak
theorem cI{lw:α->Nat->Prop}(eh:α->ce)(wG:List aN->α->List aN)(ks:List Nat)(r:∀x n,lw x n)(h:Od eh wG ks ()->(∀x n,lw x n)->G:=by intro fc r;refine cg ?_;exact cv.anM fc r):G:=h trivial r
theorem l4{lw:α->Nat->Prop}(eh:α->ce)(wG:List aN->α->List aN)(ks:List Nat)(x:α)(r:∀x n,lw x n)(h:Od eh wG ks x->(∀x n,lw x n)->G:=by intro fc r;refine cg ?_;exact cv.anO fc r):G:=h trivial r
end
abbrev Ba{R:Type}(ga:R->V)(j1:R->List aN)(r:R)(v:V)(H:List aN):Prop:=v=ga r/\H=j1 r
section
variable {R : Type} {aw : cF} {f : hE} {fn : Func} {c : eZ} {N : Nat} {ds : List V} {H : List aN} {Dl : Nat} {m : Option R} {ga : R -> V} {j1 : R -> List aN}
class zm(H:List aN)(n:Nat)(H':outParam (List aN)):Prop where h:H++List.replicate n .cc=H'
instance:zm [] 0 []:=⟨rfl⟩
instance{n:Nat}{r:List aN} [k:zm [] n r]:zm [] (n+1) (.cc::r):=⟨by rw[<-k.h];rfl⟩
instance{o:aN}{t r:List aN}{n:Nat} [k:zm t n r]:zm (o::t) n (o::r):=⟨by rw[<-k.h];rfl⟩
variable {H':List aN}
theorem gB.aX(n:Nat) [ak:zm H n H'](bg:aw.funcs[f]? =I fn)(aF:fn.body=I c)(fz:fn.ntmps=N)(h:∀r w g,cv ⟨⟨aJ,aw,N,[]⟩,w,g,H⟩ c (bodyPost aw fn (kx w g H (Ba ga j1 r))) (wi 0 ds) H' m (λq=>q=r))(hle:fb ds.length N=ad:=by rfl):gB m aw f ds H Dl ga j1:=⟨λ_ hm=>tX.sU (P:=Ba ga j1) hm bg aF fz hle λw g=>.ext n (ak.h▸h _ w g)⟩
theorem gB.sU(n:Nat) [ak:zm H n H'](bg:aw.funcs[f]? =I fn)(aF:fn.body=I c)(fz:fn.ntmps=N)(h:∀r w g,cv ⟨⟨aJ,aw,N,[]⟩,w,g,H⟩ c (bodyPostM (jT aJ) 0 aw fn (kx w g H (Ba ga j1 r))) (wi 0 ds) H' m (λq=>q=r))(hle:fb ds.length N=ad:=by rfl):gB m aw f ds H Dl ga j1:=⟨λ_ hm=>tX.al1 (P:=Ba ga j1) hm bg aF fz hle λw g=>.ext n (ak.h▸h _ w g)⟩
def Oe{R:Type}(m:Option R)(aw:cF)(f:hE)(ds:List V)(H:List aN)(ga:R->V)(j1:R->List aN):Prop:=∀ ⦃r:R⦄,m=I r->al5 aw f ds H (ga r) (j1 r)
theorem Oe.aX(n:Nat) [ak:zm H n H'](bg:aw.funcs[f]? =I fn)(aF:fn.body=I c)(fz:fn.ntmps=N)(h:∀r w g,cv ⟨⟨aJ,aw,N,[]⟩,w,g,H⟩ c (bodyPost aw fn (kx w g H (Ba ga j1 r))) (wi 0 ds) H' m (λq=>q=r))(hle:fb ds.length N=ad:=by rfl):Oe m aw f ds H ga j1:=λ_ hm=>JL.sU (P:=Ba ga j1) hm bg aF fz hle λw g=>.ext n (ak.h▸h _ w g)
theorem gB.p{m:Option R}{r:R} [c:gB m aw f ds [] 0 ga λ_=>[]](h:m=I r):CY aw f ds (ga r):=c.h h
theorem gB.bt(h:m=aJ):gB m aw f ds H Dl ga j1:=⟨λ_ e=>by rw[h]at e;cases e⟩
theorem N4.aX{f N j:Nat}{ee:Option eZ}{fr:ce}{ps:Array Nat}{as eU:eZ}(n:Nat) [ak:zm (.loop .ready ee f N fr ps as eU j::H) n H'](h:∀r w (g:cu),cv ⟨⟨I (g.β 0),aw,N,[]⟩,w,g,.loop .ready ee f N fr ps as eU j::H⟩ as (Uu aw (g.β 0) eU (kx w g (.loop .ready ee f N fr ps as eU j::H) (Ba ga j1 r))) (NP ps.toList ds fr) H' m (λq=>q=r))(wy:(eF ps.toList.length ds.length&&ps.toList.all (λp=>h4 p N))=ad:=by rfl):N4 m aw ds (.loop .ready ee f N fr ps as eU j::H) ga j1:=⟨λ_ hm=>NO.sU (i:=0) (P:=Ba ga j1) hm rfl wy λw g=>.ext n (ak.h▸h _ w g)⟩
end
end Go.Dp

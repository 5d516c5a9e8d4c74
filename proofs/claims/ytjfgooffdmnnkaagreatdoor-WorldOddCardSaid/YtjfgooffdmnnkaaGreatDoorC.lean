/- Code beside a function that may fail: whatever the function yields, the code does. -/
import Derived.Test.YtjfgooffdmnnkaaGreatDoorB
import Derived.Laws.Strings
set_option linter.all false
namespace Go.Dp
open Go Go.Mi Go.RowKit
open Bool renaming true->ad,and_eq_true->dn,false->aS
open Go renaming Operand->bY,TypeId->co,World->bj,Value->be,Oper->b_,Program->cF,Exit->df,IntKind->ip,Code->eZ,Act->di,ResultVar->sF,Edge->jG
open Go.Call renaming operands->ji
open Go.Exit renaming inBlock->wg
open Go.Instr renaming sliceBound->qh,sliceBounds->sS,sliceAt->u',slice->va,sureAddr->u3,build->Aw,fill->n'
open Go.Op renaming operands->dw,intArith->Ni,stringOp->TN
open Go.Result renaming andThen->cp
open Go.Sem renaming run_bind->cq,run_pure->jp
open Int renaming toNat_of_nonneg->Nj
open List renaming getElem?_eq_some_iff->cz,replicate->cC,flatMap_cons->kp,getElem?_replicate->FE,take_succ_cons->Jc,drop_succ_cons->aa2,length_take->fF,length_drop->tQ,all_eq_true->kX,drop_nil->aa3
open Nat renaming le_of_ble_eq_true->nn,ble->fb,le_refl->bL,eq_of_beq_eq_true->mi,beq->eF,blt->h4,add_mul->il,mul_le_mul->FF,zero_mul->Fj,sub_self->sT,beq_refl->kq,add_comm->tR,one_mul->CZ
open Option renaming some->I,none->aJ
open Option.some renaming injEq->je
def qi{R:Type}(m:Option R)(T:R->Prop):Prop:=∃q,m=I q/\T q
variable {R:Type}{T:R->Prop}
theorem qi.some{q:R}(h:qi (I q) T):T q:=by obtain⟨_,e,h⟩:=h;cases e;exact h
theorem qi.bind {α:Type}{x:Option α}{f:α->Option R}(h:qi (x.bind f) T):∃z,x=.some z/\qi (f z) T:=by
 obtain⟨q,e,h⟩:=h;cases x with
 |none=>cases e
 |some z=>exact⟨z,rfl,q,e,h⟩
variable {x:Option R}
theorem qi.bK{b:Bool} {y:Option R}(h:qi (if b=ad then x else y) T):(b=ad/\qi x T)\/(b=aS/\qi y T):=by
 cases b with
 |true=>exact .inl ⟨rfl,h⟩
 |false=>exact .inr ⟨rfl,h⟩
theorem qi.map {S:Type}{f:R->S}{T:S->Prop}(h:qi (x.map f) T):qi x λr=>T (f r):=by
 obtain⟨q,e,h⟩:=h;cases x with
 |none=>cases e
 |some z=>cases e;exact⟨z,rfl,h⟩
inductive qj {cd R:Type} (body:cd->Option (cd ⊕ R)):Nat->cd->R->Prop
 |bu {s:cd} {r:R} (h:body s=I (.inr r)):qj body 0 s r
 |on {n:Nat} {s s':cd} {r:R} (h:body s=I (.inl s')) (k:qj body n s' r):qj body (n+1) s r
theorem qj.aj5 {cd:Type}{body:cd->Option (cd ⊕ R)}{n:Nat}{s:cd}{r:R}(h:qj body n s r):∀{lh:Nat}{h5:R},qj body lh s h5->r=h5:=by
 induction h with
 |bu h=>intro lh h5 k;cases k with
  |bu k=>rw[h]at k;cases k;rfl
  |on k _=>rw[h]at k;cases k
 |on h _ bx=>intro lh h5 k;cases k with
  |bu k=>rw[h]at k;cases k
  |on k cV=>rw[h]at k;cases k;exact bx cV
open Classical in
noncomputable def fv{cd R:Type}(body:cd->Option (cd ⊕ R))(s:cd):Option R:=if h:∃r n,qj body n s r then I (Classical.choose h)else aJ
section
variable {cd R : Type} {body : cd -> Option (cd ⊕ R)} {s s' : cd} {r : R} {n : Nat}
theorem qj.b1(h:qj body n s r):fv body s=I r:=by
 have cr:∃r n,qj body n s r:=⟨r,n,h⟩
 unfold fv;rw[dif_pos cr];obtain⟨m,hm⟩:=Classical.choose_spec cr;rw[h.aj5 hm]
theorem fv.Jd(h:fv body s=I r):∃n,qj body n s r:=by
 unfold fv at h;split at h
 ·rename_i cr;cases h;exact Classical.choose_spec cr
 ·cases h
theorem fv.bu(h:body s=I (.inr r)):fv body s=I r:=(qj.bu h).b1
theorem fv.on(h:body s=I (.inl s')):fv body s=fv body s':=by
 cases e:fv body s' with
 |some r=>obtain⟨n,a6⟩:=fv.Jd e;exact(qj.on h a6).b1
 |none=>
  cases im:fv body s with
  |none=>rfl
  |some r=>
   obtain⟨n,a6⟩:=fv.Jd im;cases a6 with
   |bu k=>rw[h]at k;cases k
   |on k cV=>rw[h]at k;cases k;rw[cV.b1]at e;cases e
end
def xP{cd R:Type}(body:cd->Option (cd ⊕ R))(T:R->Prop)(n:Nat):cd ⊕ R->Prop
 |.inl s=>∃m r,m<n/\qj body m s r/\T r
 |.inr r=>T r
theorem ew.s'{l:ce}{t:Nat}{d:V}(h:c6 l t=I d):ew l ((t,d)::l):=ew.s h .lB
section
variable (Y : gY)
def cv(c:eZ)(Q:df->di->bj->Prop)(l:ce)(H:List aN){R:Type}(m:Option R)(T:R->Prop):Prop:=qi m T->eq Y c Q l H
def b7(Q:df->di->bj->Prop)(e:df)(l:ce)(H:List aN){R:Type}(m:Option R)(T:R->Prop):Prop:=qi m T->fI Y Q e l H
def bS(ops:Array b_)(Q:df->di->bj->Prop)(rest:List b_)(l:ce)(H:List aN){R:Type}(m:Option R)(T:R->Prop):Prop:=qi m T->e0 Y ops Q rest l H
def lE(Q:df->di->bj->Prop)(os rest:List b_)(l:ce)(H:List aN)(acc:List (List Nat×List Nat)){R:Type}(m:Option R)(T:R->Prop):Prop:=qi m T->jI Y Q os rest l H acc
end
section
variable {Y : gY} {Q : df -> di -> bj -> Prop} {l : ce} {H : List aN} {R : Type} {m m' : Option R} {T : R -> Prop}
theorem cv.seq{x y:eZ}(h:cv Y x (tT Y.X y Q) l H m T):cv Y (.seq x y) Q l H m T:=λe=>eq.seq (h e)
theorem cv.iq{id:Nat}{c:eZ}(h:cv Y c (wg id Q) l H m T):cv Y (.block id c) Q l H m T:=λe=>eq.iq (h e)
theorem cv.skip(h:b7 Y Q .normal l H m T):cv Y .skip Q l H m T:=λe=>eq.skip (h e)
theorem cv.exit{id:Nat}(h:b7 Y Q (.exit id) l H m T):cv Y (.exit id) Q l H m T:=λe=>eq.exit (h e)
theorem cv.ret(h:b7 Y Q .ret l H m T):cv Y .ret Q l H m T:=λe=>eq.ret (h e)
theorem cv.cond{c:bY}{x y:eZ}{b:Bool}(ax:bV l c=I (bD b))(aj:cv Y x Q l H m T)(bg:cv Y y Q l H m' T):cv Y (.cond c x y) Q l H (if b=ad then m else m') T:=
 λe=>eq.cond ax (λq=>aj (by subst q;exact e)) (λq=>bg (by subst q;exact e))
theorem cv.MT{c:bY}{x y:eZ}(ax:bV l c=I (bD ad))(aj:cv Y x Q l H m T):cv Y (.cond c x y) Q l H m T:=λe=>eq.MT ax (aj e)
theorem cv.CM{c:bY}{x y:eZ}(ax:bV l c=I (bD aS))(bg:cv Y y Q l H m T):cv Y (.cond c x y) Q l H m T:=λe=>eq.CM ax (bg e)
variable {y:eZ}
theorem b7.gH(h:cv Y y Q l H m T):b7 Y (tT Y.X y Q) .normal l H m T:=h
variable {id:Nat}
theorem b7.t'(h:b7 Y Q (.exit id) l H m T):b7 Y (tT Y.X y Q) (.exit id) l H m T:=h
theorem b7.aj6(h:b7 Y Q .ret l H m T):b7 Y (tT Y.X y Q) .ret l H m T:=h
theorem b7.iq(h:b7 Y Q .normal l H m T):b7 Y (wg id Q) .normal l H m T:=h
theorem b7.aj7(h:b7 Y Q .ret l H m T):b7 Y (wg id Q) .ret l H m T:=h
theorem b7.rU{id:Nat}(h:b7 Y Q .normal l H m T):b7 Y (wg id Q) (.exit id) l H m T:=λe=>fI.rU (h e)
theorem b7.Tc{id Ay:Nat}(fM:eF Ay id=aS)(h:b7 Y Q (.exit Ay) l H m T):b7 Y (wg id Q) (.exit Ay) l H m T:=λe=>fI.Tc fM (h e)
theorem cv.aj8{β:Type}(eh:β->ce)(G:β->List aN)(k:β->Option R) {x:eZ}(h:∀b,cv Y y Q (eh b) (G b) (k b) T)(ak:(∀l H b,ew l (eh b)->H=G b->b7 Y (tT Y.X y Q) .normal l H (k b) T)->cv Y x (tT Y.X y Q) l H m T):cv Y (.seq x y) Q l H m T:=
 cv.seq (ak λl H b aQ jr e=>fI.sub aQ (jr▸h b e))
section
variable {cd : Type} {α : Type} {eh : α -> ce} {G : α -> List aN} {body : cd -> Option (cd ⊕ R)}
def xQ(Y:gY)(lF:α->cd)(eh:α->ce)(G:α->List aN)(body:cd->Option (cd ⊕ R))(T:R->Prop)(n:Nat)(Q:df->di->bj->Prop):df->di->bj->Prop:=IW Y (λq:α×Nat=>eh q.1) (λq=>G q.1) (λq=>∃r,qj body q.2 (lF q.1) r/\T r) (·.2) n Q
theorem cv.loop{c:eZ}{ir:cd}(lF:α->cd)(eh:α->ce)(G:α->List aN)(fc:α)(ak:lF fc=ir)(bh:ew l (eh fc))(jr:H=G fc)
  (round:∀x n,cv Y c (xQ Y lF eh G body T n Q) (eh x) (G x) (body (lF x)) (xP body T n)):cv Y (.loop c) Q l H (fv body ir) T:=λe=>by
 obtain⟨r,h1,h2⟩:=e;obtain⟨n,a6⟩:=fv.Jd h1;refine eq.loop (α:=α×Nat) (λq=>eh q.1) (λq=>G q.1) (λq=>∃r,qj body q.2 (lF q.1) r/\T r) (·.2) (fc,n) bh jr ⟨r,by rw[ak];exact a6,h2⟩ ?_;rintro⟨x,n⟩ ⟨r,h1,h2⟩;refine round x n ?_;cases h1 with
 |bu h=>exact⟨_,h,h2⟩
 |on h k=>exact⟨_,h,_,r,Nat.lt_succ_self _,k,h2⟩
variable {n:Nat}
theorem b7.next{lF:α->cd}{s:cd}(x:α)(ak:lF x=s)(aQ:ew l (eh x))(jr:H=G x):b7 Y (xQ Y lF eh G body T n Q) .normal l H (I (.inl s)) (xP body T n):=λe=>by obtain⟨k,r,h1,h2,ay⟩:=e.some;subst ak;exact fI.loop (α:=α×Nat) (x,k) aQ jr ⟨r,h2,ay⟩ h1
theorem b7.ua{lF:α->cd}{id:Nat}(h:b7 Y Q (.exit id) l H m T):b7 Y (xQ Y lF eh G body T n Q) (.exit id) l H (m.map .inr) (xP body T n):=λe=>fI.ajA (h e.map)
theorem b7.aj9{lF:α->cd}(h:b7 Y Q .ret l H m T):b7 Y (xQ Y lF eh G body T n Q) .ret l H (m.map .inr) (xP body T n):=λe=>fI.ajB (h e.map)
end
theorem cv.region{id:Nat}{os:List b_}(h:bS Y os.toArray Q os l H m T):cv Y (.region id os.toArray aS) Q l H m T:=λe=>eq.region (h e)
variable {ops : Array b_} {rest : List b_}
theorem bS.nil(h:b7 Y Q .normal l H m T):bS Y ops Q [] l H m T:=h
section
variable {t : Nat} {op : Op} {ty : co} {pos : String} {cT : Array jG} {d : V} {dst : Option Tmp} {dx c0 : List (Nat × aN)}
theorem bS.q(h:bP Y.X.P op ty (bV l) [] [] d)(aG:h4 t Y.X.N=ad)(k:bS Y ops Q rest ((t,d)::l) H m T):bS Y ops Q ({dst:=I t,op:=op,type:=ty,pos:=pos,after:=cT,guard:=aJ}::rest) l H m T:=λe=>e0.q h aG (k e)
theorem bS.ar(h:bP Y.X.P op ty (bV l) dx c0 d)(ev:gx H dx)(aG:m4 Y.X.N dst=ad)(k:bS Y ops Q rest (hJ dst d l) (eH H c0) m T):
  bS Y ops Q ({dst:=dst,op:=op,type:=ty,pos:=pos,after:=cT,guard:=aJ}::rest) l H m T:=λe=>e0.ar h ev aG (k e)
variable {α:Type}{x:Option α}
theorem bS.b{f:α->Option R}{dd:α->V}(h:∀z,x=I z->bP Y.X.P op ty (bV l) [] [] (dd z))(aG:h4 t Y.X.N=ad)(k:∀z,bS Y ops Q rest ((t,dd z)::l) H (f z) T):
  bS Y ops Q ({dst:=I t,op:=op,type:=ty,pos:=pos,after:=cT,guard:=aJ}::rest) l H (x.bind f) T:=λe=>by
 obtain⟨z,h1,h2⟩:=e.bind;exact e0.q (h z h1) aG (k z h2)
theorem bS.q8{f:α->Option R}{dd:α->V}{rr ww:α->List (Nat×aN)}(h:∀z,x=I z->bP Y.X.P op ty (bV l) (rr z) (ww z) (dd z))(ev:∀z,gx H (rr z))(aG:m4 Y.X.N dst=ad)(k:∀z,bS Y ops Q rest (hJ dst (dd z) l) (eH H (ww z)) (f z) T):
  bS Y ops Q ({dst:=dst,op:=op,type:=ty,pos:=pos,after:=cT,guard:=aJ}::rest) l H (x.bind f) T:=λe=>by
 obtain⟨z,h1,h2⟩:=e.bind;exact e0.ar (h z h1) (ev z) aG (k z h2)
theorem bS.MU{j:Nat}{want b:Bool}(dM:Nat)(ag:(ops[j]?).bind (·.dst)=I dM)(aF:c6 l dM=I (bD b))(he:b=want)
  (k:bS Y ops Q ({dst:=dst,op:=op,type:=ty,pos:=pos,after:=cT,guard:=aJ}::rest) l H m T):bS Y ops Q ({dst:=dst,op:=op,type:=ty,pos:=pos,after:=cT,guard:=I (j,want)}::rest) l H m T:=λe=>e0.MU dM ag aF he (k e)
theorem bS.bt{j:Nat}{want b:Bool}(dM:Nat)(ag:(ops[j]?).bind (·.dst)=I dM)(aF:c6 l dM=I (bD b))(he:b= !want)(aG:m4 Y.X.N dst=ad)
  (k:bS Y ops Q rest (hJ dst (.p (.v undef)) l) H m T):bS Y ops Q ({dst:=dst,op:=op,type:=ty,pos:=pos,after:=cT,guard:=I (j,want)}::rest) l H m T:=λe=>e0.bt dM ag aF he aG (k e)
end
theorem bS.TO{b:Bool}(d:Nat)(aF:c6 l d=I (bD b))(aj:bS Y ops Q rest ((d,bD ad)::l) H m T)(bg:bS Y ops Q rest ((d,bD aS)::l) H m' T):bS Y ops Q rest l H (if b=ad then m else m') T:=λe=>by
 rcases e.bK with⟨q,e⟩|⟨q,e⟩
 ·subst q;exact e0.sub (ew.s' aF) (aj e)
 ·subst q;exact e0.sub (ew.s' aF) (bg e)
end
def az(n:Int):Int:=IntKind.i64.wrap n
def xR(n:Int):Int:=IntKind.u8.wrap n
def aH{α:Type}(xs:List α)(j:Int):Option α:=if 0<=j then xs[j.toNat]? else aJ
def e6{α:Type}(xs cO:List α):Option (List α):=if xs.length+cO.length<=1099511627776 then I (xs++cO)else aJ
def nq(a b:Int):Option Int:=if b=0 then aJ else I (a.tdiv b)
def nr(a b:Int):Option Int:=if b=0 then aJ else I (a.tmod b)
theorem b3{n:Int}(h1: -9223372036854775808<=n)(h2:n< 9223372036854775808):az n=n:=by unfold az IntKind.wrap;simp[IntKind.signed,IntKind.bits];split<;>omega
theorem AI{α:Type}{xs:List α}{j:Int}{z:α}(h:aH xs j=I z):0<=j/\xs[j.toNat]? =I z:=by
 unfold aH at h;split at h
 ·exact⟨by assumption,h⟩
 ·cases h
theorem Nk{α:Type}{xs cO f':List α}(h:e6 xs cO=I f'):xs.length+cO.length<=1099511627776/\f'=xs++cO:=by
 unfold e6 at h;split at h
 ·cases h;exact⟨by assumption,rfl⟩
 ·cases h
theorem Nl{n b:Nat}(h:n<=1099511627776)(aF:fb b 128=ad):n*b<=140737488355328:=by
 have aF:=nn aF
 calc n*b<=1099511627776*128:=FF h aF
  _=140737488355328:=rfl
theorem aka{a b z:Int}(h:nq a b=I z):b≠0/\z=a.tdiv b:=by
 unfold nq at h;split at h
 ·cases h
 ·cases h;exact⟨by assumption,rfl⟩
theorem akb{a b z:Int}(h:nr a b=I z):b≠0/\z=a.tmod b:=by
 unfold nr at h;split at h
 ·cases h
 ·cases h;exact⟨by assumption,rfl⟩
section
variable {aw : cF} {ty : co} {ρ : bY -> Option V}
section
variable {T cf : co} {x y : bY} {k : ip} {a b : Int}
theorem akc(ak:ρ x=I (.p (.v (.int k a))))(a9:ρ y=I (.p (.v (.int k b)))):bP aw (.binOp .add T x y cf) ty ρ [] [] (.p (.v (.int k (k.wrap (a+b))))):=
 mG ak a9 λw'=>by simp[cq,rI,cp,binOp,Ni]
theorem akd(ak:ρ x=I (.p (.v (.int k a))))(a9:ρ y=I (.p (.v (.int k b)))):bP aw (.binOp .sub T x y cf) ty ρ [] [] (.p (.v (.int k (k.wrap (a-b))))):=
 mG ak a9 λw'=>by simp[cq,rI,cp,binOp,Ni]
theorem ake(ak:ρ x=I (.p (.v (.int k a))))(a9:ρ y=I (.p (.v (.int k b)))):bP aw (.binOp .mul T x y cf) ty ρ [] [] (.p (.v (.int k (k.wrap (a*b))))):=
 mG ak a9 λw'=>by simp[cq,rI,cp,binOp,Ni]
theorem akf(ak:ρ x=I (.p (.v (.int k a))))(a9:ρ y=I (.p (.v (.int k b))))(bh:b≠0):bP aw (.binOp .quo T x y cf) ty ρ [] [] (.p (.v (.int k (k.wrap (a.tdiv b))))):=
 mG ak a9 λw'=>by simp[cq,rI,cp,binOp,Op.intDiv,bh]
end
variable {T:co}{x:bY}
theorem akg {S:co}{k cV:ip}{n:Int}(fG:∀w,(underlying S).run aw w=.ok (.int k) w)(cw:∀w,(underlying T).run aw w=.ok (.int cV) w)(ak:ρ x=I (.p (.v (.int k n)))):
  bP aw (.convert S T x) ty ρ [] [] (.p (.v (.int cV (cV.wrap n)))):=.plain λw e o aU _ bg=>by
 have a2:=bg x (by simp[dw]) _ ak;unfold execOp;rw[aU];simp[a2,convert,fG,cw,cq,cp,Conv.intToInt]
theorem akh{d:V}{cs:List P}(ak:ρ x=I d)(ax:d.cells=cs.map .p)(h1:cs.all P.one=ad):bP aw (.box T x) ty ρ [] [] (.bG cs):=λg w H e q aB _ aO ev h=>by
 have rK:d.cells.all V.one=ad:=by rw[ax,List.all_map];exact h1
 obtain⟨vs,q5,mj,_⟩:=(h x (by simp[dw]) _ ak).cells rK;rw[ax]at mj;have hp:=I4 mj;have b5:=cn.ML (E:=dT g.E w.heap.size cs.length) aO (CB w (.cells vs.toArray T)) (λb aF=>lg (by omega));refine .inl ⟨.pointer (I ⟨w.heap.size,0,aJ⟩),w.alloc (.cells vs.toArray T),?_,_,b5,MR (us:=vs) (hp.bi b5.bi.size b5.bi.E b5.bi.cell) ?_ (by simp) λj u ag=>?_⟩
 ·unfold execOp;rw[aB];simp[Instr.box,newVar,newRow,newObj,cq,Sem.run,cp,q5]
 ·show 0+cs.length<=dT g.E w.heap.size cs.length w.heap.size;rw[fL];omega
 ·rw[(CC w vs T).cell,Nat.zero_add];exact ag
end
theorem tX.sU{R:Type}{aw:cF}{f:FuncId}{fn:Func}{c:eZ}{N:Nat}{ds:List V}{H:List aN}{m:Option R}{r:R}{P:R->V->List aN->Prop}(hm:m=I r)(bg:aw.funcs[f]? =I fn)(aF:fn.body=I c)(fz:fn.ntmps=N)(hle:fb ds.length N=ad)
  (h:∀w g,cv ⟨⟨aJ,aw,N,[]⟩,w,g,H⟩ c (bodyPost aw fn (kx w g H (P r))) (wi 0 ds) H m (λq=>q=r)):tX aw f ds H (P r):=tX.aX bg aF fz hle λw g=>h w g ⟨r,hm,rfl⟩
theorem cv.ext{Y:gY}{c:eZ}{Q:df->di->bj->Prop}{l:ce}{H:List aN}{R:Type}{m:Option R}{T:R->Prop}(n:Nat)(h:cv Y c Q l (H++cC n .cc) m T):cv Y c Q l H m T:=λe=>eq.ext n (h e)
section
variable {R : Type} {aw : cF} {N : Nat} {l : ce} {fn : Func} {e : df} {cK : bj} {cl : cu} {ca H e1 : List aN} {P : R -> V -> List aN -> Prop} {a1 : List Nat} {q r : R}
theorem b7.TA{rv:sF}{d x:V}(hp:P q x e1)(aY:Exit.m1 e=ad)(m6:fn.results=#[rv])(h1:mg aw l H rv d)(hw:hg d (x.dN (b0 a1)))(ap:pv ca H e1 a1)(b':x.lt e1.length=ad):b7 ⟨⟨aJ,aw,N,[]⟩,cK,cl,ca⟩ (bodyPost aw fn (kx cK cl ca (P r))) e l H (I q) (λq=>q=r):=λh=>by have:=h.some;subst this;exact fI.TA aY m6 h1 hw ap b' hp
theorem b7.TB{rv q7:sF}{d db x of:V}(hp:P q (.cx [x,of]) e1)(aY:Exit.m1 e=ad)(m6:fn.results=#[rv,q7])(h1:mg aw l H rv d)(h2:mg aw l H q7 db)(hw:hg d (x.dN (b0 a1)))(wj:hg db (of.dN (b0 a1)))(ap:pv ca H e1 a1)(b':(V.cx [x,of]).lt e1.length=ad):
  b7 ⟨⟨aJ,aw,N,[]⟩,cK,cl,ca⟩ (bodyPost aw fn (kx cK cl ca (P r))) e l H (I q) (λq=>q=r):=λh=>by
 have:=h.some;subst this;exact fI.TB aY m6 h1 h2 hw wj ap b' hp
theorem b7.TC{rv q7 AC:sF}{d db xK x of C0:V}(hp:P q (.cx [x,of,C0]) e1)(aY:Exit.m1 e=ad)(m6:fn.results=#[rv,q7,AC])(h1:mg aw l H rv d)(h2:mg aw l H q7 db)(ay:mg aw l H AC xK)(hw:hg d (x.dN (b0 a1)))(wj:hg db (of.dN (b0 a1)))(I3:hg xK (C0.dN (b0 a1)))(ap:pv ca H e1 a1)(b':(V.cx [x,of,C0]).lt e1.length=ad):
  b7 ⟨⟨aJ,aw,N,[]⟩,cK,cl,ca⟩ (bodyPost aw fn (kx cK cl ca (P r))) e l H (I q) (λq=>q=r):=λh=>by
 have:=h.some;subst this;exact fI.TC aY m6 h1 h2 ay hw wj I3 ap b' hp
theorem b7.Tz(hp:P q (.cx []) e1)(aY:Exit.m1 e=ad)(m6:fn.results=#[])(ap:pv ca H e1 a1):b7 ⟨⟨aJ,aw,N,[]⟩,cK,cl,ca⟩ (bodyPost aw fn (kx cK cl ca (P r))) e l H (I q) (λq=>q=r):=λh=>by have:=h.some;subst this;exact fI.Tz aY m6 ap hp
end
section
def lk{α:Type}(k:Nat)(e:α->List P)(xs:List α):List P:=[sl k e xs]
def nF(l:ce):List bY->Option (List V)
 |[]=>I []
 |x::xs=>match bV l x,nF l xs with
  |some d,I ds=>I (d::ds)
  |_,_=>aJ
theorem FG{l:ce}:∀{os:List bY}{ds:List V},nF l os=I ds->os.map (bV l)=ds.map I
 |[],ds,h=>by simp only[nF,je]at h;subst h;rfl
 |x::xs,ds,h=>by
  simp only[nF]at h;cases ak:bV l x with
  |none=>rw[ak]at h;cases h
  |some d=>
   cases a9:nF l xs with
   |none=>rw[ak,a9]at h;cases h
   |some es=>rw[ak,a9]at h;cases h;simp[ak,FG a9]
variable {aw:cF}{cf bG k:Nat}{l:ce}{n:Nat}{parts:List (Nat×bY)}{ty:co}{z:be}{α:Type}
theorem TP{ds:List V}(xs:List α)(e:α->List P)(aj:∀w,(underlying cf).run aw w=.ok (.slice bG) w)(ap:∀w,(sizeOf bG).run aw w=.ok k w)(aP:∀w,(zeroValue bG).run aw w=.ok z w)(ak:nF l (parts.map (·.2))=I ds)(no:parts=(parts.map (·.2)).zipIdx.map (λp=>(p.2,p.1)))(aU:(ds.all λd=>d.cells.all V.one&&eF d.cells.length k)=ad)(gl:ds.flatMap V.cells=(xs.flatMap e).map .p)(a6:ds.length=xs.length)(mh:xs.length=n)(hle:fb (xs.length*k) 16777216=ad):bP aw (.buildSlice cf n parts.toArray) ty (bV l) [] [] (bM k e xs):=by subst mh;exact aj3 xs aj ap aP (by simpa using no) (FG ak) aU gl a6 (nn hle)
theorem aa4 {i:Nat}{ds:List V}(xs:List α)(e:α->List P)(aj:∀w,(underlying cf).run aw w=.ok (.slice bG) w)(ap:∀w,(sizeOf bG).run aw w=.ok k w)(aP:∀w,(zeroValue bG).run aw w=.ok z w)(ak:nF l (parts.map (·.2))=I ds)(no:parts=(parts.map (·.2)).zipIdx.map (λp=>(p.2,p.1)))(aU:(ds.all λd=>d.cells.all V.one&&eF d.cells.length k)=ad)(gl:ds.flatMap V.cells=(xs.flatMap e).map .p)(a6:ds.length=xs.length)(mh:xs.length=n)(hle:fb (xs.length*k) 16777216=ad)(hm:fb xs.length 16777216=ad):bP aw (.buildSlice cf n parts.toArray) ty (bV l) [(i,.cc)] [(i,.bs bG k 0)] (cZ k e xs i 0):=by subst mh;exact ajK (i:=i) aj ap aP (by simpa using no) (FG ak) aU gl a6 (nn hle) (Nat.le_trans (nn hm) (by decide))
theorem ns{T:co}{f':List be}{y5:Array Field}{pl:List (Nat×Nat)}(aP:∀w,(zeroValue T).run aw w=.ok z w)(hu:∀w,(underlying T).run aw w=.ok (.struct y5) w)(hp:∀w,((y5.mapM λf=>do pure (f.offset,<-sizeOf f.type)):Sem _).run aw w=.ok pl.toArray w)(TQ:z.cells=f'.toArray)(c:Array be)(ps:List (Nat×be))(w:bj)
  (h:n' (λi=>pl[i]?) f'.toArray ps=I c):(Aw T ps.toArray).run aw w=.ok (.agg c) w:=by
 unfold Aw;have cr:n' (λi=>pl.toArray[i]?) z.cells ps=I c:=by rw[TQ,<-h];congr 1;funext i;simp
 simp only[cq,aP,hu,hp w,cp,cr,jp]
theorem ew.nK {l' aa5:ce}(h:ew l l')(k:ew l' aa5):ew l aa5:=λt d aG=>by obtain⟨db,h1,h2⟩:=k t d aG;obtain⟨xK,ay,bl⟩:=h t db h1;exact⟨xK,ay,λg w H v bp=>h2 _ _ _ _ (bl _ _ _ _ bp)⟩
theorem ew.cut{d s:Nat}{u v:V}(h:c6 l s=I v):ew ((d,u)::(s,v)::l) ((d,u)::l):=λt x ak=>by
 refine⟨x,?_,.lB⟩;simp only[c6]at ak⊢;cases aF:eF d t with
 |true=>rw[aF]at ak;exact ak
 |false=>
  rw[aF]at ak;simp only[cond_false]at ak⊢;cases ax:eF s t with
  |true=>have:=mi ax;subst this;rw[h]at ak;simpa using ak
  |false=>exact ak
section
variable {Y : gY} {Q : df -> di -> bj -> Prop} {l : ce} {H : List aN} {R : Type} {m : Option R} {T : R -> Prop} {ops : Array b_} {rest : List b_} {t : Nat} {ty : co} {pos : String} {cT : Array jG} {dst : Option Tmp}
theorem cv.sV{c:eZ}{α:Type}(e:α->List P)(cf k i s:Nat)(aj:c6 l s=I (.p (.v (.slice aJ 0 0))))(hi:H[i]? =I .cc)(h:cv Y c Q ((s,cZ k e [] i 0)::l) (H.set i (.bs cf k 0)) m T):cv Y c Q l H m T:=λim=>eq.nil e cf k i s aj hi (h im)
theorem bS.Je{dst:Option Tmp}{op:Op}{ty:co}{pos:String}{cT:Array jG}{j:Nat}{want:Bool}(dM:Nat)(ag:(ops[j]?).bind (·.dst)=I dM)(aF:c6 l dM=I (.p (.v undef)))(aG:m4 Y.X.N dst=ad)
  (k:bS Y ops Q rest (hJ dst (.p (.v undef)) l) H m T):bS Y ops Q ({dst:=dst,op:=op,type:=ty,pos:=pos,after:=cT,guard:=I (j,want)}::rest) l H m T:=λe g w a aO a4=>by
 obtain⟨v,h1,h2⟩:=a4.2.2 dM _ aF;have bp:=h2.ic;have a9:yielded ops a.tmps j=aJ:=by unfold yielded;rw[ag];simp[h1,bp,undef]
 have fM:(aJ==I want)=aS:=rfl;simp only[m0,Region.wanted,a9,fM];exact k e g w _ aO (a4.put aG (.v _))
theorem bS.and{b r:Bool}(n d dM:Nat)(aF:c6 l dM=I (bD b))(aj:(∀l',ew l' ((d,bD r)::(dM,bD ad)::l)->bS Y ops Q (rest.drop n) l' H m T)->bS Y ops Q rest ((dM,bD ad)::l) H m T)
  (bg:(∀l',ew l' ((d,bD aS)::(dM,bD aS)::l)->bS Y ops Q (rest.drop n) l' H m T)->bS Y ops Q rest ((dM,bD aS)::l) H m T) (k:bS Y ops Q (rest.drop n) ((d,bD (b&&r))::l) H m T):bS Y ops Q rest l H m T:=λe=>by
 cases b with
 |true=>exact e0.sub (ew.s' aF) (aj (λl' aQ e=>e0.sub (aQ.nK (ew.cut aF)) (k e)) e)
 |false=>exact e0.sub (ew.s' aF) (bg (λl' aQ e=>e0.sub (aQ.nK (ew.cut aF)) (k e)) e)
theorem bS.or{b r:Bool}(n d dM:Nat)(aF:c6 l dM=I (bD b))(bg:(∀l',ew l' ((d,bD r)::(dM,bD aS)::l)->bS Y ops Q (rest.drop n) l' H m T)->bS Y ops Q rest ((dM,bD aS)::l) H m T)
  (aj:(∀l',ew l' ((d,bD ad)::(dM,bD ad)::l)->bS Y ops Q (rest.drop n) l' H m T)->bS Y ops Q rest ((dM,bD ad)::l) H m T) (k:bS Y ops Q (rest.drop n) ((d,bD (b||r))::l) H m T):bS Y ops Q rest l H m T:=λe=>by
 cases b with
 |true=>exact e0.sub (ew.s' aF) (aj (λl' aQ e=>e0.sub (aQ.nK (ew.cut aF)) (k e)) e)
 |false=>exact e0.sub (ew.s' aF) (bg (λl' aQ e=>e0.sub (aQ.nK (ew.cut aF)) (k e)) e)
end
theorem ew.ub{l l':ce}{d:Nat}{v:V}(aG:c6 l' d=I v)(aC:l'.drop (l'.length-l.length)=l)(h:(l'.take (l'.length-l.length)).all (λq=>eF q.1 d||(c6 l q.1).isNone)=ad):ew l' ((d,v)::l):=λt u hu=>by
 simp only[c6]at hu;cases aF:eF d t with
 |true=>rw[aF]at hu;have:=mi aF;subst this;simp only[cond_true,je]at hu;subst hu;exact⟨v,aG,.lB⟩
 |false=>
  rw[aF]at hu;simp only[cond_false]at hu;refine⟨u,?_,.lB⟩;generalize l'.length-l.length=n at aC h;clear aG;induction n generalizing l' with
  |zero=>rw[List.drop_zero]at aC;subst aC;exact hu
  |succ n bx=>
   cases l' with
   |nil=>rw[aa3]at aC;subst aC;exact hu
   |cons q l'=>
    simp only[Jc,aa2,List.all_cons,dn]at aC h;have k:=bx aC h.2;simp only[c6];cases ax:eF q.1 t with
    |false=>simpa using k
    |true=>
     have:=mi ax;subst this;have h1:=h.1;rw[hu,Bool.or_eq_true]at h1;rcases h1 with h1|h1
     ·have:=mi h1;rw[this,kq]at aF;cases aF
     ·simp at h1
section
variable {Y : gY} {Q : df -> di -> bj -> Prop} {l : ce} {H : List aN} {R : Type} {m : Option R} {T : R -> Prop}
theorem cv.or{y:eZ}{d:Nat}{b r:Bool}(aF:c6 l d=I (bD b))(bg:(∀l',ew l' ((d,bD r)::l)->b7 Y Q .normal l' H m T)->cv Y y Q l H m T)(k:b7 Y Q .normal ((d,bD (b||r))::l) H m T):cv Y (.cond (.tmp d) .skip y) Q l H m T:=λe=>
 eq.or aF (λ_ c=>bg (λl' aQ _=>c l' aQ) e) (k e)
theorem cv.and{x:eZ}{d:Nat}{b r:Bool}(aF:c6 l d=I (bD b))(aj:(∀l',ew l' ((d,bD r)::l)->b7 Y Q .normal l' H m T)->cv Y x Q l H m T)(k:b7 Y Q .normal ((d,bD (b&&r))::l) H m T):cv Y (.cond (.tmp d) x .skip) Q l H m T:=λe=>
 eq.and aF (λ_ c=>aj (λl' aQ _=>c l' aQ) e) (k e)
end
variable {l l':ce}
theorem aa6(h:∀t,c6 l t=c6 l' t):bV l=bV l':=funext λx=>by cases x<;>simp[bV,h]
theorem aa7(h:∀t,c6 l t=c6 l' t)(dst:Option Tmp)(d:V)(t:Nat):c6 (hJ dst d l) t=c6 (hJ dst d l') t:=by
 cases dst with
 |none=>exact h t
 |some s=>simp only[hJ,c6,h t]
theorem wl.ext{aw:cF}{os:List b_}{o:b_}{m:gy}(h:∀t,c6 l t=c6 l' t)(k:wl aw os o l m):wl aw os o l' m:=by
 cases k with
 |run b5 h1=>exact .run b5 (aa6 h▸h1)
 |on b5 ag aF h1=>exact .on b5 ag (h _▸aF) (aa6 h▸h1)
 |off b5 ag aF hm=>exact .off b5 ag (h _▸aF) hm
 |Ft b5 ag aF hm=>exact .Ft b5 ag (h _▸aF) hm
theorem px.ext{aw:cF}{eS:List b_}:∀{os:List b_}{ms:List gy}{l l':ce},(∀t,c6 l t=c6 l' t)->px aw eS os ms l->px aw eS os ms l'
 |[],[],_,_,_,_=>trivial
 |[],_::_,_,_,_,k=>k.elim
 |_::_,[],_,_,_,k=>k.elim
 |o::os,m::ms,l,l',h,k=>⟨k.1.ext h,px.ext (aa7 h _ _) k.2⟩
theorem TR{L:Nat->Bool}:∀(k:Nat)(os:List b_)(ms:List gy)(l l':ce),(∀t,c6 l t=c6 l' t)->∀t,c6 (iN k os ms L l) t=c6 (iN k os ms L l') t
 |_,[],ms,_,_,h=>by cases ms<;>exact h
 |_,_::_,[],_,_,h=>h
 |k,o::os,m::ms,l,l',h=>by
  rw[iN,iN];refine TR (k+1) os ms _ _ ?_;split
  ·exact aa7 h _ _
  ·exact h
theorem jI.ext{Y:gY}{Q:df->di->bj->Prop}{eS rest:List b_}{l l':ce}{H:List aN}{acc:List (List Nat×List Nat)}(h:∀t,c6 l' t=c6 l t)(k:jI Y Q eS rest l' H acc):jI Y Q eS rest l H acc:=by obtain⟨ms,h1,h2,bO,ay,bl⟩:=k;exact⟨ms,h1.ext h,h2,bO,ay,fI.sub (λt d aG=>⟨d,by rw[<-TR 0 rest ms l' l h];exact aG,.lB⟩) bl⟩
inductive kH (os:List b_) (l:ce):Option (Nat×Bool)->Prop
 |n:kH os l aJ
 |y {j dM:Nat} {want:Bool} (ag:(os[j]?).bind (·.dst)=I dM) (aF:c6 l dM=I (bD want)):kH os l (I (j,want))
theorem jI.oO{Y:gY}{Q:df->di->bj->Prop}{eS:List b_}{dst:Option Tmp}{op:Op}{ty:co}{pos:String}{cT:Array jG}{fs:Option (Nat×Bool)}{rest:List b_}{H:List aN}{acc:List (List Nat×List Nat)}{dx c0:List (Nat×aN)}{d:V}(h:bP Y.X.P op ty (bV l) dx c0 d)(hi:gx H dx)(b5:kH eS l fs)
  (k:jI Y Q eS rest (hJ dst d l) (eH H c0) (acc++[(dx.map (·.1),c0.map (·.1))])):jI Y Q eS ({dst:=dst,op:=op,type:=ty,pos:=pos,after:=cT,guard:=fs}::rest) l H acc:=by
 refine jI.cons (m:=⟨dx,c0,d,λ_=>True⟩) ?_ hi k;cases b5 with
 |n=>exact .run rfl h.CQ
 |y ag aF=>exact .on rfl ag aF h.CQ
section
variable {Y : gY} {Q : df -> di -> bj -> Prop} {l : ce} {H : List aN} {R : Type} {m m' : Option R} {T : R -> Prop} {os rest : List b_} {acc : List (List Nat × List Nat)}
theorem cv.any{id:Nat}(hm:Y.X.P.follows .mixedOrders=ad)(h:lE Y Q os os l H [] m T):cv Y (.region id os.toArray ad) Q l H m T:=λe=>eq.any hm (h e)
theorem lE.nil(ax:rZ os Y.X.N acc os acc (sK os []) 0=ad)(h:b7 Y Q .normal l H m T):lE Y Q os [] l H acc m T:=λe=>jI.nil ax (h e)
theorem lE.bt{dst:Option Tmp}{op:Op}{ty:co}{pos:String}{cT:Array jG}{j dM:Nat}{want:Bool}(ag:(os[j]?).bind (·.dst)=I dM)(aF:c6 l dM=I (bD (!want)))(k:lE Y Q os rest (hJ dst (.p (.v undef)) l) H (acc++[([],[])]) m T):
  lE Y Q os ({dst:=dst,op:=op,type:=ty,pos:=pos,after:=cT,guard:=I (j,want)}::rest) l H acc m T:=λe=>jI.cons (m:=gy.bt) (.off rfl ag aF rfl) fy (k e)
end
mutual
def V.bt(i:Nat):V->Bool
 |.p _=>ad
 |.cZ _ _ _ t _=> !Nat.beq t i
 |.aV j _=> !Nat.beq j i
 |.bG _=>ad
 |.ek j _ _ _=> !Nat.beq j i
 |.map j=> !Nat.beq j i
 |.fn _ b c=>xS i b&&xS i c
 |.agg cs=>xS i cs
 |.cx cs=>xS i cs
 |.gV j=> !Nat.beq j i
 |.z=>ad
 |.gs _ _ t _ _=> !Nat.beq t i
 |.kr t _ _=> !Nat.beq t i
def xS(i:Nat):List V->Bool
 |[]=>ad
 |d::ds=>d.bt i&&xS i ds
end
def Nm(i:Nat):ce->Bool
 |[]=>ad
 |p::r=>p.2.bt i&&Nm i r
theorem aa8{i:Nat}:∀{l:ce}{t:Nat}{d:V},Nm i l=ad->c6 l t=I d->d.bt i=ad
 |(e,v)::r,t,d,h,aG=>by
  simp only[Nm,dn]at h;simp only[c6]at aG;cases aF:eF e t with
  |true=>rw[aF]at aG;simp at aG;rw[<-aG];exact h.1
  |false=>rw[aF]at aG;simp at aG;exact aa8 h.2 aG
def aN.bt(i:Nat):aN->Bool
 |.cells _ cs=>xS i cs
 |.pt _ _ kv=>xS i (kv.map (·.2))
 |.loop _ _ _ _ fr _ _ _ j=> !Nat.beq j i&&Nm i fr
 |.rN j=> !Nat.beq j i
 |.lX j _=> !Nat.beq j i
 |.qd ds _=>xS i ds
 |_=>ad
section
variable {g : cu} {w : bj} {H : List aN} {i : Nat}
theorem y6{j:Nat}(h:j≠i):cL (H.set i .cc) j↔cL H j:=by unfold cL;rw[lf h]
theorem aki{t m:Nat}{v:be}(h:t≠i)(k:Ff g H t m v):Ff g (H.set i .cc) t m v:=by obtain⟨m',a,b⟩:=k;exact⟨m',by unfold e5;rw[lf h];exact a,b⟩
theorem xT{j i:Nat}(h:(!Nat.beq j i)=ad):j≠i:=λe=>by subst e;rw[kq]at h;cases h
mutual
theorem cN.ll:∀{d:V}{v:be},d.bt i=ad->cN g w H d v->cN g w (H.set i .cc) d v
 |_,_,_,.p h=>.p h
 |_,_,a6,.cZ h aj=>.cZ h (aki (xT a6) aj)
 |_,_,a6,.aV aC=>.aV ((y6 (xT a6)).2 aC)
 |_,_,_,.bG u aY aF hu h=>.bG u aY aF hu h
 |_,_,a6,.ek aC=>.ek ((y6 (xT a6)).2 aC)
 |_,_,a6,.map aC=>.map ((y6 (xT a6)).2 aC)
 |_,_,a6,.fn h1 h2=>by simp only[V.bt,dn]at a6;exact .fn (dp.ll a6.1 h1) (dp.ll a6.2 h2)
 |_,_,a6,.agg h=>.agg (dp.ll a6 h)
 |_,_,a6,.cx h=>.cx (dp.ll a6 h)
 |_,_,a6,.gV aC=>.gV ((y6 (xT a6)).2 aC)
 |_,_,_,.z=>.z
 |_,_,a6,.gs h1 h=>.gs h1 (by obtain⟨m',a,b⟩:=h;exact⟨m',by unfold e5;rw[lf (xT a6)];exact a,b⟩)
 |_,_,a6,.kr h1 h=>.kr h1 (by obtain⟨m',a,b⟩:=h;exact⟨m',by unfold e5;rw[lf (xT a6)];exact a,b⟩)
theorem dp.ll:∀{ds:List V}{vs:List be},xS i ds=ad->dp g w H ds vs->dp g w (H.set i .cc) ds vs
 |_,_,_,.nil=>.nil
 |_,_,a6,.cons h aQ=>by simp only[xS,dn]at a6;exact .cons (cN.ll a6.1 h) (dp.ll a6.2 aQ)
end
theorem lx.ll{j:Nat}{o:aN}(a6:o.bt i=ad)(h:lx g w H j o):lx g w (H.set i .cc) j o:=by
 cases o with
 |cc=>trivial
 |cells T cs=>obtain⟨us,h1,h2,ay⟩:=h;exact⟨us,h1,h2.ll a6,ay⟩
 |bA T cs=>exact h
 |bs T k m=>exact h
 |fq T k m cs=>exact h
 |gF T cs=>exact h
 |pt c bT kv=>obtain⟨us,h1,h2,ay⟩:=h;exact⟨us,h1,h2,ay.ll a6⟩
 |loop st ee f N fr ps a b k=>obtain⟨f0,tm,h1,h2,ay,bl⟩:=h;simp only[aN.bt,dn]at a6;refine⟨f0,tm,h1,h2,(y6 (xT a6.1)).2 ay,λt d aG=>?_⟩;obtain⟨v,bp,aO⟩:=bl t d aG;exact⟨v,bp,cN.ll (aa8 a6.2 aG) aO⟩
 |cD b=>exact h
 |rN k=>obtain⟨a,b,h1,ay⟩:=h;exact⟨a,b,h1,(y6 (xT a6)).2 ay⟩
 |oL dX kv=>exact h
 |lX k A=>exact⟨(y6 (xT a6)).2 h.1,h.2⟩
 |qd ds vs=>exact dp.ll a6 h
theorem cn.ll{cK:bj}{cl:cu}{ca:List aN}(h:cn cK cl ca g w H)(bh:ca.length<=i)(a6:H.all (aN.bt i)=ad):cn cK cl ca g w (H.set i .cc):=by
 have rW:∀j b,own g (H.set i .cc) j b->own g H j b:=λj b aU=>by
  by_cases e:j=i
  ·subst e;unfold own at aU;by_cases aC:j<H.length
   ·rw[kV aC]at aU;exact aU.elim
   ·rw[List.getElem?_eq_none (by simp;omega)]at aU;exact aU.elim
  ·unfold own at aU⊢;rw[lf e]at aU;exact aU
 refine⟨h.os,h.tape,h.output,h.oe,⟨h.bi.size,h.bi.E,h.bi.cell,λj ag=>?_,λt m aj=>?_⟩,h.iq,λj o ag=>?_,λj k b h1 h2=>h.lY j k b (rW _ _ h1) (rW _ _ h2),λj b h1=>h.rP j b (rW _ _ h1)⟩
 ·have:=MW ag;exact⟨(y6 (by omega)).2 (h.bi.cL j ag).1,(h.bi.cL j ag).2⟩
 ·have:=Ti aj;obtain⟨m',a,b⟩:=h.bi.bs t m aj;exact⟨m',by unfold e5;rw[lf (by omega)];exact a,b⟩
 ·by_cases e:j=i
  ·subst e;have aC:j<H.length:=by have:=(cz.1 ag).1;simpa using this
   rw[kV aC]at ag;cases ag;trivial
  ·rw[lf e]at ag;exact(h.eP j o ag).ll (kX.1 a6 o (List.mem_of_getElem? ag))
end
def y7:List aN->List Nat->List aN
 |H,[]=>H
 |H,i::is=>y7 (H.set i .cc) is
def y8(k0:Nat)(l:ce):List aN->List Nat->Bool
 |_,[]=>ad
 |H,i::is=>fb k0 i&&H.all (aN.bt i)&&l.all (λq=>q.2.bt i)&&y8 k0 l (H.set i .cc) is
theorem aa9:∀{l:ce}{t:Nat}{d:V},c6 l t=I d->∃s,(s,d)∈l
 |[],t,d,h=>by simp[c6]at h
 |(s,u)::l,t,d,h=>by
  simp only[c6]at h;cases aF:eF s t with
  |true=>rw[aF]at h;simp at h;subst h;exact⟨s,by simp⟩
  |false=>rw[aF]at h;simp at h;obtain⟨s',aQ⟩:=aa9 h;exact⟨s',by simp[aQ]⟩
theorem iX.ll{X:jU}{g:cu}{w:bj}{H:List aN}{l:ce}{a:di}{i:Nat}(h:iX X g w H l a)(a6:l.all (λq=>q.2.bt i)=ad):iX X g w (H.set i .cc) l a:=
 ⟨h.1,h.2.1,λt d aj=>by obtain⟨v,h1,h2⟩:=h.2.2 t d aj;obtain⟨s,aQ⟩:=aa9 aj;exact⟨v,h1,h2.ll (kX.1 a6 _ aQ)⟩⟩
theorem TS{cK:bj}{cl:cu}{ca:List aN}{X:jU}{g:cu}{w:bj}{l:ce}{a:di}:∀{is:List Nat}{H:List aN},cn cK cl ca g w H->iX X g w H l a->y8 ca.length l H is=ad->cn cK cl ca g w (y7 H is)/\iX X g w (y7 H is) l a
 |[],H,aO,a4,_=>⟨aO,a4⟩
 |i::is,H,aO,a4,a6=>by simp only[y8,dn,Nat.ble_eq]at a6;obtain⟨⟨⟨h1,h2⟩,ay⟩,bl⟩:=a6;exact TS (is:=is) (H:=H.set i .cc) (aO.ll h1 h2) (a4.ll ay) bl
section
variable {Y : gY} {Q : df -> di -> bj -> Prop} {l : ce} {H : List aN} {R : Type} {m : Option R} {T : R -> Prop}
theorem b7.drop{e:df}{l':ce}(is:List Nat)(aQ:ew l l')(a6:y8 Y.ca.length l' H is=ad)(h:b7 Y Q e l' (y7 H is) m T):b7 Y Q e l H m T:=λq g w a aO a4=>by obtain⟨h1,h2⟩:=TS aO (a4.sub aQ) a6;exact h q g w a h1 h2
theorem b7.akj{β:Type}{eh:β->ce}{G:β->List aN}{k:β->Option R}{e:df}(j:∀l H b,ew l (eh b)->H=G b->b7 Y Q e l H (k b) T)(is:List Nat)(b:β)(aQ:ew l (eh b))(a6:y8 Y.ca.length (eh b) H is=ad)(jr:y7 H is=G b):b7 Y Q e l H (k b) T:=.drop is aQ a6 (j _ _ b .lB jr)
theorem b7.akk{cd α:Type}{eh:α->ce}{G:α->List aN}{body:cd->Option (cd ⊕ R)}{lF:α->cd}{n:Nat}{s:cd}(is:List Nat)(x:α)(ak:lF x=s)(aQ:ew l (eh x))(a6:y8 Y.ca.length (eh x) H is=ad)(jr:y7 H is=G x):
  b7 Y (xQ Y lF eh G body T n Q) .normal l H (I (.inl s)) (xP body T n):=.drop is aQ a6 (.next x ak .lB jr)
end
end
section
variable {Y : gY} {Q : df -> di -> bj -> Prop} {l : ce} {H : List aN} {R : Type} {m : Option R} {T : R -> Prop} {ops : Array b_} {os rest : List b_} {acc : List (List Nat × List Nat)} {t : Nat} {ty : co} {pos : String} {cT : Array jG} {fs : Option (Nat × Bool)} {dst : Option Tmp}
variable {x:bY}
theorem bS.d'{d:V}(h:bV l x=I d)(aG:h4 t Y.X.N=ad)(k:bS Y ops Q rest ((t,d)::l) H m T):bS Y ops Q ({dst:=I t,op:=.assign x,type:=ty,pos:=pos,after:=cT,guard:=aJ}::rest) l H m T:=λdt=>e0.ar (dst:=I t) (S5 h) fy aG (k dt)
variable {i off:Nat}
theorem bS.dF(ak:bV l x=I (.aV i off))(aG:h4 t Y.X.N=ad)(k:bS Y ops Q rest ((t,.aV i off)::l) H m T):bS Y ops Q ({dst:=I t,op:=.nilCheck x,type:=ty,pos:=pos,after:=cT,guard:=aJ}::rest) l H m T:=λdt=>e0.ar (dst:=I t) (MN ak) fy aG (k dt)
theorem lE.dF(ak:bV l x=I (.aV i off))(b5:kH os l fs)(k:lE Y Q os rest ((t,.aV i off)::l) H (acc++[([],[])]) m T):lE Y Q os ({dst:=I t,op:=.nilCheck x,type:=ty,pos:=pos,after:=cT,guard:=fs}::rest) l H acc m T:=λdt=>jI.oO (dst:=I t) (MN ak) fy b5 (k dt)
variable {c8 cf n:Nat}{y:bY}
theorem bS.st{cs:List V}{d:V}(a6:∀w,(sizeOf cf).run Y.X.P w=.ok n w)(ak:bV l x=I (.aV i off))(a9:bV l y=I d)(hi:H[i]? =I (.cells c8 cs))(h1:d.cells.all V.one=ad)(sO:d.cells.length=n)(hle:fb (off+n) cs.length=ad)(k:bS Y ops Q rest (l) (H.set i (.cells c8 (q4 cs off d.cells))) m T):bS Y ops Q ({dst:=aJ,op:=.store cf x y,type:=ty,pos:=pos,after:=cT,guard:=aJ}::rest) l H m T:=λdt=>e0.ar (dst:=aJ) (Tb a6 ak a9 h1 sO hle) (fa hi) rfl (k dt)
theorem lE.st{cs:List V}{d:V}(a6:∀w,(sizeOf cf).run Y.X.P w=.ok n w)(ak:bV l x=I (.aV i off))(a9:bV l y=I d)(hi:H[i]? =I (.cells c8 cs))(h1:d.cells.all V.one=ad)(sO:d.cells.length=n)(hle:fb (off+n) cs.length=ad)(b5:kH os l fs)(k:lE Y Q os rest (l) (H.set i (.cells c8 (q4 cs off d.cells))) (acc++[([i],[i])]) m T):lE Y Q os ({dst:=aJ,op:=.store cf x y,type:=ty,pos:=pos,after:=cT,guard:=fs}::rest) l H acc m T:=λdt=>jI.oO (dst:=aJ) (Tb a6 ak a9 h1 sO hle) (fa hi) b5 (k dt)
theorem bS.aH{α:Type}{cf E k:Nat}{e:α->List P}{x y:bY}{K:ip}{j:Int}{d:V}{xs:List α}{f:α->Option R}(cw:∀w,(underlying cf).run Y.X.P w=.ok (.slice E) w)(aY:∀w,(sizeOf E).run Y.X.P w=.ok k w)(ak:bV l x=I d)(a9:bV l y=I (.p (.v (.int K j))))(aQ:V.nJ k e d xs)(ap:∀x,(e x).length=k)(aG:h4 t Y.X.N=ad)(k:∀z:α,bS Y ops Q rest ((t,.bG (e z))::l) H (f z) T):bS Y ops Q ({dst:=I t,op:=.indexAddr cf x y,type:=ty,pos:=pos,after:=cT,guard:=aJ}::rest) l H ((aH xs j).bind f) T:=λdt=>by
 obtain⟨z,h1,h2⟩:=dt.bind
 skip
 exact e0.ar (dst:=I t) (Ng cw aY ak a9 aQ ap (AI h1).1 (AI h1).2) fy aG (k _ h2)
theorem lE.aH{α:Type}{cf E k:Nat}{e:α->List P}{x y:bY}{K:ip}{j:Int}{d:V}{xs:List α}{f:α->Option R}(cw:∀w,(underlying cf).run Y.X.P w=.ok (.slice E) w)(aY:∀w,(sizeOf E).run Y.X.P w=.ok k w)(ak:bV l x=I d)(a9:bV l y=I (.p (.v (.int K j))))(aQ:V.nJ k e d xs)(ap:∀x,(e x).length=k)(b5:kH os l fs)(k:∀z:α,lE Y Q os rest ((t,.bG (e z))::l) H (acc++[([],[])]) (f z) T):lE Y Q os ({dst:=I t,op:=.indexAddr cf x y,type:=ty,pos:=pos,after:=cT,guard:=fs}::rest) l H acc ((aH xs j).bind f) T:=λdt=>by
 obtain⟨z,h1,h2⟩:=dt.bind
 skip
 exact jI.oO (dst:=I t) (Ng cw aY ak a9 aQ ap (AI h1).1 (AI h1).2) fy b5 (k _ h2)
theorem bS.e6{α:Type}{cf bG k bytes i v:Nat}{e:α->List P}{z:be}{s x:bY}{xs cO:List α}{d:V}{f:List α->Option R}(aj:Y.X.P.underlying cf=I (.slice bG))(gM:(Y.X.P.info? bG).map (λi=>(i.zero,i.size,i.bytes))=I (I z,k,bytes))(aP:z.cells.size=k)(ap:0<k)(aF:fb bytes 128=ad)(aQ:bV l s=I (cZ k e xs i v))(ak:bV l x=I d)(C1:V.nJ k e d cO)(aU:∀y,(e y).all P.one=ad)(hi:H[i]? =I (.bs bG k v))(aG:h4 t Y.X.N=ad)(k:∀z:List α,bS Y ops Q rest ((t,cZ k e z i (v+1))::l) (H.set i (.bs bG k (v+1))) (f z) T):bS Y ops Q ({dst:=I t,op:=.call {callee:=.builtin .append,args:=#[s,x],argTypes:=#[cf,cf]},type:=cf,pos:=pos,after:=cT,guard:=aJ}::rest) l H ((e6 xs cO).bind f) T:=λdt=>by obtain⟨z,h1,h2⟩:=dt.bind;obtain⟨ay,rfl⟩:=Nk h1;exact e0.ar (dst:=I t) (Nh aj gM aP ap aQ ak C1 aU (by omega) (Nl ay aF)) (fa hi) aG (k _ h2)
theorem lE.e6{α:Type}{cf bG k bytes i v:Nat}{e:α->List P}{z:be}{s x:bY}{xs cO:List α}{d:V}{f:List α->Option R}(aj:Y.X.P.underlying cf=I (.slice bG))(gM:(Y.X.P.info? bG).map (λi=>(i.zero,i.size,i.bytes))=I (I z,k,bytes))(aP:z.cells.size=k)(ap:0<k)(aF:fb bytes 128=ad)(aQ:bV l s=I (cZ k e xs i v))(ak:bV l x=I d)(C1:V.nJ k e d cO)(aU:∀y,(e y).all P.one=ad)(hi:H[i]? =I (.bs bG k v))(b5:kH os l fs)(k:∀z:List α,lE Y Q os rest ((t,cZ k e z i (v+1))::l) (H.set i (.bs bG k (v+1))) (acc++[([i],[i])]) (f z) T):lE Y Q os ({dst:=I t,op:=.call {callee:=.builtin .append,args:=#[s,x],argTypes:=#[cf,cf]},type:=cf,pos:=pos,after:=cT,guard:=fs}::rest) l H acc ((e6 xs cO).bind f) T:=λdt=>by obtain⟨z,h1,h2⟩:=dt.bind;obtain⟨ay,rfl⟩:=Nk h1;exact jI.oO (dst:=I t) (Nh aj gM aP ap aQ ak C1 aU (by omega) (Nl ay aF)) (fa hi) b5 (k _ h2)
variable {bG:Nat}{parts:List (Nat×bY)}{z:be}{α:Type}
theorem bS.bT {k:Nat}{ds:List V}(xs:List α)(e:α->List P)(aj:∀w,(underlying cf).run Y.X.P w=.ok (.slice bG) w)(ap:∀w,(sizeOf bG).run Y.X.P w=.ok k w)(aP:∀w,(zeroValue bG).run Y.X.P w=.ok z w)(ak:nF l (parts.map (·.2))=I ds)(no:parts=(parts.map (·.2)).zipIdx.map (λp=>(p.2,p.1)))(aU:(ds.all λd=>d.cells.all V.one&&eF d.cells.length k)=ad)(gl:ds.flatMap V.cells=(xs.flatMap e).map .p)(a6:ds.length=xs.length)(mh:xs.length=n)(hle:fb (xs.length*k) 16777216=ad)(aG:h4 t Y.X.N=ad)(k:bS Y ops Q rest ((t,bM k e xs)::l) H m T):bS Y ops Q ({dst:=I t,op:=.buildSlice cf n parts.toArray,type:=ty,pos:=pos,after:=cT,guard:=aJ}::rest) l H m T:=λdt=>e0.ar (dst:=I t) (TP xs e aj ap aP ak no aU gl a6 mh hle) fy aG (k dt)
theorem bS.akl {k:Nat}{ds:List V}(i:Nat)(xs:List α)(e:α->List P)(aj:∀w,(underlying cf).run Y.X.P w=.ok (.slice bG) w)(ap:∀w,(sizeOf bG).run Y.X.P w=.ok k w)(aP:∀w,(zeroValue bG).run Y.X.P w=.ok z w)(ak:nF l (parts.map (·.2))=I ds)(no:parts=(parts.map (·.2)).zipIdx.map (λp=>(p.2,p.1)))(aU:(ds.all λd=>d.cells.all V.one&&eF d.cells.length k)=ad)(gl:ds.flatMap V.cells=(xs.flatMap e).map .p)(a6:ds.length=xs.length)(mh:xs.length=n)(hle:fb (xs.length*k) 16777216=ad)(hm:fb xs.length 16777216=ad)(hi:H[i]? =I .cc)(aG:h4 t Y.X.N=ad)(k:bS Y ops Q rest ((t,cZ k e xs i 0)::l) (H.set i (.bs bG k 0)) m T):bS Y ops Q ({dst:=I t,op:=.buildSlice cf n parts.toArray,type:=ty,pos:=pos,after:=cT,guard:=aJ}::rest) l H m T:=λdt=>e0.ar (dst:=I t) (aa4 (i:=i) xs e aj ap aP ak no aU gl a6 mh hle hm) (fa hi) aG (k dt)
theorem bS.akm {S f:Nat}{cs:List V}{d:V}(bg:∀(cs:List be)(v:be)(w:bj),cs[off]? =I v->(Instr.field S (.agg cs.toArray) f).run Y.X.P w=.ok v w)(ak:bV l x=I (.agg cs))(h1:cs[off]? =I d)(aG:h4 t Y.X.N=ad)(k:bS Y ops Q rest ((t,d)::l) H m T):bS Y ops Q ({dst:=I t,op:=.field S x f,type:=ty,pos:=pos,after:=cT,guard:=aJ}::rest) l H m T:=λdt=>e0.ar (dst:=I t) (CP bg ak h1) fy aG (k dt)
end
def gW(s:ByteArray)(j:Int):Option Int:=if 0<=j then(s[j.toNat]?).map (λb=>(b.toNat:Int))else aJ
def TT(s:ByteArray)(l h:Nat):ByteArray:=⟨⟨(s.data.toList.drop l).take (h-l)⟩⟩
theorem aba(s:ByteArray)(l h:Nat):TT s l h=s.extract l h:=by unfold TT;apply ByteArray.ext;rw[ByteArray.data_extract];apply Array.ext';simp[List.extract_eq_take_drop]
def iP(s:ByteArray)(l h:Int):Option ByteArray:=if 0<=l/\l<=h/\h<=s.size then I (TT s l.toNat h.toNat)else aJ
def pz(a b:ByteArray):Option ByteArray:=if a.size+b.size<=1099511627776 then I (a++b)else aJ
def iC{α:Type}(xs:List α)(l h:Int):Option (List α):=if 0<=l/\l<=h/\h<=xs.length then I ((xs.drop l.toNat).take (h.toNat-l.toNat))else aJ
variable {z:ByteArray}
theorem akn {a b:ByteArray}(h:pz a b=I z):a.size+b.size<=1099511627776/\z=a++b:=by
 unfold pz at h;split at h
 ·cases h;exact⟨by assumption,rfl⟩
 ·cases h
variable {h l:Int}
theorem ako {s:ByteArray}(e:iP s l h=I z):(0<=l/\l<=h/\h<=s.size)/\z=s.extract l.toNat h.toNat:=by
 unfold iP at e;split at e
 ·cases e;exact⟨by assumption,aba _ _ _⟩
 ·cases e
variable {α:Type}{xs f':List α}
theorem akp(e:iC xs l h=I f'):(0<=l/\l<=h/\h<=xs.length)/\f'=(xs.drop l.toNat).take (h.toNat-l.toNat):=by
 unfold iC at e;split at e
 ·cases e;exact⟨by assumption,rfl⟩
 ·cases e
def xU{α:Type}(xs:List α)(l h q:Int):Option (List α):=if h<=q/\q<=xs.length then iC xs l h else aJ
theorem Nn {q:Int}(e:xU xs l h q=I f'):(h<=q/\q<=xs.length)/\iC xs l h=I f':=by
 unfold xU at e;split at e
 ·exact⟨by assumption,e⟩
 ·cases e
theorem akq{s:ByteArray}{j z:Int}(h:gW s j=I z):0<=j/\∃b:UInt8,s[j.toNat]? =I b/\z=b.toNat:=by
 unfold gW at h;split at h
 ·cases aF:s[j.toNat]? with
  |none=>rw[aF]at h;cases h
  |some b=>rw[aF]at h;cases h;exact⟨by assumption,b,rfl,rfl⟩
 ·cases h
theorem abb(a b:ByteArray):(a.toList==b.toList)=decide (a=b):=by
 rw[ByteArray.toList_eq,ByteArray.toList_eq];by_cases e:a=b
 ·subst e;simp
 ·simp only[e,decide_false];refine beq_eq_false_iff_ne.2 λh=>e (ByteArray.ext (Array.toList_inj.1 h))
theorem abc{α:Type}{k:Nat}{e:α->List P}(ap:∀x,(e x).length=k):∀(xs:List α)(n:Nat),(xs.flatMap e).drop (n*k)=(xs.drop n).flatMap e
 |xs,0=>by simp
 |[],n+1=>by simp
 |x::xs,n+1=>by rw[kp,aa2,<-abc ap xs n,il,CZ,tR,<-List.drop_drop];congr 1;rw[<-ap x];simp
theorem abd{α:Type}{k:Nat}{e:α->List P}(ap:∀x,(e x).length=k):∀(xs:List α)(n:Nat),(xs.flatMap e).take (n*k)=(xs.take n).flatMap e
 |xs,0=>by simp
 |[],n+1=>by simp
 |x::xs,n+1=>by rw[kp,Jc,kp,<-abd ap xs n,il,CZ,tR,List.take_append,ap x,List.take_of_length_le (by rw[ap];omega),show k+n*k-k=n*k by omega]
theorem TU{k:Nat}{e:α->List P}(ap:∀x,(e x).length=k)(xs:List α):(xs.flatMap e).length=xs.length*k:=by
 induction xs with
 |nil=>simp
 |cons x xs bx=>rw[kp,List.length_append,bx,ap,List.length_cons,il];omega
section
variable {aw : cF} {ty : co} {ρ : bY -> Option V}
section
variable {T cf : co} {x y : bY} {a b : ByteArray}
theorem akr(ak:ρ x=I (cE a))(a9:ρ y=I (cE b)):bP aw (.binOp .eql T x y cf) ty ρ [] [] (bD (decide (a=b))):=
 mG ak a9 λw'=>by simp[cq,SY,cp,binOp,TN,abb]
theorem aks(ak:ρ x=I (cE a))(a9:ρ y=I (cE b)):bP aw (.binOp .neq T x y cf) ty ρ [] [] (bD (!decide (a=b))):=
 mG ak a9 λw'=>by simp[cq,SY,cp,binOp,TN,abb]
theorem akt(ak:ρ x=I (cE a))(a9:ρ y=I (cE b))(hle:a.size+b.size<=1099511627776):bP aw (.binOp .add T x y cf) ty ρ [] [] (cE (a++b)):=
 mG ak a9 λw'=>by
  have h1:¬(((a.size+b.size:Nat):Int)>IntKind.i64.max):=by have:IntKind.i64.max=9223372036854775807:=rfl;rw[this];omega
  simp only[cq,SY,cp,binOp,TN,if_neg h1,jp]
end
variable {T:co}{x:bY}
theorem aku{s:ByteArray}(cw:∀w,(underlying T).run aw w=.ok .string w)(ak:ρ x=I (cE s)):bP aw (.call {callee:=.builtin .len,args:=#[x],argTypes:=#[T]}) ty ρ [] [] (aL s.size):=.pure λg w H e q aB _ _ h=>by have a2:=(h x (by simp[dw,ji]) _ ak).ic;exact⟨_,by unfold execOp;rw[aB];simp[resolve,invoke,builtin,Builtin.len_,a2,cw,cq,cp,goInt],.v _⟩
theorem akv {y:bY}{s:ByteArray}{K:ip}{j z:Int}(cw:∀w,(underlying T).run aw w=.ok .string w)(ak:ρ x=I (cE s))(a9:ρ y=I (.p (.v (.int K j))))(h:gW s j=I z):bP aw (.index T x y) ty ρ [] [] (gh z):=.plain λw e o aU _ bg=>by have a2:=bg x (by simp[dw]) _ ak;have bc:=bg y (by simp[dw]) _ a9;obtain⟨bh,b,aF,rfl⟩:=akq h;unfold execOp;rw[aU];simp[a2,bc,Instr.index,asIntOf,cw,cq,cp,bh,aF]
def c3(ρ:bY->Option V):Option bY->Int->Prop
 |some x,n=>∃K,ρ x=I (.p (.v (.int K n)))
 |none,_=>True
variable {h:Int}{hi:Option bY}{l:Int}{lo:Option bY}
theorem akw{s z:ByteArray}(cw:∀w,(underlying T).run aw w=.ok .string w)(ak:ρ x=I (cE s))(aC:∀y,lo=I y->∃K,ρ y=I (.p (.v (.int K l))))(mn:lo=aJ->l=0)(gf:∀y,hi=I y->∃K,ρ y=I (.p (.v (.int K h))))(q9:hi=aJ->h=s.size)(e:iP s l h=I z):
  bP aw (.slice T x lo hi aJ) ty ρ [] [] (cE z):=.plain λw bB o aU _ bg=>by
 have a2:=bg x (by simp[dw]) _ ak;obtain⟨⟨h1,h2,ay⟩,rfl⟩:=ako e;have eK:∀y,lo=I y->∃K,bB y=.int K l:=λy a9=>by obtain⟨K,bZ⟩:=aC y a9;exact⟨K,bg y (by simp[dw,a9]) _ bZ⟩
 have lD:∀y,hi=I y->∃K,bB y=.int K h:=λy a9=>by obtain⟨K,bZ⟩:=gf y a9;exact⟨K,bg y (by simp[dw,a9]) _ bZ⟩
 have bO:(h.toNat:Int)=h:=Nj (by omega);unfold execOp;rw[aU];cases lo with
 |none=>
  have:=mn rfl;subst this;cases hi with
  |none=>have:=q9 rfl;subst this;simp[a2,u',va,sS,cw,cq,cp]
  |some y=>obtain⟨K,bZ⟩:=lD y rfl;simp[a2,bZ,u',va,sS,qh,asIntOf,cw,cq,cp,h2,ay]
 |some of=>
  obtain⟨js,nt⟩:=eK of rfl;cases hi with
  |none=>have:=q9 rfl;subst this;simp[a2,nt,u',va,sS,qh,asIntOf,cw,cq,cp,h1,h2]
  |some y=>obtain⟨K,bZ⟩:=lD y rfl;simp[a2,bZ,nt,u',va,sS,qh,asIntOf,cw,cq,cp,h1,h2,ay,show(0:Int)<=h by omega,bO]
theorem abe {gX:Option bY}{bB:bY->be}{n cap l h q:Nat}(aC:∀y,lo=I y->∃K,bB y=.int K l)(mn:lo=aJ->l=0)(gf:∀y,hi=I y->∃K,bB y=.int K h)(q9:hi=aJ->h=n/\gX=aJ)(hm:∀y,gX=I y->∃K,bB y=.int K q)(sW:gX=aJ->q=cap)
  (h1:l<=h) (h2:h<=q) (ay:q<=cap) (w:bj):(sS ad n cap (lo.map bB) (hi.map bB) (gX.map bB)).run aw w=.ok (l,h,q) w:=by
 unfold sS;cases gX with
 |none=>
  have:=sW rfl;subst this;cases hi with
  |none=>
   obtain⟨rfl,_⟩:=q9 rfl;cases lo with
   |none=>have:=mn rfl;subst this;simp[cq,cp]
   |some x=>obtain⟨K,bZ⟩:=aC x rfl;simp[bZ,qh,asIntOf,cq,cp,h1]
  |some y=>
   obtain⟨K,bZ⟩:=gf y rfl;cases lo with
   |none=>have:=mn rfl;subst this;simp[bZ,qh,asIntOf,cq,cp,h2]
   |some x=>obtain⟨js,nt⟩:=aC x rfl;simp[bZ,nt,qh,asIntOf,cq,cp,h1,h2]
 |some z=>
  obtain⟨eq,a7⟩:=hm z rfl;cases hi with
  |none=>exact absurd (q9 rfl).2 (by simp)
  |some y=>
   obtain⟨K,bZ⟩:=gf y rfl;cases lo with
   |none=>have:=mn rfl;subst this;simp[a7,bZ,qh,asIntOf,cq,cp,h2,ay]
   |some x=>obtain⟨js,nt⟩:=aC x rfl;simp[a7,bZ,nt,qh,asIntOf,cq,cp,h1,h2,ay]
theorem TV{α:Type}{T E k:Nat}{e:α->List P} {gX:Option bY}{d:V}{xs f':List α} {q:Int}(cw:∀w,(underlying T).run aw w=.ok (.slice E) w)(aY:∀w,(sizeOf E).run aw w=.ok k w)(ak:ρ x=I d)(aG:V.nJ k e d xs)(ap:∀x,(e x).length=k)
  (aC:∀y,lo=I y->∃K,ρ y=I (.p (.v (.int K l)))) (mn:lo=aJ->l=0) (gf:∀y,hi=I y->∃K,ρ y=I (.p (.v (.int K h)))) (q9:hi=aJ->h=xs.length/\gX=aJ) (hm:∀y,gX=I y->∃K,ρ y=I (.p (.v (.int K q)))) (aB:gX≠aJ->h<=q/\q<=xs.length) (im:iC xs l h=I f'):
  bP aw (.slice T x lo hi gX) ty ρ [] [] (bM k e f'):=.pure λg w H bB o aU _ _ bg=>by
 have a2:=(bg x (by simp[dw]) _ ak).rT aG;obtain⟨⟨h1,h2,ay⟩,rfl⟩:=akp im;have t1:(l.toNat:Int)=l:=Nj h1;have t2:(h.toNat:Int)=h:=Nj (by omega);have eK:∀y,lo=I y->∃K,bB y=.int K (l.toNat:Int):=λy a9=>by obtain⟨K,bZ⟩:=aC y a9;exact⟨K,by rw[t1];exact(bg y (by simp[dw,a9]) _ bZ).ic⟩
 have lD:∀y,hi=I y->∃K,bB y=.int K (h.toNat:Int):=λy a9=>by obtain⟨K,bZ⟩:=gf y a9;exact⟨K,by rw[t2];exact(bg y (by simp[dw,a9]) _ bZ).ic⟩
 have key:∀cap:Nat,xs.length<=cap->∃m:Nat,h.toNat<=m/\m<=cap/\∀w,(sS ad xs.length cap (lo.map bB) (hi.map bB) (gX.map bB)).run aw w=.ok (l.toNat,h.toNat,m) w:=λcap ax=>by
  cases rR:gX with
  |none=>refine⟨cap,by omega,bL _,λw=>?_⟩;exact abe (q:=cap) eK (λq=>by have:=mn q;omega) lD (λq=>⟨by have:=(q9 q).1;omega,rfl⟩) (λy a9=>by cases a9) (λ_=>rfl) (by omega) (by omega) (bL _) w
  |some z=>have uc:=aB (by rw[rR];simp);refine⟨q.toNat,by omega,by omega,λw=>?_⟩;refine abe (q:=q.toNat) eK (λq=>by have:=mn q;omega) lD (λgn=>by have:=(q9 gn).2;rw[rR]at this;cases this) (λy a9=>?_) (λq=>by cases q) (by omega) (by omega) (by omega) w;obtain⟨K,bZ⟩:=hm y (by rw[rR];exact a9);have:=(bg y (by simp[dw,rR]at a9⊢;simp[a9]) _ bZ).ic;exact⟨K,by rw[this];congr 1;omega⟩
 rcases a2.u1 with⟨⟨qZ,he⟩,a6,_⟩|⟨b,aX,cap,us,he,ax,Aq,aF,hlen,u5,hu⟩
 ·have oP:xs=[]:=List.eq_nil_of_length_eq_zero a6;obtain⟨m,nG,m2,r0⟩:=key 0 (by omega);have h0:l.toNat=0:=by omega
  have bh:h.toNat=0:=by omega
  have y9:m=0:=by omega
  refine⟨.slice qZ 0 0,?_,?_⟩
  ·unfold execOp;rw[aU];subst oP;simp only[List.length_nil,h0,bh,y9]at r0;simp[he,u',va,cw,aY,r0,cq,cp]
  ·subst oP;simp only[aa3,List.take_nil];cases qZ
   ·exact .p .nil
   ·exact .p .y0
 ·obtain⟨m,nG,m2,r0⟩:=key cap ax;refine⟨.slice (I (if m=l.toNat then⟨b,aX,aJ⟩else(Addr.mk b aX aJ).add (l.toNat*k))) (h.toNat-l.toNat) (m-l.toNat),?_,?_⟩
  ·unfold execOp;rw[aU];have Jf:(if m=l.toNat then I (Addr.mk b aX aJ)else(I (Addr.mk b aX aJ)).map (·.add (l.toNat*k)))=I (if m=l.toNat then⟨b,aX,aJ⟩else(Addr.mk b aX aJ).add (l.toNat*k)):=by split<;>rfl
   simp only[he,u',va,cw,aY,r0,cq,cp,jp,Jf]
  ·have hle:h.toNat<=xs.length:=by omega
   have abf:((xs.drop l.toNat).take (h.toNat-l.toNat)).length=h.toNat-l.toNat:=by simp;omega
   have q_:((xs.drop l.toNat).take (h.toNat-l.toNat)).flatMap e=((xs.flatMap e).drop (l.toNat*k)).take ((h.toNat-l.toNat)*k):=by rw[abc ap,abd ap]
   have akx:∃No,(if m=l.toNat then(Addr.mk b aX aJ)else(Addr.mk b aX aJ).add (l.toNat*k))=⟨b,No,aJ⟩/\(h.toNat=l.toNat/\No=aX\/No=aX+l.toNat*k):=by
    split
    ·exact⟨aX,rfl,.inl ⟨by omega,rfl⟩⟩
    ·exact⟨aX+l.toNat*k,by rw[rJ],.inr rfl⟩
   obtain⟨No,u2,abg⟩:=akx;rw[u2];have hmul:h.toNat*k<=xs.length*k:=Nat.mul_le_mul_right k hle;have azP:l.toNat*k+(h.toNat-l.toNat)*k=h.toNat*k:=by rw[<-il];congr 1;omega
   refine .p ?_;show iW g.E w (.sl k _ _) _;rw[abf];refine fH.sl (us:=(us.drop (l.toNat*k)).take ((h.toNat-l.toNat)*k)) ?_ ?_ (by omega) ?_ aF λj u ag=>?_
   ·rw[q_];exact(u5.drop _).take _
   ·have hq:=u5.1;have g8:=hlen;first|rw[q_,fF,tQ]|rw[fF,tQ]
    omega
   ·rcases abg with⟨aP,qg⟩|qg
    ·rw[qg,aP,sT,Fj];omega
    ·rw[qg];omega
   ·rcases abg with⟨aP,qg⟩|qg
    ·rw[aP,sT,Fj,List.take_zero]at ag;cases ag
    ·rw[List.getElem?_take]at ag;split at ag
     ·rw[List.getElem?_drop]at ag;rw[qg,Nat.add_assoc];exact hu _ _ ag
     ·cases ag
theorem aky{k:ip}{n:Int}(ak:ρ x=I (.p (.v (.int k n)))):bP aw (.unOp .neg T x) ty ρ [] [] (.p (.v (.int k (k.wrap (-n))))):=.plain λw e o aU _ bg=>by have a2:=bg x (by simp[dw]) _ ak;unfold execOp;rw[aU];simp[a2,Op.unary,Ni,cq,cp]
end
section
variable {Y : gY} {Q : df -> di -> bj -> Prop} {l : ce} {H : List aN} {R : Type} {m : Option R} {T : R -> Prop} {ops : Array b_} {os rest : List b_} {acc : List (List Nat × List Nat)} {t : Nat} {ty : co} {pos : String} {cT : Array jG} {fs : Option (Nat × Bool)} {dst : Option Tmp}
theorem bS.akz{α:Type}{cf E k:Nat}{e:α->List P}{x lo hi gX:bY}{K js akA:ip}{a b c:Int}{d:V}{xs:List α}{f:List α->Option R}(cw:∀w,(underlying cf).run Y.X.P w=.ok (.slice E) w)(aY:∀w,(sizeOf E).run Y.X.P w=.ok k w)(ak:bV l x=I d)(aQ:V.nJ k e d xs)(ap:∀x,(e x).length=k)(aC:bV l lo=I (.p (.v (.int K a))))(gf:bV l hi=I (.p (.v (.int js b))))(hm:bV l gX=I (.p (.v (.int akA c))))(aG:h4 t Y.X.N=ad)(k:∀z:List α,bS Y ops Q rest ((t,bM k e z)::l) H (f z) T):bS Y ops Q ({dst:=I t,op:=.slice cf x (I lo) (I hi) (I gX),type:=ty,pos:=pos,after:=cT,guard:=aJ}::rest) l H ((xU xs a b c).bind f) T:=λdt=>by
 obtain⟨z,h1,h2⟩:=dt.bind
 skip
 exact e0.ar (dst:=I t) (TV cw aY ak aQ ap (λy a9=>by cases a9;exact⟨_,aC⟩) (λq=>by cases q) (λy a9=>by cases a9;exact⟨_,gf⟩) (λq=>by cases q) (λy a9=>by cases a9;exact⟨_,hm⟩) (λ_=>(Nn h1).1) (Nn h1).2) fy aG (k _ h2)
end
inductive nL (ρ:bY->Option V):List bY->List V->Prop
 |n:nL ρ [] []
 |c {x:bY} {xs:List bY} {d db:V} {ds:List V} (h:ρ x=I d) (w:hg d db) (t:nL ρ xs ds):nL ρ (x::xs) (db::ds)
theorem nL.s{ρ:bY->Option V}{x:bY}{xs:List bY}{d:V}{ds:List V}(h:ρ x=I d)(t:nL ρ xs ds):nL ρ (x::xs) (d::ds):=.c h .lB t
variable {g:cu}{w:bj}
theorem nL.rv{H:List aN}{ρ:bY->Option V}{e:bY->be}{args:List bY}{ds:List V}(h:nL ρ args ds)(bg:∀x∈args,∀u,ρ x=I u->cN g w H u (e x)):dp g w H ds (args.map e):=by
 induction h with
 |n=>exact .nil
 |c h w t bx=>exact .cons (w _ _ _ _ (bg _ (by simp) _ h)) (bx λy a9=>bg y (by simp[a9]))
inductive FH:List V->List V->Prop
 |n:FH [] []
 |c {d db:V} {ds r1:List V} (w:hg d db) (t:FH ds r1):FH (d::ds) (db::r1)
theorem FH.rv{H:List aN}{cs cs':List V}(k:FH cs cs'){vs:List be}(h:dp g w H cs vs):dp g w H cs' vs:=by
 induction k generalizing vs with
 |n=>exact h
 |c w t bx=>cases h with|cons h aQ=>exact .cons (w _ _ _ _ h) (bx aQ)
theorem hg.agg{cs cs':List V}(k:FH cs cs'):hg (.agg cs) (.agg cs'):=λ_ _ _ _ h=>by cases h with|agg h=>exact .agg (k.rv h)
section
variable {aw : cF} {ty : co} {ρ : bY -> Option V}
variable {args:List bY}{f:FuncId}{fr a1:List Nat}
theorem bP.abh{tys:Array co}{ds:List V}{Hc eM:List aN}{r:V}(ax:CX aw f ds Hc r eM)(bg:∀args w,(callFunc f args).run aw w=.ok (.enter f args) w)
  (q6:ρ (.func f)=I (.p (.v (.func (.func f) #[] #[])))) (kw:nL ρ args (g7 (b0 a1) ds)) (dy:rX Hc eM ds a1 fr):
  bP aw (.call {callee:=.value (.func f),args:=args.toArray,argTypes:=tys}) ty ρ (eW (b0 a1) a1 Hc++fr.map λj=>(j,.cc)) (eW (b0 (a1++fr)) (a1++fr) eM) (r.dN (b0 (a1++fr))):=
 bP.M3 ax dy λg w H e o aU dH=>⟨args.map e,Ty (dH _ (by simp[dw,ji]) _ q6).ic aU bg,kw.rv λx ak=>dH x (by simp[dw,ji,ak])⟩
variable {x:bY}
theorem bP.abi{c3 fp:List V}{tys:Array co}{ds wm:List V}{Hc eM:List aN}{r:V}(ax:CX aw f ds Hc r eM)(bg:∀args w,(callFunc f args).run aw w=.ok (.enter f args) w)
  (q6:ρ x=I (.fn (.func f) c3 fp)) (kw:nL ρ args wm) (m7:c3++wm++fp=g7 (b0 a1) ds) (dy:rX Hc eM ds a1 fr):
  bP aw (.call {callee:=.value x,args:=args.toArray,argTypes:=tys}) ty ρ (eW (b0 a1) a1 Hc++fr.map λj=>(j,.cc)) (eW (b0 (a1++fr)) (a1++fr) eM) (r.dN (b0 (a1++fr))):=
 bP.M3 ax dy λg w H e o aU dH=>by
  have ak:=dH x (by simp[dw,ji]) _ q6;generalize he:e x=v at ak;cases ak with
  |fn h1 h2=>exact⟨_,aaJ he aU bg,m7▸(h1.append (kw.rv λy a9=>dH y (by simp[dw,ji,a9]))).append h2⟩
theorem bP.Np{tys:Array co}{ds:List V}{Hc eM:List aN}{r:V}(ax:CX aw f ds Hc r eM)(bg:∀args w,(callFunc f args).run aw w=.ok (.enter f args) w)
  (q6:ρ x=I (.p (.v (.func (.func f) #[] #[])))) (kw:nL ρ args (g7 (b0 a1) ds)) (dy:rX Hc eM ds a1 fr):
  bP aw (.call {callee:=.value x,args:=args.toArray,argTypes:=tys}) ty ρ (eW (b0 a1) a1 Hc++fr.map λj=>(j,.cc)) (eW (b0 (a1++fr)) (a1++fr) eM) (r.dN (b0 (a1++fr))):=
 bP.M3 ax dy λg w H e o aU dH=>by have ak:=(dH x (by simp[dw,ji]) _ q6).ic;refine⟨[]++args.map e++[],aaJ (us:=[]) (cs:=[]) (by simpa using ak) aU bg,?_⟩;simpa using kw.rv λy a9=>dH y (by simp[dw,ji,a9])
end
section
variable {Y : gY} {Q : df -> di -> bj -> Prop} {l : ce} {H : List aN} {R : Type} {m : Option R} {T : R -> Prop} {ops : Array b_} {os rest : List b_} {acc : List (List Nat × List Nat)} {t : Nat} {ty : co} {pos : String} {cT : Array jG} {fs : Option (Nat × Bool)} {dst : Option Tmp}
structure r2(aw:cF)(g:FuncId)(ds:List V)(Hc:List aN)(r:V)(eM:List aN)(a1 fr:List Nat)(H:List aN)(d:V)(H2:List aN):Prop where
 ax:CX aw g ds Hc r eM
 dy:rX Hc eM ds a1 fr
 aO:r.dN (b0 (a1++fr))=d
 lD:eH H (eW (b0 (a1++fr)) (a1++fr) eM)=H2
end
def mk{α:Type}(n:Int)(x:α):Option (List α):=if 0<=n/\n<=1099511627776 then I (cC n.toNat x)else aJ
def gz{α:Type}(n:Nat)(xs:List α)(j:Int):Option {q:Nat×α // xs[q.1]? =I q.2}:=if 0<=j/\j<n then(match h:xs[j.toNat]? with|some x=>I ⟨(j.toNat,x),h⟩|none=>aJ)else aJ
def gF{α:Type}(n:Nat)(xs:List α):Option (List α):=if xs.length=n then I xs else aJ
variable {n:Nat}{α:Type}{xs:List α}
theorem abj {z:List α}(h:gF n xs=I z):xs.length=n/\z=xs:=by
 unfold gF at h;split at h
 ·cases h;exact⟨by assumption,rfl⟩
 ·cases h
def gX(a b:Int):Int:=if b>a then b else a
def it(a b:Int):Int:=if b<a then b else a
theorem abk{n:Int}{x:α}{z:List α}(h:mk n x=I z):(0<=n/\n<=1099511627776)/\z=cC n.toNat x:=by
 unfold mk at h;split at h
 ·cases h;exact⟨by assumption,rfl⟩
 ·cases h
theorem akB{j:Int}{z:{q:Nat×α // xs[q.1]? =I q.2}}(h:gz n xs j=I z):0<=j/\j.toNat<n/\j.toNat=z.1.1:=by
 unfold gz at h;split at h
 ·rename_i ag;refine⟨ag.1,by omega,?_⟩;split at h
  ·cases h;rfl
  ·cases h
 ·cases h
theorem r3{e:α->List P}{c:α->P}(he:∀x,e x=[c x])(xs:List α):xs.flatMap e=xs.map c:=by
 induction xs with
 |nil=>rfl
 |cons x xs bx=>rw[kp,he,bx];rfl
section
variable {aw : cF} {ty : co} {ρ : bY -> Option V}
variable {K:ip}{bytes:Nat}{α:Type}{c:α->P}{i t:Nat}{x:bY}{fc:α}
theorem akC {e:Nat}{z:be}{n:Int}(aj:aw.underlying t=I (.slice e))(hi:(aw.info? e).map (λi=>(i.zero,i.size,i.bytes))=I (I z,1,bytes))(aP:z.cells=#[z])(ak:ρ x=I (.p (.v (.int K n))))(aF:fb bytes 128=ad)
  (a6:0<=n/\n<=1099511627776) (bh:∀E w,iW E w (c fc) z):bP aw (.makeSlice t x x) ty ρ [(i,.cc)] [(i,.bA e ((cC n.toNat fc).map c))] (.ek i 0 n.toNat n.toNat):=λg w H bB o iL _ aO ev h=>by
 have a2:=(h x (by simp[dw]) _ ak).ic;have aG:=ev.one;obtain⟨q,kW,Fh,xE,Fi⟩:∃i,aw.info? e=I i/\i.zero=I z/\i.size=1/\i.bytes=bytes:=by
  cases ak:aw.info? e with
  |none=>rw[ak]at hi;cases hi
  |some i=>rw[ak]at hi;simp only[Option.map_some,je,Prod.mk.injEq]at hi;exact⟨i,rfl,hi.1,hi.2.1,hi.2.2⟩
 have sM:bytes*n.toNat<=281474976710656:=by
  have:=nn aF
  calc bytes*n.toNat<=128*1099511627776:=FF this (by omega)
   _<=281474976710656:=by decide
 have we:((n.toNat:Nat):Int)=n:=Nj a6.1;have t_:=run_make (P:=aw) w t e q z aj kW Fh K K (n.toNat:Int) (n.toNat:Int) (by omega) (Int.le_refl _) (by have h:=Int.ofNat_le.2 sM;rw[Int.natCast_mul]at h;rw[Fi];exact h) (by omega);have gl:madeCells z.cells (n.toNat*1)=(cC n.toNat z).toArray:=by apply Array.toList_inj.1;rw[Nat.mul_one,aP,toList_madeCells_one]
 simp only[Int.toNat_natCast,xE,gl]at t_;have hp:fH g.E w ((cC n.toNat fc).map c) (cC n.toNat z):=by
  refine⟨by simp,λj p u h1 h2=>?_⟩;rw[List.map_replicate,FE]at h1;rw[FE]at h2;split at h1
  ·rename_i ag;rw[if_pos ag]at h2;cases h1;cases h2;exact bh _ _
  ·cases h1
 refine .inl ⟨.slice (I ⟨w.heap.size,0,aJ⟩) n.toNat n.toNat,w.alloc (.cells (cC n.toNat z).toArray e),?_,_,cn.aag aO aG hp,?_⟩
 ·unfold execOp;rw[iL];rw[we]at t_;simp[a2,t_,cq,cp]
 ·have:=cN.ek (g:=⟨dT g.β i w.heap.size,dT g.E w.heap.size 0,g.h⟩) (w:=w.alloc (.cells (cC n.toNat z).toArray e)) (H:=eH H [(i,.bA e ((cC n.toNat fc).map c))]) (i:=i) (off:=0) (n:=n.toNat) (cap:=n.toNat) (by unfold cL;show xy (H.set i _)[i]?;rw[kV (cz.1 aG).1];trivial);simpa[fL]using this
open Classical in
theorem akD {bG k:Nat}{e:α->List P}{z:be} {s:bY}{cO:List α}{d:V}(aj:aw.underlying t=I (.slice bG))(hi:(aw.info? bG).map (λi=>(i.zero,i.size,i.bytes))=I (I z,k,bytes))(aP:z.cells.size=k)(ap:0<k)
  (aQ:ρ s=I (.p (.v (.slice aJ 0 0)))) (ak:ρ x=I d) (aG:V.nJ k e d cO) (aU:∀y,(e y).all P.one=ad) (CJ:cO.length<=1099511627776) (aF:fb bytes 128=ad):
  bP aw (.call {callee:=.builtin .append,args:=#[s,x],argTypes:=#[t,t]}) t ρ [(i,.cc)] [(i,.bs bG k 1)] (cZ k e cO i 1):=λg w H bB o iL rY aO ev h=>by
 have abl:=ev.one;have c4:=(cz.1 abl).1;have fM:s≠x:=λq=>by subst q;rw[aQ]at ak;cases ak;cases aG
 have es:=(h s (by simp[dw,ji]) _ aQ).ic;have C2:=cn.aap (T:=bG) (k:=k) aO abl;have key:=Nh (aw:=aw) (ty:=t) (ρ:=λy=>if y=s then I (cZ k e ([]:List α) i 0)else if y=x then I d else aJ) (xs:=([]:List α)) (s:=s) (x:=x) (i:=i) aj hi aP ap (by simp) (by simp[Ne.symm fM]) aG aU (by simp;omega) (by simpa using Nl (n:=cO.length) CJ aF) (m:=0);have akE:gx (H.set i (.bs bG k 0)) [(i,.bs bG k 0)]:=fa (kV c4);have hex:=key _ w (H.set i (.bs bG k 0)) bB o iL rY C2.jV akE (λy a9 u hu=>by
  by_cases a2:y=s
  ·subst a2;simp only[if_true,je]at hu;subst hu;rw[es];refine .cZ .nil ⟨0,?_,bL _,λ_=>(fL _ _ _).symm⟩;show xx (H.set i _)[i]? =_;rw[kV c4];rfl
  ·simp only[a2,if_false]at hu;by_cases bc:y=x
   ·subst bc;simp only[if_true,je]at hu;subst hu;exact(h y (by simp[dw,ji]) _ ak).bi C2.bi
   ·simp[bc]at hu)
 have wn:eH (H.set i (.bs bG k 0)) [(i,.bs bG k (0+1))]=eH H [(i,.bs bG k 1)]:=by simp[eH]
 have fi:∀(v:be)(w':bj)(g':cu),cn w ⟨g.β,g.E,dT g.h i (.slice aJ 0 0)⟩ (H.set i (.bs bG k 0)) g' w' (eH (H.set i (.bs bG k 0)) [(i,.bs bG k (0+1))])->cN g' w' (eH (H.set i (.bs bG k 0)) [(i,.bs bG k (0+1))]) (cZ k e ([]++cO) i (0+1)) v->∃g',cn w g H g' w' (eH H [(i,.bs bG k 1)])/\cN g' w' (eH H [(i,.bs bG k 1)]) (cZ k e cO i 1) v:=λv w' g' h1 h2=>by rw[wn]at h1 h2;exact⟨g',C2.then h1,by simpa using h2⟩
 rcases hex with⟨v,w',h1,g',h2,ay⟩|⟨w',h1,g',h2,ay⟩|⟨n,h1,h2⟩
 ·exact .inl ⟨v,w',h1,fi v w' g' h2 ay⟩
 ·exact .inr (.inl ⟨w',h1,fi _ w' g' h2 ay⟩)
 ·exact .inr (.inr ⟨n,h1,h2.mono λv w' ⟨g',ay,bl⟩=>fi v w' g' ay bl⟩)
variable {a:Int}{k:ip}{y:bY}
theorem akF{tys:Array co} {b:Int}(ak:ρ x=I (.p (.v (.int k a))))(a9:ρ y=I (.p (.v (.int k b)))):bP aw (.call {callee:=.builtin .max,args:=#[x,y],argTypes:=tys}) ty ρ [] [] (.p (.v (.int k (gX a b)))):=.plain λw e o aU _ bg=>by have a2:=bg x (by simp[dw,ji]) _ ak;have bc:=bg y (by simp[dw,ji]) _ a9;unfold execOp;rw[aU];simp[resolve,invoke,builtin,Builtin.max_,Builtin.max2,a2,bc,cq,cp,gX]
theorem akG{tys:Array co} {b:Int}(ak:ρ x=I (.p (.v (.int k a))))(a9:ρ y=I (.p (.v (.int k b)))):bP aw (.call {callee:=.builtin .min,args:=#[x,y],argTypes:=tys}) ty ρ [] [] (.p (.v (.int k (it a b)))):=.plain λw e o aU _ bg=>by have a2:=bg x (by simp[dw,ji]) _ ak;have bc:=bg y (by simp[dw,ji]) _ a9;unfold execOp;rw[aU];simp[resolve,invoke,builtin,Builtin.min_,Builtin.min2,a2,bc,cq,cp,it]
theorem abm {e:Nat}{mJ:be}{n:Int}{z:List α}(aj:aw.underlying t=I (.slice e))(hi:(aw.info? e).map (λi=>(i.zero,i.size,i.bytes))=I (I mJ,1,bytes))(aP:mJ.cells=#[mJ])(ak:ρ x=I (.p (.v (.int K n))))(aF:fb bytes 128=ad)
  (a6:mk n fc=I z) (bh:∀E w,iW E w (c fc) mJ):bP aw (.makeSlice t x x) ty ρ [(i,.cc)] [(i,.bA e (z.map c))] (.ek i 0 z.length z.length):=by
 obtain⟨h1,rfl⟩:=abk a6;have:=akC (i:=i) (ty:=ty) aj hi aP ak aF h1 bh;simpa using this
variable {E T cap:Nat}{j:Int}{n:Nat}
theorem akH(cw:∀w,(underlying T).run aw w=.ok (.slice E) w)(aY:∀w,(sizeOf E).run aw w=.ok 1 w)(ak:ρ x=I (.ek i 0 n cap))(a9:ρ y=I (.p (.v (.int K j))))(bh:0<=j)(h1:j.toNat<n):bP aw (.indexAddr T x y) ty ρ [] [] (.aV i j.toNat):=.pure λg w H e q aB _ _ h=>by
 have a2:=h x (by simp[dw]) _ ak;have bc:=(h y (by simp[dw]) _ a9).ic;generalize he:e x=v at a2;cases a2 with
 |ek aC=>
  refine⟨.pointer (I ⟨g.β i,j.toNat,aJ⟩),?_,.aV aC⟩;unfold execOp;rw[aB];have cR:(0<=j/\j<(n:Int)):=⟨bh,by omega⟩
  simp[he,bc,Instr.indexAt,asIntOf,cw,aY,cq,cp,cR,rJ]
variable {xs:List α}
theorem akI{z:{q:Nat×α // xs[q.1]? =I q.2}}(cw:∀w,(underlying T).run aw w=.ok (.slice E) w)(aY:∀w,(sizeOf E).run aw w=.ok 1 w)(ak:ρ x=I (.ek i 0 n cap))(a9:ρ y=I (.p (.v (.int K j))))(h:gz n xs j=I z):bP aw (.indexAddr T x y) ty ρ [] [] (.aV i z.1.1):=by obtain⟨bh,h1,h2⟩:=akB h;have:=akH (ty:=ty) cw aY ak a9 bh h1;rw[h2]at this;exact this
variable {c8:Nat}{cs:List P}{off:Nat}
theorem akJ{c:P}(cw:∀w,(isAgg T).run aw w=.ok aS w)(ak:ρ x=I (.aV i off))(ax:cs[off]? =I c):bP aw (.load T x) ty ρ [(i,.bA c8 cs)] [] (.p c):=.IV λg w H e q aB _ aO hi h=>by
 have a2:=h x (by simp[dw]) _ ak;obtain⟨us,eO,hp,_⟩:=aO.eP i _ hi;have aC:off<us.length:=by have:=(cz.1 ax).1;have:=hp.1;omega
 have hu:=List.getElem?_eq_getElem aC;generalize he:e x=u at a2;cases a2 with|aV bp=>exact⟨us[off],by unfold execOp;rw[aB];simp[he,Instr.loadAt,u3,cq,cp,Fa cw ((eO.cell (o:=off)).trans hu)],.p (hp.2 off c _ ax hu)⟩
theorem akK{c:P}(a6:∀w,(sizeOf T).run aw w=.ok 1 w)(ak:ρ x=I (.aV i off))(a9:ρ y=I (.p c))(h1:c.one=ad)(b':off<cs.length):
  bP aw (.store T x y) ty ρ [(i,.bA c8 cs)] [(i,.bA c8 (cs.set off c))] (.p (.v undef)):=λg w H e q aB _ aO ev h=>by
 have a2:=h x (by simp[dw]) _ ak;have bc:=h y (by simp[dw]) _ a9;have rK:oK (e y)=ad:=bc.one h1;have u5:iW g.E w c (e y):=by generalize he:e y=v at bc;cases bc with|p h=>exact h
 obtain⟨us,eO,hp,_⟩:=aO.eP i _ ev.one;have aC:=hp.1;obtain⟨w',gR,fu,gG⟩:=Fb (P:=aw) (o:=off) [e y] 0 us w eO (λv bp=>by simp at bp;rw[bp];exact rK) (by simp;omega);generalize he:e x=u at a2;cases a2 with
 |aV bp=>
  refine .inr (.inl ⟨w',?_,g,cn.aah (us:=us.set off (e y)) aO ev.one fu ?_ ⟨by simp[aC],λj p u h1 h2=>?_⟩,.v undef⟩)
  ·unfold execOp;rw[aB];simp[he,Instr.storeAt,u3,storeVar,a6,MB rK,cq,cp,gR]
  ·simpa[Mi.oc]using gG
  ·by_cases ag:j=off
   ·subst ag;rw[List.getElem?_set_self (by omega)]at h1 h2;cases h1;cases h2;exact u5
   ·rw[List.getElem?_set_ne (λe=>ag e.symm)]at h1 h2;exact hp.2 j p u h1 h2
theorem akL(q:{q:Nat×α // xs[q.1]? =I q.2})(cw:∀w,(isAgg T).run aw w=.ok aS w)(ak:ρ x=I (.aV i q.1.1)):bP aw (.load T x) ty ρ [(i,.bA c8 (xs.map c))] [] (.p (c q.1.2)):=
 akJ cw ak (by rw[List.getElem?_map,q.2];rfl)
theorem akM{v:α}(q:{q:Nat×α // xs[q.1]? =I q.2})(a6:∀w,(sizeOf T).run aw w=.ok 1 w)(ak:ρ x=I (.aV i q.1.1))(a9:ρ y=I (.p (c v)))(h1:(c v).one=ad):
  bP aw (.store T x y) ty ρ [(i,.bA c8 (xs.map c))] [(i,.bA c8 ((xs.set q.1.1 v).map c))] (.p (.v undef)):=by
 have aC:=(cz.1 q.2).1;have:=akK (ty:=ty) (c8:=c8) (cs:=xs.map c) a6 ak a9 h1 (by simpa using aC);rw[List.map_set];exact this
theorem akN(cw:∀w,(underlying T).run aw w=.ok (.slice E) w)(ak:ρ x=I (.ek i off n cap)):bP aw (.call {callee:=.builtin .len,args:=#[x],argTypes:=#[T]}) ty ρ [] [] (aL n):=.pure λg w H e q aB _ _ h=>by
 have a2:=h x (by simp[dw,ji]) _ ak;generalize he:e x=v at a2;cases a2 with
 |ek aC=>exact⟨_,by unfold execOp;rw[aB];simp[resolve,invoke,builtin,Builtin.len_,he,cw,cq,cp,goInt],.v _⟩
end
variable {g:cu}{w:bj}
theorem cN.abn{H:List aN}{u0:Nat->Nat}(aY:∀b,b<w.heap.size->g.E b<=u0 b){d:V}{v:be}(h:cN g w H d v):cN ⟨g.β,u0,g.h⟩ w H d v:=
 cN.bi (g:=g) (g':=⟨g.β,u0,g.h⟩) (w':=w) (H':=H) ⟨bL _,aY,λ_ _ _ _=>rfl,λ_ h=>⟨h,rfl⟩,λ_ m h=>⟨m,h,bL _,λ_=>rfl⟩⟩ h
theorem cn.gF{cK:bj}{cl:cu}{ca:List aN}{H:List aN}{i T:Nat}{cs:List P}(h:cn cK cl ca g w H)(hi:H[i]? =I (.bA T cs))(bh:ca.length<=i)(a6:H.all (aN.bt i)=ad):
  cn cK cl ca ⟨g.β,dT g.E (g.β i) cs.length,g.h⟩ w (H.set i .cc)/\(∀b,b<w.heap.size->g.E b<=dT g.E (g.β i) cs.length b):=by
 have c4:=(cz.1 hi).1;obtain⟨us,eO,hp,tV⟩:=h.eP i _ hi;have FI:own g H i (g.β i):=by unfold own;rw[hi];rfl
 have ap:=h.ll bh a6;have dL:∀j,¬own g (H.set i .cc) j (g.β i):=λj aU=>by
  by_cases e:j=i
  ·subst e;unfold own at aU;rw[kV c4]at aU;exact aU
  ·unfold own at aU;rw[lf e]at aU;exact e (h.lY j i _ aU FI)
 have aY:∀b,g.E b<=dT g.E (g.β i) cs.length b:=λb=>by
  by_cases e:b=g.β i
  ·subst e;rw[tV];exact Nat.zero_le _
  ·rw[lg e];exact bL _
 have ei:iA g w (H.set i .cc) ⟨g.β,dT g.E (g.β i) cs.length,g.h⟩ w (H.set i .cc):=⟨bL _,λb _=>aY b,λ_ _ _ _=>rfl,λ_ h=>⟨h,rfl⟩,λ_ m h=>⟨m,h,bL _,λ_=>rfl⟩⟩
 have eR:∀j b,own ⟨g.β,dT g.E (g.β i) cs.length,g.h⟩ (H.set i .cc) j b↔own g (H.set i .cc) j b:=λj b=>by
  unfold own;cases(H.set i .cc)[j]? with
  |none=>exact Iff.rfl
  |some o=>cases o<;>exact Iff.rfl
 refine⟨⟨h.os,h.tape,h.output,h.oe.bi ei,ap.bi.trans ei,λb aF aB=>?_,λj o ag=>?_,λa c b h1 h2=>ap.lY a c b ((eR a b).1 h1) ((eR c b).1 h2),λa b h1=>ap.rP a b ((eR a b).1 h1)⟩,λb _=>aY b⟩
 ·obtain⟨a,c⟩:=h.iq b aF aB;refine⟨a,?_⟩;by_cases e:b=g.β i
  ·subst e;rcases h.rP i _ FI with⟨j,ag⟩|Fg
   ·exact absurd ag (aB j)
   ·omega
  ·show dT g.E (g.β i) cs.length b=_;rw[lg e];exact c
 ·refine lx.bi ei ag (λb aF=>⟨rfl,?_⟩) (λ_ _ _ _ _=>rfl) (ap.eP j o ag);have:b≠g.β i:=λe=>by subst e;exact dL j aF
  exact lg this
section
variable {Y : gY} {Q : df -> di -> bj -> Prop} {l : ce} {H : List aN} {R : Type} {m : Option R} {T : R -> Prop}
end
end Go.Dp

/- Code beside a function that may fail: whatever the function yields, the code does. -/
import Derived.Test.YtgfggdcbhjhegaaGreatDoorB
import Derived.Laws.Strings
set_option linter.all false
namespace Go.Dp
open Go Go.Mi Go.RowKit
open Bool renaming true->ah,and_eq_true->ea,false->aQ
open Go renaming Operand->bM,TypeId->b3,World->bb,Value->a4,Oper->bU,Program->cj,Exit->cN,IntKind->hv,Code->dS,Act->cO,ResultVar->p7,Edge->ie
open Go.Call renaming operands->iZ
open Go.Exit renaming inBlock->sU
open Go.Instr renaming sliceBound->n7,sliceBounds->qg,sliceAt->vm,slice->vn,sureAddr->sV,build->wP,fill->mm
open Go.Op renaming operands->c_,intArith->IB,stringOp->OS
open Go.Result renaming andThen->ce
open Go.Sem renaming run_bind->ck,run_pure->it
open Int renaming toNat_of_nonneg->IC
open List renaming getElem?_eq_some_iff->cz,replicate->dm,flatMap_cons->iX,getElem?_replicate->Wn,take_succ_cons->EH,drop_succ_cons->Wo,length_take->jf,length_drop->qW,all_eq_true->kj,drop_nil->Wp
open Nat renaming le_of_ble_eq_true->lI,ble->ev,le_refl->b5,eq_of_beq_eq_true->kz,beq->d',blt->fV,add_mul->jD,mul_le_mul->Bz,zero_mul->Be,sub_self->Wq,beq_refl->jp,add_comm->qX,one_mul->y6
open Option renaming some->D,none->aF
open Option.some renaming injEq->hX
def n8{R:Type}(m:Option R)(T:R->Prop):Prop:=∃q,m=D q/\T q
variable {R:Type}{T:R->Prop}
theorem n8.some{q:R}(h:n8 (D q) T):T q:=by obtain⟨_,e,h⟩:=h;cases e;exact h
theorem n8.bind {α:Type}{x:Option α}{f:α->Option R}(h:n8 (x.bind f) T):∃z,x=.some z/\n8 (f z) T:=by
 obtain⟨q,e,h⟩:=h;cases x with
 |none=>cases e
 |some z=>exact⟨z,rfl,q,e,h⟩
variable {x:Option R}
theorem n8.bC{b:Bool} {y:Option R}(h:n8 (if b=ah then x else y) T):(b=ah/\n8 x T)\/(b=aQ/\n8 y T):=by
 cases b with
 |true=>exact .inl ⟨rfl,h⟩
 |false=>exact .inr ⟨rfl,h⟩
theorem n8.map {S:Type}{f:R->S}{T:S->Prop}(h:n8 (x.map f) T):n8 x λr=>T (f r):=by
 obtain⟨q,e,h⟩:=h;cases x with
 |none=>cases e
 |some z=>cases e;exact⟨z,rfl,h⟩
inductive n9 {bX R:Type} (body:bX->Option (bX ⊕ R)):Nat->bX->R->Prop
 |dk {s:bX} {r:R} (h:body s=D (.inr r)):n9 body 0 s r
 |on {n:Nat} {s s':bX} {r:R} (h:body s=D (.inl s')) (k:n9 body n s' r):n9 body (n+1) s r
theorem n9.afN {bX:Type}{body:bX->Option (bX ⊕ R)}{n:Nat}{s:bX}{r:R}(h:n9 body n s r):∀{kC:Nat}{gJ:R},n9 body kC s gJ->r=gJ:=by
 induction h with
 |dk h=>intro kC gJ k;cases k with
  |dk k=>rw[h]at k;cases k;rfl
  |on k _=>rw[h]at k;cases k
 |on h _ bB=>intro kC gJ k;cases k with
  |dk k=>rw[h]at k;cases k
  |on k cA=>rw[h]at k;cases k;exact bB cA
open Classical in
noncomputable def eP{bX R:Type}(body:bX->Option (bX ⊕ R))(s:bX):Option R:=if h:∃r n,n9 body n s r then D (Classical.choose h)else aF
section
variable {bX R : Type} {body : bX -> Option (bX ⊕ R)} {s s' : bX} {r : R} {n : Nat}
theorem n9.b8(h:n9 body n s r):eP body s=D r:=by
 have dp:∃r n,n9 body n s r:=⟨r,n,h⟩
 unfold eP;rw[dif_pos dp];obtain⟨m,hm⟩:=Classical.choose_spec dp;rw[h.afN hm]
theorem eP.EI(h:eP body s=D r):∃n,n9 body n s r:=by
 unfold eP at h;split at h
 ·rename_i dp;cases h;exact Classical.choose_spec dp
 ·cases h
theorem eP.dk(h:body s=D (.inr r)):eP body s=D r:=(n9.dk h).b8
theorem eP.on(h:body s=D (.inl s')):eP body s=eP body s':=by
 cases e:eP body s' with
 |some r=>obtain⟨n,a_⟩:=eP.EI e;exact(n9.on h a_).b8
 |none=>
  cases hd:eP body s with
  |none=>rfl
  |some r=>
   obtain⟨n,a_⟩:=eP.EI hd;cases a_ with
   |dk k=>rw[h]at k;cases k
   |on k cA=>rw[h]at k;cases k;rw[cA.b8]at e;cases e
end
def um{bX R:Type}(body:bX->Option (bX ⊕ R))(T:R->Prop)(n:Nat):bX ⊕ R->Prop
 |.inl s=>∃m r,m<n/\n9 body m s r/\T r
 |.inr r=>T r
theorem dM.s'{l:bY}{t:Nat}{d:V}(h:cR l t=D d):dM l ((t,d)::l):=dM.s h .gp
section
variable (Y : gj)
def co(c:dS)(Q:cN->cO->bb->Prop)(l:bY)(H:List aG){R:Type}(m:Option R)(T:R->Prop):Prop:=n8 m T->dL Y c Q l H
def bZ(Q:cN->cO->bb->Prop)(e:cN)(l:bY)(H:List aG){R:Type}(m:Option R)(T:R->Prop):Prop:=n8 m T->eU Y Q e l H
def bI(ops:Array bU)(Q:cN->cO->bb->Prop)(rest:List bU)(l:bY)(H:List aG){R:Type}(m:Option R)(T:R->Prop):Prop:=n8 m T->eo Y ops Q rest l H
def j0(Q:cN->cO->bb->Prop)(os rest:List bU)(l:bY)(H:List aG)(acc:List (List Nat×List Nat)){R:Type}(m:Option R)(T:R->Prop):Prop:=n8 m T->iv Y Q os rest l H acc
end
section
variable {Y : gj} {Q : cN -> cO -> bb -> Prop} {l : bY} {H : List aG} {R : Type} {m m' : Option R} {T : R -> Prop}
theorem co.seq{x y:dS}(h:co Y x (pp Y.X y Q) l H m T):co Y (.seq x y) Q l H m T:=λe=>dL.seq (h e)
theorem co.iQ{id:Nat}{c:dS}(h:co Y c (sU id Q) l H m T):co Y (.block id c) Q l H m T:=λe=>dL.iQ (h e)
theorem co.skip(h:bZ Y Q .normal l H m T):co Y .skip Q l H m T:=λe=>dL.skip (h e)
theorem co.exit{id:Nat}(h:bZ Y Q (.exit id) l H m T):co Y (.exit id) Q l H m T:=λe=>dL.exit (h e)
theorem co.ret(h:bZ Y Q .ret l H m T):co Y .ret Q l H m T:=λe=>dL.ret (h e)
theorem co.cond{c:bM}{x y:dS}{b:Bool}(aP:bO l c=D (bs b))(ai:co Y x Q l H m T)(a8:co Y y Q l H m' T):co Y (.cond c x y) Q l H (if b=ah then m else m') T:=
 λe=>dL.cond aP (λq=>ai (by subst q;exact e)) (λq=>a8 (by subst q;exact e))
theorem co.Ia{c:bM}{x y:dS}(aP:bO l c=D (bs ah))(ai:co Y x Q l H m T):co Y (.cond c x y) Q l H m T:=λe=>dL.Ia aP (ai e)
theorem co.Bh{c:bM}{x y:dS}(aP:bO l c=D (bs aQ))(a8:co Y y Q l H m T):co Y (.cond c x y) Q l H m T:=λe=>dL.Bh aP (a8 e)
variable {y:dS}
theorem bZ.i7(h:co Y y Q l H m T):bZ Y (pp Y.X y Q) .normal l H m T:=h
variable {id:Nat}
theorem bZ.un(h:bZ Y Q (.exit id) l H m T):bZ Y (pp Y.X y Q) (.exit id) l H m T:=h
theorem bZ.afO(h:bZ Y Q .ret l H m T):bZ Y (pp Y.X y Q) .ret l H m T:=h
theorem bZ.iQ(h:bZ Y Q .normal l H m T):bZ Y (sU id Q) .normal l H m T:=h
theorem bZ.afP(h:bZ Y Q .ret l H m T):bZ Y (sU id Q) .ret l H m T:=h
theorem bZ.rV{id:Nat}(h:bZ Y Q .normal l H m T):bZ Y (sU id Q) (.exit id) l H m T:=λe=>eU.rV (h e)
theorem bZ.Oc{id wR:Nat}(e5:d' wR id=aQ)(h:bZ Y Q (.exit wR) l H m T):bZ Y (sU id Q) (.exit wR) l H m T:=λe=>eU.Oc e5 (h e)
theorem co.afQ{β:Type}(dG:β->bY)(G:β->List aG)(k:β->Option R) {x:dS}(h:∀b,co Y y Q (dG b) (G b) (k b) T)(ar:(∀l H b,dM l (dG b)->H=G b->bZ Y (pp Y.X y Q) .normal l H (k b) T)->co Y x (pp Y.X y Q) l H m T):co Y (.seq x y) Q l H m T:=
 co.seq (ar λl H b aV iD e=>eU.sub aV (iD▸h b e))
section
variable {bX : Type} {α : Type} {dG : α -> bY} {G : α -> List aG} {body : bX -> Option (bX ⊕ R)}
def uo(Y:gj)(j1:α->bX)(dG:α->bY)(G:α->List aG)(body:bX->Option (bX ⊕ R))(T:R->Prop)(n:Nat)(Q:cN->cO->bb->Prop):cN->cO->bb->Prop:=En Y (λq:α×Nat=>dG q.1) (λq=>G q.1) (λq=>∃r,n9 body q.2 (j1 q.1) r/\T r) (·.2) n Q
theorem co.loop{c:dS}{jv:bX}(j1:α->bX)(dG:α->bY)(G:α->List aG)(er:α)(ar:j1 er=jv)(bw:dM l (dG er))(iD:H=G er)
  (round:∀x n,co Y c (uo Y j1 dG G body T n Q) (dG x) (G x) (body (j1 x)) (um body T n)):co Y (.loop c) Q l H (eP body jv) T:=λe=>by
 obtain⟨r,h1,h2⟩:=e;obtain⟨n,a_⟩:=eP.EI h1;refine dL.loop (α:=α×Nat) (λq=>dG q.1) (λq=>G q.1) (λq=>∃r,n9 body q.2 (j1 q.1) r/\T r) (·.2) (er,n) bw iD ⟨r,by rw[ar];exact a_,h2⟩ ?_;rintro⟨x,n⟩ ⟨r,h1,h2⟩;refine round x n ?_;cases h1 with
 |dk h=>exact⟨_,h,h2⟩
 |on h k=>exact⟨_,h,_,r,Nat.lt_succ_self _,k,h2⟩
variable {n:Nat}
theorem bZ.next{j1:α->bX}{s:bX}(x:α)(ar:j1 x=s)(aV:dM l (dG x))(iD:H=G x):bZ Y (uo Y j1 dG G body T n Q) .normal l H (D (.inl s)) (um body T n):=λe=>by obtain⟨k,r,h1,h2,aJ⟩:=e.some;subst ar;exact eU.loop (α:=α×Nat) (x,k) aV iD ⟨r,h2,aJ⟩ h1
theorem bZ.up{j1:α->bX}{id:Nat}(h:bZ Y Q (.exit id) l H m T):bZ Y (uo Y j1 dG G body T n Q) (.exit id) l H (m.map .inr) (um body T n):=λe=>eU.afh (h e.map)
theorem bZ.afR{j1:α->bX}(h:bZ Y Q .ret l H m T):bZ Y (uo Y j1 dG G body T n Q) .ret l H (m.map .inr) (um body T n):=λe=>eU.afi (h e.map)
end
theorem co.region{id:Nat}{os:List bU}(h:bI Y os.toArray Q os l H m T):co Y (.region id os.toArray aQ) Q l H m T:=λe=>dL.region (h e)
variable {ops : Array bU} {rest : List bU}
theorem bI.nil(h:bZ Y Q .normal l H m T):bI Y ops Q [] l H m T:=h
section
variable {t : Nat} {op : Op} {ty : b3} {pos : String} {cx : Array ie} {d : V} {dst : Option Tmp} {cV cE : List (Nat × aG)}
theorem bI.q(h:bE Y.X.P op ty (bO l) [] [] d)(az:fV t Y.X.N=ah)(k:bI Y ops Q rest ((t,d)::l) H m T):bI Y ops Q ({dst:=D t,op:=op,type:=ty,pos:=pos,after:=cx,guard:=aF}::rest) l H m T:=λe=>eo.q h az (k e)
theorem bI.aC(h:bE Y.X.P op ty (bO l) cV cE d)(dY:fq H cV)(az:kT Y.X.N dst=ah)(k:bI Y ops Q rest (gn dst d l) (dT H cE) m T):
  bI Y ops Q ({dst:=dst,op:=op,type:=ty,pos:=pos,after:=cx,guard:=aF}::rest) l H m T:=λe=>eo.aC h dY az (k e)
variable {α:Type}{x:Option α}
theorem bI.b{f:α->Option R}{dd:α->V}(h:∀z,x=D z->bE Y.X.P op ty (bO l) [] [] (dd z))(az:fV t Y.X.N=ah)(k:∀z,bI Y ops Q rest ((t,dd z)::l) H (f z) T):
  bI Y ops Q ({dst:=D t,op:=op,type:=ty,pos:=pos,after:=cx,guard:=aF}::rest) l H (x.bind f) T:=λe=>by
 obtain⟨z,h1,h2⟩:=e.bind;exact eo.q (h z h1) az (k z h2)
theorem bI.oS{f:α->Option R}{dd:α->V}{rr ww:α->List (Nat×aG)}(h:∀z,x=D z->bE Y.X.P op ty (bO l) (rr z) (ww z) (dd z))(dY:∀z,fq H (rr z))(az:kT Y.X.N dst=ah)(k:∀z,bI Y ops Q rest (gn dst (dd z) l) (dT H (ww z)) (f z) T):
  bI Y ops Q ({dst:=dst,op:=op,type:=ty,pos:=pos,after:=cx,guard:=aF}::rest) l H (x.bind f) T:=λe=>by
 obtain⟨z,h1,h2⟩:=e.bind;exact eo.aC (h z h1) (dY z) az (k z h2)
theorem bI.Ib{j:Nat}{want b:Bool}(db:Nat)(ae:(ops[j]?).bind (·.dst)=D db)(aB:cR l db=D (bs b))(he:b=want)
  (k:bI Y ops Q ({dst:=dst,op:=op,type:=ty,pos:=pos,after:=cx,guard:=aF}::rest) l H m T):bI Y ops Q ({dst:=dst,op:=op,type:=ty,pos:=pos,after:=cx,guard:=D (j,want)}::rest) l H m T:=λe=>eo.Ib db ae aB he (k e)
theorem bI.br{j:Nat}{want b:Bool}(db:Nat)(ae:(ops[j]?).bind (·.dst)=D db)(aB:cR l db=D (bs b))(he:b= !want)(az:kT Y.X.N dst=ah)
  (k:bI Y ops Q rest (gn dst (.p (.v undef)) l) H m T):bI Y ops Q ({dst:=dst,op:=op,type:=ty,pos:=pos,after:=cx,guard:=D (j,want)}::rest) l H m T:=λe=>eo.br db ae aB he az (k e)
end
theorem bI.OT{b:Bool}(d:Nat)(aB:cR l d=D (bs b))(ai:bI Y ops Q rest ((d,bs ah)::l) H m T)(a8:bI Y ops Q rest ((d,bs aQ)::l) H m' T):bI Y ops Q rest l H (if b=ah then m else m') T:=λe=>by
 rcases e.bC with⟨q,e⟩|⟨q,e⟩
 ·subst q;exact eo.sub (dM.s' aB) (ai e)
 ·subst q;exact eo.sub (dM.s' aB) (a8 e)
end
def aH(n:Int):Int:=IntKind.i64.wrap n
def w2(n:Int):Int:=IntKind.u8.wrap n
def aL{α:Type}(xs:List α)(j:Int):Option α:=if 0<=j then xs[j.toNat]? else aF
def eR{α:Type}(xs cX:List α):Option (List α):=if xs.length+cX.length<=1099511627776 then D (xs++cX)else aF
def uq(a b:Int):Option Int:=if b=0 then aF else D (a.tdiv b)
def ur(a b:Int):Option Int:=if b=0 then aF else D (a.tmod b)
theorem c8{n:Int}(h1: -9223372036854775808<=n)(h2:n< 9223372036854775808):aH n=n:=by unfold aH IntKind.wrap;simp[IntKind.signed,IntKind.bits];split<;>omega
theorem w3{α:Type}{xs:List α}{j:Int}{z:α}(h:aL xs j=D z):0<=j/\xs[j.toNat]? =D z:=by
 unfold aL at h;split at h
 ·exact⟨by assumption,h⟩
 ·cases h
theorem ID{α:Type}{xs cX e':List α}(h:eR xs cX=D e'):xs.length+cX.length<=1099511627776/\e'=xs++cX:=by
 unfold eR at h;split at h
 ·cases h;exact⟨by assumption,rfl⟩
 ·cases h
theorem IE{n b:Nat}(h:n<=1099511627776)(aB:ev b 128=ah):n*b<=140737488355328:=by
 have aB:=lI aB
 calc n*b<=1099511627776*128:=Bz h aB
  _=140737488355328:=rfl
theorem afS{a b z:Int}(h:uq a b=D z):b≠0/\z=a.tdiv b:=by
 unfold uq at h;split at h
 ·cases h
 ·cases h;exact⟨by assumption,rfl⟩
theorem afT{a b z:Int}(h:ur a b=D z):b≠0/\z=a.tmod b:=by
 unfold ur at h;split at h
 ·cases h
 ·cases h;exact⟨by assumption,rfl⟩
section
variable {av : cj} {ty : b3} {ρ : bM -> Option V}
section
variable {T b1 : b3} {x y : bM} {k : hv} {a b : Int}
theorem afU(ar:ρ x=D (.p (.v (.int k a))))(bh:ρ y=D (.p (.v (.int k b)))):bE av (.binOp .add T x y b1) ty ρ [] [] (.p (.v (.int k (k.wrap (a+b))))):=
 kS ar bh λw'=>by simp[ck,pq,ce,binOp,IB]
theorem afV(ar:ρ x=D (.p (.v (.int k a))))(bh:ρ y=D (.p (.v (.int k b)))):bE av (.binOp .sub T x y b1) ty ρ [] [] (.p (.v (.int k (k.wrap (a-b))))):=
 kS ar bh λw'=>by simp[ck,pq,ce,binOp,IB]
theorem afW(ar:ρ x=D (.p (.v (.int k a))))(bh:ρ y=D (.p (.v (.int k b)))):bE av (.binOp .mul T x y b1) ty ρ [] [] (.p (.v (.int k (k.wrap (a*b))))):=
 kS ar bh λw'=>by simp[ck,pq,ce,binOp,IB]
theorem afX(ar:ρ x=D (.p (.v (.int k a))))(bh:ρ y=D (.p (.v (.int k b))))(bw:b≠0):bE av (.binOp .quo T x y b1) ty ρ [] [] (.p (.v (.int k (k.wrap (a.tdiv b))))):=
 kS ar bh λw'=>by simp[ck,pq,ce,binOp,Op.intDiv,bw]
end
variable {T:b3}{x:bM}
theorem afY {S:b3}{k cA:hv}{n:Int}(eT:∀w,(underlying S).run av w=.ok (.int k) w)(cc:∀w,(underlying T).run av w=.ok (.int cA) w)(ar:ρ x=D (.p (.v (.int k n)))):
  bE av (.convert S T x) ty ρ [] [] (.p (.v (.int cA (cA.wrap n)))):=.plain λw e o a1 _ a8=>by
 have a5:=a8 x (by simp[c_]) _ ar;unfold execOp;rw[a1];simp[a5,convert,eT,cc,ck,ce,Conv.intToInt]
theorem afZ{d:V}{cs:List P}(ar:ρ x=D d)(aP:d.cells=cs.map .p)(h1:cs.all P.one=ah):bE av (.box T x) ty ρ [] [] (.bA cs):=λg w H e q aE _ aM dY h=>by
 have pr:d.cells.all V.one=ah:=by rw[aP,List.all_map];exact h1
 obtain⟨vs,oN,kD,_⟩:=(h x (by simp[c_]) _ ar).cells pr;rw[aP]at kD;have hp:=Ew kD;have b2:=b'.Eh (E:=dD g.E w.heap.size cs.length) aM (yJ w (.cells vs.toArray T)) (λb aB=>ki (by omega));refine .inl ⟨.pointer (D ⟨w.heap.size,0,aF⟩),w.alloc (.cells vs.toArray T),?_,_,b2,H9 (us:=vs) (hp.a' b2.a'.size b2.a'.E b2.a'.cell) ?_ (by simp) λj u ae=>?_⟩
 ·unfold execOp;rw[aE];simp[Instr.box,newVar,newRow,newObj,ck,Sem.run,ce,oN]
 ·show 0+cs.length<=dD g.E w.heap.size cs.length w.heap.size;rw[fB];omega
 ·rw[(yK w vs T).cell,Nat.zero_add];exact ae
end
theorem q1.qh{R:Type}{av:cj}{f:FuncId}{fn:Func}{c:dS}{N:Nat}{ds:List V}{H:List aG}{m:Option R}{r:R}{P:R->V->List aG->Prop}(hm:m=D r)(a8:av.funcs[f]? =D fn)(aB:fn.body=D c)(e0:fn.ntmps=N)(hle:ev ds.length N=ah)
  (h:∀w g,co ⟨⟨aF,av,N,[]⟩,w,g,H⟩ c (bodyPost av fn (i6 w g H (P r))) (sW 0 ds) H m (λq=>q=r)):q1 av f ds H (P r):=q1.aY a8 aB e0 hle λw g=>h w g ⟨r,hm,rfl⟩
theorem co.ext{Y:gj}{c:dS}{Q:cN->cO->bb->Prop}{l:bY}{H:List aG}{R:Type}{m:Option R}{T:R->Prop}(n:Nat)(h:co Y c Q l (H++dm n .bW) m T):co Y c Q l H m T:=λe=>dL.ext n (h e)
section
variable {R : Type} {av : cj} {N : Nat} {l : bY} {fn : Func} {e : cN} {cn : bb} {b0 : b_} {bS H el : List aG} {P : R -> V -> List aG -> Prop} {aU : List Nat} {q r : R}
theorem bZ.OD{rv:p7}{d x:V}(hp:P q x el)(aS:Exit.kf e=ah)(jY:fn.results=#[rv])(h1:kB av l H rv d)(hw:fY d (x.dc (bQ aU)))(au:np bS H el aU)(cf:x.lt el.length=ah):bZ ⟨⟨aF,av,N,[]⟩,cn,b0,bS⟩ (bodyPost av fn (i6 cn b0 bS (P r))) e l H (D q) (λq=>q=r):=λh=>by have:=h.some;subst this;exact eU.OD aS jY h1 hw au cf hp
theorem bZ.OE{rv oQ:p7}{d cQ x mu:V}(hp:P q (.cg [x,mu]) el)(aS:Exit.kf e=ah)(jY:fn.results=#[rv,oQ])(h1:kB av l H rv d)(h2:kB av l H oQ cQ)(hw:fY d (x.dc (bQ aU)))(sX:fY cQ (mu.dc (bQ aU)))(au:np bS H el aU)(cf:(V.cg [x,mu]).lt el.length=ah):
  bZ ⟨⟨aF,av,N,[]⟩,cn,b0,bS⟩ (bodyPost av fn (i6 cn b0 bS (P r))) e l H (D q) (λq=>q=r):=λh=>by
 have:=h.some;subst this;exact eU.OE aS jY h1 h2 hw sX au cf hp
theorem bZ.OF{rv oQ wW:p7}{d cQ uh x mu y7:V}(hp:P q (.cg [x,mu,y7]) el)(aS:Exit.kf e=ah)(jY:fn.results=#[rv,oQ,wW])(h1:kB av l H rv d)(h2:kB av l H oQ cQ)(aJ:kB av l H wW uh)(hw:fY d (x.dc (bQ aU)))(sX:fY cQ (mu.dc (bQ aU)))(Eu:fY uh (y7.dc (bQ aU)))(au:np bS H el aU)(cf:(V.cg [x,mu,y7]).lt el.length=ah):
  bZ ⟨⟨aF,av,N,[]⟩,cn,b0,bS⟩ (bodyPost av fn (i6 cn b0 bS (P r))) e l H (D q) (λq=>q=r):=λh=>by
 have:=h.some;subst this;exact eU.OF aS jY h1 h2 aJ hw sX Eu au cf hp
theorem bZ.OC(hp:P q (.cg []) el)(aS:Exit.kf e=ah)(jY:fn.results=#[])(au:np bS H el aU):bZ ⟨⟨aF,av,N,[]⟩,cn,b0,bS⟩ (bodyPost av fn (i6 cn b0 bS (P r))) e l H (D q) (λq=>q=r):=λh=>by have:=h.some;subst this;exact eU.OC aS jY au hp
end
section
def kF{α:Type}(k:Nat)(e:α->List P)(xs:List α):List P:=[dI k e xs]
def lW(l:bY):List bM->Option (List V)
 |[]=>D []
 |x::xs=>match bO l x,lW l xs with
  |some d,D ds=>D (d::ds)
  |_,_=>aF
theorem BA{l:bY}:∀{os:List bM}{ds:List V},lW l os=D ds->os.map (bO l)=ds.map D
 |[],ds,h=>by simp only[lW,hX]at h;subst h;rfl
 |x::xs,ds,h=>by
  simp only[lW]at h;cases ar:bO l x with
  |none=>rw[ar]at h;cases h
  |some d=>
   cases bh:lW l xs with
   |none=>rw[ar,bh]at h;cases h
   |some es=>rw[ar,bh]at h;cases h;simp[ar,BA bh]
variable {av:cj}{b1 bA k:Nat}{l:bY}{n:Nat}{parts:List (Nat×bM)}{ty:b3}{z:a4}{α:Type}
theorem OU{ds:List V}(xs:List α)(e:α->List P)(ai:∀w,(underlying b1).run av w=.ok (.slice bA) w)(au:∀w,(sizeOf bA).run av w=.ok k w)(bj:∀w,(zeroValue bA).run av w=.ok z w)(ar:lW l (parts.map (·.2))=D ds)(lJ:parts=(parts.map (·.2)).zipIdx.map (λp=>(p.2,p.1)))(a1:(ds.all λd=>d.cells.all V.one&&d' d.cells.length k)=ah)(e9:ds.flatMap V.cells=(xs.flatMap e).map .p)(a_:ds.length=xs.length)(ld:xs.length=n)(hle:ev (xs.length*k) 16777216=ah):bE av (.buildSlice b1 n parts.toArray) ty (bO l) [] [] (bT k e xs):=by subst ld;exact afL xs ai au bj (by simpa using lJ) (BA ar) a1 e9 a_ (lI hle)
theorem Wr {i:Nat}{ds:List V}(xs:List α)(e:α->List P)(ai:∀w,(underlying b1).run av w=.ok (.slice bA) w)(au:∀w,(sizeOf bA).run av w=.ok k w)(bj:∀w,(zeroValue bA).run av w=.ok z w)(ar:lW l (parts.map (·.2))=D ds)(lJ:parts=(parts.map (·.2)).zipIdx.map (λp=>(p.2,p.1)))(a1:(ds.all λd=>d.cells.all V.one&&d' d.cells.length k)=ah)(e9:ds.flatMap V.cells=(xs.flatMap e).map .p)(a_:ds.length=xs.length)(ld:xs.length=n)(hle:ev (xs.length*k) 16777216=ah)(hm:ev xs.length 16777216=ah):bE av (.buildSlice b1 n parts.toArray) ty (bO l) [(i,.bW)] [(i,.bl bA k 0)] (cT k e xs i 0):=by subst ld;exact afs (i:=i) ai au bj (by simpa using lJ) (BA ar) a1 e9 a_ (lI hle) (Nat.le_trans (lI hm) (by decide))
theorem mW{T:b3}{e':List a4}{vo:Array Field}{pl:List (Nat×Nat)}(bj:∀w,(zeroValue T).run av w=.ok z w)(hu:∀w,(underlying T).run av w=.ok (.struct vo) w)(hp:∀w,((vo.mapM λf=>do pure (f.offset,<-sizeOf f.type)):Sem _).run av w=.ok pl.toArray w)(OV:z.cells=e'.toArray)(c:Array a4)(ps:List (Nat×a4))(w:bb)
  (h:mm (λi=>pl[i]?) e'.toArray ps=D c):(wP T ps.toArray).run av w=.ok (.agg c) w:=by
 unfold wP;have dp:mm (λi=>pl.toArray[i]?) z.cells ps=D c:=by rw[OV,<-h];congr 1;funext i;simp
 simp only[ck,bj,hu,hp w,ce,dp,it]
theorem dM.l0 {l' Ws:bY}(h:dM l l')(k:dM l' Ws):dM l Ws:=λt d az=>by obtain⟨cQ,h1,h2⟩:=k t d az;obtain⟨uh,aJ,bp⟩:=h t cQ h1;exact⟨uh,aJ,λg w H v bg=>h2 _ _ _ _ (bp _ _ _ _ bg)⟩
theorem dM.cut{d s:Nat}{u v:V}(h:cR l s=D v):dM ((d,u)::(s,v)::l) ((d,u)::l):=λt x ar=>by
 refine⟨x,?_,.gp⟩;simp only[cR]at ar⊢;cases aB:d' d t with
 |true=>rw[aB]at ar;exact ar
 |false=>
  rw[aB]at ar;simp only[cond_false]at ar⊢;cases aP:d' s t with
  |true=>have:=kz aP;subst this;rw[h]at ar;simpa using ar
  |false=>exact ar
section
variable {Y : gj} {Q : cN -> cO -> bb -> Prop} {l : bY} {H : List aG} {R : Type} {m : Option R} {T : R -> Prop} {ops : Array bU} {rest : List bU} {t : Nat} {ty : b3} {pos : String} {cx : Array ie} {dst : Option Tmp}
theorem co.BB{c:dS}{α:Type}(e:α->List P)(b1 k i s:Nat)(ai:cR l s=D (.p (.v (.slice aF 0 0))))(ao:H[i]? =D .bW)(h:co Y c Q ((s,cT k e [] i 0)::l) (H.set i (.bl b1 k 0)) m T):co Y c Q l H m T:=λhd=>dL.nil e b1 k i s ai ao (h hd)
theorem bI.EJ{dst:Option Tmp}{op:Op}{ty:b3}{pos:String}{cx:Array ie}{j:Nat}{want:Bool}(db:Nat)(ae:(ops[j]?).bind (·.dst)=D db)(aB:cR l db=D (.p (.v undef)))(az:kT Y.X.N dst=ah)
  (k:bI Y ops Q rest (gn dst (.p (.v undef)) l) H m T):bI Y ops Q ({dst:=dst,op:=op,type:=ty,pos:=pos,after:=cx,guard:=D (j,want)}::rest) l H m T:=λe g w a aM a9=>by
 obtain⟨v,h1,h2⟩:=a9.2.2 db _ aB;have bg:=h2.g4;have bh:yielded ops a.tmps j=aF:=by unfold yielded;rw[ae];simp[h1,bg,undef]
 have e5:(aF==D want)=aQ:=rfl;simp only[jQ,Region.wanted,bh,e5];exact k e g w _ aM (a9.put az (.v _))
theorem bI.and{b r:Bool}(n d db:Nat)(aB:cR l db=D (bs b))(ai:(∀l',dM l' ((d,bs r)::(db,bs ah)::l)->bI Y ops Q (rest.drop n) l' H m T)->bI Y ops Q rest ((db,bs ah)::l) H m T)
  (a8:(∀l',dM l' ((d,bs aQ)::(db,bs aQ)::l)->bI Y ops Q (rest.drop n) l' H m T)->bI Y ops Q rest ((db,bs aQ)::l) H m T) (k:bI Y ops Q (rest.drop n) ((d,bs (b&&r))::l) H m T):bI Y ops Q rest l H m T:=λe=>by
 cases b with
 |true=>exact eo.sub (dM.s' aB) (ai (λl' aV e=>eo.sub (aV.l0 (dM.cut aB)) (k e)) e)
 |false=>exact eo.sub (dM.s' aB) (a8 (λl' aV e=>eo.sub (aV.l0 (dM.cut aB)) (k e)) e)
theorem bI.or{b r:Bool}(n d db:Nat)(aB:cR l db=D (bs b))(a8:(∀l',dM l' ((d,bs r)::(db,bs aQ)::l)->bI Y ops Q (rest.drop n) l' H m T)->bI Y ops Q rest ((db,bs aQ)::l) H m T)
  (ai:(∀l',dM l' ((d,bs ah)::(db,bs ah)::l)->bI Y ops Q (rest.drop n) l' H m T)->bI Y ops Q rest ((db,bs ah)::l) H m T) (k:bI Y ops Q (rest.drop n) ((d,bs (b||r))::l) H m T):bI Y ops Q rest l H m T:=λe=>by
 cases b with
 |true=>exact eo.sub (dM.s' aB) (ai (λl' aV e=>eo.sub (aV.l0 (dM.cut aB)) (k e)) e)
 |false=>exact eo.sub (dM.s' aB) (a8 (λl' aV e=>eo.sub (aV.l0 (dM.cut aB)) (k e)) e)
end
theorem dM.y8{l l':bY}{d:Nat}{v:V}(az:cR l' d=D v)(aK:l'.drop (l'.length-l.length)=l)(h:(l'.take (l'.length-l.length)).all (λq=>d' q.1 d||(cR l q.1).isNone)=ah):dM l' ((d,v)::l):=λt u hu=>by
 simp only[cR]at hu;cases aB:d' d t with
 |true=>rw[aB]at hu;have:=kz aB;subst this;simp only[cond_true,hX]at hu;subst hu;exact⟨v,az,.gp⟩
 |false=>
  rw[aB]at hu;simp only[cond_false]at hu;refine⟨u,?_,.gp⟩;generalize l'.length-l.length=n at aK h;clear az;induction n generalizing l' with
  |zero=>rw[List.drop_zero]at aK;subst aK;exact hu
  |succ n bB=>
   cases l' with
   |nil=>rw[Wp]at aK;subst aK;exact hu
   |cons q l'=>
    simp only[EH,Wo,List.all_cons,ea]at aK h;have k:=bB aK h.2;simp only[cR];cases aP:d' q.1 t with
    |false=>simpa using k
    |true=>
     have:=kz aP;subst this;have h1:=h.1;rw[hu,Bool.or_eq_true]at h1;rcases h1 with h1|h1
     ·have:=kz h1;rw[this,jp]at aB;cases aB
     ·simp at h1
section
variable {Y : gj} {Q : cN -> cO -> bb -> Prop} {l : bY} {H : List aG} {R : Type} {m : Option R} {T : R -> Prop}
theorem co.or{y:dS}{d:Nat}{b r:Bool}(aB:cR l d=D (bs b))(a8:(∀l',dM l' ((d,bs r)::l)->bZ Y Q .normal l' H m T)->co Y y Q l H m T)(k:bZ Y Q .normal ((d,bs (b||r))::l) H m T):co Y (.cond (.tmp d) .skip y) Q l H m T:=λe=>
 dL.or aB (λ_ c=>a8 (λl' aV _=>c l' aV) e) (k e)
theorem co.and{x:dS}{d:Nat}{b r:Bool}(aB:cR l d=D (bs b))(ai:(∀l',dM l' ((d,bs r)::l)->bZ Y Q .normal l' H m T)->co Y x Q l H m T)(k:bZ Y Q .normal ((d,bs (b&&r))::l) H m T):co Y (.cond (.tmp d) x .skip) Q l H m T:=λe=>
 dL.and aB (λ_ c=>ai (λl' aV _=>c l' aV) e) (k e)
end
variable {l l':bY}
theorem Wt(h:∀t,cR l t=cR l' t):bO l=bO l':=funext λx=>by cases x<;>simp[bO,h]
theorem Wu(h:∀t,cR l t=cR l' t)(dst:Option Tmp)(d:V)(t:Nat):cR (gn dst d l) t=cR (gn dst d l') t:=by
 cases dst with
 |none=>exact h t
 |some s=>simp only[gn,cR,h t]
theorem sZ.ext{av:cj}{os:List bU}{o:bU}{m:ft}(h:∀t,cR l t=cR l' t)(k:sZ av os o l m):sZ av os o l' m:=by
 cases k with
 |run b2 h1=>exact .run b2 (Wt h▸h1)
 |on b2 ae aB h1=>exact .on b2 ae (h _▸aB) (Wt h▸h1)
 |off b2 ae aB hm=>exact .off b2 ae (h _▸aB) hm
 |Bo b2 ae aB hm=>exact .Bo b2 ae (h _▸aB) hm
theorem nq.ext{av:cj}{ed:List bU}:∀{os:List bU}{ms:List ft}{l l':bY},(∀t,cR l t=cR l' t)->nq av ed os ms l->nq av ed os ms l'
 |[],[],_,_,_,_=>trivial
 |[],_::_,_,_,_,k=>k.elim
 |_::_,[],_,_,_,k=>k.elim
 |o::os,m::ms,l,l',h,k=>⟨k.1.ext h,nq.ext (Wu h _ _) k.2⟩
theorem OW{L:Nat->Bool}:∀(k:Nat)(os:List bU)(ms:List ft)(l l':bY),(∀t,cR l t=cR l' t)->∀t,cR (hy k os ms L l) t=cR (hy k os ms L l') t
 |_,[],ms,_,_,h=>by cases ms<;>exact h
 |_,_::_,[],_,_,h=>h
 |k,o::os,m::ms,l,l',h=>by
  rw[hy,hy];refine OW (k+1) os ms _ _ ?_;split
  ·exact Wu h _ _
  ·exact h
theorem iv.ext{Y:gj}{Q:cN->cO->bb->Prop}{ed rest:List bU}{l l':bY}{H:List aG}{acc:List (List Nat×List Nat)}(h:∀t,cR l' t=cR l t)(k:iv Y Q ed rest l' H acc):iv Y Q ed rest l H acc:=by obtain⟨ms,h1,h2,cy,aJ,bp⟩:=k;exact⟨ms,h1.ext h,h2,cy,aJ,eU.sub (λt d az=>⟨d,by rw[<-OW 0 rest ms l' l h];exact az,.gp⟩) bp⟩
inductive iY (os:List bU) (l:bY):Option (Nat×Bool)->Prop
 |n:iY os l aF
 |y {j db:Nat} {want:Bool} (ae:(os[j]?).bind (·.dst)=D db) (aB:cR l db=D (bs want)):iY os l (D (j,want))
theorem iv.mw{Y:gj}{Q:cN->cO->bb->Prop}{ed:List bU}{dst:Option Tmp}{op:Op}{ty:b3}{pos:String}{cx:Array ie}{eF:Option (Nat×Bool)}{rest:List bU}{H:List aG}{acc:List (List Nat×List Nat)}{cV cE:List (Nat×aG)}{d:V}(h:bE Y.X.P op ty (bO l) cV cE d)(ao:fq H cV)(b2:iY ed l eF)
  (k:iv Y Q ed rest (gn dst d l) (dT H cE) (acc++[(cV.map (·.1),cE.map (·.1))])):iv Y Q ed ({dst:=dst,op:=op,type:=ty,pos:=pos,after:=cx,guard:=eF}::rest) l H acc:=by
 refine iv.cons (m:=⟨cV,cE,d,λ_=>True⟩) ?_ ao k;cases b2 with
 |n=>exact .run rfl h.wY
 |y ae aB=>exact .on rfl ae aB h.wY
section
variable {Y : gj} {Q : cN -> cO -> bb -> Prop} {l : bY} {H : List aG} {R : Type} {m m' : Option R} {T : R -> Prop} {os rest : List bU} {acc : List (List Nat × List Nat)}
theorem co.any{id:Nat}(hm:Y.X.P.follows .mixedOrders=ah)(h:j0 Y Q os os l H [] m T):co Y (.region id os.toArray ah) Q l H m T:=λe=>dL.any hm (h e)
theorem j0.nil(aP:oR os Y.X.N acc os acc (pu os []) 0=ah)(h:bZ Y Q .normal l H m T):j0 Y Q os [] l H acc m T:=λe=>iv.nil aP (h e)
theorem j0.br{dst:Option Tmp}{op:Op}{ty:b3}{pos:String}{cx:Array ie}{j db:Nat}{want:Bool}(ae:(os[j]?).bind (·.dst)=D db)(aB:cR l db=D (bs (!want)))(k:j0 Y Q os rest (gn dst (.p (.v undef)) l) H (acc++[([],[])]) m T):
  j0 Y Q os ({dst:=dst,op:=op,type:=ty,pos:=pos,after:=cx,guard:=D (j,want)}::rest) l H acc m T:=λe=>iv.cons (m:=ft.br) (.off rfl ae aB rfl) e6 (k e)
end
mutual
def V.br(i:Nat):V->Bool
 |.p _=>ah
 |.cT _ _ _ t _=> !Nat.beq t i
 |.aR j _=> !Nat.beq j i
 |.bA _=>ah
 |.dX j _ _ _=> !Nat.beq j i
 |.map j=> !Nat.beq j i
 |.fn _ b c=>ut i b&&ut i c
 |.agg cs=>ut i cs
 |.cg cs=>ut i cs
 |.fW j=> !Nat.beq j i
 |.z=>ah
 |.gs _ _ t _ _=> !Nat.beq t i
 |.js t _ _=> !Nat.beq t i
def ut(i:Nat):List V->Bool
 |[]=>ah
 |d::ds=>d.br i&&ut i ds
end
def IF(i:Nat):bY->Bool
 |[]=>ah
 |p::r=>p.2.br i&&IF i r
theorem Wv{i:Nat}:∀{l:bY}{t:Nat}{d:V},IF i l=ah->cR l t=D d->d.br i=ah
 |(e,v)::r,t,d,h,az=>by
  simp only[IF,ea]at h;simp only[cR]at az;cases aB:d' e t with
  |true=>rw[aB]at az;simp at az;rw[<-az];exact h.1
  |false=>rw[aB]at az;simp at az;exact Wv h.2 az
def aG.br(i:Nat):aG->Bool
 |.cells _ cs=>ut i cs
 |.nn _ _ kv=>ut i (kv.map (·.2))
 |.loop _ _ _ _ fr _ _ _ j=> !Nat.beq j i&&IF i fr
 |.pw j=> !Nat.beq j i
 |.kg j _=> !Nat.beq j i
 |.mq ds _=>ut i ds
 |_=>ah
section
variable {g : b_} {w : bb} {H : List aG} {i : Nat}
theorem vp{j:Nat}(h:j≠i):ct (H.set i .bW) j↔ct H j:=by unfold ct;rw[jG h]
theorem af0{t m:Nat}{v:a4}(h:t≠i)(k:A' g H t m v):A' g (H.set i .bW) t m v:=by obtain⟨m',a,b⟩:=k;exact⟨m',by unfold eL;rw[jG h];exact a,b⟩
theorem uu{j i:Nat}(h:(!Nat.beq j i)=ah):j≠i:=λe=>by subst e;rw[jp]at h;cases h
mutual
theorem cD.jK:∀{d:V}{v:a4},d.br i=ah->cD g w H d v->cD g w (H.set i .bW) d v
 |_,_,_,.p h=>.p h
 |_,_,a_,.cT h ai=>.cT h (af0 (uu a_) ai)
 |_,_,a_,.aR aK=>.aR ((vp (uu a_)).2 aK)
 |_,_,_,.bA u aS aB hu h=>.bA u aS aB hu h
 |_,_,a_,.dX aK=>.dX ((vp (uu a_)).2 aK)
 |_,_,a_,.map aK=>.map ((vp (uu a_)).2 aK)
 |_,_,a_,.fn h1 h2=>by simp only[V.br,ea]at a_;exact .fn (cU.jK a_.1 h1) (cU.jK a_.2 h2)
 |_,_,a_,.agg h=>.agg (cU.jK a_ h)
 |_,_,a_,.cg h=>.cg (cU.jK a_ h)
 |_,_,a_,.fW aK=>.fW ((vp (uu a_)).2 aK)
 |_,_,_,.z=>.z
 |_,_,a_,.gs h1 h=>.gs h1 (by obtain⟨m',a,b⟩:=h;exact⟨m',by unfold eL;rw[jG (uu a_)];exact a,b⟩)
 |_,_,a_,.js h1 h=>.js h1 (by obtain⟨m',a,b⟩:=h;exact⟨m',by unfold eL;rw[jG (uu a_)];exact a,b⟩)
theorem cU.jK:∀{ds:List V}{vs:List a4},ut i ds=ah->cU g w H ds vs->cU g w (H.set i .bW) ds vs
 |_,_,_,.nil=>.nil
 |_,_,a_,.cons h aV=>by simp only[ut,ea]at a_;exact .cons (cD.jK a_.1 h) (cU.jK a_.2 aV)
end
theorem jU.jK{j:Nat}{o:aG}(a_:o.br i=ah)(h:jU g w H j o):jU g w (H.set i .bW) j o:=by
 cases o with
 |bW=>trivial
 |cells T cs=>obtain⟨us,h1,h2,aJ⟩:=h;exact⟨us,h1,h2.jK a_,aJ⟩
 |bu T cs=>exact h
 |bl T k m=>exact h
 |hf T k m cs=>exact h
 |gH T cs=>exact h
 |nn c bH kv=>obtain⟨us,h1,h2,aJ⟩:=h;exact⟨us,h1,h2,aJ.jK a_⟩
 |loop st dJ f N fr ps a b k=>obtain⟨f0,tm,h1,h2,aJ,bp⟩:=h;simp only[aG.br,ea]at a_;refine⟨f0,tm,h1,h2,(vp (uu a_.1)).2 aJ,λt d az=>?_⟩;obtain⟨v,bg,aM⟩:=bp t d az;exact⟨v,bg,cD.jK (Wv a_.2 az) aM⟩
 |cr b=>exact h
 |pw k=>obtain⟨a,b,h1,aJ⟩:=h;exact⟨a,b,h1,(vp (uu a_)).2 aJ⟩
 |mP dj kv=>exact h
 |kg k A=>exact⟨(vp (uu a_)).2 h.1,h.2⟩
 |mq ds vs=>exact cU.jK a_ h
theorem b'.jK{cn:bb}{b0:b_}{bS:List aG}(h:b' cn b0 bS g w H)(bw:bS.length<=i)(a_:H.all (aG.br i)=ah):b' cn b0 bS g w (H.set i .bW):=by
 have pD:∀j b,own g (H.set i .bW) j b->own g H j b:=λj b a1=>by
  by_cases e:j=i
  ·subst e;unfold own at a1;by_cases aK:j<H.length
   ·rw[jH aK]at a1;exact a1.elim
   ·rw[List.getElem?_eq_none (by simp;omega)]at a1;exact a1.elim
  ·unfold own at a1⊢;rw[jG e]at a1;exact a1
 refine⟨h.os,h.tape,h.output,h.mT,⟨h.a'.size,h.a'.E,h.a'.cell,λj ae=>?_,λt m ai=>?_⟩,h.iQ,λj o ae=>?_,λj k b h1 h2=>h.kh j k b (pD _ _ h1) (pD _ _ h2),λj b h1=>h.px j b (pD _ _ h1)⟩
 ·have:=Ie ae;exact⟨(vp (by omega)).2 (h.a'.ct j ae).1,(h.a'.ct j ae).2⟩
 ·have:=Oi ai;obtain⟨m',a,b⟩:=h.a'.bl t m ai;exact⟨m',by unfold eL;rw[jG (by omega)];exact a,b⟩
 ·by_cases e:j=i
  ·subst e;have aK:j<H.length:=by have:=(cz.1 ae).1;simpa using this
   rw[jH aK]at ae;cases ae;trivial
  ·rw[jG e]at ae;exact(h.ec j o ae).jK (kj.1 a_ o (List.mem_of_getElem? ae))
end
def vq:List aG->List Nat->List aG
 |H,[]=>H
 |H,i::is=>vq (H.set i .bW) is
def vr(k0:Nat)(l:bY):List aG->List Nat->Bool
 |_,[]=>ah
 |H,i::is=>ev k0 i&&H.all (aG.br i)&&l.all (λq=>q.2.br i)&&vr k0 l (H.set i .bW) is
theorem Ww:∀{l:bY}{t:Nat}{d:V},cR l t=D d->∃s,(s,d)∈l
 |[],t,d,h=>by simp[cR]at h
 |(s,u)::l,t,d,h=>by
  simp only[cR]at h;cases aB:d' s t with
  |true=>rw[aB]at h;simp at h;subst h;exact⟨s,by simp⟩
  |false=>rw[aB]at h;simp at h;obtain⟨s',aV⟩:=Ww h;exact⟨s',by simp[aV]⟩
theorem hM.jK{X:hY}{g:b_}{w:bb}{H:List aG}{l:bY}{a:cO}{i:Nat}(h:hM X g w H l a)(a_:l.all (λq=>q.2.br i)=ah):hM X g w (H.set i .bW) l a:=
 ⟨h.1,h.2.1,λt d ai=>by obtain⟨v,h1,h2⟩:=h.2.2 t d ai;obtain⟨s,aV⟩:=Ww ai;exact⟨v,h1,h2.jK (kj.1 a_ _ aV)⟩⟩
theorem OX{cn:bb}{b0:b_}{bS:List aG}{X:hY}{g:b_}{w:bb}{l:bY}{a:cO}:∀{is:List Nat}{H:List aG},b' cn b0 bS g w H->hM X g w H l a->vr bS.length l H is=ah->b' cn b0 bS g w (vq H is)/\hM X g w (vq H is) l a
 |[],H,aM,a9,_=>⟨aM,a9⟩
 |i::is,H,aM,a9,a_=>by simp only[vr,ea,Nat.ble_eq]at a_;obtain⟨⟨⟨h1,h2⟩,aJ⟩,bp⟩:=a_;exact OX (is:=is) (H:=H.set i .bW) (aM.jK h1 h2) (a9.jK aJ) bp
section
variable {Y : gj} {Q : cN -> cO -> bb -> Prop} {l : bY} {H : List aG} {R : Type} {m : Option R} {T : R -> Prop}
theorem bZ.drop{e:cN}{l':bY}(is:List Nat)(aV:dM l l')(a_:vr Y.bS.length l' H is=ah)(h:bZ Y Q e l' (vq H is) m T):bZ Y Q e l H m T:=λq g w a aM a9=>by obtain⟨h1,h2⟩:=OX aM (a9.sub aV) a_;exact h q g w a h1 h2
theorem bZ.af1{β:Type}{dG:β->bY}{G:β->List aG}{k:β->Option R}{e:cN}(j:∀l H b,dM l (dG b)->H=G b->bZ Y Q e l H (k b) T)(is:List Nat)(b:β)(aV:dM l (dG b))(a_:vr Y.bS.length (dG b) H is=ah)(iD:vq H is=G b):bZ Y Q e l H (k b) T:=.drop is aV a_ (j _ _ b .gp iD)
theorem bZ.af2{bX α:Type}{dG:α->bY}{G:α->List aG}{body:bX->Option (bX ⊕ R)}{j1:α->bX}{n:Nat}{s:bX}(is:List Nat)(x:α)(ar:j1 x=s)(aV:dM l (dG x))(a_:vr Y.bS.length (dG x) H is=ah)(iD:vq H is=G x):
  bZ Y (uo Y j1 dG G body T n Q) .normal l H (D (.inl s)) (um body T n):=.drop is aV a_ (.next x ar .gp iD)
end
end
section
variable {Y : gj} {Q : cN -> cO -> bb -> Prop} {l : bY} {H : List aG} {R : Type} {m : Option R} {T : R -> Prop} {ops : Array bU} {os rest : List bU} {acc : List (List Nat × List Nat)} {t : Nat} {ty : b3} {pos : String} {cx : Array ie} {eF : Option (Nat × Bool)} {dst : Option Tmp}
variable {x:bM}
theorem bI.dz{d:V}(h:bO l x=D d)(az:fV t Y.X.N=ah)(k:bI Y ops Q rest ((t,d)::l) H m T):bI Y ops Q ({dst:=D t,op:=.assign x,type:=ty,pos:=pos,after:=cx,guard:=aF}::rest) l H m T:=λc9=>eo.aC (dst:=D t) (N5 h) e6 az (k c9)
variable {i off:Nat}
theorem bI.cF(ar:bO l x=D (.aR i off))(az:fV t Y.X.N=ah)(k:bI Y ops Q rest ((t,.aR i off)::l) H m T):bI Y ops Q ({dst:=D t,op:=.nilCheck x,type:=ty,pos:=pos,after:=cx,guard:=aF}::rest) l H m T:=λc9=>eo.aC (dst:=D t) (H6 ar) e6 az (k c9)
theorem j0.cF(ar:bO l x=D (.aR i off))(b2:iY os l eF)(k:j0 Y Q os rest ((t,.aR i off)::l) H (acc++[([],[])]) m T):j0 Y Q os ({dst:=D t,op:=.nilCheck x,type:=ty,pos:=pos,after:=cx,guard:=eF}::rest) l H acc m T:=λc9=>iv.mw (dst:=D t) (H6 ar) e6 b2 (k c9)
variable {dF b1 n:Nat}{y:bM}
theorem bI.st{cs:List V}{d:V}(a_:∀w,(sizeOf b1).run Y.X.P w=.ok n w)(ar:bO l x=D (.aR i off))(bh:bO l y=D d)(ao:H[i]? =D (.cells dF cs))(h1:d.cells.all V.one=ah)(qd:d.cells.length=n)(hle:ev (off+n) cs.length=ah)(k:bI Y ops Q rest (l) (H.set i (.cells dF (oL cs off d.cells))) m T):bI Y ops Q ({dst:=aF,op:=.store b1 x y,type:=ty,pos:=pos,after:=cx,guard:=aF}::rest) l H m T:=λc9=>eo.aC (dst:=aF) (yT a_ ar bh h1 qd hle) (da ao) rfl (k c9)
theorem j0.st{cs:List V}{d:V}(a_:∀w,(sizeOf b1).run Y.X.P w=.ok n w)(ar:bO l x=D (.aR i off))(bh:bO l y=D d)(ao:H[i]? =D (.cells dF cs))(h1:d.cells.all V.one=ah)(qd:d.cells.length=n)(hle:ev (off+n) cs.length=ah)(b2:iY os l eF)(k:j0 Y Q os rest (l) (H.set i (.cells dF (oL cs off d.cells))) (acc++[([i],[i])]) m T):j0 Y Q os ({dst:=aF,op:=.store b1 x y,type:=ty,pos:=pos,after:=cx,guard:=eF}::rest) l H acc m T:=λc9=>iv.mw (dst:=aF) (yT a_ ar bh h1 qd hle) (da ao) b2 (k c9)
theorem bI.aL{α:Type}{b1 E k:Nat}{e:α->List P}{x y:bM}{K:hv}{j:Int}{d:V}{xs:List α}{f:α->Option R}(cc:∀w,(underlying b1).run Y.X.P w=.ok (.slice E) w)(aS:∀w,(sizeOf E).run Y.X.P w=.ok k w)(ar:bO l x=D d)(bh:bO l y=D (.p (.v (.int K j))))(aV:V.lZ k e d xs)(au:∀x,(e x).length=k)(az:fV t Y.X.N=ah)(k:∀z:α,bI Y ops Q rest ((t,.bA (e z))::l) H (f z) T):bI Y ops Q ({dst:=D t,op:=.indexAddr b1 x y,type:=ty,pos:=pos,after:=cx,guard:=aF}::rest) l H ((aL xs j).bind f) T:=λc9=>by
 obtain⟨z,h1,h2⟩:=c9.bind
 skip
 exact eo.aC (dst:=D t) (Iy cc aS ar bh aV au (w3 h1).1 (w3 h1).2) e6 az (k _ h2)
theorem j0.aL{α:Type}{b1 E k:Nat}{e:α->List P}{x y:bM}{K:hv}{j:Int}{d:V}{xs:List α}{f:α->Option R}(cc:∀w,(underlying b1).run Y.X.P w=.ok (.slice E) w)(aS:∀w,(sizeOf E).run Y.X.P w=.ok k w)(ar:bO l x=D d)(bh:bO l y=D (.p (.v (.int K j))))(aV:V.lZ k e d xs)(au:∀x,(e x).length=k)(b2:iY os l eF)(k:∀z:α,j0 Y Q os rest ((t,.bA (e z))::l) H (acc++[([],[])]) (f z) T):j0 Y Q os ({dst:=D t,op:=.indexAddr b1 x y,type:=ty,pos:=pos,after:=cx,guard:=eF}::rest) l H acc ((aL xs j).bind f) T:=λc9=>by
 obtain⟨z,h1,h2⟩:=c9.bind
 skip
 exact iv.mw (dst:=D t) (Iy cc aS ar bh aV au (w3 h1).1 (w3 h1).2) e6 b2 (k _ h2)
theorem bI.eR{α:Type}{b1 bA k bytes i v:Nat}{e:α->List P}{z:a4}{s x:bM}{xs cX:List α}{d:V}{f:List α->Option R}(ai:Y.X.P.underlying b1=D (.slice bA))(fJ:(Y.X.P.info? bA).map (λi=>(i.zero,i.size,i.bytes))=D (D z,k,bytes))(bj:z.cells.size=k)(au:0<k)(aB:ev bytes 128=ah)(aV:bO l s=D (cT k e xs i v))(ar:bO l x=D d)(y9:V.lZ k e d cX)(a1:∀y,(e y).all P.one=ah)(ao:H[i]? =D (.bl bA k v))(az:fV t Y.X.N=ah)(k:∀z:List α,bI Y ops Q rest ((t,cT k e z i (v+1))::l) (H.set i (.bl bA k (v+1))) (f z) T):bI Y ops Q ({dst:=D t,op:=.call {callee:=.builtin .append,args:=#[s,x],argTypes:=#[b1,b1]},type:=b1,pos:=pos,after:=cx,guard:=aF}::rest) l H ((eR xs cX).bind f) T:=λc9=>by obtain⟨z,h1,h2⟩:=c9.bind;obtain⟨aJ,rfl⟩:=ID h1;exact eo.aC (dst:=D t) (Iz ai fJ bj au aV ar y9 a1 (by omega) (IE aJ aB)) (da ao) az (k _ h2)
theorem j0.eR{α:Type}{b1 bA k bytes i v:Nat}{e:α->List P}{z:a4}{s x:bM}{xs cX:List α}{d:V}{f:List α->Option R}(ai:Y.X.P.underlying b1=D (.slice bA))(fJ:(Y.X.P.info? bA).map (λi=>(i.zero,i.size,i.bytes))=D (D z,k,bytes))(bj:z.cells.size=k)(au:0<k)(aB:ev bytes 128=ah)(aV:bO l s=D (cT k e xs i v))(ar:bO l x=D d)(y9:V.lZ k e d cX)(a1:∀y,(e y).all P.one=ah)(ao:H[i]? =D (.bl bA k v))(b2:iY os l eF)(k:∀z:List α,j0 Y Q os rest ((t,cT k e z i (v+1))::l) (H.set i (.bl bA k (v+1))) (acc++[([i],[i])]) (f z) T):j0 Y Q os ({dst:=D t,op:=.call {callee:=.builtin .append,args:=#[s,x],argTypes:=#[b1,b1]},type:=b1,pos:=pos,after:=cx,guard:=eF}::rest) l H acc ((eR xs cX).bind f) T:=λc9=>by obtain⟨z,h1,h2⟩:=c9.bind;obtain⟨aJ,rfl⟩:=ID h1;exact iv.mw (dst:=D t) (Iz ai fJ bj au aV ar y9 a1 (by omega) (IE aJ aB)) (da ao) b2 (k _ h2)
variable {bA:Nat}{parts:List (Nat×bM)}{z:a4}{α:Type}
theorem bI.bH {k:Nat}{ds:List V}(xs:List α)(e:α->List P)(ai:∀w,(underlying b1).run Y.X.P w=.ok (.slice bA) w)(au:∀w,(sizeOf bA).run Y.X.P w=.ok k w)(bj:∀w,(zeroValue bA).run Y.X.P w=.ok z w)(ar:lW l (parts.map (·.2))=D ds)(lJ:parts=(parts.map (·.2)).zipIdx.map (λp=>(p.2,p.1)))(a1:(ds.all λd=>d.cells.all V.one&&d' d.cells.length k)=ah)(e9:ds.flatMap V.cells=(xs.flatMap e).map .p)(a_:ds.length=xs.length)(ld:xs.length=n)(hle:ev (xs.length*k) 16777216=ah)(az:fV t Y.X.N=ah)(k:bI Y ops Q rest ((t,bT k e xs)::l) H m T):bI Y ops Q ({dst:=D t,op:=.buildSlice b1 n parts.toArray,type:=ty,pos:=pos,after:=cx,guard:=aF}::rest) l H m T:=λc9=>eo.aC (dst:=D t) (OU xs e ai au bj ar lJ a1 e9 a_ ld hle) e6 az (k c9)
theorem bI.af3 {k:Nat}{ds:List V}(i:Nat)(xs:List α)(e:α->List P)(ai:∀w,(underlying b1).run Y.X.P w=.ok (.slice bA) w)(au:∀w,(sizeOf bA).run Y.X.P w=.ok k w)(bj:∀w,(zeroValue bA).run Y.X.P w=.ok z w)(ar:lW l (parts.map (·.2))=D ds)(lJ:parts=(parts.map (·.2)).zipIdx.map (λp=>(p.2,p.1)))(a1:(ds.all λd=>d.cells.all V.one&&d' d.cells.length k)=ah)(e9:ds.flatMap V.cells=(xs.flatMap e).map .p)(a_:ds.length=xs.length)(ld:xs.length=n)(hle:ev (xs.length*k) 16777216=ah)(hm:ev xs.length 16777216=ah)(ao:H[i]? =D .bW)(az:fV t Y.X.N=ah)(k:bI Y ops Q rest ((t,cT k e xs i 0)::l) (H.set i (.bl bA k 0)) m T):bI Y ops Q ({dst:=D t,op:=.buildSlice b1 n parts.toArray,type:=ty,pos:=pos,after:=cx,guard:=aF}::rest) l H m T:=λc9=>eo.aC (dst:=D t) (Wr (i:=i) xs e ai au bj ar lJ a1 e9 a_ ld hle hm) (da ao) az (k c9)
theorem bI.Wx {S f:Nat}{cs:List V}{d:V}(a8:∀(cs:List a4)(v:a4)(w:bb),cs[off]? =D v->(Instr.field S (.agg cs.toArray) f).run Y.X.P w=.ok v w)(ar:bO l x=D (.agg cs))(h1:cs[off]? =D d)(az:fV t Y.X.N=ah)(k:bI Y ops Q rest ((t,d)::l) H m T):bI Y ops Q ({dst:=D t,op:=.field S x f,type:=ty,pos:=pos,after:=cx,guard:=aF}::rest) l H m T:=λc9=>eo.aC (dst:=D t) (OH a8 ar h1) e6 az (k c9)
end
def gB(s:ByteArray)(j:Int):Option Int:=if 0<=j then(s[j.toNat]?).map (λb=>(b.toNat:Int))else aF
def OY(s:ByteArray)(l h:Nat):ByteArray:=⟨⟨(s.data.toList.drop l).take (h-l)⟩⟩
theorem Wy(s:ByteArray)(l h:Nat):OY s l h=s.extract l h:=by unfold OY;apply ByteArray.ext;rw[ByteArray.data_extract];apply Array.ext';simp[List.extract_eq_take_drop]
def hg(s:ByteArray)(l h:Int):Option ByteArray:=if 0<=l/\l<=h/\h<=s.size then D (OY s l.toNat h.toNat)else aF
def nr(a b:ByteArray):Option ByteArray:=if a.size+b.size<=1099511627776 then D (a++b)else aF
def hG{α:Type}(xs:List α)(l h:Int):Option (List α):=if 0<=l/\l<=h/\h<=xs.length then D ((xs.drop l.toNat).take (h.toNat-l.toNat))else aF
variable {z:ByteArray}
theorem af4 {a b:ByteArray}(h:nr a b=D z):a.size+b.size<=1099511627776/\z=a++b:=by
 unfold nr at h;split at h
 ·cases h;exact⟨by assumption,rfl⟩
 ·cases h
variable {h l:Int}
theorem af5 {s:ByteArray}(e:hg s l h=D z):(0<=l/\l<=h/\h<=s.size)/\z=s.extract l.toNat h.toNat:=by
 unfold hg at e;split at e
 ·cases e;exact⟨by assumption,Wy _ _ _⟩
 ·cases e
variable {α:Type}{xs e':List α}
theorem af6(e:hG xs l h=D e'):(0<=l/\l<=h/\h<=xs.length)/\e'=(xs.drop l.toNat).take (h.toNat-l.toNat):=by
 unfold hG at e;split at e
 ·cases e;exact⟨by assumption,rfl⟩
 ·cases e
def uv{α:Type}(xs:List α)(l h q:Int):Option (List α):=if h<=q/\q<=xs.length then hG xs l h else aF
theorem IG {q:Int}(e:uv xs l h q=D e'):(h<=q/\q<=xs.length)/\hG xs l h=D e':=by
 unfold uv at e;split at e
 ·exact⟨by assumption,e⟩
 ·cases e
theorem af7{s:ByteArray}{j z:Int}(h:gB s j=D z):0<=j/\∃b:UInt8,s[j.toNat]? =D b/\z=b.toNat:=by
 unfold gB at h;split at h
 ·cases aB:s[j.toNat]? with
  |none=>rw[aB]at h;cases h
  |some b=>rw[aB]at h;cases h;exact⟨by assumption,b,rfl,rfl⟩
 ·cases h
theorem Wz(a b:ByteArray):(a.toList==b.toList)=decide (a=b):=by
 rw[ByteArray.toList_eq,ByteArray.toList_eq];by_cases e:a=b
 ·subst e;simp
 ·simp only[e,decide_false];refine beq_eq_false_iff_ne.2 λh=>e (ByteArray.ext (Array.toList_inj.1 h))
theorem WA{α:Type}{k:Nat}{e:α->List P}(au:∀x,(e x).length=k):∀(xs:List α)(n:Nat),(xs.flatMap e).drop (n*k)=(xs.drop n).flatMap e
 |xs,0=>by simp
 |[],n+1=>by simp
 |x::xs,n+1=>by rw[iX,Wo,<-WA au xs n,jD,y6,qX,<-List.drop_drop];congr 1;rw[<-au x];simp
theorem WB{α:Type}{k:Nat}{e:α->List P}(au:∀x,(e x).length=k):∀(xs:List α)(n:Nat),(xs.flatMap e).take (n*k)=(xs.take n).flatMap e
 |xs,0=>by simp
 |[],n+1=>by simp
 |x::xs,n+1=>by rw[iX,EH,iX,<-WB au xs n,jD,y6,qX,List.take_append,au x,List.take_of_length_le (by rw[au];omega),show k+n*k-k=n*k by omega]
theorem OZ{k:Nat}{e:α->List P}(au:∀x,(e x).length=k)(xs:List α):(xs.flatMap e).length=xs.length*k:=by
 induction xs with
 |nil=>simp
 |cons x xs bB=>rw[iX,List.length_append,bB,au,List.length_cons,jD];omega
section
variable {av : cj} {ty : b3} {ρ : bM -> Option V}
section
variable {T b1 : b3} {x y : bM} {a b : ByteArray}
theorem af8(ar:ρ x=D (cG a))(bh:ρ y=D (cG b)):bE av (.binOp .eql T x y b1) ty ρ [] [] (bs (decide (a=b))):=
 kS ar bh λw'=>by simp[ck,NW,ce,binOp,OS,Wz]
theorem af9(ar:ρ x=D (cG a))(bh:ρ y=D (cG b)):bE av (.binOp .neq T x y b1) ty ρ [] [] (bs (!decide (a=b))):=
 kS ar bh λw'=>by simp[ck,NW,ce,binOp,OS,Wz]
theorem aga(ar:ρ x=D (cG a))(bh:ρ y=D (cG b))(hle:a.size+b.size<=1099511627776):bE av (.binOp .add T x y b1) ty ρ [] [] (cG (a++b)):=
 kS ar bh λw'=>by
  have h1:¬(((a.size+b.size:Nat):Int)>IntKind.i64.max):=by have:IntKind.i64.max=9223372036854775807:=rfl;rw[this];omega
  simp only[ck,NW,ce,binOp,OS,if_neg h1,it]
end
variable {T:b3}{x:bM}
theorem agb{s:ByteArray}(cc:∀w,(underlying T).run av w=.ok .string w)(ar:ρ x=D (cG s)):bE av (.call {callee:=.builtin .len,args:=#[x],argTypes:=#[T]}) ty ρ [] [] (aI s.size):=.pure λg w H e q aE _ _ h=>by have a5:=(h x (by simp[c_,iZ]) _ ar).g4;exact⟨_,by unfold execOp;rw[aE];simp[resolve,invoke,builtin,Builtin.len_,a5,cc,ck,ce,goInt],.v _⟩
theorem agc {y:bM}{s:ByteArray}{K:hv}{j z:Int}(cc:∀w,(underlying T).run av w=.ok .string w)(ar:ρ x=D (cG s))(bh:ρ y=D (.p (.v (.int K j))))(h:gB s j=D z):bE av (.index T x y) ty ρ [] [] (fw z):=.plain λw e o a1 _ a8=>by have a5:=a8 x (by simp[c_]) _ ar;have bk:=a8 y (by simp[c_]) _ bh;obtain⟨bw,b,aB,rfl⟩:=af7 h;unfold execOp;rw[a1];simp[a5,bk,Instr.index,asIntOf,cc,ck,ce,bw,aB]
def cI(ρ:bM->Option V):Option bM->Int->Prop
 |some x,n=>∃K,ρ x=D (.p (.v (.int K n)))
 |none,_=>True
variable {h:Int}{ao:Option bM}{l:Int}{lo:Option bM}
theorem agd{s z:ByteArray}(cc:∀w,(underlying T).run av w=.ok .string w)(ar:ρ x=D (cG s))(aK:∀y,lo=D y->∃K,ρ y=D (.p (.v (.int K l))))(lh:lo=aF->l=0)(fG:∀y,ao=D y->∃K,ρ y=D (.p (.v (.int K h))))(qi:ao=aF->h=s.size)(e:hg s l h=D z):
  bE av (.slice T x lo ao aF) ty ρ [] [] (cG z):=.plain λw bo o a1 _ a8=>by
 have a5:=a8 x (by simp[c_]) _ ar;obtain⟨⟨h1,h2,aJ⟩,rfl⟩:=af5 e;have g6:∀y,lo=D y->∃K,bo y=.int K l:=λy bh=>by obtain⟨K,bV⟩:=aK y bh;exact⟨K,a8 y (by simp[c_,bh]) _ bV⟩
 have jZ:∀y,ao=D y->∃K,bo y=.int K h:=λy bh=>by obtain⟨K,bV⟩:=fG y bh;exact⟨K,a8 y (by simp[c_,bh]) _ bV⟩
 have cy:(h.toNat:Int)=h:=IC (by omega);unfold execOp;rw[a1];cases lo with
 |none=>
  have:=lh rfl;subst this;cases ao with
  |none=>have:=qi rfl;subst this;simp[a5,vm,vn,qg,cc,ck,ce]
  |some y=>obtain⟨K,bV⟩:=jZ y rfl;simp[a5,bV,vm,vn,qg,n7,asIntOf,cc,ck,ce,h2,aJ]
 |some mu=>
  obtain⟨mX,lK⟩:=g6 mu rfl;cases ao with
  |none=>have:=qi rfl;subst this;simp[a5,lK,vm,vn,qg,n7,asIntOf,cc,ck,ce,h1,h2]
  |some y=>obtain⟨K,bV⟩:=jZ y rfl;simp[a5,bV,lK,vm,vn,qg,n7,asIntOf,cc,ck,ce,h1,h2,aJ,show(0:Int)<=h by omega,cy]
theorem WC {fR:Option bM}{bo:bM->a4}{n cap l h q:Nat}(aK:∀y,lo=D y->∃K,bo y=.int K l)(lh:lo=aF->l=0)(fG:∀y,ao=D y->∃K,bo y=.int K h)(qi:ao=aF->h=n/\fR=aF)(hm:∀y,fR=D y->∃K,bo y=.int K q)(qj:fR=aF->q=cap)
  (h1:l<=h) (h2:h<=q) (aJ:q<=cap) (w:bb):(qg ah n cap (lo.map bo) (ao.map bo) (fR.map bo)).run av w=.ok (l,h,q) w:=by
 unfold qg;cases fR with
 |none=>
  have:=qj rfl;subst this;cases ao with
  |none=>
   obtain⟨rfl,_⟩:=qi rfl;cases lo with
   |none=>have:=lh rfl;subst this;simp[ck,ce]
   |some x=>obtain⟨K,bV⟩:=aK x rfl;simp[bV,n7,asIntOf,ck,ce,h1]
  |some y=>
   obtain⟨K,bV⟩:=fG y rfl;cases lo with
   |none=>have:=lh rfl;subst this;simp[bV,n7,asIntOf,ck,ce,h2]
   |some x=>obtain⟨mX,lK⟩:=aK x rfl;simp[bV,lK,n7,asIntOf,ck,ce,h1,h2]
 |some z=>
  obtain⟨dL,bq⟩:=hm z rfl;cases ao with
  |none=>exact absurd (qi rfl).2 (by simp)
  |some y=>
   obtain⟨K,bV⟩:=fG y rfl;cases lo with
   |none=>have:=lh rfl;subst this;simp[bq,bV,n7,asIntOf,ck,ce,h2,aJ]
   |some x=>obtain⟨mX,lK⟩:=aK x rfl;simp[bq,bV,lK,n7,asIntOf,ck,ce,h1,h2,aJ]
theorem O0{α:Type}{T E k:Nat}{e:α->List P} {fR:Option bM}{d:V}{xs e':List α} {q:Int}(cc:∀w,(underlying T).run av w=.ok (.slice E) w)(aS:∀w,(sizeOf E).run av w=.ok k w)(ar:ρ x=D d)(az:V.lZ k e d xs)(au:∀x,(e x).length=k)
  (aK:∀y,lo=D y->∃K,ρ y=D (.p (.v (.int K l)))) (lh:lo=aF->l=0) (fG:∀y,ao=D y->∃K,ρ y=D (.p (.v (.int K h)))) (qi:ao=aF->h=xs.length/\fR=aF) (hm:∀y,fR=D y->∃K,ρ y=D (.p (.v (.int K q)))) (aE:fR≠aF->h<=q/\q<=xs.length) (hd:hG xs l h=D e'):
  bE av (.slice T x lo ao fR) ty ρ [] [] (bT k e e'):=.pure λg w H bo o a1 _ _ a8=>by
 have a5:=(a8 x (by simp[c_]) _ ar).pB az;obtain⟨⟨h1,h2,aJ⟩,rfl⟩:=af6 hd;have t1:(l.toNat:Int)=l:=IC h1;have t2:(h.toNat:Int)=h:=IC (by omega);have g6:∀y,lo=D y->∃K,bo y=.int K (l.toNat:Int):=λy bh=>by obtain⟨K,bV⟩:=aK y bh;exact⟨K,by rw[t1];exact(a8 y (by simp[c_,bh]) _ bV).g4⟩
 have jZ:∀y,ao=D y->∃K,bo y=.int K (h.toNat:Int):=λy bh=>by obtain⟨K,bV⟩:=fG y bh;exact⟨K,by rw[t2];exact(a8 y (by simp[c_,bh]) _ bV).g4⟩
 have key:∀cap:Nat,xs.length<=cap->∃m:Nat,h.toNat<=m/\m<=cap/\∀w,(qg ah xs.length cap (lo.map bo) (ao.map bo) (fR.map bo)).run av w=.ok (l.toNat,h.toNat,m) w:=λcap aP=>by
  cases pz:fR with
  |none=>refine⟨cap,by omega,b5 _,λw=>?_⟩;exact WC (q:=cap) g6 (λq=>by have:=lh q;omega) jZ (λq=>⟨by have:=(qi q).1;omega,rfl⟩) (λy bh=>by cases bh) (λ_=>rfl) (by omega) (by omega) (b5 _) w
  |some z=>have n_:=aE (by rw[pz];simp);refine⟨q.toNat,by omega,by omega,λw=>?_⟩;refine WC (q:=q.toNat) g6 (λq=>by have:=lh q;omega) jZ (λfs=>by have:=(qi fs).2;rw[pz]at this;cases this) (λy bh=>?_) (λq=>by cases q) (by omega) (by omega) (by omega) w;obtain⟨K,bV⟩:=hm y (by rw[pz];exact bh);have:=(a8 y (by simp[c_,pz]at bh⊢;simp[bh]) _ bV).g4;exact⟨K,by rw[this];congr 1;omega⟩
 rcases a5.rR with⟨⟨oH,he⟩,a_,_⟩|⟨b,aY,cap,us,he,aP,wK,aB,hlen,rU,hu⟩
 ·have mY:xs=[]:=List.eq_nil_of_length_eq_zero a_;obtain⟨m,mR,m2,w4⟩:=key 0 (by omega);have jr:l.toNat=0:=by omega
  have bw:h.toNat=0:=by omega
  have vt:m=0:=by omega
  refine⟨.slice oH 0 0,?_,?_⟩
  ·unfold execOp;rw[a1];subst mY;simp only[List.length_nil,jr,bw,vt]at w4;simp[he,vm,vn,cc,aS,w4,ck,ce]
  ·subst mY;simp only[Wp,List.take_nil];cases oH
   ·exact .p .nil
   ·exact .p .vh
 ·obtain⟨m,mR,m2,w4⟩:=key cap aP;refine⟨.slice (D (if m=l.toNat then⟨b,aY,aF⟩else(Addr.mk b aY aF).add (l.toNat*k))) (h.toNat-l.toNat) (m-l.toNat),?_,?_⟩
  ·unfold execOp;rw[a1];have O1:(if m=l.toNat then D (Addr.mk b aY aF)else(D (Addr.mk b aY aF)).map (·.add (l.toNat*k)))=D (if m=l.toNat then⟨b,aY,aF⟩else(Addr.mk b aY aF).add (l.toNat*k)):=by split<;>rfl
   simp only[he,vm,vn,cc,aS,w4,ck,ce,it,O1]
  ·have hle:h.toNat<=xs.length:=by omega
   have WD:((xs.drop l.toNat).take (h.toNat-l.toNat)).length=h.toNat-l.toNat:=by simp;omega
   have oT:((xs.drop l.toNat).take (h.toNat-l.toNat)).flatMap e=((xs.flatMap e).drop (l.toNat*k)).take ((h.toNat-l.toNat)*k):=by rw[WA au,WB au]
   have age:∃IH,(if m=l.toNat then(Addr.mk b aY aF)else(Addr.mk b aY aF).add (l.toNat*k))=⟨b,IH,aF⟩/\(h.toNat=l.toNat/\IH=aY\/IH=aY+l.toNat*k):=by
    split
    ·exact⟨aY,rfl,.inl ⟨by omega,rfl⟩⟩
    ·exact⟨aY+l.toNat*k,by rw[qb],.inr rfl⟩
   obtain⟨IH,rS,WE⟩:=age;rw[rS];have hmul:h.toNat*k<=xs.length*k:=Nat.mul_le_mul_right k hle;have at2:l.toNat*k+(h.toNat-l.toNat)*k=h.toNat*k:=by rw[<-jD];congr 1;omega
   refine .p ?_;show hL g.E w (.dI k _ _) _;rw[WD];refine e_.dI (us:=(us.drop (l.toNat*k)).take ((h.toNat-l.toNat)*k)) ?_ ?_ (by omega) ?_ aB λj u ae=>?_
   ·rw[oT];exact(rU.drop _).take _
   ·have gX:=rU.1;have gO:=hlen;first|rw[oT,jf,qW]|rw[jf,qW]
    omega
   ·rcases WE with⟨bj,n5⟩|n5
    ·rw[n5,bj,Wq,Be];omega
    ·rw[n5];omega
   ·rcases WE with⟨bj,n5⟩|n5
    ·rw[bj,Wq,Be,List.take_zero]at ae;cases ae
    ·rw[List.getElem?_take]at ae;split at ae
     ·rw[List.getElem?_drop]at ae;rw[n5,Nat.add_assoc];exact hu _ _ ae
     ·cases ae
theorem agf{k:hv}{n:Int}(ar:ρ x=D (.p (.v (.int k n)))):bE av (.unOp .neg T x) ty ρ [] [] (.p (.v (.int k (k.wrap (-n))))):=.plain λw e o a1 _ a8=>by have a5:=a8 x (by simp[c_]) _ ar;unfold execOp;rw[a1];simp[a5,Op.unary,IB,ck,ce]
end
section
variable {Y : gj} {Q : cN -> cO -> bb -> Prop} {l : bY} {H : List aG} {R : Type} {m : Option R} {T : R -> Prop} {ops : Array bU} {os rest : List bU} {acc : List (List Nat × List Nat)} {t : Nat} {ty : b3} {pos : String} {cx : Array ie} {eF : Option (Nat × Bool)} {dst : Option Tmp}
theorem bI.agh{α:Type}{b1 E k:Nat}{e:α->List P}{x lo ao fR:bM}{K mX agi:hv}{a b c:Int}{d:V}{xs:List α}{f:List α->Option R}(cc:∀w,(underlying b1).run Y.X.P w=.ok (.slice E) w)(aS:∀w,(sizeOf E).run Y.X.P w=.ok k w)(ar:bO l x=D d)(aV:V.lZ k e d xs)(au:∀x,(e x).length=k)(aK:bO l lo=D (.p (.v (.int K a))))(fG:bO l ao=D (.p (.v (.int mX b))))(hm:bO l fR=D (.p (.v (.int agi c))))(az:fV t Y.X.N=ah)(k:∀z:List α,bI Y ops Q rest ((t,bT k e z)::l) H (f z) T):bI Y ops Q ({dst:=D t,op:=.slice b1 x (D lo) (D ao) (D fR),type:=ty,pos:=pos,after:=cx,guard:=aF}::rest) l H ((uv xs a b c).bind f) T:=λc9=>by
 obtain⟨z,h1,h2⟩:=c9.bind
 skip
 exact eo.aC (dst:=D t) (O0 cc aS ar aV au (λy bh=>by cases bh;exact⟨_,aK⟩) (λq=>by cases q) (λy bh=>by cases bh;exact⟨_,fG⟩) (λq=>by cases q) (λy bh=>by cases bh;exact⟨_,hm⟩) (λ_=>(IG h1).1) (IG h1).2) e6 az (k _ h2)
end
inductive l1 (ρ:bM->Option V):List bM->List V->Prop
 |n:l1 ρ [] []
 |c {x:bM} {xs:List bM} {d cQ:V} {ds:List V} (h:ρ x=D d) (w:fY d cQ) (t:l1 ρ xs ds):l1 ρ (x::xs) (cQ::ds)
theorem l1.s{ρ:bM->Option V}{x:bM}{xs:List bM}{d:V}{ds:List V}(h:ρ x=D d)(t:l1 ρ xs ds):l1 ρ (x::xs) (d::ds):=.c h .gp t
variable {g:b_}{w:bb}
theorem l1.rv{H:List aG}{ρ:bM->Option V}{e:bM->a4}{args:List bM}{ds:List V}(h:l1 ρ args ds)(a8:∀x∈args,∀u,ρ x=D u->cD g w H u (e x)):cU g w H ds (args.map e):=by
 induction h with
 |n=>exact .nil
 |c h w t bB=>exact .cons (w _ _ _ _ (a8 _ (by simp) _ h)) (bB λy bh=>a8 y (by simp[bh]))
inductive BC:List V->List V->Prop
 |n:BC [] []
 |c {d cQ:V} {ds pH:List V} (w:fY d cQ) (t:BC ds pH):BC (d::ds) (cQ::pH)
theorem BC.rv{H:List aG}{cs cs':List V}(k:BC cs cs'){vs:List a4}(h:cU g w H cs vs):cU g w H cs' vs:=by
 induction k generalizing vs with
 |n=>exact h
 |c w t bB=>cases h with|cons h aV=>exact .cons (w _ _ _ _ h) (bB aV)
theorem fY.agg{cs cs':List V}(k:BC cs cs'):fY (.agg cs) (.agg cs'):=λ_ _ _ _ h=>by cases h with|agg h=>exact .agg (k.rv h)
section
variable {av : cj} {ty : b3} {ρ : bM -> Option V}
variable {args:List bM}{f:FuncId}{fr aU:List Nat}
theorem bE.WF{tys:Array b3}{ds:List V}{Hc dZ:List aG}{r:V}(aP:y4 av f ds Hc r dZ)(a8:∀args w,(callFunc f args).run av w=.ok (.enter f args) w)
  (oP:ρ (.func f)=D (.p (.v (.func (.func f) #[] #[])))) (i5:l1 ρ args (gb (bQ aU) ds)) (eE:pE Hc dZ ds aU fr):
  bE av (.call {callee:=.value (.func f),args:=args.toArray,argTypes:=tys}) ty ρ (ek (bQ aU) aU Hc++fr.map λj=>(j,.bW)) (ek (bQ (aU++fr)) (aU++fr) dZ) (r.dc (bQ (aU++fr))):=
 bE.Il aP eE λg w H e o a1 c1=>⟨args.map e,OB (c1 _ (by simp[c_,iZ]) _ oP).g4 a1 a8,i5.rv λx ar=>c1 x (by simp[c_,iZ,ar])⟩
variable {x:bM}
theorem bE.WG{cI en:List V}{tys:Array b3}{ds s3:List V}{Hc dZ:List aG}{r:V}(aP:y4 av f ds Hc r dZ)(a8:∀args w,(callFunc f args).run av w=.ok (.enter f args) w)
  (oP:ρ x=D (.fn (.func f) cI en)) (i5:l1 ρ args s3) (li:cI++s3++en=gb (bQ aU) ds) (eE:pE Hc dZ ds aU fr):
  bE av (.call {callee:=.value x,args:=args.toArray,argTypes:=tys}) ty ρ (ek (bQ aU) aU Hc++fr.map λj=>(j,.bW)) (ek (bQ (aU++fr)) (aU++fr) dZ) (r.dc (bQ (aU++fr))):=
 bE.Il aP eE λg w H e o a1 c1=>by
  have ar:=c1 x (by simp[c_,iZ]) _ oP;generalize he:e x=v at ar;cases ar with
  |fn h1 h2=>exact⟨_,V6 he a1 a8,li▸(h1.append (i5.rv λy bh=>c1 y (by simp[c_,iZ,bh]))).append h2⟩
theorem bE.II{tys:Array b3}{ds:List V}{Hc dZ:List aG}{r:V}(aP:y4 av f ds Hc r dZ)(a8:∀args w,(callFunc f args).run av w=.ok (.enter f args) w)
  (oP:ρ x=D (.p (.v (.func (.func f) #[] #[])))) (i5:l1 ρ args (gb (bQ aU) ds)) (eE:pE Hc dZ ds aU fr):
  bE av (.call {callee:=.value x,args:=args.toArray,argTypes:=tys}) ty ρ (ek (bQ aU) aU Hc++fr.map λj=>(j,.bW)) (ek (bQ (aU++fr)) (aU++fr) dZ) (r.dc (bQ (aU++fr))):=
 bE.Il aP eE λg w H e o a1 c1=>by have ar:=(c1 x (by simp[c_,iZ]) _ oP).g4;refine⟨[]++args.map e++[],V6 (us:=[]) (cs:=[]) (by simpa using ar) a1 a8,?_⟩;simpa using i5.rv λy bh=>c1 y (by simp[c_,iZ,bh])
end
section
variable {Y : gj} {Q : cN -> cO -> bb -> Prop} {l : bY} {H : List aG} {R : Type} {m : Option R} {T : R -> Prop} {ops : Array bU} {os rest : List bU} {acc : List (List Nat × List Nat)} {t : Nat} {ty : b3} {pos : String} {cx : Array ie} {eF : Option (Nat × Bool)} {dst : Option Tmp}
structure pI(av:cj)(g:FuncId)(ds:List V)(Hc:List aG)(r:V)(dZ:List aG)(aU fr:List Nat)(H:List aG)(d:V)(H2:List aG):Prop where
 aP:y4 av g ds Hc r dZ
 eE:pE Hc dZ ds aU fr
 aM:r.dc (bQ (aU++fr))=d
 jZ:dT H (ek (bQ (aU++fr)) (aU++fr) dZ)=H2
end
def mk{α:Type}(n:Int)(x:α):Option (List α):=if 0<=n/\n<=1099511627776 then D (dm n.toNat x)else aF
def fK{α:Type}(n:Nat)(xs:List α)(j:Int):Option {q:Nat×α // xs[q.1]? =D q.2}:=if 0<=j/\j<n then(match h:xs[j.toNat]? with|some x=>D ⟨(j.toNat,x),h⟩|none=>aF)else aF
def gH{α:Type}(n:Nat)(xs:List α):Option (List α):=if xs.length=n then D xs else aF
variable {n:Nat}{α:Type}{xs:List α}
theorem WH {z:List α}(h:gH n xs=D z):xs.length=n/\z=xs:=by
 unfold gH at h;split at h
 ·cases h;exact⟨by assumption,rfl⟩
 ·cases h
def fR(a b:Int):Int:=if b>a then b else a
def ih(a b:Int):Int:=if b<a then b else a
theorem WI{n:Int}{x:α}{z:List α}(h:mk n x=D z):(0<=n/\n<=1099511627776)/\z=dm n.toNat x:=by
 unfold mk at h;split at h
 ·cases h;exact⟨by assumption,rfl⟩
 ·cases h
theorem agj{j:Int}{z:{q:Nat×α // xs[q.1]? =D q.2}}(h:fK n xs j=D z):0<=j/\j.toNat<n/\j.toNat=z.1.1:=by
 unfold fK at h;split at h
 ·rename_i ae;refine⟨ae.1,by omega,?_⟩;split at h
  ·cases h;rfl
  ·cases h
 ·cases h
theorem r3{e:α->List P}{c:α->P}(he:∀x,e x=[c x])(xs:List α):xs.flatMap e=xs.map c:=by
 induction xs with
 |nil=>rfl
 |cons x xs bB=>rw[iX,he,bB];rfl
section
variable {av : cj} {ty : b3} {ρ : bM -> Option V}
variable {K:hv}{bytes:Nat}{α:Type}{c:α->P}{i t:Nat}{x:bM}{er:α}
theorem agk {e:Nat}{z:a4}{n:Int}(ai:av.underlying t=D (.slice e))(ao:(av.info? e).map (λi=>(i.zero,i.size,i.bytes))=D (D z,1,bytes))(bj:z.cells=#[z])(ar:ρ x=D (.p (.v (.int K n))))(aB:ev bytes 128=ah)
  (a_:0<=n/\n<=1099511627776) (bw:∀E w,hL E w (c er) z):bE av (.makeSlice t x x) ty ρ [(i,.bW)] [(i,.bu e ((dm n.toNat er).map c))] (.dX i 0 n.toNat n.toNat):=λg w H bo o hE _ aM dY h=>by
 have a5:=(h x (by simp[c_]) _ ar).g4;have az:=dY.one;obtain⟨q,ju,Bc,ub,Bd⟩:∃i,av.info? e=D i/\i.zero=D z/\i.size=1/\i.bytes=bytes:=by
  cases ar:av.info? e with
  |none=>rw[ar]at ao;cases ao
  |some i=>rw[ar]at ao;simp only[Option.map_some,hX,Prod.mk.injEq]at ao;exact⟨i,rfl,ao.1,ao.2.1,ao.2.2⟩
 have qc:bytes*n.toNat<=281474976710656:=by
  have:=lI aB
  calc bytes*n.toNat<=128*1099511627776:=Bz this (by omega)
   _<=281474976710656:=by decide
 have sT:((n.toNat:Nat):Int)=n:=IC a_.1;have q3:=run_make (P:=av) w t e q z ai ju Bc K K (n.toNat:Int) (n.toNat:Int) (by omega) (Int.le_refl _) (by have h:=Int.ofNat_le.2 qc;rw[Int.natCast_mul]at h;rw[Bd];exact h) (by omega);have e9:madeCells z.cells (n.toNat*1)=(dm n.toNat z).toArray:=by apply Array.toList_inj.1;rw[Nat.mul_one,bj,toList_madeCells_one]
 simp only[Int.toNat_natCast,ub,e9]at q3;have hp:e_ g.E w ((dm n.toNat er).map c) (dm n.toNat z):=by
  refine⟨by simp,λj p u h1 h2=>?_⟩;rw[List.map_replicate,Wn]at h1;rw[Wn]at h2;split at h1
  ·rename_i ae;rw[if_pos ae]at h2;cases h1;cases h2;exact bw _ _
  ·cases h1
 refine .inl ⟨.slice (D ⟨w.heap.size,0,aF⟩) n.toNat n.toNat,w.alloc (.cells (dm n.toNat z).toArray e),?_,_,b'.VA aM az hp,?_⟩
 ·unfold execOp;rw[hE];rw[sT]at q3;simp[a5,q3,ck,ce]
 ·have:=cD.dX (g:=⟨dD g.β i w.heap.size,dD g.E w.heap.size 0,g.h⟩) (w:=w.alloc (.cells (dm n.toNat z).toArray e)) (H:=dT H [(i,.bu e ((dm n.toNat er).map c))]) (i:=i) (off:=0) (n:=n.toNat) (cap:=n.toNat) (by unfold ct;show tY (H.set i _)[i]?;rw[jH (cz.1 az).1];trivial);simpa[fB]using this
open Classical in
theorem agl {bA k:Nat}{e:α->List P}{z:a4} {s:bM}{cX:List α}{d:V}(ai:av.underlying t=D (.slice bA))(ao:(av.info? bA).map (λi=>(i.zero,i.size,i.bytes))=D (D z,k,bytes))(bj:z.cells.size=k)(au:0<k)
  (aV:ρ s=D (.p (.v (.slice aF 0 0)))) (ar:ρ x=D d) (az:V.lZ k e d cX) (a1:∀y,(e y).all P.one=ah) (yR:cX.length<=1099511627776) (aB:ev bytes 128=ah):
  bE av (.call {callee:=.builtin .append,args:=#[s,x],argTypes:=#[t,t]}) t ρ [(i,.bW)] [(i,.bl bA k 1)] (cT k e cX i 1):=λg w H bo o hE pG aM dY h=>by
 have WJ:=dY.one;have dN:=(cz.1 WJ).1;have e5:s≠x:=λq=>by subst q;rw[aV]at ar;cases ar;cases az
 have es:=(h s (by simp[c_,iZ]) _ aV).g4;have O2:=b'.VJ (T:=bA) (k:=k) aM WJ;have key:=Iz (av:=av) (ty:=t) (ρ:=λy=>if y=s then D (cT k e ([]:List α) i 0)else if y=x then D d else aF) (xs:=([]:List α)) (s:=s) (x:=x) (i:=i) ai ao bj au (by simp) (by simp[Ne.symm e5]) az a1 (by simp;omega) (by simpa using IE (n:=cX.length) yR aB) (m:=0);have agm:fq (H.set i (.bl bA k 0)) [(i,.bl bA k 0)]:=da (jH dN);have hex:=key _ w (H.set i (.bl bA k 0)) bo o hE pG O2.iR agm (λy bh u hu=>by
  by_cases a5:y=s
  ·subst a5;simp only[if_true,hX]at hu;subst hu;rw[es];refine .cT .nil ⟨0,?_,b5 _,λ_=>(fB _ _ _).symm⟩;show tX (H.set i _)[i]? =_;rw[jH dN];rfl
  ·simp only[a5,if_false]at hu;by_cases bk:y=x
   ·subst bk;simp only[if_true,hX]at hu;subst hu;exact(h y (by simp[c_,iZ]) _ ar).a' O2.a'
   ·simp[bk]at hu)
 have y_:dT (H.set i (.bl bA k 0)) [(i,.bl bA k (0+1))]=dT H [(i,.bl bA k 1)]:=by simp[dT]
 have fin:∀(v:a4)(w':bb)(g':b_),b' w ⟨g.β,g.E,dD g.h i (.slice aF 0 0)⟩ (H.set i (.bl bA k 0)) g' w' (dT (H.set i (.bl bA k 0)) [(i,.bl bA k (0+1))])->cD g' w' (dT (H.set i (.bl bA k 0)) [(i,.bl bA k (0+1))]) (cT k e ([]++cX) i (0+1)) v->∃g',b' w g H g' w' (dT H [(i,.bl bA k 1)])/\cD g' w' (dT H [(i,.bl bA k 1)]) (cT k e cX i 1) v:=λv w' g' h1 h2=>by rw[y_]at h1 h2;exact⟨g',O2.then h1,by simpa using h2⟩
 rcases hex with⟨v,w',h1,g',h2,aJ⟩|⟨w',h1,g',h2,aJ⟩|⟨n,h1,h2⟩
 ·exact .inl ⟨v,w',h1,fin v w' g' h2 aJ⟩
 ·exact .inr (.inl ⟨w',h1,fin _ w' g' h2 aJ⟩)
 ·exact .inr (.inr ⟨n,h1,h2.mono λv w' ⟨g',aJ,bp⟩=>fin v w' g' aJ bp⟩)
variable {a:Int}{k:hv}{y:bM}
theorem agn{tys:Array b3} {b:Int}(ar:ρ x=D (.p (.v (.int k a))))(bh:ρ y=D (.p (.v (.int k b)))):bE av (.call {callee:=.builtin .max,args:=#[x,y],argTypes:=tys}) ty ρ [] [] (.p (.v (.int k (fR a b)))):=.plain λw e o a1 _ a8=>by have a5:=a8 x (by simp[c_,iZ]) _ ar;have bk:=a8 y (by simp[c_,iZ]) _ bh;unfold execOp;rw[a1];simp[resolve,invoke,builtin,Builtin.max_,Builtin.max2,a5,bk,ck,ce,fR]
theorem ago{tys:Array b3} {b:Int}(ar:ρ x=D (.p (.v (.int k a))))(bh:ρ y=D (.p (.v (.int k b)))):bE av (.call {callee:=.builtin .min,args:=#[x,y],argTypes:=tys}) ty ρ [] [] (.p (.v (.int k (ih a b)))):=.plain λw e o a1 _ a8=>by have a5:=a8 x (by simp[c_,iZ]) _ ar;have bk:=a8 y (by simp[c_,iZ]) _ bh;unfold execOp;rw[a1];simp[resolve,invoke,builtin,Builtin.min_,Builtin.min2,a5,bk,ck,ce,ih]
theorem WK {e:Nat}{mx:a4}{n:Int}{z:List α}(ai:av.underlying t=D (.slice e))(ao:(av.info? e).map (λi=>(i.zero,i.size,i.bytes))=D (D mx,1,bytes))(bj:mx.cells=#[mx])(ar:ρ x=D (.p (.v (.int K n))))(aB:ev bytes 128=ah)
  (a_:mk n er=D z) (bw:∀E w,hL E w (c er) mx):bE av (.makeSlice t x x) ty ρ [(i,.bW)] [(i,.bu e (z.map c))] (.dX i 0 z.length z.length):=by
 obtain⟨h1,rfl⟩:=WI a_;have:=agk (i:=i) (ty:=ty) ai ao bj ar aB h1 bw;simpa using this
variable {E T cap:Nat}{j:Int}{n:Nat}
theorem agp(cc:∀w,(underlying T).run av w=.ok (.slice E) w)(aS:∀w,(sizeOf E).run av w=.ok 1 w)(ar:ρ x=D (.dX i 0 n cap))(bh:ρ y=D (.p (.v (.int K j))))(bw:0<=j)(h1:j.toNat<n):bE av (.indexAddr T x y) ty ρ [] [] (.aR i j.toNat):=.pure λg w H e q aE _ _ h=>by
 have a5:=h x (by simp[c_]) _ ar;have bk:=(h y (by simp[c_]) _ bh).g4;generalize he:e x=v at a5;cases a5 with
 |dX aK=>
  refine⟨.pointer (D ⟨g.β i,j.toNat,aF⟩),?_,.aR aK⟩;unfold execOp;rw[aE];have c0:(0<=j/\j<(n:Int)):=⟨bw,by omega⟩
  simp[he,bk,Instr.indexAt,asIntOf,cc,aS,ck,ce,c0,qb]
variable {xs:List α}
theorem agq{z:{q:Nat×α // xs[q.1]? =D q.2}}(cc:∀w,(underlying T).run av w=.ok (.slice E) w)(aS:∀w,(sizeOf E).run av w=.ok 1 w)(ar:ρ x=D (.dX i 0 n cap))(bh:ρ y=D (.p (.v (.int K j))))(h:fK n xs j=D z):bE av (.indexAddr T x y) ty ρ [] [] (.aR i z.1.1):=by obtain⟨bw,h1,h2⟩:=agj h;have:=agp (ty:=ty) cc aS ar bh bw h1;rw[h2]at this;exact this
variable {dF:Nat}{cs:List P}{off:Nat}
theorem agr{c:P}(cc:∀w,(isAgg T).run av w=.ok aQ w)(ar:ρ x=D (.aR i off))(aP:cs[off]? =D c):bE av (.load T x) ty ρ [(i,.bu dF cs)] [] (.p c):=.Em λg w H e q aE _ aM ao h=>by
 have a5:=h x (by simp[c_]) _ ar;obtain⟨us,dw,hp,_⟩:=aM.ec i _ ao;have aK:off<us.length:=by have:=(cz.1 aP).1;have:=hp.1;omega
 have hu:=List.getElem?_eq_getElem aK;generalize he:e x=u at a5;cases a5 with|aR bg=>exact⟨us[off],by unfold execOp;rw[aE];simp[he,Instr.loadAt,sV,ck,ce,D5 cc ((dw.cell (o:=off)).trans hu)],.p (hp.2 off c _ aP hu)⟩
theorem ags{c:P}(a_:∀w,(sizeOf T).run av w=.ok 1 w)(ar:ρ x=D (.aR i off))(bh:ρ y=D (.p c))(h1:c.one=ah)(cf:off<cs.length):
  bE av (.store T x y) ty ρ [(i,.bu dF cs)] [(i,.bu dF (cs.set off c))] (.p (.v undef)):=λg w H e q aE _ aM dY h=>by
 have a5:=h x (by simp[c_]) _ ar;have bk:=h y (by simp[c_]) _ bh;have pr:n2 (e y)=ah:=bk.one h1;have rU:hL g.E w c (e y):=by generalize he:e y=v at bk;cases bk with|p h=>exact h
 obtain⟨us,dw,hp,_⟩:=aM.ec i _ dY.one;have aK:=hp.1;obtain⟨w',fH,iC,iS⟩:=D7 (P:=av) (o:=off) [e y] 0 us w dw (λv bg=>by simp at bg;rw[bg];exact pr) (by simp;omega);generalize he:e x=u at a5;cases a5 with
 |aR bg=>
  refine .inr (.inl ⟨w',?_,g,b'.VB (us:=us.set off (e y)) aM dY.one iC ?_ ⟨by simp[aK],λj p u h1 h2=>?_⟩,.v undef⟩)
  ·unfold execOp;rw[aE];simp[he,Instr.storeAt,sV,storeVar,a_,NZ pr,ck,ce,fH]
  ·simpa[Mi.oG]using iS
  ·by_cases ae:j=off
   ·subst ae;rw[List.getElem?_set_self (by omega)]at h1 h2;cases h1;cases h2;exact rU
   ·rw[List.getElem?_set_ne (λe=>ae e.symm)]at h1 h2;exact hp.2 j p u h1 h2
theorem agt(q:{q:Nat×α // xs[q.1]? =D q.2})(cc:∀w,(isAgg T).run av w=.ok aQ w)(ar:ρ x=D (.aR i q.1.1)):bE av (.load T x) ty ρ [(i,.bu dF (xs.map c))] [] (.p (c q.1.2)):=
 agr cc ar (by rw[List.getElem?_map,q.2];rfl)
theorem agu{v:α}(q:{q:Nat×α // xs[q.1]? =D q.2})(a_:∀w,(sizeOf T).run av w=.ok 1 w)(ar:ρ x=D (.aR i q.1.1))(bh:ρ y=D (.p (c v)))(h1:(c v).one=ah):
  bE av (.store T x y) ty ρ [(i,.bu dF (xs.map c))] [(i,.bu dF ((xs.set q.1.1 v).map c))] (.p (.v undef)):=by
 have aK:=(cz.1 q.2).1;have:=ags (ty:=ty) (dF:=dF) (cs:=xs.map c) a_ ar bh h1 (by simpa using aK);rw[List.map_set];exact this
theorem agv(cc:∀w,(underlying T).run av w=.ok (.slice E) w)(ar:ρ x=D (.dX i off n cap)):bE av (.call {callee:=.builtin .len,args:=#[x],argTypes:=#[T]}) ty ρ [] [] (aI n):=.pure λg w H e q aE _ _ h=>by
 have a5:=h x (by simp[c_,iZ]) _ ar;generalize he:e x=v at a5;cases a5 with
 |dX aK=>exact⟨_,by unfold execOp;rw[aE];simp[resolve,invoke,builtin,Builtin.len_,he,cc,ck,ce,goInt],.v _⟩
end
variable {g:b_}{w:bb}
theorem cD.WL{H:List aG}{rP:Nat->Nat}(aS:∀b,b<w.heap.size->g.E b<=rP b){d:V}{v:a4}(h:cD g w H d v):cD ⟨g.β,rP,g.h⟩ w H d v:=
 cD.a' (g:=g) (g':=⟨g.β,rP,g.h⟩) (w':=w) (H':=H) ⟨b5 _,aS,λ_ _ _ _=>rfl,λ_ h=>⟨h,rfl⟩,λ_ m h=>⟨m,h,b5 _,λ_=>rfl⟩⟩ h
theorem b'.gH{cn:bb}{b0:b_}{bS:List aG}{H:List aG}{i T:Nat}{cs:List P}(h:b' cn b0 bS g w H)(ao:H[i]? =D (.bu T cs))(bw:bS.length<=i)(a_:H.all (aG.br i)=ah):
  b' cn b0 bS ⟨g.β,dD g.E (g.β i) cs.length,g.h⟩ w (H.set i .bW)/\(∀b,b<w.heap.size->g.E b<=dD g.E (g.β i) cs.length b):=by
 have dN:=(cz.1 ao).1;obtain⟨us,dw,hp,q0⟩:=h.ec i _ ao;have BD:own g H i (g.β i):=by unfold own;rw[ao];rfl
 have au:=h.jK bw a_;have df:∀j,¬own g (H.set i .bW) j (g.β i):=λj a1=>by
  by_cases e:j=i
  ·subst e;unfold own at a1;rw[jH dN]at a1;exact a1
  ·unfold own at a1;rw[jG e]at a1;exact e (h.kh j i _ a1 BD)
 have aS:∀b,g.E b<=dD g.E (g.β i) cs.length b:=λb=>by
  by_cases e:b=g.β i
  ·subst e;rw[q0];exact Nat.zero_le _
  ·rw[ki e];exact b5 _
 have dO:hx g w (H.set i .bW) ⟨g.β,dD g.E (g.β i) cs.length,g.h⟩ w (H.set i .bW):=⟨b5 _,λb _=>aS b,λ_ _ _ _=>rfl,λ_ h=>⟨h,rfl⟩,λ_ m h=>⟨m,h,b5 _,λ_=>rfl⟩⟩
 have ej:∀j b,own ⟨g.β,dD g.E (g.β i) cs.length,g.h⟩ (H.set i .bW) j b↔own g (H.set i .bW) j b:=λj b=>by
  unfold own;cases(H.set i .bW)[j]? with
  |none=>exact Iff.rfl
  |some o=>cases o<;>exact Iff.rfl
 refine⟨⟨h.os,h.tape,h.output,h.mT.a' dO,au.a'.trans dO,λb aB aE=>?_,λj o ae=>?_,λa c b h1 h2=>au.kh a c b ((ej a b).1 h1) ((ej c b).1 h2),λa b h1=>au.px a b ((ej a b).1 h1)⟩,λb _=>aS b⟩
 ·obtain⟨a,c⟩:=h.iQ b aB aE;refine⟨a,?_⟩;by_cases e:b=g.β i
  ·subst e;rcases h.px i _ BD with⟨j,ae⟩|Bb
   ·exact absurd ae (aE j)
   ·omega
  ·show dD g.E (g.β i) cs.length b=_;rw[ki e];exact c
 ·refine jU.a' dO ae (λb aB=>⟨rfl,?_⟩) (λ_ _ _ _ _=>rfl) (au.ec j o ae);have:b≠g.β i:=λe=>by subst e;exact df j aB
  exact ki this
section
variable {Y : gj} {Q : cN -> cO -> bb -> Prop} {l : bY} {H : List aG} {R : Type} {m : Option R} {T : R -> Prop}
end
end Go.Dp

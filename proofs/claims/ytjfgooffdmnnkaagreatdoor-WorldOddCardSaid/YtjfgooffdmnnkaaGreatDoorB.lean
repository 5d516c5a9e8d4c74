/- Deep data: operations that read and write. -/
import Derived.Test.YtjfgooffdmnnkaaGreatDoorA
set_option linter.all false
namespace Go.Dp
open Go Go.Mi Go.RowKit
open _root_.Array renaming getD_eq_getD_getElem?->qc,getElem?_eq_getElem->S8,replicate->MP,getElem?_setIfInBounds->aaq,getElem?_toList->aar
open Bool renaming true->ad,and_eq_true->dn,false->aS,or_eq_true->jq
open Classical renaming choose->Av,choose_spec->IR,not_not->xF
open Go renaming Operand->bY,Value->be,World->bj,Oper->b_,Program->cF,TypeId->co,ResultVar->sF,Exit->df,FuncId->hE,Act->di,Code->eZ,Edge->jG
open Go.Builtin renaming append_->S9,firstCells->IS,lenOf->CK,len_->IT
open Go.Call renaming operands->ji
open Go.Exit renaming inBlock->wg
open Go.Instr renaming sureAddr->u3,loadAt->MQ,fill->n',fieldAt->IU,build->Aw
open Go.Op renaming operands->dw,buildSlice->aas
open Go.Region renaming wanted->tW
open Go.Result renaming andThen->cp
open Go.Sem renaming run_bind->cq,run->yY
open List renaming getElem?_eq_some_iff->cz,getElem?_eq_getElem->bN,getElem?_take->kd,mem_map_of_mem->Ax,all_eq_true->kX,mem_of_getElem?->cm,getElem?_map->gQ,getElem?_drop->sH,getD_eq_getElem?_getD->sG,flatMap_cons->kp,getElem?_of_mem->hf,getElem?_append_right->q2,mem_cons->qf,mem_append->h3,getElem?_eq_none->nD,map_cons->hH,mem_map->lz,ext_getElem?->m3,length_take->fF,eq_nil_of_length_eq_zero->pr,nodup_cons->q3,getElem?_append_left->oI,map_map->lZ,length_append->hW,getElem_range->E_,getElem?_set->u4,mem_toArray->aat,getElem_mem->aau,getD->Cz,length_map->hI,replicate->cC,all_cons->aav,length->sI,range->gD
open Nat renaming zero_add->ib,le_refl->bL,le_of_ble_eq_true->nn,add_zero->oJ,blt_eq->lA,beq->eF,ble->fb,beq_refl->kq,blt->h4,eq_of_beq_eq_true->mi,lt_trichotomy->S_,zero_mul->Fj,add_mul->il,ble_eq->Fk,add_assoc->mZ,zero_le->fR
open Option renaming some->I,none->aJ,map_eq_some_iff->E',map_some->nE
open Option.some renaming injEq->je,inj->rS
def V.one:V->Bool
 |.p x=>x.one
 |.agg _=>aS
 |.cx _=>aS
 |_=>ad
def V.cells:V->List V
 |.agg cs=>cs
 |d=>[d]
def q4:List V->Nat->List V->List V
 |cs,_,[]=>cs
 |cs,o,d::ds=>q4 (cs.set o d) (o+1) ds
section
variable {g : cu} {w : bj} {H : List aN}
theorem cN.one{d:V}{v:be}(h:cN g w H d v)(h1:d.one=ad):oK v=ad:=by
 cases h with
 |p h=>exact h.one h1
 |cZ h=>exact iW.one (x:=.sl _ _ _) h rfl
 |agg h=>cases h1
 |cx h=>cases h1
 |gs h _=>exact h
 |kr h _=>exact h
 |_=>rfl
theorem cN.cells{d:V}{v:be}(h:cN g w H d v)(h1:d.cells.all V.one=ad):∃vs:List be,v.cells=vs.toArray/\dp g w H d.cells vs/\(∀u∈vs,oK u=ad):=by
 have single:d.cells=[d]->∃vs:List be,v.cells=vs.toArray/\dp g w H d.cells vs/\(∀u∈vs,oK u=ad):=λe=>by rw[e]at h1⊢;have aU:=h.one (by simpa using h1);exact⟨[v],by rw[MB aU],.cons h .nil,by simpa using aU⟩
 cases h with
 |@agg cs vs h=>
  refine⟨vs,rfl,h,λu hu=>?_⟩;obtain⟨j,ag⟩:=hf hu;have ly:j<cs.length:=by have:=(cz.1 ag).1;have:=h.len;omega
  obtain⟨sN,e,aO⟩:=h.ae (bN ly);rw[ag]at e;cases e;exact aO.one (kX.1 h1 _ (aau _))
 |p h=>exact single rfl
 |cZ h aj=>exact single rfl
 |aV aC=>exact single rfl
 |bG u aY aF hu h=>exact single rfl
 |ek aC=>exact single rfl
 |map aC=>exact single rfl
 |fn h1 h2=>exact single rfl
 |gV aC=>exact single rfl
 |z=>exact single rfl
 |gs h2 h=>exact single rfl
 |kr h2 h=>exact single rfl
 |cx h=>exact single rfl
theorem dp.oc:∀{ds:List V}{vs:List be}{o:Nat}{cs:List V}{us:List be},dp g w H cs us->dp g w H ds vs->dp g w H (q4 cs o ds) (Mi.oc us o vs)
 |_,_,o,cs,us,h,.nil=>h
 |_,_,o,cs,us,h,.cons (d:=d) (v:=v) aG aQ=>dp.oc (o:=o+1) (cs:=cs.set o d) (us:=us.set o v) (h.set aG) aQ
theorem dp.one{ds:List V}{vs:List be}(h:dp g w H ds vs)(h1:ds.all V.one=ad):∀u∈vs,oK u=ad:=λu hu=>by
 obtain⟨j,ag⟩:=hf hu;have ly:j<ds.length:=by have:=(cz.1 ag).1;have:=h.len;omega
 obtain⟨sN,e,aO⟩:=h.ae (bN ly);rw[ag]at e;cases e;exact aO.one (kX.1 h1 _ (aau _))
variable {cs:List P}
theorem S'{v:be}(h:cN g w H (.bG cs) v):∃b o us,v=.pointer (I ⟨b,o,aJ⟩)/\o+cs.length<=g.E b/\b<w.heap.size/\fH g.E w cs us/\∀j u,us[j]? =I u->w.cell? ⟨b,o+j,aJ⟩=I u:=by
 cases h with
 |@bG cs b o u aY aF hu h=>
  refine⟨b,o,(gD cs.length).map u,rfl,aY,aF,⟨by simp,λj c x ag ak=>?_⟩,λj x ak=>?_⟩
  ·rw[gQ,E']at ak;obtain⟨i,hi,e⟩:=ak;obtain⟨b',he⟩:=(cz.1 hi)
   rw[E_]at he;subst he;subst e;exact h j c ag
  ·rw[gQ,E']at ak;obtain⟨i,hi,e⟩:=ak;obtain⟨b',he⟩:=(cz.1 hi)
   rw[E_]at he;subst he;subst e;exact hu j (by simpa using b')
theorem MR{us:List be}{b o:Nat}(h:fH g.E w cs us)(aY:o+cs.length<=g.E b)(aF:b<w.heap.size)(hu:∀j u,us[j]? =I u->w.cell? ⟨b,o+j,aJ⟩=I u):cN g w H (.bG cs) (.pointer (I ⟨b,o,aJ⟩)):=by
 refine .bG (λj=>us.getD j undef) aY aF (λj ag=>?_) (λj c ag=>?_)
 ·have ly:j<us.length:=by have:=h.1;omega
  rw[hu j us[j] (bN ly)];simp[Cz,bN ly]
 ·have ly:j<us.length:=by have:=(cz.1 ag).1;have:=h.1;omega
  have:=h.2 j c us[j] ag (bN ly);simpa[Cz,bN ly]using this
theorem fH.drop{E:Nat->Nat}{cs:List P}{us:List be}(h:fH E w cs us)(n:Nat):fH E w (cs.drop n) (us.drop n):=
 ⟨by simp[h.1],λj c u h1 h2=>h.2 (n+j) c u (by rw[<-sH];exact h1) (by rw[<-sH];exact h2)⟩
theorem fH.take{E:Nat->Nat}{cs:List P}{us:List be}(h:fH E w cs us)(n:Nat):fH E w (cs.take n) (us.take n):=
 ⟨by simp[h.1],λj c u h1 h2=>h.2 j c u (by rw[kd]at h1;split at h1;exact h1;cases h1) (by rw[kd]at h2;split at h2;exact h2;cases h2)⟩
theorem fH.Fl:∀{cs:List P}{us:List be},fH g.E w cs us->dp g w H (cs.map .p) us
 |[],[],_=>.nil
 |[],_::_,h=>by have:=h.1;simp at this
 |_::_,[],h=>by have:=h.1;simp at this
 |c::cs,u::us,h=>.cons (.p (h.2 0 c u rfl rfl)) (fH.Fl ⟨by have:=h.1;simpa using this,λj c' sN h1 h2=>h.2 (j+1) c' sN (by simpa using h1) (by simpa using h2)⟩)
end
def V.rT:V->Option (Nat×Nat×List P)
 |.p (.sl k n cs)=>I (k,n,cs)
 |.cZ k n cs _ _=>I (k,n,cs)
 |_=>aJ
theorem cN.rT{g:cu}{w:bj}{H:List aN}{d:V}{v:be}{k n:Nat}{cs:List P}(h:cN g w H d v)(aG:d.rT=I (k,n,cs)):iW g.E w (.sl k n cs) v:=by
 cases h with
 |p h=>
  rename_i x;cases x with
  |v x=>cases aG
  |sl cV lh cs'=>cases aG;exact h
 |cZ h aj=>cases aG;exact h
 |_=>cases aG
section
variable {aw : cF} {ty : co} {ρ : bY -> Option V}
variable {S:co}{f i off:Nat}{x:bY}
theorem aaw {o:Nat}(bg:∀w a,(IU S (.pointer (I a)) f).run aw w=.ok (.pointer (I (a.add off))) w)(ak:ρ x=I (.aV i o)):bP aw (.fieldAddr S x f) ty ρ [] [] (.aV i (o+off)):=.pure λg w H e q aB _ _ h=>by have a2:=h x (by simp[dw]) _ ak;generalize he:e x=v at a2;cases a2 with|aV aC=>exact⟨.pointer (I ⟨g.β i,o+off,aJ⟩),by unfold execOp;rw[aB];simp[he,bg,cq,cp,rJ],.aV aC⟩
variable {cs:List P}
theorem aax(bg:∀w a,(IU S (.pointer (I a)) f).run aw w=.ok (.pointer (I (a.add off))) w)(ak:ρ x=I (.bG cs))(aC:fb off cs.length=ad):bP aw (.fieldAddr S x f) ty ρ [] [] (.bG (cs.drop off)):=.pure λg w H e q aB _ _ h=>by have a2:=h x (by simp[dw]) _ ak;have aC:=nn aC;obtain⟨b,o,us,he,h1,h2,ay,bl⟩:=S' a2;refine⟨.pointer (I ⟨b,o+off,aJ⟩),by unfold execOp;rw[aB];simp[he,bg,cq,cp,rJ],MR (ay.drop off) (by simp;omega) h2 λj u ag=>?_⟩;rw[sH]at ag;rw[mZ];exact bl _ _ ag
theorem aay{T:co}{c:P}(cw:∀w,(isAgg T).run aw w=.ok aS w)(ak:ρ x=I (.bG cs))(ax:cs[0]? =I c):bP aw (.load T x) ty ρ [] [] (.p c):=.pure λg w H e q aB _ _ h=>by
 obtain⟨b,o,us,he,h1,h2,ay,bl⟩:=S' (h x (by simp[dw]) _ ak);have aC:0<us.length:=by have:=(cz.1 ax).1;have:=ay.1;omega
 have hu:=bN aC;exact⟨us[0],by unfold execOp;rw[aB];simp[he,MQ,u3,cq,cp,Fa cw (show w.cell? ⟨b,o,aJ⟩=I us[0]from bl 0 _ hu)],.p (ay.2 0 c _ ax hu)⟩
variable {T:Nat}
theorem ajt {n:Nat}(cw:∀w,(isAgg T).run aw w=.ok ad w)(a6:∀w,(sizeOf T).run aw w=.ok n w)(ak:ρ x=I (.bG cs))(aC:fb n cs.length=ad):bP aw (.load T x) ty ρ [] [] (.agg ((cs.take n).map .p)):=.pure λg w H e q aB _ _ h=>by
 obtain⟨b,o,us,he,h1,h2,ay,bl⟩:=S' (h x (by simp[dw]) _ ak);have aC:=nn aC;have wh:=ay.1;have hC:tU w b o (us.take n):=λj ag=>by rw[fF]at ag;have hu:us[j]? =I us[j]:=bN (by omega);rw[bl j _ hu,kd,if_pos (by omega),hu]
 exact⟨_,by unfold execOp;rw[aB];simp[he,MQ,u3,cq,cp,MA cw a6 hC (by simp;omega)],.agg (ay.take n).Fl⟩
theorem bP.IV{op:Op}{d:V}{eP:aN}(h:∀(g:cu)(w:bj)(H:List aN)(e:bY->be)(o:b_),o.op=op->o.type=ty->g6 g w H->H[i]? =I eP->(∀x∈op.operands,∀u,ρ x=I u->cN g w H u (e x))->
  ∃v,(execOp e o).run aw w=.ok (.value v) w/\cN g w H d v):bP aw op ty ρ [(i,eP)] [] d:=λg w H e o aU aj aO ev bg=>by
 obtain⟨v,h1,h2⟩:=h g w H e o aU aj aO ev.one bg;exact .inl ⟨v,w,h1,g,aO.kf,h2⟩
variable {c8:Nat}
theorem Ta{cs:List V}{d:V}(cw:∀w,(isAgg T).run aw w=.ok aS w)(ak:ρ x=I (.aV i off))(aG:cs[off]? =I d):bP aw (.load T x) ty ρ [(i,.cells c8 cs)] [] d:=.IV λg w H e q aB _ aO hi h=>by have a2:=h x (by simp[dw]) _ ak;obtain⟨us,eO,ax,_⟩:=aO.eP i _ hi;obtain⟨v,bp,mj⟩:=ax.ae aG;generalize he:e x=u at a2;cases a2 with|aV aC=>exact⟨v,by unfold execOp;rw[aB];simp[he,MQ,u3,cq,cp,Fa cw ((eO.cell (o:=off)).trans bp)],mj⟩
theorem aju {n:Nat}{cs:List V}(cw:∀w,(isAgg T).run aw w=.ok ad w)(a6:∀w,(sizeOf T).run aw w=.ok n w)(ak:ρ x=I (.aV i off))(aC:fb (off+n) cs.length=ad):bP aw (.load T x) ty ρ [(i,.cells c8 cs)] [] (.agg ((cs.drop off).take n)):=.IV λg w H e q aB _ aO hi h=>by
 have a2:=h x (by simp[dw]) _ ak;obtain⟨us,eO,ax,_⟩:=aO.eP i _ hi;have aC:=nn aC;have wh:=ax.len;have hC:tU w (g.β i) off ((us.drop off).take n):=λj ag=>by rw[fF]at ag;rw[eO.cell,kd,if_pos (by omega),sH]
 generalize he:e x=u at a2;cases a2 with|aV bp=>exact⟨_,by unfold execOp;rw[aB];simp[he,MQ,u3,cq,cp,MA cw a6 hC (by simp;omega)],.agg ((ax.drop off).take n)⟩
variable {y:bY}
theorem Tb {n:Nat}{cs:List V}{d:V}(a6:∀w,(sizeOf T).run aw w=.ok n w)(ak:ρ x=I (.aV i off))(a9:ρ y=I d)(h1:d.cells.all V.one=ad)(sO:d.cells.length=n)(hle:fb (off+n) cs.length=ad):
  bP aw (.store T x y) ty ρ [(i,.cells c8 cs)] [(i,.cells c8 (q4 cs off d.cells))] (.p (.v undef)):=λg w H e q aB _ aO ev h=>by
 have a2:=h x (by simp[dw]) _ ak;have bc:=h y (by simp[dw]) _ a9;obtain⟨vs,q5,mj,rK⟩:=bc.cells h1;obtain⟨us,eO,ax,_⟩:=aO.eP i _ ev.one;have hle:=nn hle;have MS:=mj.len;have kR:=ax.len;obtain⟨w',gR,fu,gG⟩:=Fb (P:=aw) (o:=off) vs 0 us w eO rK (by omega);generalize he:e x=u at a2;cases a2 with
 |aV bp=>refine .inr (.inl ⟨w',?_,g,cn.ajd aO ev.one fu gG (dp.oc ax mj),.v undef⟩);unfold execOp;rw[aB];simp[he,Instr.storeAt,u3,storeVar,a6,q5,sO,<-MS,cq,cp,gR]
theorem ajv{d:V}(ak:ρ x=I d)(h1:d.cells.all V.one=ad):bP aw (.box T x) ty ρ [(i,.cc)] [(i,.cells T d.cells)] (.aV i 0):=λg w H e q aB _ aO ev h=>by
 obtain⟨vs,q5,mj,rK⟩:=(h x (by simp[dw]) _ ak).cells h1;have hi:=ev.one;refine .inl ⟨.pointer (I ⟨w.heap.size,0,aJ⟩),w.alloc (.cells vs.toArray T),?_,_,cn.aaf aO hi mj,?_⟩
 ·unfold execOp;rw[aB];simp[Instr.box,newVar,newRow,newObj,cq,yY,cp,q5]
 ·have:=cN.aV (g:=⟨dT g.β i w.heap.size,dT g.E w.heap.size 0,g.h⟩) (w:=w.alloc (.cells vs.toArray T)) (H:=eH H [(i,.cells T d.cells)]) (i:=i) (off:=0) (by unfold cL;show xy (H.set i _)[i]?;rw[kV (cz.1 hi).1];trivial);simpa[fL]using this
theorem ajw{v:be}{vs:List be}(aP:∀w,(zeroValue T).run aw w=.ok v w)(q5:v.cells=vs.toArray):bP aw (.alloc T) ty ρ [(i,.cc)] [(i,.cells T (vs.map λu=>.p (.v u)))] (.aV i 0):=λg w H e q aB _ aO ev h=>by
 have hi:=ev.one;have mj:dp g w H (vs.map λu=>.p (.v u)) vs:=by
  clear q5;induction vs with
  |nil=>exact .nil
  |cons u us bx=>exact .cons (.v u) bx
 refine .inl ⟨.pointer (I ⟨w.heap.size,0,aJ⟩),w.alloc (.cells vs.toArray T),?_,_,cn.aaf aO hi mj,?_⟩
 ·unfold execOp;rw[aB];simp[Instr.alloc,aP,newVar,newRow,newObj,cq,yY,cp,q5]
 ·have:=cN.aV (g:=⟨dT g.β i w.heap.size,dT g.E w.heap.size 0,g.h⟩) (w:=w.alloc (.cells vs.toArray T)) (H:=eH H [(i,.cells T (vs.map λu=>.p (.v u)))]) (i:=i) (off:=0) (by unfold cL;show xy (H.set i _)[i]?;rw[kV (cz.1 hi).1];trivial);simpa[fL]using this
variable {E k:Nat}
theorem ajx {n:Nat}{K:IntKind}{j:Int}{d:V} {es:List P}(cw:∀w,(underlying T).run aw w=.ok (.slice E) w)(aY:∀w,(sizeOf E).run aw w=.ok k w)(ak:ρ x=I d)(a9:ρ y=I (.p (.v (.int K j))))(aG:d.rT=I (k,n,cs))
  (bh:0<=j) (h1:j<n) (CL:(cs.drop (j.toNat*k)).take k=es):bP aw (.indexAddr T x y) ty ρ [] [] (.bG es):=.pure λg w H e q aB _ _ h=>by
 have a2:=(h x (by simp[dw]) _ ak).rT aG;have bc:=(h y (by simp[dw]) _ a9).ic;rcases a2.u1 with⟨he,a6,_⟩|⟨b,o,cap,us,he,ax,Aq,aF,aC,u5,hu⟩
 ·omega
 ·have azK:j.toNat<n:=by omega
  have hmul:j.toNat*k+k<=n*k:=by have:=Nat.mul_le_mul_right k (show j.toNat+1<=n by omega);rw[il]at this;omega
  refine⟨.pointer (I ⟨b,o+j.toNat*k,aJ⟩),?_,?_⟩
  ·unfold execOp;rw[aB];have cR:(0<=j/\j<(n:Int)):=⟨bh,h1⟩
   simp[he,bc,Instr.indexAt,asIntOf,cw,aY,cq,cp,cR,rJ]
  ·subst CL;refine MR ((u5.drop (j.toNat*k)).take k) (by simp;omega) aF λi u hi=>?_;rw[kd]at hi;split at hi
   ·rw[sH]at hi;rw[mZ];exact hu _ _ hi
   ·cases hi
theorem ajy {n:Nat}{d:V}(cw:∀w,(underlying T).run aw w=.ok (.slice E) w)(ak:ρ x=I d)(aG:d.rT=I (k,n,cs)):bP aw (.call {callee:=.builtin .len,args:=#[x],argTypes:=#[T]}) ty ρ [] [] (.p (.v (.int .i64 n))):=.pure λg w H e q aB _ _ h=>by
 have a2:=(h x (by simp[dw,ji]) _ ak).rT aG;refine⟨_,?_,.v (.int .i64 n)⟩;unfold execOp;rw[aB];rcases a2.u1 with⟨⟨qZ,he⟩,a6,_⟩|⟨b,o,cap,us,he,_⟩
 ·subst a6;simp[resolve,he,invoke,builtin,IT,cw,cq,cp,goInt]
 ·simp[resolve,he,invoke,builtin,IT,cw,cq,cp,goInt]
end
def bV(l:ce):bY->Option V
 |.tmp t=>c6 l t
 |.const v=>I (.p (.v v))
 |.global g=>I (.p (.v (.pointer (I ⟨g,0,aJ⟩))))
 |.func f=>I (.p (.v (.func (.func f) #[] #[])))
structure gY where
 X:jU
 cK:bj
 cl:cu
 ca:List aN
def iX(X:jU)(g:cu)(w:bj)(H:List aN)(l:ce)(a:di):Prop:=a.defers=X.ds/\a.tmps.size=X.N/\∀t d,c6 l t=I d->∃v,a.tmps[t]? =I v/\cN g w H d v
variable {X:jU}{a:di}{l:ce}{w:bj}
theorem iX.bB{g:cu}{H:List aN}(h:iX X g w H l a){x:bY}{d:V}(aG:bV l x=I d):cN g w H d (a.eval x):=by
 cases x with
 |tmp t=>obtain⟨v,h1,h2⟩:=h.2.2 t d aG;simpa[Act.eval,qc,h1]using h2
 |const v=>simp only[bV,je]at aG;subst aG;exact .v _
 |global q=>simp only[bV,je]at aG;subst aG;exact .v _
 |func f=>simp only[bV,je]at aG;subst aG;exact .v _
theorem iX.bi{X:jU}{g g':cu}{w w':bj}{H H':List aN}{l:ce}{a:di}(h:iX X g w H l a)(m:iA g w H g' w' H'):iX X g' w' H' l a:=
 ⟨h.1,h.2.1,λt d aj=>by obtain⟨v,h1,h2⟩:=h.2.2 t d aj;exact⟨v,h1,h2.bi m⟩⟩
def hJ:Option Tmp->V->ce->ce
 |some t,d,l=>(t,d)::l
 |none,_,l=>l
def m4(N:Nat):Option Tmp->Bool
 |some t=>h4 t N
 |none=>ad
theorem iX.put{X:jU}{g:cu}{w:bj}{H:List aN}{l:ce}{a:di}(h:iX X g w H l a){dst:Option Tmp}(aG:m4 X.N dst=ad){d:V}{v:be}(bp:cN g w H d v):iX X g w H (hJ dst d l) (a.put dst v):=by
 cases dst with
 |none=>exact h
 |some t=>
  refine⟨h.1,by simp[Act.put,h.2.1],λs u aQ=>?_⟩;have aj:t<X.N:=by simpa[m4,lA]using aG
  simp only[hJ,c6]at aQ;simp only[Act.put,aaq,h.2.1];by_cases e:t=s
  ·subst e;rw[show eF t t=ad from kq t]at aQ;simp only[cond_true,je]at aQ;subst aQ;exact⟨v,by simp[aj],bp⟩
  ·rw[tS e]at aQ;simp only[cond_false]at aQ;obtain⟨sN,h1,h2⟩:=h.2.2 s u aQ;exact⟨sN,by simp[e,h1],h2⟩
def hg(d db:V):Prop:=∀(g:cu)(w:bj)(H:List aN)(v:be),cN g w H d v->cN g w H db v
theorem hg.lB{d:V}:hg d d:=λ_ _ _ _ h=>h
theorem hg.cZ{k n:Nat}{cs:List P}{t m:Nat}:hg (.cZ k n cs t m) (.p (.sl k n cs)):=λ_ _ _ _ h=>by cases h with|cZ h _=>exact .p h
theorem hg.nil{k:Nat}:hg (.p (.v (.slice aJ 0 0))) (.p (.sl k 0 [])):=λ_ _ _ _ h=>by rw[h.ic];exact .p .nil
def ew(l l':ce):Prop:=∀t d,c6 l' t=I d->∃db,c6 l t=I db/\hg db d
theorem ew.n:ew l []:=λt d h=>by simp[c6]at h
theorem ew.lB{l:ce}:ew l l:=λ_ d h=>⟨d,h,.lB⟩
variable {l':ce}{t:Nat}
theorem ew.c{d db:V}(h:c6 l t=I db)(hw:hg db d)(aQ:ew l l'):ew l ((t,d)::l'):=λs u hu=>by
 simp only[c6]at hu;by_cases e:t=s
 ·subst e;rw[show eF t t=ad from kq t]at hu;simp only[cond_true,je]at hu;subst hu;exact⟨db,h,hw⟩
 ·rw[tS e]at hu;exact aQ s u hu
theorem ew.s{d:V}(h:c6 l t=I d)(aQ:ew l l'):ew l ((t,d)::l'):=ew.c h .lB aQ
theorem iX.sub{g:cu}{H:List aN}(h:iX X g w H l a)(aQ:ew l l'):iX X g w H l' a:=
 ⟨h.1,h.2.1,λt d aj=>by obtain⟨db,h1,h2⟩:=aQ t d aj;obtain⟨v,ay,bl⟩:=h.2.2 t db h1;exact⟨v,ay,h2 _ _ _ _ bl⟩⟩
def eq(Y:gY)(c:eZ)(Q:df->di->bj->Prop)(l:ce)(H:List aN):Prop:=∀g w a,cn Y.cK Y.cl Y.ca g w H->iX Y.X g w H l a->c.wpIn (jT Y.X.r) 0 Y.X.P Q a w
def fI(Y:gY)(Q:df->di->bj->Prop)(e:df)(l:ce)(H:List aN):Prop:=∀g w a,cn Y.cK Y.cl Y.ca g w H->iX Y.X g w H l a->Q e a w
def e0(Y:gY)(ops:Array b_)(Q:df->di->bj->Prop)(rest:List b_)(l:ce)(H:List aN):Prop:=∀g w a,cn Y.cK Y.cl Y.ca g w H->iX Y.X g w H l a->m0 Y.X ops Q rest a w
section
variable {Y : gY} {Q : df -> di -> bj -> Prop} {l : ce} {H : List aN}
theorem eq.seq{x y:eZ}(h:eq Y x (tT Y.X y Q) l H):eq Y (.seq x y) Q l H:=λg w a aO a4=>wpIn_seq (h g w a aO a4)
variable {id:Nat}
theorem eq.iq{c:eZ}(h:eq Y c (wg id Q) l H):eq Y (.block id c) Q l H:=λg w a aO a4=>wpIn_block (h g w a aO a4)
theorem eq.skip(h:fI Y Q .normal l H):eq Y .skip Q l H:=λg w a aO a4=>wpIn_skip (h g w a aO a4)
theorem eq.exit{id:Nat}(h:fI Y Q (.exit id) l H):eq Y (.exit id) Q l H:=λg w a aO a4=>wpIn_exit (h g w a aO a4)
theorem eq.ret(h:fI Y Q .ret l H):eq Y .ret Q l H:=λg w a aO a4=>wpIn_ret (h g w a aO a4)
theorem eq.cond{c:bY}{x y:eZ}{b:Bool}(ax:bV l c=I (.p (.v (.bool b))))(aj:b=ad->eq Y x Q l H)(bg:b=aS->eq Y y Q l H):eq Y (.cond c x y) Q l H:=
 λg w a aO a4=>wpIn_cond_split (a4.bB ax).ic (λe=>aj e g w a aO a4) (λe=>bg e g w a aO a4)
variable {x y:eZ}
theorem eq.MT{c:bY}(ax:bV l c=I (.p (.v (.bool ad))))(aj:eq Y x Q l H):eq Y (.cond c x y) Q l H:=eq.cond ax (λ_=>aj) (λe=>by cases e)
theorem eq.CM{c:bY}(ax:bV l c=I (.p (.v (.bool aS))))(bg:eq Y y Q l H):eq Y (.cond c x y) Q l H:=eq.cond ax (λe=>by cases e) (λ_=>bg)
theorem fI.sub{e:df}{l':ce}(aQ:ew l l')(h:fI Y Q e l' H):fI Y Q e l H:=λg w a aO a4=>h g w a aO (a4.sub aQ)
theorem fI.then(h:eq Y y Q l H):fI Y (tT Y.X y Q) .normal l H:=h
theorem fI.rU(h:fI Y Q .normal l H):fI Y (wg id Q) (.exit id) l H:=λg w a aO a4=>by simp only[wg,if_true];exact h g w a aO a4
theorem fI.Tc {Ay:Nat}(fM:eF Ay id=aS)(h:fI Y Q (.exit Ay) l H):fI Y (wg id Q) (.exit Ay) l H:=λg w a aO a4=>by
 have:¬Ay=id:=λe=>by subst e;rw[kq]at fM;cases fM
 simp only[wg,this,if_false];exact h g w a aO a4
def IW(Y:gY){α:Type}(eh:α->ce)(G:α->List aN)(K:α->Prop)(rM :α->Nat)(m:Nat)(Q:df->di->bj->Prop):df->di->bj->Prop:=
 Exit.then (λa w=>∃x g,iX Y.X g w (G x) (eh x) a/\cn Y.cK Y.cl Y.ca g w (G x)/\K x/\ rM x<m) Q
theorem eq.loop{α:Type}{c:eZ}(eh:α->ce)(G:α->List aN)(K:α->Prop)(rM :α->Nat)(fc:α)(bh:ew l (eh fc))(jr:H=G fc)(bZ:K fc)
  (round:∀x,K x->eq Y c (IW Y eh G K rM (rM x) Q) (eh x) (G x)):eq Y (.loop c) Q l H:=by
 classical
 intro g w a aO a4;let p:di->bj->Nat->Prop:=λa w n=>∃x g,iX Y.X g w (G x) (eh x) a/\cn Y.cK Y.cl Y.ca g w (G x)/\K x/\ rM x=n
 let M:di->bj->Nat:=λa w=>if h:∃n,p a w n then Av (lU h)else 0
 have dz:∀a w,(∃n,p a w n)->p a w (M a w)/\∀m,p a w m->M a w<=m:=λa w h=>by simp only[M,dif_pos h];exact IR (lU h)
 refine wpIn_loop (λa w=>∃n,p a w n) M ⟨_,fc,g,by rw[<-jr];exact a4.sub bh,by rw[<-jr];exact aO,bZ,rfl⟩ ?_;intro a w bH;obtain⟨⟨x,g,kQ,IX,ag,pu⟩,_⟩:=dz a w bH;refine wpIn_mono (round x ag g w a IX kQ) ?_;intro e fo w' aB;cases e with
 |normal=>
  obtain⟨of,g',Fm,aaz,kU,b'⟩:=aB;have aaA:∃n,p fo w' n:=⟨_,of,g',Fm,aaz,kU,rfl⟩
  exact⟨aaA,by have:=(dz fo w' aaA).2 _ ⟨of,g',Fm,aaz,kU,rfl⟩;omega⟩
 |exit id=>exact aB
 |goto t=>exact aB
 |ret=>exact aB
 |panic ajz=>exact aB
 |outgrown=>exact aB
variable {α:Type}{eh:α->ce}{K:α->Prop}{m:Nat}{rM:α->Nat}
theorem fI.loop{G:α->List aN}(x:α)(aQ:ew l (eh x))(jr:H=G x)(bZ:K x)(b': rM x<m):fI Y (IW Y eh G K rM m Q) .normal l H:=
 λg w a aO a4=>⟨x,g,by rw[<-jr];exact a4.sub aQ,by rw[<-jr];exact aO,bZ,b'⟩
theorem fI.ajA{G:α->List aN}(h:fI Y Q (.exit id) l H):fI Y (IW Y eh G K rM m Q) (.exit id) l H:=h
theorem fI.ajB{G:α->List aN}(h:fI Y Q .ret l H):fI Y (IW Y eh G K rM m Q) .ret l H:=h
variable {b:Bool}{d:Nat}{r:Bool}
theorem eq.or(aF:c6 l d=I (.p (.v (.bool b))))(bg:b=aS->(∀l',ew l' ((d,.p (.v (.bool r)))::l)->fI Y Q .normal l' H)->eq Y y Q l H)
  (k:fI Y Q .normal ((d,.p (.v (.bool (b||r))))::l) H):eq Y (.cond (.tmp d) .skip y) Q l H:=by
 refine eq.cond (b:=b) aF (λe=>eq.skip (fI.sub ?_ k)) λe=>bg e λl' aQ=>fI.sub aQ ?_
 ·subst e;exact ew.s (by simpa using aF) .lB
 ·subst e;exact k
theorem eq.and(aF:c6 l d=I (.p (.v (.bool b))))(aj:b=ad->(∀l',ew l' ((d,.p (.v (.bool r)))::l)->fI Y Q .normal l' H)->eq Y x Q l H)
  (k:fI Y Q .normal ((d,.p (.v (.bool (b&&r))))::l) H):eq Y (.cond (.tmp d) x .skip) Q l H:=by
 refine eq.cond (b:=b) aF (λe=>aj e λl' aQ=>fI.sub aQ ?_) λe=>eq.skip (fI.sub ?_ k)
 ·subst e;exact k
 ·subst e;exact ew.s (by simpa using aF) .lB
theorem eq.region{id:Nat}{os:List b_}(h:e0 Y os.toArray Q os l H):eq Y (.region id os.toArray aS) Q l H:=λg w a aO a4=>by refine wpIn_region ?_;have:=SX (X:=Y.X) (ops:=os.toArray) (Q:=Q) os 0 a w (λj=>by simp) (h g w a aO a4);simpa[List.range_eq_range']using this
variable {ops : Array b_} {rest : List b_}
theorem e0.nil(h:fI Y Q .normal l H):e0 Y ops Q [] l H:=h
theorem e0.sub{l':ce}(aQ:ew l l')(h:e0 Y ops Q rest l' H):e0 Y ops Q rest l H:=λg w a aO a4=>h g w a aO (a4.sub aQ)
variable {dst:Option Tmp}{op:Op}{ty:co}
theorem e0.ar{pos:String}{cT:Array jG}{dx c0:List (Nat×aN)}{d:V}(h:bP Y.X.P op ty (bV l) dx c0 d)(ev:gx H dx)(aG:m4 Y.X.N dst=ad)(k:e0 Y ops Q rest (hJ dst d l) (eH H c0)):
  e0 Y ops Q ({dst:=dst,op:=op,type:=ty,pos:=pos,after:=cT,guard:=aJ}::rest) l H:=λg w a aO a4=>by
 simp only[m0,tW,if_true,Oper.wpIn];refine⟨λ_ _=>trivial,?_⟩
 have fi:∀v w' g',cn w g H g' w' (eH H c0)->cN g' w' (eH H c0) d v->m0 Y.X ops Q rest (a.put dst v) w':=λv w' g' h1 h2=>
  k g' w' _ (aO.then h1) ((a4.bi h1.bi).put aG h2)
 rcases h g w H a.eval {dst:=dst,op:=op,type:=ty,pos:=pos,after:=cT,guard:=aJ} rfl rfl aO.jV ev (λx _ u hu=>a4.bB hu)with⟨v,w',h1,g',h2,ay⟩|⟨w',h1,g',h2,ay⟩|⟨n,h1,h2⟩
 ·rw[uY h1 (by intro d h;cases h)];exact fi v w' g' h2 ay
 ·rw[uY h1 (by intro d h;cases h)];exact fi undef w' g' h2 ay
 ·rw[uY h1 h2.CI];exact h2.MM λv w' ⟨g',ay,bl⟩=>fi v w' g' ay bl
theorem fy{H:List aN}:gx H []:=λ_ h=>by cases h
variable {i:Nat}
theorem fa{o:aN}(h:H[i]? =I o):gx H [(i,o)]:=λq aB=>by simp at aB;subst aB;exact h
theorem e0.q{t:Nat}{pos:String}{cT:Array jG}{d:V}(h:bP Y.X.P op ty (bV l) [] [] d)(aG:h4 t Y.X.N=ad)(k:e0 Y ops Q rest ((t,d)::l) H):e0 Y ops Q ({dst:=I t,op:=op,type:=ty,pos:=pos,after:=cT,guard:=aJ}::rest) l H:=
 e0.ar h fy aG k
theorem e0.o{pos:String}{cT:Array jG}{eP:aN}{c0:List (Nat×aN)}{d:V}(h:bP Y.X.P op ty (bV l) [(i,eP)] c0 d)(hi:H[i]? =I eP)(aG:m4 Y.X.N dst=ad)(k:e0 Y ops Q rest (hJ dst d l) (eH H c0)):
  e0 Y ops Q ({dst:=dst,op:=op,type:=ty,pos:=pos,after:=cT,guard:=aJ}::rest) l H:=e0.ar h (fa hi) aG k
variable {b:Bool}{j:Nat}
theorem Td{a:di}{X:jU}{g:cu}{w:bj}(a4:iX X g w H l a) {dM:Nat}(ag:(ops[j]?).bind (·.dst)=I dM)(aF:c6 l dM=I (.p (.v (.bool b)))):yielded ops a.tmps j=I b:=by obtain⟨v,h1,h2⟩:=a4.2.2 dM _ aF;have:=h2.ic;unfold yielded;rw[ag];simp[h1,this]
variable {cT:Array jG}{pos:String}{want:Bool}
theorem e0.MU(dM:Nat)(ag:(ops[j]?).bind (·.dst)=I dM)(aF:c6 l dM=I (.p (.v (.bool b))))(he:b=want)
  (k:e0 Y ops Q ({dst:=dst,op:=op,type:=ty,pos:=pos,after:=cT,guard:=aJ}::rest) l H):e0 Y ops Q ({dst:=dst,op:=op,type:=ty,pos:=pos,after:=cT,guard:=I (j,want)}::rest) l H:=λg w a aO a4=>by
 have ap:=k g w a aO a4;simp only[m0,tW,if_true]at ap;simp only[m0,tW,Td a4 ag aF,he,beq_self_eq_true,if_true];exact ap
theorem e0.bt{op:Op}{ty:co}{pos:String}{cT:Array jG}(dM:Nat)(ag:(ops[j]?).bind (·.dst)=I dM)(aF:c6 l dM=I (.p (.v (.bool b))))(he:b= !want)(aG:m4 Y.X.N dst=ad)
  (k:e0 Y ops Q rest (hJ dst (.p (.v undef)) l) H):e0 Y ops Q ({dst:=dst,op:=op,type:=ty,pos:=pos,after:=cT,guard:=I (j,want)}::rest) l H:=λg w a aO a4=>by
 have fM:(I b==I want)=aS:=by rw[he];cases want<;>rfl
 simp only[m0,tW,Td a4 ag aF,fM];exact k g w _ aO (a4.put aG (.v _))
theorem e0.and {r:Bool}(n d dM:Nat)(azL:c6 l dM=I (.p (.v (.bool b))))(aj:b=ad->(∀l',ew l' ((d,.p (.v (.bool r)))::l)->e0 Y ops Q (rest.drop n) l' H)->e0 Y ops Q rest l H)
  (bg:b=aS->(∀l',ew l' ((d,.p (.v (.bool aS)))::l)->e0 Y ops Q (rest.drop n) l' H)->e0 Y ops Q rest l H) (k:e0 Y ops Q (rest.drop n) ((d,.p (.v (.bool (b&&r))))::l) H):e0 Y ops Q rest l H:=by
 cases b with
 |true=>exact aj rfl λl' aQ=>e0.sub aQ k
 |false=>exact bg rfl λl' aQ=>e0.sub aQ k
end
mutual
def V.dN(s:Nat->Nat):V->V
 |.p x=>.p x
 |.cZ k n cs t m=>.cZ k n cs (s t) m
 |.aV i o=>.aV (s i) o
 |.bG cs=>.bG cs
 |.ek i o n c=>.ek (s i) o n c
 |.map i=>.map (s i)
 |.fn f b c=>.fn f (g7 s b) (g7 s c)
 |.agg cs=>.agg (g7 s cs)
 |.cx cs=>.cx (g7 s cs)
 |.gV i=>.gV (s i)
 |.z=>.z
 |.gs k n t m o=>.gs k n (s t) m o
 |.kr t m o=>.kr (s t) m o
def g7(s:Nat->Nat):List V->List V
 |[]=>[]
 |d::ds=>d.dN s::g7 s ds
end
mutual
def V.lt(k:Nat):V->Bool
 |.p _=>ad
 |.cZ _ _ _ t _=>h4 t k
 |.aV i _=>h4 i k
 |.bG _=>ad
 |.ek i _ _ _=>h4 i k
 |.map i=>h4 i k
 |.fn _ b c=>m5 k b&&m5 k c
 |.agg cs=>m5 k cs
 |.cx cs=>m5 k cs
 |.gV i=>h4 i k
 |.z=>ad
 |.gs _ _ t _ _=>h4 t k
 |.kr t _ _=>h4 t k
def m5(k:Nat):List V->Bool
 |[]=>ad
 |d::ds=>d.lt k&&m5 k ds
end
def xG(s:Nat->Nat):List (be×V)->List (be×V)
 |[]=>[]
 |p::r=>(p.1,p.2.dN s)::xG s r
def u6(s:Nat->Nat):ce->ce
 |[]=>[]
 |p::r=>(p.1,p.2.dN s)::u6 s r
def Fo(k:Nat):ce->Bool
 |[]=>ad
 |p::r=>p.2.lt k&&Fo k r
theorem Te(s:Nat->Nat):∀(l:ce)(t:Nat),c6 (u6 s l) t=(c6 l t).map (V.dN s)
 |[],_=>rfl
 |(d,v)::r,t=>by
  simp only[u6,c6];cases eF d t with
  |true=>rfl
  |false=>exact Te s r t
theorem aaB{k:Nat}:∀{l:ce}{t:Nat}{d:V},Fo k l=ad->c6 l t=I d->d.lt k=ad
 |(e,v)::r,t,d,h,aG=>by
  simp only[Fo,dn]at h;simp only[c6]at aG;cases aF:eF e t with
  |true=>rw[aF]at aG;simp at aG;rw[<-aG];exact h.1
  |false=>rw[aF]at aG;simp at aG;exact aaB h.2 aG
def aN.dN(s:Nat->Nat):aN->aN
 |.cc=>.cc
 |.cells T cs=>.cells T (g7 s cs)
 |.bA T cs=>.bA T cs
 |.bs T k m=>.bs T k m
 |.fq T k m cs=>.fq T k m cs
 |.gF T cs=>.gF T cs
 |.pt c bT kv=>.pt c bT (xG s kv)
 |.loop st ee f N fr ps a b j=>.loop st ee f N (u6 s fr) ps a b (s j)
 |.cD b=>.cD b
 |.rN j=>.rN (s j)
 |.oL dX kv=>.oL dX kv
 |.lX j A=>.lX (s j) A
 |.qd ds vs=>.qd (g7 s ds) vs
def aN.lt(k:Nat):aN->Bool
 |.cells _ cs=>m5 k cs
 |.pt _ _ kv=>m5 k (kv.map (·.2))
 |.loop _ _ _ _ fr _ _ _ j=>h4 j k&&Fo k fr
 |.rN j=>h4 j k
 |.lX j _=>h4 j k
 |.qd ds _=>m5 k ds
 |_=>ad
theorem Tf(s:Nat->Nat):∀kv:List (be×V),(xG s kv).map (·.1)=kv.map (·.1)
 |[]=>rfl
 |p::r=>by simp[xG,Tf s r]
theorem Tg(s:Nat->Nat):∀kv:List (be×V),(xG s kv).length=kv.length
 |[]=>rfl
 |p::r=>by simp[xG,Tg s r]
theorem Th(s:Nat->Nat):∀kv:List (be×V),(xG s kv).map (·.2)=g7 s (kv.map (·.2))
 |[]=>rfl
 |p::r=>by simp[xG,g7,Th s r]
def cu.dN(g:cu)(s:Nat->Nat):cu:=⟨λi=>g.β (s i),g.E,λi=>g.h (s i)⟩
section
variable {g : cu} {w : bj} {H Hc : List aN} {s : Nat -> Nat} {k0 : Nat}
structure MV(H Hc:List aN)(s:Nat->Nat)(k0:Nat):Prop where
 cL:∀i,i<k0->(cL H (s i)↔cL Hc i)
 e5:∀i,i<k0->e5 H (s i)=e5 Hc i
mutual
theorem IY(h:MV H Hc s k0):∀(d:V)(v:be),d.lt k0=ad->cN g w H (d.dN s) v->cN (g.dN s) w Hc d v
 |.p x,v,_,bp=>by cases bp with|p hp=>exact .p hp
 |.cZ k n cs t m,v,aC,bp=>by
  have aj:t<k0:=by simpa[V.lt,lA]using aC
  cases bp with|cZ hp ap=>obtain⟨m',a,b,c⟩:=ap;exact .cZ hp ⟨m',by rw[<-h.e5 t aj];exact a,b,c⟩
 |.aV i o,v,aC,bp=>by
  have hi:i<k0:=by simpa[V.lt,lA]using aC
  cases bp with|aV rV=>exact .aV (g:=g.dN s) ((h.cL i hi).1 rV)
 |.bG cs,v,_,bp=>by cases bp with|bG u aY aF hu gf=>exact .bG u aY aF hu gf
 |.ek i o n c,v,aC,bp=>by
  have hi:i<k0:=by simpa[V.lt,lA]using aC
  cases bp with|ek rV=>exact .ek (g:=g.dN s) ((h.cL i hi).1 rV)
 |.map i,v,aC,bp=>by
  have hi:i<k0:=by simpa[V.lt,lA]using aC
  cases bp with|map rV=>exact .map (g:=g.dN s) ((h.cL i hi).1 rV)
 |.fn f b c,v,aC,bp=>by simp only[V.lt,dn]at aC;cases bp with|fn h1 h2=>exact .fn (u7 h b _ aC.1 h1) (u7 h c _ aC.2 h2)
 |.agg cs,v,aC,bp=>by cases bp with|agg h1=>exact .agg (u7 h cs _ aC h1)
 |.cx cs,v,aC,bp=>by cases bp with|cx h1=>exact .cx (u7 h cs _ aC h1)
 |.z,v,aC,bp=>by cases bp;exact .z
 |.gs k n t m o,v,aC,bp=>by
  have aj:t<k0:=by simpa[V.lt,lA]using aC
  cases bp with|gs h1 ap=>obtain⟨m',a,b,c⟩:=ap;exact .gs h1 ⟨m',by rw[<-h.e5 t aj];exact a,b,c⟩
 |.kr t m o,v,aC,bp=>by
  have aj:t<k0:=by simpa[V.lt,lA]using aC
  cases bp with|kr h1 ap=>obtain⟨m',a,b,c⟩:=ap;exact .kr h1 ⟨m',by rw[<-h.e5 t aj];exact a,b,c⟩
 |.gV i,v,aC,bp=>by
  have hi:i<k0:=by simpa[V.lt,lA]using aC
  cases bp with|gV rV=>exact .gV (g:=g.dN s) ((h.cL i hi).1 rV)
theorem u7(h:MV H Hc s k0):∀(ds:List V)(vs:List be),m5 k0 ds=ad->dp g w H (g7 s ds) vs->dp (g.dN s) w Hc ds vs
 |[],vs,_,bp=>by cases bp with|nil=>exact .nil
 |d::ds,vs,aC,bp=>by simp only[m5,dn]at aC;cases bp with|cons h1 h2=>exact .cons (IY h d _ aC.1 h1) (u7 h ds _ aC.2 h2)
end
theorem MW{i:Nat}(h:cL Hc i):i<Hc.length:=by
 unfold cL at h;cases hi:Hc[i]? with
 |none=>rw[hi]at h;exact h.elim
 |some o=>exact(cz.1 hi).1
theorem Ti{i m:Nat}(h:e5 Hc i=I m):i<Hc.length:=by
 unfold e5 at h;cases hi:Hc[i]? with
 |none=>rw[hi]at h;cases h
 |some o=>exact(cz.1 hi).1
variable {g' : cu}
structure MX(g:cu)(H:List aN)(g':cu)(Hc:List aN)(s:Nat->Nat):Prop where
 cL:∀i,cL Hc i->cL H (s i)/\g.β (s i)=g'.β i
 e5:∀i m,e5 Hc i=I m->e5 H (s i)=I m/\g.h (s i)=g'.h i
 E:g.E=g'.E
mutual
theorem IZ(h:MX g H g' Hc s):∀(d:V)(v:be),cN g' w Hc d v->cN g w H (d.dN s) v
 |.p x,v,bp=>by cases bp with|p hp=>exact .p (by rw[h.E];exact hp)
 |.cZ k n cs t m,v,bp=>by cases bp with|cZ hp ap=>obtain⟨m',a,b,c⟩:=ap;have e:=h.e5 t m' a;exact .cZ (by rw[h.E];exact hp) ⟨m',e.1,b,λq=>by rw[e.2];exact c q⟩
 |.aV i o,v,bp=>by cases bp with|aV rV=>have e:=h.cL i rV;rw[<-e.2];exact .aV e.1
 |.bG cs,v,bp=>by cases bp with|bG u aY aF hu gf=>exact .bG u (by rw[h.E];exact aY) aF hu (by rw[h.E];exact gf)
 |.ek i o n c,v,bp=>by cases bp with|ek rV=>have e:=h.cL i rV;rw[<-e.2];exact .ek e.1
 |.map i,v,bp=>by cases bp with|map rV=>have e:=h.cL i rV;rw[<-e.2];exact .map e.1
 |.fn f b c,v,bp=>by cases bp with|fn h1 h2=>exact .fn (Az h b _ h1) (Az h c _ h2)
 |.agg cs,v,bp=>by cases bp with|agg h1=>exact .agg (Az h cs _ h1)
 |.cx cs,v,bp=>by cases bp with|cx h1=>exact .cx (Az h cs _ h1)
 |.z,v,bp=>by cases bp;exact .z
 |.gs k n t m o,v,bp=>by cases bp with|gs h1 ap=>obtain⟨m',a,b,c⟩:=ap;have e:=h.e5 t m' a;exact .gs h1 ⟨m',e.1,b,by rw[e.2];exact c⟩
 |.kr t m o,v,bp=>by cases bp with|kr h1 ap=>obtain⟨m',a,b,c⟩:=ap;have e:=h.e5 t m' a;exact .kr h1 ⟨m',e.1,b,by rw[e.2];exact c⟩
 |.gV i,v,bp=>by cases bp with|gV rV=>have e:=h.cL i rV;rw[<-e.2];exact .gV e.1
theorem Az(h:MX g H g' Hc s):∀(ds:List V)(vs:List be),dp g' w Hc ds vs->dp g w H (g7 s ds) vs
 |[],vs,bp=>by cases bp with|nil=>exact .nil
 |d::ds,vs,bp=>by cases bp with|cons h1 h2=>exact .cons (IZ h d _ h1) (Az h ds _ h2)
end
theorem lx.IY(aC:MV H Hc s k0){i:Nat}{o:aN}(aU:o.lt k0=ad)(h:lx g w H (s i) (o.dN s)):lx (g.dN s) w Hc i o:=by
 cases o with
 |cc=>trivial
 |cells T cs=>obtain⟨us,h1,h2,ay⟩:=h;exact⟨us,h1,u7 aC cs us aU h2,ay⟩
 |bA T cs=>exact h
 |gF T cs=>exact h
 |bs T k m=>exact h
 |fq T k m cs=>exact h
 |pt c bT kv=>obtain⟨us,h1,h2,ay⟩:=h;rw[Tf]at h1;rw[Th]at ay;exact⟨us,h1,by rw[h2,Tg],u7 aC _ us aU ay⟩
 |loop st ee f N fr ps a b j=>obtain⟨f0,tm,h1,h2,ay,bl⟩:=h;simp only[aN.lt,dn,lA]at aU;refine⟨f0,tm,h1,h2,(aC.cL j aU.1).1 ay,λt d aG=>?_⟩;obtain⟨v,bp,aO⟩:=bl t (d.dN s) (by rw[Te,aG];rfl);exact⟨v,bp,Go.Dp.IY aC d v (aaB aU.2 aG) aO⟩
 |cD b=>exact h
 |rN j=>obtain⟨a,b,h1,ay⟩:=h;simp only[aN.lt,lA]at aU;exact⟨a,b,h1,(aC.cL j aU).1 ay⟩
 |oL dX kv=>exact h
 |lX j A=>simp only[aN.lt,lA]at aU;exact⟨(aC.cL j aU).1 h.1,h.2⟩
 |qd ds vs=>exact u7 aC ds vs aU h
theorem lx.IZ(aF:MX g H g' Hc s){i:Nat}{o:aN}(hi:Hc[i]? =I o)(h:lx g' w Hc i o):lx g w H (s i) (o.dN s):=by
 cases o with
 |cc=>trivial
 |cells T cs=>obtain⟨us,h1,h2,ay⟩:=h;have e:=(aF.cL i (by unfold cL;rw[hi];trivial)).2;exact⟨us,by rw[e];exact h1,Az aF cs us h2,by rw[e,aF.E];exact ay⟩
 |bA T cs=>obtain⟨us,h1,h2,ay⟩:=h;have e:=(aF.cL i (by unfold cL;rw[hi];trivial)).2;exact⟨us,by rw[e];exact h1,by rw[aF.E];exact h2,by rw[e,aF.E];exact ay⟩
 |gF T cs=>obtain⟨us,h1,h2,ay⟩:=h;have e:=(aF.cL i (by unfold cL;rw[hi];trivial)).2;exact⟨us,by rw[e];exact h1,by rw[aF.E];exact h2,by rw[e,aF.E];exact ay⟩
 |bs T k m=>obtain⟨n,us,h1,h2⟩:=h;have e:=(aF.e5 i m (by unfold e5;rw[hi];rfl)).2;exact⟨n,us,by rw[e];exact h1,by rw[e,aF.E];exact h2⟩
 |fq T k m cs=>obtain⟨n,us,h1,ay,h2⟩:=h;have e:=(aF.e5 i m (by unfold e5;rw[hi];rfl)).2;exact⟨n,us,by rw[e];exact h1,by rw[aF.E];exact ay,by rw[e,aF.E];exact h2⟩
 |pt c bT kv=>obtain⟨us,h1,h2,ay⟩:=h;have e:=(aF.cL i (by unfold cL;rw[hi];trivial)).2;exact⟨us,by rw[e,Tf];exact h1,by rw[h2,Tg],by rw[Th];exact Az aF _ us ay⟩
 |loop st ee f N fr ps a b j=>
  obtain⟨f0,tm,h1,h2,ay,bl⟩:=h;have e:=(aF.cL i (by unfold cL;rw[hi];trivial)).2;have kY:=aF.cL j ay;refine⟨f0,tm,by rw[e,kY.2];exact h1,h2,kY.1,λt d aG=>?_⟩;rw[Te]at aG;cases aB:c6 fr t with
  |none=>rw[aB]at aG;cases aG
  |some db=>rw[aB]at aG;simp only[nE,je]at aG;subst aG;obtain⟨v,bp,aO⟩:=bl t db aB;exact⟨v,bp,Go.Dp.IZ aF db v aO⟩
 |cD b=>have e:=(aF.cL i (by unfold cL;rw[hi];trivial)).2;show w.heap[g.β (s i)]? =_;rw[e];exact h
 |rN j=>obtain⟨a,b,h1,ay⟩:=h;have e:=(aF.cL i (by unfold cL;rw[hi];trivial)).2;have kY:=aF.cL j ay;exact⟨a,b,by rw[e,kY.2];exact h1,kY.1⟩
 |oL dX kv=>obtain⟨c,bT,us,bh,h1,h2,ay,bl⟩:=h;have e:=(aF.cL i (by unfold cL;rw[hi];trivial)).2;exact⟨c,bT,us,bh,by rw[e];exact h1,h2,ay,by rw[aF.E];exact bl⟩
 |lX j A=>have kY:=aF.cL j h.1;exact⟨kY.1,kY.2.trans h.2⟩
 |qd ds vs=>exact Az aF ds vs h
theorem Tj{s:Nat->Nat}{o:aN}:xy (I (o.dN s))↔xy (I o):=by cases o<;>exact Iff.rfl
theorem Tk{s:Nat->Nat}{o:aN}:xx (I (o.dN s))=xx (I o):=by cases o<;>rfl
end
def b0(a1:List Nat):Nat->Nat:=λi=>a1.getD i 0
def xH(H Hc:List aN)(a1:List Nat):Prop:=a1.length=Hc.length/\∀(i:Nat)(o:aN),Hc[i]? =I o->H[b0 a1 i]? =I (o.dN (b0 a1))
theorem xH.CN{H Hc:List aN}{a1:List Nat}(h:xH H Hc a1):MV H Hc (b0 a1) Hc.length:=by
 refine⟨λi hi=>?_,λi hi=>?_⟩
 ·have e:=bN hi;unfold cL;rw[h.2 i _ e,e];exact Tj
 ·have e:=bN hi;unfold e5;rw[h.2 i _ e,e];exact Tk
theorem y2{a1:List Nat}{i:Nat}(hi:i<a1.length):a1[i]? =I (b0 a1 i):=by simp[b0,Cz,bN hi]
theorem aaC{a1:List Nat}(a6:a1.Nodup){i j:Nat}(hi:i<a1.length)(ag:j<a1.length)(e:b0 a1 i=b0 a1 j):i=j:=
 (List.getElem?_inj hi a6).1 (by rw[y2 hi,y2 ag,e])
theorem MY{g:cu}{H Hc:List aN}{a1:List Nat}(h:xH H Hc a1){i b:Nat}(aU:own (g.dN (b0 a1)) Hc i b):i<Hc.length/\own g H (b0 a1 i) b:=by
 unfold own at aU⊢;cases hi:Hc[i]? with
 |none=>rw[hi]at aU;exact aU.elim
 |some o=>refine⟨(cz.1 hi).1,?_⟩;rw[h.2 i o hi];rw[hi]at aU;cases o<;>exact aU
theorem g6.a1{g:cu}{w:bj}{H Hc:List aN}{a1:List Nat}(h:g6 g w H)(aQ:xH H Hc a1)(a6:a1.Nodup)(b':Hc.all (aN.lt Hc.length)=ad):g6 (g.dN (b0 a1)) w Hc:=by
 refine⟨h.oe,λi o hi=>?_,λi j b h1 h2=>?_⟩
 ·exact lx.IY aQ.CN (kX.1 b' o (cm hi)) (h.eP _ _ (aQ.2 i o hi))
 ·obtain⟨fW,er⟩:=MY aQ h1;obtain⟨jj,eI⟩:=MY aQ h2;exact aaC a6 (by rw[aQ.1];exact fW) (by rw[aQ.1];exact jj) (h.lY _ _ b er eI)
def tX(aw:cF)(f:hE)(args:List V)(H:List aN)(post:V->List aN->Prop):Prop:=
 ∀(g:cu)(w:bj)(vs:List be),g6 g w H->dp g w H args vs->Calls aw f vs.toArray w λe w'=>∃v g' r H',e=.returned v/\post r H'/\cn w g H g' w' H'/\cN g' w' H' r v
def eW(s:Nat->Nat):List Nat->List aN->List (Nat×aN)
 |j::Tl,o::os=>(j,o.dN s)::eW s Tl os
 |_,_=>[]
theorem Tm:∀(ws:List (Nat×aN))(H:List aN),(eH H ws).length=H.length
 |[],_=>rfl
 |(i,o)::r,H=>by rw[eH,Tm r];simp
theorem I0:∀(ws:List (Nat×aN))(H:List aN)(j:Nat),(∀q∈ws,q.1≠j)->(eH H ws)[j]? =H[j]?
 |[],_,_,_=>rfl
 |(i,o)::r,H,j,h=>by rw[eH,I0 r _ j λq aB=>h q (by simp[aB]),lf λe=>h (i,o) (by simp) e.symm]
theorem aaD:∀(ws:List (Nat×aN))(H:List aN)(j:Nat)(o:aN),(ws.map (·.1)).Nodup->(j,o)∈ws->j<H.length->(eH H ws)[j]? =I o
 |[],_,_,_,_,h,_=>by cases h
 |(i,q)::r,H,j,o,a6,h,aC=>by
  simp only[hH,q3]at a6;rw[eH];rcases qf.1 h with e|e
  ·cases e;rw[I0 r _ i λq aB e=>a6.1 (by rw[<-e];exact Ax aB),kV aC]
  ·exact aaD r _ j o a6.2 e (by simpa using aC)
theorem Tn(s:Nat->Nat):∀(S:List Nat)(Hc:List aN)(i:Nat)(o:aN)(j:Nat),S[i]? =I j->Hc[i]? =I o->(j,o.dN s)∈eW s S Hc
 |[],_,i,o,j,h,_=>by simp at h
 |_::_,[],i,o,j,_,h=>by simp at h
 |q::S,p::Hc,0,o,j,h1,h2=>by simp at h1 h2;subst h1;subst h2;simp[eW]
 |q::S,p::Hc,i+1,o,j,h1,h2=>by simp[eW];exact .inr (Tn s S Hc i o j (by simpa using h1) (by simpa using h2))
theorem To(s:Nat->Nat):∀(S:List Nat)(Hc:List aN)(q:Nat×aN),q∈eW s S Hc->∃i,i<Hc.length/\S[i]? =I q.1
 |[],_,q,h=>by simp[eW]at h
 |_::_,[],q,h=>by simp[eW]at h
 |a::S,p::Hc,q,h=>by
  simp only[eW,qf]at h;rcases h with rfl|h
  ·exact⟨0,by simp,rfl⟩
  ·obtain⟨i,h1,h2⟩:=To s S Hc q h;exact⟨i+1,by simpa using h1,by simpa using h2⟩
theorem Tp(s:Nat->Nat):∀(S:List Nat)(Hc:List aN),S.Nodup->((eW s S Hc).map (·.1)).Nodup
 |[],_,_=>by simp[eW]
 |_::_,[],_=>by simp[eW]
 |a::S,p::Hc,h=>by simp only[q3]at h;simp only[eW,hH,q3];refine⟨λhm=>?_,Tp s S Hc h.2⟩;obtain⟨q,aB,e⟩:=lz.1 hm;obtain⟨i,_,h2⟩:=To s S Hc q aB;exact h.1 (by rw[<-e];exact cm h2)
theorem ajC{a1 fr:List Nat}{i:Nat}(hi:i<a1.length):b0 (a1++fr) i=b0 a1 i:=by unfold b0;rw[sG,sG,oI hi]
theorem Tq{g g':cu}{w w':bj}{H Hc eM:List aN}{a1 fr:List Nat}(h:g6 g w H)(aQ:xH H Hc a1)(a6:(a1++fr).Nodup)(dH:∀j∈fr,H[j]? =I .cc)(hle:a1.length<=eM.length)(Fg:eM.length<=(a1++fr).length)
  (k:cn w (g.dN (b0 a1)) Hc g' w' eM):∃aaE,cn w g H aaE w' (eH H (eW (b0 (a1++fr)) (a1++fr) eM))/\∀r v,cN g' w' eM r v->cN aaE w' (eH H (eW (b0 (a1++fr)) (a1++fr) eM)) (r.dN (b0 (a1++fr))) v:=by
 classical
 obtain⟨S,fG⟩:∃S,a1++fr=S:=⟨_,rfl⟩
 have I1:∀i,i<a1.length->b0 S i=b0 a1 i:=λi hi=>by rw[<-fG];exact ajC hi
 rw[fG]at a6 Fg⊢;obtain⟨H2,AA⟩:∃H2,eH H (eW (b0 S) S eM)=H2:=⟨_,rfl⟩
 rw[AA];have ajD:∀i,i<eM.length->b0 S i<H.length:=λi hi=>by
  by_cases e:i<a1.length
  ·rw[I1 i e];have ax:i<Hc.length:=by rw[<-aQ.1];exact e
   exact(cz.1 (aQ.2 i _ (bN ax))).1
  ·have hm:b0 S i∈fr:=by
    have h1:=y2 (a1:=S) (i:=i) (by omega);rw[<-fG,q2 (by omega)]at h1;rw[<-fG];exact cm h1
   exact(cz.1 (dH _ hm)).1
 have gM:∀i o,eM[i]? =I o->H2[b0 S i]? =I (o.dN (b0 S)):=λi o hi=>by have aC:=(cz.1 hi).1;rw[<-AA];exact aaD _ _ _ _ (Tp _ _ _ a6) (Tn _ S eM i o _ (y2 (by omega)) hi) (ajD i aC)
 have CO:∀j,(∀i,i<eM.length->b0 S i≠j)->H2[j]? =H[j]? :=λj ag=>by rw[<-AA];refine I0 _ _ _ λq aB e=>?_;obtain⟨i,h1,h2⟩:=To _ _ _ q aB;rw[y2 (by omega)]at h2;exact ag i h1 (by rw[rS h2];exact e)
 have ajE:∀i j,i<eM.length->j<eM.length->b0 S i=b0 S j->i=j:=λi j hi ag e=>aaC a6 (by omega) (by omega) e;let dU:cu:=⟨λj=>if h:∃i,i<eM.length/\b0 S i=j then g'.β (Av h)else g.β j,g'.E,λj=>if h:∃i,i<eM.length/\b0 S i=j then g'.h (Av h)else g.h j⟩
 have xI:∀i (hi:i<eM.length),∃h:∃jH,jH<eM.length/\b0 S jH=b0 S i,Av h=i:=λi hi=>by
  have h:∃jH,jH<eM.length/\b0 S jH=b0 S i:=⟨i,hi,rfl⟩
  exact⟨h,ajE _ _ (IR h).1 hi (IR h).2⟩
 have rQ:∀i,i<eM.length->dU.β (b0 S i)=g'.β i:=λi hi=>by obtain⟨h,e⟩:=xI i hi;show(if h:∃jH,jH<eM.length/\b0 S jH=b0 S i then g'.β (Av h)else _)=_;rw[dif_pos h,e]
 have Tr:∀i,i<eM.length->dU.h (b0 S i)=g'.h i:=λi hi=>by obtain⟨h,e⟩:=xI i hi;show(if h:∃jH,jH<eM.length/\b0 S jH=b0 S i then g'.h (Av h)else _)=_;rw[dif_pos h,e]
 have dL:∀j,(∀i,i<eM.length->b0 S i≠j)->dU.β j=g.β j/\dU.h j=g.h j:=λj ag=>by have a6:¬ ∃i,i<eM.length/\b0 S i=j:=λ⟨i,h1,h2⟩=>ag i h1 h2;exact⟨dif_neg a6,dif_neg a6⟩
 have MZ:MX dU H2 g' eM (b0 S):=by
  refine⟨λi hi=>?_,λi m hi=>?_,rfl⟩
  ·have aC:=MW hi;have e:=bN aC;refine⟨?_,rQ i aC⟩;unfold cL at hi⊢;rw[gM i _ e];rw[e]at hi;exact Tj.2 hi
  ·have aC:=Ti hi;have e:=bN aC;refine⟨?_,Tr i aC⟩;unfold e5 at hi⊢;rw[gM i _ e];rw[e]at hi;rw[Tk];exact hi
 have uZ:∀j,(∃i,i<eM.length/\b0 S i=j)\/∀i,i<eM.length->b0 S i≠j:=λj=>by
  by_cases ak:∃i,i<eM.length/\b0 S i=j
  ·exact .inl ak
  ·exact .inr λi h1 h2=>ak ⟨i,h1,h2⟩
 have hold:∀i,i<eM.length->Hc.length<=i->H[b0 S i]? =I .cc:=λi hi ax=>by refine dH _ ?_;have h1:=y2 (a1:=S) (i:=i) (by omega);rw[<-fG,q2 (by rw[aQ.1];exact ax)]at h1;rw[<-fG];exact cm h1
 have aaF:∀i o,Hc[i]? =I o->H[b0 S i]? =I (o.dN (b0 a1)):=λi o hi=>by rw[I1 i (by rw[aQ.1];exact(cz.1 hi).1)];exact aQ.2 i o hi
 have ei:iA g w H dU w' H2:=by
  refine⟨k.bi.size,k.bi.E,k.bi.cell,λj ag=>?_,λt m aj=>?_⟩
  ·rcases uZ j with⟨i,hi,rfl⟩|kU
   ·by_cases ax:i<Hc.length
    ·have e:=bN ax;have aC:cL Hc i:=by unfold cL at ag⊢;rw[aaF i _ e]at ag;rw[e];exact Tj.1 ag
     obtain⟨a,b⟩:=k.bi.cL i aC;refine⟨(MZ.cL i a).1,?_⟩;rw[rQ i hi,b];show g.β (b0 a1 i)=_;rw[I1 i (by rw[aQ.1];exact ax)]
    ·unfold cL at ag;rw[hold i hi (by omega)]at ag;exact ag.elim
   ·exact⟨by unfold cL at ag⊢;rw[CO j kU];exact ag,(dL j kU).1⟩
  ·rcases uZ t with⟨i,hi,rfl⟩|kU
   ·by_cases ax:i<Hc.length
    ·have e:=bN ax;have aC:e5 Hc i=I m:=by unfold e5 at aj⊢;rw[aaF i _ e]at aj;rw[e];rw[Tk]at aj;exact aj
     obtain⟨m',a,b,c⟩:=k.bi.bs i m aC;refine⟨m',(MZ.e5 i m' a).1,b,λq=>?_⟩;rw[Tr i hi,c q];show g.h (b0 a1 i)=_;rw[I1 i (by rw[aQ.1];exact ax)]
    ·unfold e5 at aj;rw[hold i hi (by omega)]at aj;cases aj
   ·exact⟨m,by unfold e5 at aj⊢;rw[CO t kU];exact aj,bL _,λ_=>(dL t kU).2⟩
 have Ts:∀i b,own (g.dN (b0 a1)) Hc i b->own g H (b0 S i) b/\i<Hc.length:=λi b aU=>by obtain⟨l,o⟩:=MY aQ aU;exact⟨by rw[I1 i (by rw[aQ.1];exact l)];exact o,l⟩
 have Tt:∀i b,i<eM.length->own dU H2 (b0 S i) b->own g' eM i b:=λi b hi aU=>by have e:=bN hi;unfold own at aU⊢;rw[gM i _ e]at aU;rw[e];cases rW:eM[i]<;>rw[rW]at aU<;>simp only[aN.dN,xz,rQ i hi,Tr i hi]at aU⊢ <;>exact aU
 have M0:∀j b,(∀i,i<eM.length->b0 S i≠j)->(own dU H2 j b↔own g H j b):=λj b ag=>by
  obtain⟨a2,bc⟩:=dL j ag;unfold own;rw[CO j ag];cases H[j]? with
  |none=>exact Iff.rfl
  |some o=>cases o<;>simp only[xz,a2,bc]
 have Tu:∀i b,i<eM.length->own dU H2 (b0 S i) b->(∃jH,jH<Hc.length/\own g H (b0 S jH) b)\/w.heap.size<=b:=λi b hi aU=>by
  rcases k.rP i b (Tt i b hi aU)with⟨jH,cr⟩|cr
  ·obtain⟨a,b⟩:=Ts jH _ cr;exact .inl ⟨jH,b,a⟩
  ·exact .inr cr
 have Tv:∀i,i<Hc.length->i<eM.length:=λi hi=>by rw[<-aQ.1]at hi;omega
 refine⟨dU,⟨k.os,k.tape,k.output,h.oe.bi ei,ei,λb aF aaG=>k.iq b aF λi aU=>aaG _ (Ts i b aU).1,λj o ag=>?_,λi j b h1 h2=>?_,λj b aU=>?_⟩,λr v bp=>IZ MZ r v bp⟩
 ·rcases uZ j with⟨i,hi,rfl⟩|kU
  ·have e:=bN hi;rw[gM i _ e]at ag;cases ag;exact lx.IZ MZ e (k.eP i _ e)
  ·rw[CO j kU]at ag;refine lx.bi ei ag (λb aF=>k.iq b (y1 h aF) λi aU=>?_) (λ_ _ _ _ _=>(dL j kU).2) (h.eP j o ag);obtain⟨a,l⟩:=Ts i b aU;exact kU i (Tv i l) (h.lY _ _ b a aF)
 ·rcases uZ i with⟨i1,hi,rfl⟩|tY
  ·rcases uZ j with⟨xJ,ag,rfl⟩|kU
   ·rw[k.lY i1 xJ b (Tt i1 b hi h1) (Tt xJ b ag h2)]
   ·have aaH:=(M0 j b kU).1 h2;rcases Tu i1 b hi h1 with⟨i2,jj,eI⟩|Tw
    ·exact absurd (h.lY _ _ b eI aaH) (kU i2 (Tv i2 jj))
    ·have:=y1 h aaH;omega
  ·have li:=(M0 i b tY).1 h1;rcases uZ j with⟨xJ,ag,rfl⟩|kU
   ·rcases Tu xJ b ag h2 with⟨i2,jj,eI⟩|Tw
    ·exact absurd (h.lY _ _ b eI li) (tY i2 (Tv i2 jj))
    ·have:=y1 h li;omega
   ·exact h.lY i j b li ((M0 j b kU).1 h2)
 ·rcases uZ j with⟨i,hi,rfl⟩|kU
  ·rcases Tu i b hi aU with⟨i2,_,eI⟩|Tw
   ·exact .inl ⟨_,eI⟩
   ·exact .inr Tw
  ·exact .inl ⟨j,(M0 j b kU).1 aU⟩
theorem Fp{g:cu}{w:bj}{H:List aN}{ρ:bY->Option V}{e:bY->be}:∀{args:List bY}{ds:List V},args.map ρ=ds.map I->(∀x∈args,∀u,ρ x=I u->cN g w H u (e x))->dp g w H ds (args.map e)
 |[],[],_,_=>.nil
 |[],_::_,h,_=>by simp at h
 |_::_,[],h,_=>by simp at h
 |x::xs,d::ds,h,bg=>by simp only[hH,List.cons.injEq]at h;exact .cons (bg x (by simp) d h.1) (Fp h.2 λy a9=>bg y (by simp[a9]))
theorem M1{H Hc:List aN}{a1:List Nat}(aC:a1.length=Hc.length)(h:gx H (eW (b0 a1) a1 Hc)):xH H Hc a1:=by
 refine⟨aC,λi o hi=>?_⟩;have b':i<a1.length:=by rw[aC];exact(cz.1 hi).1
 exact h _ (Tn (b0 a1) a1 Hc i o _ (y2 b') hi)
structure rX(Hc eM:List aN)(ds:List V)(a1 fr:List Nat):Prop where
 len:a1.length=Hc.length
 lt:m5 Hc.length ds=ad
 lo:Hc.all (aN.lt Hc.length)=ad
 af:(a1++fr).Nodup
 jW:a1.length<=eM.length
 Tx:eM.length<=(a1++fr).length
theorem rX.mH{Hc eM:List aN}{ds:List V}{a1 fr:List Nat}(h:(eF a1.length Hc.length&&m5 Hc.length ds&&Hc.all (aN.lt Hc.length)&&decide (a1++fr).Nodup&&fb a1.length eM.length&&fb eM.length (a1++fr).length)=ad):rX Hc eM ds a1 fr:=by simp only[dn,decide_eq_true_eq,Nat.beq_eq_true_eq,Fk]at h;obtain⟨⟨⟨⟨⟨a,b⟩,c⟩,d⟩,e⟩,f⟩:=h;exact⟨mi a,b,c,d,e,f⟩
theorem aaI{aw:cF}{f:hE}{ds:List V}{Hc:List aN}{post:V->List aN->Prop}(ax:tX aw f ds Hc post){g:cu}{w:bj}{H:List aN}{vs:List be}{a1 fr:List Nat}(aO:g6 g w H)(lC:gx H (eW (b0 a1) a1 Hc))(dH:∀j∈fr,H[j]? =I .cc)
  (dy:∀r H',post r H'->rX Hc H' ds a1 fr) (M2:a1.length=Hc.length/\m5 Hc.length ds=ad/\Hc.all (aN.lt Hc.length)=ad/\a1.Nodup) (bp:dp g w H (g7 (b0 a1) ds) vs):
  Calls aw f vs.toArray w λhG w'=>∃v,hG=.returned v/\∃r H' g',post r H'/\cn w g H g' w' (eH H (eW (b0 (a1++fr)) (a1++fr) H'))/\cN g' w' (eH H (eW (b0 (a1++fr)) (a1++fr) H')) (r.dN (b0 (a1++fr))) v:=by
 have aQ:=M1 M2.1 lC;refine Calls.mono (ax (g.dN (b0 a1)) w vs (aO.a1 aQ M2.2.2.2 M2.2.2.1) (u7 aQ.CN ds vs M2.2.1 bp)) ?_;rintro hG w' ⟨v,g',r,H',rfl,hp,h1,h2⟩;have c:=dy r H' hp;obtain⟨dU,bX,dV⟩:=Tq aO aQ c.af dH c.jW c.Tx h1;exact⟨v,rfl,r,H',dU,hp,bX,dV r v h2⟩
section
variable {aw : cF} {ty : co} {ρ : bY -> Option V}
variable {f:hE}
theorem bP.M3{op:Op}{ds:List V}{Hc eM:List aN}{a1 fr:List Nat}{r:V}(ax:tX aw f ds Hc (λh5 H'=>h5=r/\H'=eM))(dy:rX Hc eM ds a1 fr)
  (AB:∀(g:cu)(w:bj)(H:List aN)(e:bY->be)(o:b_),o.op=op->(∀x∈op.operands,∀u,ρ x=I u->cN g w H u (e x))->∃vs:List be,(execOp e o).run aw w=.ok (.enter f vs.toArray) w/\dp g w H (g7 (b0 a1) ds) vs):
  bP aw op ty ρ (eW (b0 a1) a1 Hc++fr.map λj=>(j,.cc)) (eW (b0 (a1++fr)) (a1++fr) eM) (r.dN (b0 (a1++fr))):=λg w H e o aU aj aO ev bg=>by
 obtain⟨vs,h1,h2⟩:=AB g w H e o aU bg;refine .inr (.inr ⟨_,h1,.aX (Calls.mono (aaI ax aO (λq aB=>ev q (List.mem_append_left _ aB)) (λj ag=>ev (j,.cc) (List.mem_append_right _ (lz.2 ⟨j,ag,rfl⟩))) (λh5 H' hp=>by obtain⟨rfl,rfl⟩:=hp;exact dy) ⟨dy.len,dy.lt,dy.lo,(List.nodup_append.1 dy.af).1⟩ h2) ?_)⟩);rintro hG w' ⟨v,rfl,h5,H',g',⟨rfl,rfl⟩,bX,dV⟩;exact⟨v,rfl,g',bX,dV⟩
variable {args:List bY}{e:bY->be}{tys:Array co}{w:bj}
theorem Ty{o:b_}(he:e (.func f)=.func (.func f) #[] #[])(aU:o.op=.call {callee:=.value (.func f),args:=args.toArray,argTypes:=tys})(bg:∀args w,(callFunc f args).run aw w=.ok (.enter f args) w):
  (execOp e o).run aw w=.ok (.enter f (args.map e).toArray) w:=by
 unfold execOp;rw[aU];simp[resolve,he,Deferred.ofValue,invoke,cq,cp,bg]
theorem aaJ{x:bY}{us cs:List be}{o:b_}(he:e x=.func (.func f) us.toArray cs.toArray)(aU:o.op=.call {callee:=.value x,args:=args.toArray,argTypes:=tys})(bg:∀args w,(callFunc f args).run aw w=.ok (.enter f args) w):
  (execOp e o).run aw w=.ok (.enter f (us++args.map e++cs).toArray) w:=by
 unfold execOp;rw[aU];simp[resolve,he,Deferred.ofValue,invoke,cq,cp,bg]
theorem bP.call{f:hE}{args:List bY}{tys:Array co}{ds:List V}{Hc eM:List aN}{a1 fr:List Nat}{r:V}(ax:tX aw f ds Hc (λh5 H'=>h5=r/\H'=eM))(bg:∀args w,(callFunc f args).run aw w=.ok (.enter f args) w)
  (q6:ρ (.func f)=I (.p (.v (.func (.func f) #[] #[])))) (kw:args.map ρ=(g7 (b0 a1) ds).map I) (dy:rX Hc eM ds a1 fr):
  bP aw (.call {callee:=.value (.func f),args:=args.toArray,argTypes:=tys}) ty ρ (eW (b0 a1) a1 Hc++fr.map λj=>(j,.cc)) (eW (b0 (a1++fr)) (a1++fr) eM) (r.dN (b0 (a1++fr))):=
 bP.M3 ax dy λg w H e o aU dH=>⟨args.map e,Ty (dH _ (by simp[dw,ji]) _ q6).ic aU bg,Fp kw λx ak=>dH x (by simp[dw,ji,ak])⟩
end
def wi:Nat->List V->ce
 |_,[]=>[]
 |n,v::vs=>(n,v)::wi (n+1) vs
theorem M4:∀(vs:List V)(n t:Nat)(v:V),c6 (wi n vs) t=I v->n<=t/\vs[t-n]? =I v
 |[],n,t,v,h=>by simp[wi,c6]at h
 |u::us,n,t,v,h=>by
  simp only[wi,c6]at h;by_cases e:n=t
  ·subst e;rw[show eF n n=ad from kq n]at h;simp only[cond_true,je]at h;simp[h]
  ·rw[tS e]at h;obtain⟨h1,h2⟩:=M4 us (n+1) t v h;refine⟨by omega,?_⟩;have:t-n=(t-(n+1))+1:=by omega
   rw[this];simpa using h2
def kx(w:bj)(g:cu)(H:List aN)(post:V->List aN->Prop):Ending->bj->Prop:=λe w'=>∃v g' r H',e=.returned v/\post r H'/\cn w g H g' w' H'/\cN g' w' H' r v
theorem tX.aX{aw:cF}{f:hE}{fn:Func}{c:eZ}{N:Nat}{ds:List V}{H:List aN}{post:V->List aN->Prop}(bg:aw.funcs[f]? =I fn)(aF:fn.body=I c)(fz:fn.ntmps=N)(hle:fb ds.length N=ad)
  (h:∀w g,eq ⟨⟨aJ,aw,N,[]⟩,w,g,H⟩ c (bodyPost aw fn (kx w g H post)) (wi 0 ds) H):tX aw f ds H post:=λg w vs aO bp=>by
 refine(callsIn_wide (n:=0)).1 (callsIn_of_wp bg aF trivial ?_);have aC:=bp.len;refine h w g g w _ aO.kf ⟨rfl,?_,λt d aj=>?_⟩
 ·have:ds.length<=N:=nn hle;simp[fz];omega
 ·obtain⟨_,h2⟩:=M4 ds 0 t d aj;simp only[Nat.sub_zero]at h2;obtain⟨v,ay,bl⟩:=bp.ae h2;have b':t<vs.length:=(cz.1 ay).1;refine⟨v,?_,bl⟩;simp only[Array.getElem?_append,List.size_toArray,b',if_true];simpa using ay
theorem eq.ext{Y:gY}{c:eZ}{Q:df->di->bj->Prop}{l:ce}{H:List aN}(n:Nat)(h:eq Y c Q l (H++cC n .cc)):eq Y c Q l H:=λg w a aO a4=>by
 obtain⟨H2,AA⟩:∃H2,H++cC n aN.cc=H2:=⟨_,rfl⟩
 rw[AA]at h;have b5:∀i,H2[i]? =H[i]? \/(H[i]? =aJ/\H2[i]? =I aN.cc)\/(H[i]? =aJ/\H2[i]? =aJ):=λi=>by
  rw[<-AA];by_cases hi:i<H.length
  ·exact .inl (oI hi)
  ·rw[q2 (by omega),List.getElem?_replicate];have e:H[i]? =aJ:=nD (by omega);split
   ·exact .inr (.inl ⟨e,rfl⟩)
   ·exact .inr (.inr ⟨e,rfl⟩)
 have aC:∀i,cL H2 i↔cL H i:=λi=>by
  unfold cL;rcases b5 i with e|⟨a2,bc⟩|⟨a2,bc⟩
  ·rw[e]
  ·rw[a2,bc];exact Iff.rfl
  ·rw[a2,bc]
 have ax:∀i,e5 H2 i=e5 H i:=λi=>by
  unfold e5;rcases b5 i with e|⟨a2,bc⟩|⟨a2,bc⟩
  ·rw[e]
  ·rw[a2,bc];rfl
  ·rw[a2,bc]
 have aU:∀i b,own g H2 i b↔own g H i b:=λi b=>by
  unfold own;rcases b5 i with e|⟨a2,bc⟩|⟨a2,bc⟩
  ·rw[e]
  ·rw[a2,bc];exact Iff.rfl
  ·rw[a2,bc]
 have ei:iA g w H g w H2:=⟨bL _,λ_ _=>bL _,λ_ _ _ _=>rfl,λi hi=>⟨(aC i).2 hi,rfl⟩,λt m aj=>⟨m,by rw[ax];exact aj,bL _,λ_=>rfl⟩⟩
 refine h g w a ⟨aO.os,aO.tape,aO.output,aO.oe.bi ei,aO.bi.trans ei,aO.iq,λi o hi=>?_,λi j b h1 h2=>aO.lY i j b ((aU i b).1 h1) ((aU j b).1 h2),λi b h1=>aO.rP i b ((aU i b).1 h1)⟩ (a4.bi ei);rcases b5 i with e|⟨_,bc⟩|⟨_,bc⟩
 ·rw[e]at hi;exact lx.bi ei hi (λ_ _=>⟨rfl,rfl⟩) (λ_ _ _ _ _=>rfl) (aO.eP i o hi)
 ·rw[bc]at hi;cases hi;trivial
 ·rw[bc]at hi;cases hi
theorem cn.keep{cK w:bj}{cl g:cu}{ca H e1:List aN}{a1:List Nat}(h:cn cK cl ca g w H)(aQ:xH H e1 a1)(a6:a1.Nodup)(b':e1.all (aN.lt e1.length)=ad)(u9:∀i,i<ca.length->i<a1.length/\b0 a1 i=i):cn cK cl ca (g.dN (b0 a1)) w e1:=by
 have bh:=h.jV.a1 aQ a6 b';have aC:=aQ.CN;refine⟨h.os,h.tape,h.output,h.oe,⟨h.bi.size,h.bi.E,h.bi.cell,λi hi=>?_,λt m aj=>?_⟩,h.iq,bh.eP,bh.lY,λi b aU=>?_⟩
 ·obtain⟨a,b⟩:=h.bi.cL i hi;obtain⟨c,d⟩:=u9 i (MW hi);refine⟨(aC.cL i (by rw[<-aQ.1];exact c)).1 (by rw[d];exact a),?_⟩;show g.β (b0 a1 i)=_;rw[d];exact b
 ·obtain⟨m',a,b,e⟩:=h.bi.bs t m aj;obtain⟨c,d⟩:=u9 t (Ti aj);refine⟨m',by rw[<-aC.e5 t (by rw[<-aQ.1];exact c),d];exact a,b,λq=>?_⟩;show g.h (b0 a1 t)=_;rw[d];exact e q
 ·obtain⟨_,o⟩:=MY aQ aU;exact h.rP _ b o
def mg(aw:cF)(l:ce)(H:List aN)(rv:sF)(d:V):Prop:=∀(X:jU)(g:cu)(w:bj)(a:di),g6 g w H->iX X g w H l a->∃v,(Am a rv).run aw w=.ok v w/\cN g w H d v
theorem mg.tmp{aw:cF}{l:ce}{H:List aN}{t:Nat}{d:V}(h:c6 l t=I d):mg aw l H (.tmp t) d:=λX g w a _ a4=>by obtain⟨v,h1,h2⟩:=a4.2.2 t d h;exact⟨v,by simp[Am,qc,h1],h2⟩
theorem mg.cell{aw:cF}{l:ce}{H:List aN}{t T c8 i off:Nat}{cs:List V}{d:V}(h:c6 l t=I (.aV i off))(hi:H[i]? =I (.cells c8 cs))(cw:∀w,(isAgg T).run aw w=.ok aS w)(aG:cs[off]? =I d):mg aw l H (.cell t T) d:=λX g w a aO a4=>by obtain⟨u,h1,h2⟩:=a4.2.2 t _ h;obtain⟨us,eO,ax,_⟩:=aO.eP i _ hi;obtain⟨v,bp,mj⟩:=ax.ae aG;cases h2 with|aV aC=>exact⟨v,by simp[Am,qc,h1,asAddr,cq,cp,Fa cw ((eO.cell (o:=off)).trans bp)],mj⟩
theorem mg.CD{aw:cF}{l:ce}{H:List aN}{t T c8 i off n:Nat}{cs:List V}(h:c6 l t=I (.aV i off))(hi:H[i]? =I (.cells c8 cs))(cw:∀w,(isAgg T).run aw w=.ok ad w)(a6:∀w,(sizeOf T).run aw w=.ok n w)(aC:fb (off+n) cs.length=ad):
  mg aw l H (.cell t T) (.agg ((cs.drop off).take n)):=λX g w a aO a4=>by
 obtain⟨u,h1,h2⟩:=a4.2.2 t _ h;obtain⟨us,eO,ax,_⟩:=aO.eP i _ hi;have aC:=nn aC;have wh:=ax.len;have hC:tU w (g.β i) off ((us.drop off).take n):=λj ag=>by rw[fF]at ag;rw[eO.cell,kd,if_pos (by omega),sH]
 cases h2 with|aV bp=>exact⟨_,by simp[Am,qc,h1,asAddr,cq,cp,MA cw a6 hC (by simp;omega)],.agg ((ax.drop off).take n)⟩
section
variable {aw : cF} {N : Nat} {l : ce} {fn : Func} {e : df} {cK : bj} {cl : cu} {ca H e1 : List aN} {post : V -> List aN -> Prop} {a1 : List Nat}
structure pv(ca H e1:List aN)(a1:List Nat):Prop where
 sl:xH H e1 a1
 af:a1.Nodup
 lt:e1.all (aN.lt e1.length)=ad
 id:∀i,i<ca.length->i<a1.length/\b0 a1 i=i
theorem pv.nil{H:List aN}:pv [] H [] []:=⟨⟨rfl,λi o h=>by simp at h⟩,List.nodup_nil,rfl,λi h=>by simp at h⟩
theorem I2{r:V}{v:be}{g:cu}{w:bj}(ap:pv ca H e1 a1)(b':r.lt e1.length=ad)(hp:post r e1)(aO:cn cK cl ca g w H)(bp:cN g w H (r.dN (b0 a1)) v):kx cK cl ca post (.returned v) w:=
 ⟨v,_,r,e1,rfl,hp,aO.keep ap.sl ap.af ap.lt ap.id,IY ap.sl.CN r v b' bp⟩
theorem M5{rv:Array sF}(aY:Exit.m1 e=ad)(h:∀(g:cu)(w:bj)(a:di),cn cK cl ca g w H->iX ⟨aJ,aw,N,[]⟩ g w H l a->∃v,(results fn a.tmps).run aw w=.ok v w/\kx cK cl ca post (.returned v) w):
  fI ⟨⟨aJ,aw,N,[]⟩,cK,cl,ca⟩ (bodyPost aw fn (kx cK cl ca post)) e l H:=λg w a aO a4=>by
 obtain⟨v,h1,h2⟩:=h g w a aO a4;cases e<;>first|(exact⟨a4.1,v,h1,h2⟩)|(simp[Exit.m1]at aY)
theorem fI.Tz(aY:Exit.m1 e=ad)(m6:fn.results=#[])(ap:pv ca H e1 a1)(hp:post (.cx []) e1):fI ⟨⟨aJ,aw,N,[]⟩,cK,cl,ca⟩ (bodyPost aw fn (kx cK cl ca post)) e l H:=
 M5 (rv:=#[]) aY λg w a aO a4=>⟨.tuple #[],by simp[results,m6],I2 (r:=.cx []) ap rfl hp aO (.cx .nil)⟩
theorem fI.TA{rv:sF}{d r:V}(aY:Exit.m1 e=ad)(m6:fn.results=#[rv])(h1:mg aw l H rv d)(hw:hg d (r.dN (b0 a1)))(ap:pv ca H e1 a1)(b':r.lt e1.length=ad)(hp:post r e1):fI ⟨⟨aJ,aw,N,[]⟩,cK,cl,ca⟩ (bodyPost aw fn (kx cK cl ca post)) e l H:=
 M5 (rv:=#[]) aY λg w a aO a4=>by obtain⟨v,bX,dV⟩:=h1 _ g w a aO.jV a4;exact⟨v,by rw[S1,m6];simp[cq,bX,cp],I2 ap b' hp aO (hw _ _ _ _ dV)⟩
theorem fI.TB{rv q7:sF}{d db r h5:V}(aY:Exit.m1 e=ad)(m6:fn.results=#[rv,q7])(h1:mg aw l H rv d)(h2:mg aw l H q7 db)(hw:hg d (r.dN (b0 a1)))(wj:hg db (h5.dN (b0 a1)))(ap:pv ca H e1 a1)(b':(V.cx [r,h5]).lt e1.length=ad)(hp:post (.cx [r,h5]) e1):
  fI ⟨⟨aJ,aw,N,[]⟩,cK,cl,ca⟩ (bodyPost aw fn (kx cK cl ca post)) e l H:=
 M5 (rv:=#[]) aY λg w a aO a4=>by obtain⟨v,bX,dV⟩:=h1 _ g w a aO.jV a4;obtain⟨v',dQ,lj⟩:=h2 _ g w a aO.jV a4;exact⟨.tuple #[v,v'],by rw[S1,m6];simp[cq,bX,dQ,cp],I2 ap b' hp aO (.cx (.cons (hw _ _ _ _ dV) (.cons (wj _ _ _ _ lj) .nil)))⟩
theorem fI.TC{rv q7 AC:sF}{d db xK r h5 TD:V}(aY:Exit.m1 e=ad)(m6:fn.results=#[rv,q7,AC])(h1:mg aw l H rv d)(h2:mg aw l H q7 db)(ay:mg aw l H AC xK)(hw:hg d (r.dN (b0 a1)))(wj:hg db (h5.dN (b0 a1)))(I3:hg xK (TD.dN (b0 a1)))(ap:pv ca H e1 a1)
  (b':(V.cx [r,h5,TD]).lt e1.length=ad) (hp:post (.cx [r,h5,TD]) e1):fI ⟨⟨aJ,aw,N,[]⟩,cK,cl,ca⟩ (bodyPost aw fn (kx cK cl ca post)) e l H:=
 M5 (rv:=#[]) aY λg w a aO a4=>by obtain⟨v,bX,dV⟩:=h1 _ g w a aO.jV a4;obtain⟨v',dQ,lj⟩:=h2 _ g w a aO.jV a4;obtain⟨ajF,mI,pw⟩:=ay _ g w a aO.jV a4;exact⟨.tuple #[v,v',ajF],by rw[S1,m6];simp[cq,bX,dQ,mI,cp],I2 ap b' hp aO (.cx (.cons (hw _ _ _ _ dV) (.cons (wj _ _ _ _ lj) (.cons (I3 _ _ _ _ pw) .nil))))⟩
end
section
variable {Y : gY} {Q : df -> di -> bj -> Prop} {l : ce} {H : List aN} {ops : Array b_} {rest : List b_}
end
def Fq(pl:List (Nat×Nat)):List V->List (Nat×V)->Option (List V)
 |f',[]=>I f'
 |f',(i,d)::r=>match pl[i]? with
  |none=>aJ
  |some (off,size)=>if eF d.cells.length size&&fb (off+d.cells.length) f'.length then Fq pl (q4 f' off d.cells) r else aJ
theorem aaK:∀(vs us:List be)(off j:Nat),((vs.zipIdx j).foldl (λ(cs:Array be)(c:be×Nat)=>cs.setIfInBounds (off+c.2) c.1) us.toArray)=(Mi.oc us (off+j) vs).toArray
 |[],us,off,j=>rfl
 |v::vs,us,off,j=>by simp only[List.zipIdx_cons,List.foldl_cons,Mi.oc];rw[List.setIfInBounds_toArray,aaK vs _ off (j+1)];rfl
theorem aaL{g:cu}{w:bj}{H:List aN}{pl:List (Nat×Nat)}:∀{parts:List (Nat×V)}{vs:List be}{f' bu:List V}{us:List be},dp g w H f' us->dp g w H (parts.map (·.2)) vs->(parts.all λq=>q.2.cells.all V.one)=ad->Fq pl f' parts=I bu->
  ∃A:List be,n' (λi=>pl[i]?) us.toArray ((parts.map (·.1)).zip vs)=I A.toArray/\dp g w H bu A
 |[],vs,f',bu,us,aP,hp,_,bg=>by cases hp;simp only[Fq,je]at bg;subst bg;exact⟨us,by simp[n'],aP⟩
 |(i,d)::r,vs,f',bu,us,aP,hp,aU,bg=>by
  cases hp with
  |cons aG aO=>
   replace aG:cN g w H d _:=aG;simp only[aav,dn]at aU;replace aU:d.cells.all V.one=ad/\_:=aU;simp only[Fq]at bg;cases sP:pl[i]? with
   |none=>rw[sP]at bg;cases bg
   |some q=>
    obtain⟨off,size⟩:=q;rw[sP]at bg;simp only at bg;split at bg
    ·rename_i ax;simp only[dn,Fk]at ax;have aQ:=mi ax.1;obtain⟨Fr,a2,bc,_⟩:=aG.cells aU.1;have MS:=bc.len;have kR:=aP.len;obtain⟨A,h1,h2⟩:=aaL (dp.oc aP bc) aO aU.2 bg;refine⟨A,?_,h2⟩;simp only[hH,List.zip_cons_cons,n',sP,a2];have cR:Fr.toArray.size=size:=by simp;omega
     have go:¬(off+Fr.toArray.size>us.toArray.size):=by simp;omega
     rw[if_neg (by simp only[ne_eq,jq,decide_eq_true_eq,not_or,xF];exact⟨cR,go⟩)];have ajG:=aaK Fr us off 0;rw[<-h1];congr 1;rw[<-Array.foldl_toList,Array.toList_zipIdx];exact ajG
    ·cases bg
section
variable {aw : cF} {ty : co} {ρ : bY -> Option V}
theorem ajH{T:Nat}{parts:List (Nat×bY)}{ds:List V}{pl:List (Nat×Nat)}{f':List be}{bu:List V}(aF:∀(c:Array be)(ps:List (Nat×be))(w:bj),n' (λi=>pl[i]?) f'.toArray ps=I c->(Aw T ps.toArray).run aw w=.ok (.agg c) w)
  (ak:(parts.map (·.2)).map ρ=ds.map I) (aU:(((parts.map (·.1)).zip ds).all λq=>q.2.cells.all V.one)=ad) (bg:Fq pl (f'.map λv=>.p (.v v)) ((parts.map (·.1)).zip ds)=I bu):bP aw (.build T parts.toArray) ty ρ [] [] (.agg bu):=.pure λg w H e o u2 _ _ h=>by
 have mj:=Fp (e:=e) ak λx ak u hu=>h x (by simp only[dw,aat];obtain⟨q,aB,a2⟩:=lz.1 ak;simpa using⟨q.1,by rw[<-a2];exact aB⟩) u hu;have hlen:(parts.map (·.1)).length=ds.length:=by have:=congrArg sI ak;simpa using this
 have aP:dp g w H (f'.map λv=>V.p (P.v v)) f':=by
  clear bg aF;induction f' with
  |nil=>exact .nil
  |cons u us bx=>exact .cons (.v u) bx
 obtain⟨A,h1,h2⟩:=aaL (parts:=(parts.map (·.1)).zip ds) (vs:=(parts.map (·.2)).map e) aP (by rw[List.map_snd_zip (by omega)];exact mj) aU bg;rw[List.map_fst_zip (by omega)]at h1;refine⟨_,?_,.agg h2⟩;unfold execOp;rw[u2];have bc:(parts.toArray.map λ(q:Nat×bY)=>(q.1,e q.2))=((parts.map (·.1)).zip ((parts.map (·.2)).map e)).toArray:=by simp only[List.map_toArray,List.zip_map',lZ];rfl
 show(do pure (Next.value (<-Aw T (parts.toArray.map λ(q:Nat×bY)=>(q.1,e q.2)))):Sem Next).run aw w=_;rw[bc];simp only[cq,aF _ _ w h1,cp,Sem.run_pure]
variable {x:bY}
theorem CP{S f off:Nat}{cs:List V}{d:V}(bg:∀(cs:List be)(v:be)(w:bj),cs[off]? =I v->(Instr.field S (.agg cs.toArray) f).run aw w=.ok v w)(ak:ρ x=I (.agg cs))(aG:cs[off]? =I d):bP aw (.field S x f) ty ρ [] [] d:=.pure λg w H e o aU _ _ h=>by
 have a2:=h x (by simp[dw]) _ ak;generalize he:e x=v at a2;cases a2 with
 |agg ax=>obtain⟨u,h1,h2⟩:=ax.ae aG;exact⟨u,by unfold execOp;rw[aU];simp[he,bg _ _ w h1,cq,cp],h2⟩
theorem ajI{fn:Go.Fn}{c3 cap:List bY}{bT cs:List V}(aF:c3.map ρ=bT.map I)(ax:cap.map ρ=cs.map I):bP aw (.makeFunc fn c3.toArray cap.toArray) ty ρ [] [] (.fn fn bT cs):=.pure λg w H e o aU _ _ h=>by have h1:=Fp (e:=e) aF λx ak u hu=>h x (by simp[dw,ak]) u hu;have h2:=Fp (e:=e) ax λx ak u hu=>h x (by simp[dw,ak]) u hu;exact⟨_,by unfold execOp;rw[aU];simp[Instr.makeFunc,cq,cp],.fn h1 h2⟩
theorem aaM{g:cu}{w:bj}{H:List aN}:∀{ds:List V}{vs:List be},dp g w H ds vs->(ds.all λd=>d.cells.all V.one)=ad->dp g w H (ds.flatMap V.cells) (vs.flatMap λv=>v.cells.toList)/\(∀u∈vs.flatMap (λv=>v.cells.toList),oK u=ad)/\∀k,(∀d∈ds,d.cells.length=k)->∀v∈vs,v.cells.size=k
 |_,_,.nil,_=>⟨.nil,λu hu=>by simp at hu,λk _ v bp=>by simp at bp⟩
 |_,_,.cons (d:=d) (v:=v) h aQ,aU=>by
  simp only[aav,dn]at aU;obtain⟨Fr,a2,bc,cR⟩:=h.cells aU.1;obtain⟨h1,h2,ay⟩:=aaM aQ aU.2;refine⟨?_,λu hu=>?_,λk ap u hu=>?_⟩
  ·simp only[kp];rw[a2];exact bc.append h1
  ·simp only[kp,h3]at hu;rw[a2]at hu;rcases hu with hu|hu
   ·exact cR u (by simpa using hu)
   ·exact h2 u hu
  ·rcases qf.1 hu with rfl|hu
   ·rw[a2];have:=bc.len;have:=ap d (by simp);simp;omega
   ·exact ay k (λd aG=>ap d (by simp[aG])) u hu
theorem I4{g:cu}{w:bj}{H:List aN}:∀{cs:List P}{us:List be},dp g w H (cs.map .p) us->fH g.E w cs us
 |[],us,h=>by cases h;exact⟨rfl,λj c u h=>by simp at h⟩
 |c::cs,us,h=>by
  cases h with
  |cons h aQ=>
   have bx:=I4 aQ;refine⟨by simp[bx.1],λj c' sN h1 h2=>?_⟩;match j with
   |0=>simp at h1 h2;subst h1;subst h2;cases h with|p h=>exact h
   |j+1=>exact bx.2 j c' sN (by simpa using h1) (by simpa using h2)
variable {cs:List P}{e k:Nat}{os:List bY}{parts:Array (Nat×bY)}{t:Nat}{z:be}
theorem TE {n:Nat}{ds:List V}(aj:∀w,(underlying t).run aw w=.ok (.slice e) w)(ap:∀w,(sizeOf e).run aw w=.ok k w)(aP:∀w,(zeroValue e).run aw w=.ok z w)
  (no:parts.toList=os.zipIdx.map (λp=>(p.2,p.1))) (ak:os.map ρ=ds.map I) (aU:(ds.all λd=>d.cells.all V.one&&eF d.cells.length k)=ad) (gl:ds.flatMap V.cells=cs.map .p) (a6:ds.length=n) (hle:n*k<=16777216)
  {g:cu} {w:bj} {H:List aN} {bB:bY->be} {o:b_} (iL:o.op=.buildSlice t n parts) (h:∀x∈(aas t n parts).operands,∀u,ρ x=I u->cN g w H u (bB x)):
  ∃us:List be,(execOp bB o).run aw w=.ok (.value (.slice (I ⟨w.heap.size,0,aJ⟩) n n)) (w.alloc (.cells us.toArray e))/\fH g.E w cs us/\us.length=n*k:=by
 have u_:∀x∈os,x∈(aas t n parts).operands:=λx ak=>by simp only[dw,no,aat,lZ];obtain⟨j,ag⟩:=hf ak;exact lz.2 ⟨(x,j),by rw[List.mem_zipIdx_iff_getElem?];exact ag,rfl⟩
 have mj:=Fp (e:=bB) ak λx ak u hu=>h x (u_ x ak) u hu;have xL:(ds.all λd=>d.cells.all V.one)=ad:=by rw[kX]at aU⊢;exact λd aG=>by have:=aU d aG;simp only[dn]at this;exact this.1
 have qg:∀d∈ds,d.cells.length=k:=λd aG=>by have:=kX.1 aU d aG;simp only[dn]at this;exact mi this.2
 obtain⟨h1,h2,ay⟩:=aaM mj xL;rw[gl]at h1;have aC:(os.map bB).length=n:=by rw[<-mj.len,a6]
 have aO:=ai7 (P:=aw) aj ap aP aC (ay k qg) hle w;have hp:parts.map (λ(p:Nat×bY)=>(p.1,bB p.2))=((os.map bB).zipIdx.map λp=>(p.2,p.1)).toArray:=by apply Array.toList_inj.1;rw[Array.toList_map,no];simp only[lZ,List.zipIdx_map];congr 1
 refine⟨_,?_,I4 h1,?_⟩
 ·unfold execOp;rw[iL];show(do pure (Next.value (<-Instr.buildSlice t n (parts.map λ(q:Nat×bY)=>(q.1,bB q.2)))):Sem Next).run aw w=_;rw[hp];simp[cq,aO,cp]
 ·have:=h1.len;rw[hI]at this;rw[<-this];have bc:=congrArg sI gl;rw[hI]at bc;rw[<-bc,<-a6];clear mj h1 h2 ay aU xL ak a6 hle gl bc this h aC aO hp u_ iL;induction ds with
  |nil=>simp
  |cons d ds bx=>simp only[kp,hW,List.length_cons];rw[bx λd aG=>qg d (by simp[aG]),qg d (by simp),il];omega
theorem ajJ {n:Nat}{ds:List V}(aj:∀w,(underlying t).run aw w=.ok (.slice e) w)(ap:∀w,(sizeOf e).run aw w=.ok k w)(aP:∀w,(zeroValue e).run aw w=.ok z w)
  (no:parts.toList=os.zipIdx.map (λp=>(p.2,p.1))) (ak:os.map ρ=ds.map I) (aU:(ds.all λd=>d.cells.all V.one&&eF d.cells.length k)=ad) (gl:ds.flatMap V.cells=cs.map .p) (a6:ds.length=n) (hle:n*k<=16777216):bP aw (.buildSlice t n parts) ty ρ [] [] (.p (.sl k n cs)):=λg w H bB o iL _ aO _ h=>by
 obtain⟨us,h1,h2,ay⟩:=TE aj ap aP no ak aU gl a6 hle iL h;have b5:=cn.ML (E:=dT g.E w.heap.size (n*k)) aO (CB w (.cells us.toArray e)) (λb aF=>lg (by omega));refine .inl ⟨_,_,h1,_,b5,.p ?_⟩;refine fH.sl (us:=us) (h2.bi b5.bi.size b5.bi.E b5.bi.cell) (by rw[h2.1];exact ay) (bL _) (by show 0+n*k<=dT g.E w.heap.size (n*k) w.heap.size;rw[fL];omega) (by simp) λj u ag=>?_;rw[(CC w us e).cell,ib];exact ag
variable {i:Nat}
theorem ajK {n:Nat}{ds:List V}(aj:∀w,(underlying t).run aw w=.ok (.slice e) w)(ap:∀w,(sizeOf e).run aw w=.ok k w)(aP:∀w,(zeroValue e).run aw w=.ok z w)
  (no:parts.toList=os.zipIdx.map (λp=>(p.2,p.1))) (ak:os.map ρ=ds.map I) (aU:(ds.all λd=>d.cells.all V.one&&eF d.cells.length k)=ad) (gl:ds.flatMap V.cells=cs.map .p) (a6:ds.length=n) (hle:n*k<=16777216) (hm:n<=maxLen):bP aw (.buildSlice t n parts) ty ρ [(i,.cc)] [(i,.bs e k 0)] (.cZ k n cs i 0):=λg w H bB o iL _ aO ev h=>by
 obtain⟨us,h1,h2,ay⟩:=TE aj ap aP no ak aU gl a6 hle iL h;have hi:=ev.one;have b5:=cn.ajs (T:=e) (k:=k) (n:=n) (us:=us) aO hi ay hm;refine .inl ⟨_,_,h1,_,b5,.cZ ?_ ⟨0,?_,bL _,λ_=>(fL _ _ _).symm⟩⟩
 ·refine fH.sl (us:=us) (h2.bi b5.bi.size b5.bi.E b5.bi.cell) (by rw[h2.1];exact ay) (bL _) (by show 0+n*k<=dT g.E w.heap.size (n*k) w.heap.size;rw[fL];omega) (by simp) λj u ag=>?_;rw[(CC w us e).cell,ib];exact ag
 ·show xx (H.set i _)[i]? =_;rw[kV (cz.1 hi).1];rfl
theorem ajL {bytes n iM m:Nat} {s:bY} {y3:List P}{d:V}(aj:aw.underlying t=I (.slice e))(hi:(aw.info? e).map (λi=>(i.zero,i.size,i.bytes))=I (I z,k,bytes))(aP:z.cells.size=k)(ap:0<k)
  (aQ:ρ s=I (.cZ k n cs i m)) (ak:ρ x=I d) (aG:d.rT=I (k,iM,y3)) (aU:∀c∈y3,c.one=ad) (CJ:n+iM<=9223372036854775807) (sM:(n+iM)*bytes<=140737488355328):
  bP aw (.call {callee:=.builtin .append,args:=#[s,x],argTypes:=#[t,t]}) ty ρ [(i,.bs e k m)] [(i,.bs e k (m+1))] (.cZ k (n+iM) (cs++y3) i (m+1)):=λg w H bB o iL rY aO ev h=>by
 have a2:=h s (by simp[dw,ji]) _ aQ;have bc:=(h x (by simp[dw,ji]) _ ak).rT aG;have lD:=ev.one;have c4:=(cz.1 lD).1;cases a2 with
 |cZ hp sL=>
  obtain⟨m',ax,_,bp⟩:=sL;have aam:e5 H i=I m:=by unfold e5;rw[lD];rfl
  rw[aam]at ax;cases ax;have bp:=bp rfl;obtain⟨el,us,q0,tV⟩:=aO.eP i _ lD;have IQ:el=n/\fH g.E w cs us:=by
   rcases hp.u1 with⟨⟨qZ,f1⟩,f2,f3⟩|⟨b,o',cap,wk,f1,f2,f3,f4,f5,f6,f7⟩
   ·rw[bp]at f1;rcases q0.2 with⟨ea,fN⟩|⟨q,TF,hy,ea,_⟩
    ·have:us=[]:=pr (by rw[q0.1,fN,Fj]);subst this;subst f3;exact⟨by omega,rfl,λj c u h=>by simp at h⟩
    ·rw[f1]at ea;cases ea;have:us=[]:=pr (by rw[q0.1,Fj]);subst this;subst f3;exact⟨by omega,rfl,λj c u h=>by simp at h⟩
   ·rw[bp]at f1;rcases q0.2 with⟨ea,fN⟩|⟨q,TF,hy,ea,_,b5,S6,_,gl,Ao⟩
    ·rw[f1]at ea;cases ea
    ·rw[f1]at ea;cases ea;refine⟨rfl,?_⟩;have:wk=us:=by
      apply m3;intro j;have MS:wk.length=n*k:=by rw[<-f6.1,f5]
      have kR:=q0.1;by_cases ag:j<n*k
      ·have M6:wk[j]? =I wk[j]:=bN (by omega);have ax:=f7 j _ M6;unfold World.cell? at ax;simp only[b5,ib]at ax;have kg:(hy.toList.take (n*k))[j]? =hy.toList[j]? :=by rw[kd,if_pos ag]
       rw[Ao]at kg;rw[M6,kg];simpa using ax.symm
      ·rw[nD (by omega),nD (by omega)]
     rw[<-this];exact f6
  obtain⟨rfl,ajM⟩:=IQ
  have key:∃v' w' news,(S9 #[t,t] ty #[g.h i,bB x]).run aw w=.ok v' w'/\w'.ownsRow 0 e k v' (el+iM) (us++news)/\w'.os=w.os/\w'.tape=w.tape/\w'.output=w.output/\w.heap.size<=w'.heap.size/\
    ((v'.ownBlock=(g.h i).ownBlock/\∀b,b<w.heap.size->(g.h i).ownBlock≠I b->w'.heap[b]? =w.heap[b]?)\/(v'.ownBlock=I w.heap.size/\∀b,b<w.heap.size->w'.heap[b]? =w.heap[b]?))/\fH g.E w y3 news:=by
   rcases bc.u1 with⟨⟨qZ,f1⟩,f2,f3⟩|⟨b,o',cap,cA,f1,f2,f3,f4,f5,f6,f7⟩
   ·subst f2;subst f3;obtain⟨q,kW,_,xE,_⟩:∃q,aw.info? e=I q/\q.zero=I z/\q.size=k/\q.bytes=bytes:=by
     cases ak:aw.info? e with
     |none=>rw[ak]at hi;cases hi
     |some q=>rw[ak]at hi;simp only[nE,je,Prod.mk.injEq]at hi;exact⟨q,rfl,hi.1,hi.2.1,hi.2.2⟩
    refine⟨g.h i,w,[],?_,by simpa using q0,rfl,rfl,rfl,bL _,.inl ⟨rfl,λ_ _ _=>rfl⟩,rfl,λj c u h=>by simp at h⟩;rw[f1];rcases q0.2 with⟨q,a6⟩|⟨azM,cap,hy,q,_,b5,ax,_⟩
    ·rw[q];cases qZ<;>simp[S9,run_underlying aj,sizeOf,typeInfo,kW,CK,IS,loadCells,loadCellsFrom]
    ·rw[q];cases qZ<;>simp[S9,run_underlying aj,sizeOf,typeInfo,kW,CK,IS,ax,storeCells,loadCells,loadCellsFrom]
   ·rw[f1];obtain⟨v',w',gR,fu,gG,og,xM,I5,Fs⟩:=aal (aw:=aw) (ty:=ty) (m:=iM) (c:=cap) (a:=⟨b,o',aJ⟩) (news:=cA) aj hi aP ap q0 (by rw[<-f6.1,f5]) (λj u ag=>by rw[rJ];exact f7 j u ag) (f6.one aU) CJ sM;exact⟨v',w',cA,gR,fu,gG,og,xM,I5,Fs,f6⟩
  obtain⟨v',w',news,gR,fu,gG,og,xM,I5,Fs,ajN⟩:=key;obtain⟨b5,aY⟩:=cn.ajq aO lD q0 fu (Nat.le_add_right _ _) gG og xM I5 Fs;refine .inl ⟨v',w',?_,_,b5,.cZ ?_ ⟨m+1,?_,bL _,λ_=>(fL _ _ _).symm⟩⟩
  ·unfold execOp;rw[iL];simp[resolve,invoke,builtin,rY,bp,cq,cp,gR]
  ·exact ownsRow.sl fu ((ajM.append ajN).bi b5.bi.size b5.bi.E b5.bi.cell) aY
  ·show xx (H.set i _)[i]? =_;rw[kV c4];rfl
end
structure gy where
 dx:List (Nat×aN)
 c0:List (Nat×aN)
 d:V
 ga:List aN->Prop:=λ_=>True
def gy.np(m:gy):List Nat×List Nat:=(m.dx.map (·.1),m.c0.map (·.1))
def gy.bt:gy:=⟨[],[],.p (.v undef),λ_=>True⟩
def M7(AD:List aN->Prop)(aw:cF)(op:Op)(ty:co)(ρ:bY->Option V)(dx c0:List (Nat×aN))(d:V):Prop:=
 ∀(g:cu)(w:bj)(H:List aN)(e:bY->be)(o:b_),o.op=op->o.type=ty->g6 g w H->AD H->gx H dx->(∀x∈op.operands,∀u,ρ x=I u->cN g w H u (e x))->aaj aw e o w λv w'=>∃g',cn w g H g' w' (eH H c0)/\cN g' w' (eH H c0) d v
theorem bP.CQ{AD:List aN->Prop}{aw:cF}{op:Op}{ty:co}{ρ:bY->Option V}{dx c0:List (Nat×aN)}{d:V}(h:bP aw op ty ρ dx c0 d):M7 AD aw op ty ρ dx c0 d:=λg w H e o h1 h2 ay _=>h g w H e o h1 h2 ay
inductive wl (aw:cF) (os:List b_) (o:b_) (l:ce) (m:gy):Prop
 |run (b5:o.guard=aJ) (h:M7 m.ga aw o.op o.type (bV l) m.dx m.c0 m.d):wl aw os o l m
 |on {j dM:Nat} {want:Bool} (b5:o.guard=I (j,want)) (ag:(os[j]?).bind (·.dst)=I dM) (aF:c6 l dM=I (.p (.v (.bool want)))) (h:M7 m.ga aw o.op o.type (bV l) m.dx m.c0 m.d):wl aw os o l m
 |off {j dM:Nat} {want:Bool} (b5:o.guard=I (j,want)) (ag:(os[j]?).bind (·.dst)=I dM) (aF:c6 l dM=I (.p (.v (.bool (!want))))) (hm:m=gy.bt):wl aw os o l m
 |Ft {j dM:Nat} {want:Bool} {x:Array be} (b5:o.guard=I (j,want)) (ag:(os[j]?).bind (·.dst)=I dM) (aF:c6 l dM=I (.p (.v (.tuple x)))) (hm:m=gy.bt):wl aw os o l m
def px(aw:cF)(eS:List b_):List b_->List gy->ce->Prop
 |[],[],_=>True
 |o::os,m::ms,l=>wl aw eS o l m/\px aw eS os ms (hJ o.dst m.d l)
 |_,_,_=>False
def xN:List gy->List aN->Prop
 |[],_=>True
 |m::ms,H=>gx H m.dx/\xN ms (eH H m.c0)
def iN:Nat->List b_->List gy->(Nat->Bool)->ce->ce
 |k,o::os,m::ms,L,l=>iN (k+1) os ms L (if L k then hJ o.dst m.d l else l)
 |_,_,_,_,l=>l
def gZ:Nat->List gy->(Nat->Bool)->List aN->List aN
 |k,m::ms,L,H=>gZ (k+1) ms L (if L k then eH H m.c0 else H)
 |_,[],_,H=>H
theorem TG:∀(k:Nat)(ms:List gy)(L:Nat->Bool)(H:List aN),(gZ k ms L H).length=H.length
 |_,[],_,_=>rfl
 |k,m::ms,L,H=>by
  rw[gZ,TG];split
  ·exact Tm _ _
  ·rfl
variable {l:ce}{t:Nat}
theorem I6{dst:Option Tmp}{d:V}(h:dst≠I t):c6 (hJ dst d l) t=c6 l t:=by
 cases dst with
 |none=>rfl
 |some s=>have:s≠t:=λe=>h (by rw[e]);simp only[hJ,c6,tS this,cond_false]
theorem M8{d:V}:c6 (hJ (I t) d l) t=I d:=by simp only[hJ,c6,show eF t t=ad from kq t,cond_true]
theorem M9{t:Nat}{L nI:Nat->Bool}:∀(k:Nat)(os:List b_)(ms:List gy)(l l':ce),c6 l t=c6 l' t->(∀(i:Nat)(o:b_),os[i]? =I o->L (k+i)=nI (k+i)\/o.dst≠I t)->c6 (iN k os ms L l) t=c6 (iN k os ms nI l') t
 |k,[],ms,l,l',h,_=>by cases ms<;>exact h
 |k,o::os,[],l,l',h,_=>h
 |k,o::os,m::ms,l,l',h,aG=>by
  rw[iN,iN];refine M9 (k+1) os ms _ _ ?_ λi o' hi=>by have:=aG (i+1) o' (by simpa using hi);rwa[show k+1+i=k+(i+1) by omega]
  rcases aG 0 o (by simp)with e|e
  ·rw[oJ]at e;rw[e];split
   ·by_cases q:o.dst=I t
    ·rw[q,M8,M8]
    ·rw[I6 q,I6 q];exact h
   ·exact h
  ·have h1:∀(b:Bool)(l:ce),c6 (if b=ad then hJ o.dst m.d l else l) t=c6 l t:=λb l=>by
    cases b
    ·rfl
    ·exact I6 e
   rw[h1,h1];exact h
theorem TH{id:Nat}:∀(ws:List (Nat×aN))(H H':List aN),H.length=H'.length->H[id]? =H'[id]? ->(eH H ws)[id]? =(eH H' ws)[id]?
 |[],_,_,_,h=>h
 |(i,o)::r,H,H',aC,h=>by
  rw[eH,eH];refine TH r _ _ (by simp[aC]) ?_;rw[u4,u4,aC];split
  ·rfl
  ·exact h
theorem Fu{id:Nat}{L nI:Nat->Bool}:∀(k:Nat)(ms:List gy)(H H':List aN),H.length=H'.length->H[id]? =H'[id]? ->(∀(i:Nat)(m:gy),ms[i]? =I m->L (k+i)=nI (k+i)\/∀q∈m.c0,q.1≠id)->(gZ k ms L H)[id]? =(gZ k ms nI H')[id]?
 |k,[],H,H',_,h,_=>h
 |k,m::ms,H,H',aC,h,aG=>by
  rw[gZ,gZ];have hlen:∀(b:Bool)(H:List aN),(if b=ad then eH H m.c0 else H).length=H.length:=λb H=>by cases b;rfl;exact Tm _ _
  refine Fu (k+1) ms _ _ (by rw[hlen,hlen,aC]) ?_ λi m' hi=>by have:=aG (i+1) m' (by simpa using hi);rwa[show k+1+i=k+(i+1) by omega]
  rcases aG 0 m (by simp)with e|e
  ·rw[oJ]at e;rw[e];split
   ·exact TH _ _ _ aC h
   ·exact h
  ·have h1:∀(b:Bool)(H:List aN),(if b=ad then eH H m.c0 else H)[id]? =H[id]? :=λb H=>by
    cases b
    ·rfl
    ·exact I0 _ _ _ e
   rw[h1,h1];exact h
def aaN(o:b_):List Nat:=o.op.operands.toList.filterMap λ| .tmp t=>I t|_=>aJ
def AE(os:List b_)(o:b_):List Nat:=(match o.guard with|some (j,_)=>((os[j]?).bind (·.dst)).toList|none=>[])++aaN o
def CR(a b:List Nat):Bool:=a.all λx=> !b.contains x
def xO(o:b_):List Nat:=o.dst.toList
def CE(os:List b_)(a b:b_)(ka g0:List Nat×List Nat):Bool:=CR (xO a) (AE os b)&&CR (xO b) (AE os a)&&CR (xO a) (xO b)&&CR ka.2 g0.1&&CR g0.2 ka.1&&CR ka.2 g0.2
def Fv(os:List b_)(b:b_)(g0:List Nat×List Nat)(mk:Nat):List b_->List (List Nat×List Nat)->Nat->Bool
 |a::as,ka::Fw,i=>(mk.testBit i||CE os a b ka g0)&&Fv os b g0 mk as Fw (i+1)
 |_,_,_=>ad
def rZ(eS:List b_)(N:Nat)(I7:List (List Nat×List Nat)):List b_->List (List Nat×List Nat)->List Nat->Nat->Bool
 |b::bT,g0::Fx,mk::Fy,j=>MC b j&&m4 N b.dst&&(match b.guard with|some (i,_)=>mk.testBit i|none=>ad)&&Fv eS b g0 mk (eS.take j) (I7.take j) 0&&rZ eS N I7 bT Fx Fy (j+1)
 |[],[],[],_=>ad
 |_,_,_,_=>aS
theorem TI{os:List b_}{b:b_}{g0:List Nat×List Nat}{mk:Nat}:∀{as:List b_}{Fw:List (List Nat×List Nat)}{i0 i:Nat}{a:b_}{ka:List Nat×List Nat},Fv os b g0 mk as Fw i0=ad->as[i]? =I a->Fw[i]? =I ka->mk.testBit (i0+i)=ad\/CE os a b ka g0=ad
 |[],_,i0,i,a,ka,_,h,_=>by simp at h
 |_::_,[],i0,i,a,ka,_,_,h=>by simp at h
 |x::as,y::Fw,i0,0,a,ka,h,h1,h2=>by simp at h1 h2;subst h1;subst h2;simp only[Fv,dn,jq]at h;simpa using h.1
 |x::as,y::Fw,i0,i+1,a,ka,h,h1,h2=>by
  simp only[Fv,dn]at h;have:=TI h.2 (i:=i) (by simpa using h1) (by simpa using h2)
  rwa[show i0+1+i=i0+(i+1) by omega]at this
theorem I8{eS:List b_}{N:Nat}{I7:List (List Nat×List Nat)}:∀{bT:List b_}{Fx:List (List Nat×List Nat)}{Fy:List Nat}{le j:Nat}{b:b_},rZ eS N I7 bT Fx Fy le=ad->bT[j]? =I b->
  ∃g0 mk,Fx[j]? =I g0/\Fy[j]? =I mk/\MC b (le+j)=ad/\m4 N b.dst=ad/\(∀i want,b.guard=I (i,want)->mk.testBit i=ad)/\Fv eS b g0 mk (eS.take (le+j)) (I7.take (le+j)) 0=ad
 |[],_,_,le,j,b,_,h=>by simp at h
 |_::_,[],_,le,j,b,h,_=>by simp[rZ]at h
 |_::_,_::_,[],le,j,b,h,_=>by simp[rZ]at h
 |x::bT,y::Fx,z::Fy,le,0,b,h,h1=>by simp at h1;subst h1;simp only[rZ,dn]at h;refine⟨y,z,rfl,rfl,by simpa using h.1.1.1.1,h.1.1.1.2,λi want e=>?_,by simpa using h.1.2⟩;have:=h.1.1.2;rw[e]at this;exact this
 |x::bT,y::Fx,z::Fy,le,j+1,b,h,h1=>by simp only[rZ,dn]at h;obtain⟨g0,mk,an,a',dr⟩:=I8 h.2 (j:=j) (by simpa using h1);rw[show le+1+j=le+(j+1) by omega]at dr;exact⟨g0,mk,by simpa using an,by simpa using a',dr⟩
theorem AF{a b:List Nat}(h:CR a b=ad){x:Nat}(ak:x∈a):¬x∈b:=λaF=>by have:=kX.1 h x ak;simp at this;exact this aF
theorem px.ae{aw:cF}{eS:List b_}:∀{os:List b_}{ms:List gy}{l:ce}{i:Nat}{o:b_}{L:Nat->Bool}(k:Nat),px aw eS os ms l->os[i]? =I o->(∀j,j<i->L (k+j)=ad)->(∀j,i<=j->L (k+j)=aS)->∃m,ms[i]? =I m/\wl aw eS o (iN k os ms L l) m
 |[],_,l,i,o,L,k,_,h,_,_=>by simp at h
 |_::_,[],l,i,o,L,k,h,_,_,_=>h.elim
 |x::os,m::ms,l,0,o,L,k,h,h1,_,eK=>by
  simp at h1;subst h1;refine⟨m,rfl,?_⟩;have e:iN k (x::os) (m::ms) L l=l:=by
   have iO:∀(cV:Nat)(os:List b_)(ms:List gy),(∀j,L (cV+j)=aS)->iN cV os ms L l=l:=λcV os=>by
    induction os generalizing cV with
    |nil=>intro ms _;cases ms<;>rfl
    |cons y os bx=>
     intro ms ap;cases ms with
     |nil=>rfl
     |cons m ms=>have:=ap 0;rw[oJ]at this;rw[iN,this];exact bx (cV+1) ms λj=>by have:=ap (j+1);rwa[show cV+(j+1)=cV+1+j by omega]at this
   exact iO k _ _ λj=>eK j (fR _)
  rw[e];exact h.1
 |x::os,m::ms,l,i+1,o,L,k,h,h1,h2,eK=>by
  have bh:L k=ad:=by have:=h2 0 (by omega);rwa[oJ]at this
  obtain⟨m',e,hi⟩:=px.ae (L:=L) (k+1) h.2 (i:=i) (by simpa using h1) (λj ag=>by have:=h2 (j+1) (by omega);rwa[show k+1+j=k+(j+1) by omega]) (λj ag=>by have:=eK (j+1) (by omega);rwa[show k+1+j=k+(j+1) by omega]);refine⟨m',by simpa using e,?_⟩;rw[iN,bh];exact hi
theorem xN.ae:∀{ms:List gy}{H:List aN}{i:Nat}{m:gy}{L:Nat->Bool}(k:Nat),xN ms H->ms[i]? =I m->(∀j,j<i->L (k+j)=ad)->(∀j,i<=j->L (k+j)=aS)->gx (gZ k ms L H) m.dx
 |[],H,i,m,L,k,_,h,_,_=>by simp at h
 |x::ms,H,0,m,L,k,h,h1,_,eK=>by
  simp at h1;subst h1;have e:gZ k (x::ms) L H=H:=by
   have iO:∀(cV:Nat)(ms:List gy),(∀j,L (cV+j)=aS)->gZ cV ms L H=H:=λcV ms=>by
    induction ms generalizing cV with
    |nil=>intro _;rfl
    |cons y ms bx=>intro ap;have:=ap 0;rw[oJ]at this;rw[gZ,this];exact bx (cV+1) λj=>by have:=ap (j+1);rwa[show cV+(j+1)=cV+1+j by omega]at this
   exact iO k _ λj=>eK j (fR _)
  rw[e];exact h.1
 |x::ms,H,i+1,m,L,k,h,h1,h2,eK=>by
  have bh:L k=ad:=by have:=h2 0 (by omega);rwa[oJ]at this
  rw[gZ,bh];exact xN.ae (k+1) h.2 (by simpa using h1) (λj ag=>by have:=h2 (j+1) (by omega);rwa[show k+1+j=k+(j+1) by omega]) (λj ag=>by have:=eK (j+1) (by omega);rwa[show k+1+j=k+(j+1) by omega])
variable {i j:Nat}
theorem ajO(h:i<j):fb j i=aS:=by
 cases aF:fb j i with
 |false=>rfl
 |true=>have:=nn aF;omega
theorem ajP(h:j<=i):fb j i=ad:=by rw[Fk];exact h
theorem M_{k:Nat}:∀{ms:List gy}{L:Nat->Bool}{H:List aN},(∀j,L (k+j)=aS)->gZ k ms L H=H
 |[],_,_,_=>rfl
 |m::ms,L,H,h=>by have:=h 0;rw[oJ]at this;rw[gZ,this];exact M_ λj=>by have:=h (j+1);rwa[show k+(j+1)=k+1+j by omega]at this
theorem aaO{L:Nat->Bool}:∀(k:Nat)(ms:List gy)(H:List aN)(i:Nat)(m:gy),ms[i]? =I m->L (k+i)=ad->(∀j,i<j->L (k+j)=aS)->gZ k ms L H=eH (gZ k ms (λj=>L j&& !Nat.beq j (k+i)) H) m.c0
 |k,[],H,i,m,h,_,_=>by simp at h
 |k,x::ms,H,0,m,h,h1,h2=>by
  simp at h;subst h;rw[oJ]at h1;have aP:∀j,L (k+1+j)=aS:=λj=>by have:=h2 (j+1) (by omega);rwa[show k+(j+1)=k+1+j by omega]at this
  rw[gZ,h1,gZ,M_ aP,M_ (λj=>by simp only[aP j,Bool.false_and]),h1,oJ,show eF k k=ad from kq k];rfl
 |k,x::ms,H,i+1,m,h,h1,h2=>by
  rw[gZ,gZ];have ap:(L k&& !Nat.beq k (k+(i+1)))=L k:=by rw[tS (show ¬k=k+(i+1) by omega)];simp
  rw[ap,aaO (k+1) ms _ i m (by simpa using h) (by rwa[show k+1+i=k+(i+1) by omega]) (λj ag=>by have:=h2 (j+1) (by omega);rwa[show k+(j+1)=k+1+j by omega]at this)];rw[show k+1+i=k+(i+1) by omega]
theorem aaP{t:Nat}{L:Nat->Bool}:∀(k:Nat)(os:List b_)(ms:List gy)(l:ce)(i:Nat)(o:b_)(m:gy),os[i]? =I o->ms[i]? =I m->o.dst=I t->L (k+i)=ad->(∀j o',i<j->os[j]? =I o'->L (k+j)=ad->o'.dst≠I t)->c6 (iN k os ms L l) t=I m.d
 |k,[],ms,l,i,o,m,h,_,_,_,_=>by simp at h
 |k,_::_,[],l,i,o,m,_,h,_,_,_=>by simp at h
 |k,x::os,y::ms,l,0,o,m,h1,h2,ay,bl,bO=>by
  simp at h1 h2;subst h1;subst h2;rw[oJ]at bl;rw[iN,bl,if_pos rfl];have TJ:∀(cV:Nat)(os:List b_)(ms:List gy)(l:ce),c6 l t=I y.d->(∀j o',os[j]? =I o'->L (cV+j)=ad->o'.dst≠I t)->c6 (iN cV os ms L l) t=I y.d:=λcV os=>by
   induction os generalizing cV with
   |nil=>intro ms l h _;cases ms<;>exact h
   |cons z os bx=>
    intro ms l h aG;cases ms with
    |nil=>exact h
    |cons m ms=>
     rw[iN];refine bx (cV+1) ms _ ?_ λj o' ag aC=>aG (j+1) o' (by simpa using ag) (by rwa[show cV+(j+1)=cV+1+j by omega]);split
     ·rename_i aC;rw[I6 (aG 0 z (by simp) (by rwa[oJ]))];exact h
     ·exact h
  refine TJ (k+1) os ms _ (by rw[ay];exact M8) λj o' ag aC=>bO (j+1) o' (by omega) (by simpa using ag) (by rwa[show k+(j+1)=k+1+j by omega])
 |k,x::os,y::ms,l,i+1,o,m,h1,h2,ay,bl,bO=>by rw[iN];exact aaP (k+1) os ms _ i o m (by simpa using h1) (by simpa using h2) ay (by rwa[show k+1+i=k+(i+1) by omega]) λj o' ag aU aC=>bO (j+1) o' (by omega) (by simpa using aU) (by rwa[show k+(j+1)=k+1+j by omega])
section
variable {Y : gY} {Q : df -> di -> bj -> Prop}
structure M'(Y:gY)(os:List b_)(ms:List gy)(l:ce)(H:List aN)(listed:Array Bool)(g:cu)(w:bj)(a:di):Prop where
 kf:cn Y.cK Y.cl Y.ca g w (gZ 0 ms (λj=>listed.getD j aS) H)
 ok:iX Y.X g w (gZ 0 ms (λj=>listed.getD j aS) H) (iN 0 os ms (λj=>listed.getD j aS) l) a
 tZ:An os listed
variable {os:List b_}
theorem CS{a b:b_}{ka g0:List Nat×List Nat}(h:CE os a b ka g0=ad):
  (∀t,a.dst=I t->¬t∈AE os b/\b.dst≠I t)/\(∀t,b.dst=I t->¬t∈AE os a/\a.dst≠I t)/\(∀x∈ka.2,¬x∈g0.1/\¬x∈g0.2)/\(∀x∈g0.2,¬x∈ka.1/\¬x∈ka.2):=by
 simp only[CE,dn]at h;obtain⟨⟨⟨⟨⟨h1,h2⟩,ay⟩,bl⟩,bO⟩,cX⟩:=h
 refine⟨λt e=>⟨AF h1 (by simp[xO,e]),λbc=>AF ay (x:=t) (by simp[xO,e]) (by simp[xO,bc])⟩,λt e=>⟨AF h2 (by simp[xO,e]),λbc=>AF ay (x:=t) (by simp[xO,bc]) (by simp[xO,e])⟩,
  λx ak=>⟨AF bl ak,AF cX ak⟩,λx ak=>⟨AF bO ak,λe=>AF cX e ak⟩⟩
theorem aaQ{AD:List aN->Prop}{L:Nat->Bool}:∀(k:Nat)(ms:List gy)(H:List aN),AD H->(∀j m,ms[j]? =I m->L (k+j)=ad->∀H,AD H->AD (eH H m.c0))->AD (gZ k ms L H)
 |_,[],_,h,_=>h
 |k,m::ms,H,h,hw=>by
  rw[gZ];refine aaQ (k+1) ms _ ?_ λj m' hm aC=>hw (j+1) m' (by simpa using hm) (by rwa[show k+(j+1)=k+1+j by omega]);split
  ·rename_i aC;exact hw 0 m (by simp) aC H h
  ·exact h
def I9(os:List b_)(ms:List gy)(H:List aN):Prop:=∀i m,ms[i]? =I m->m.ga H/\∀j iB,ms[j]? =I iB->Fc os j i=ad\/∀H',m.ga H'->m.ga (eH H' iB.c0)
theorem I9.aX{ms:List gy}{H:List aN}(h:∀m∈ms,m.ga=λ_=>True):I9 os ms H:=λi m hm=>by have e:=h m (cm hm);rw[e];exact⟨trivial,λ_ _ _=>.inr λ_ _=>trivial⟩
variable {i:Nat}{l:ce}
theorem ajQ{ms:List gy}{H:List aN}{listed:Array Bool}{g:cu}{w:bj}{a:di}(ml:px Y.X.P os os ms l)(ev:xN ms H)(Fz:I9 os ms H)(FA:rZ os Y.X.N (ms.map gy.np) os (ms.map gy.np) (sK os []) 0=ad)(gw:listed.size=os.length)
  (st:M' Y os ms l H listed g w a) {o:b_} (aU:os[i]? =I o) (FB:listed.getD i ad=aS) (iO:∀e∈o.after,Region.binds .any e=ad->listed.getD e.on aS=ad)
  {K:di->bj->Prop} (bZ:∀g' w' fo,M' Y os ms l H (listed.setIfInBounds i ad) g' w' fo->K fo w'):if tW o (yielded os.toArray a.tmps)then o.wpIn (jT Y.X.r) 0 Y.X.P a w K Q else K (a.put o.dst undef) w:=by
 have c4:i<os.length:=(cz.1 aU).1;obtain⟨L,eK⟩:∃L:Nat->Bool,(λj=>listed.getD j aS)=L:=⟨_,rfl⟩
 have CT:∀j,listed.getD j aS=L j:=λj=>by rw[<-eK]
 have I_:L i=aS:=by
  rw[<-CT];simp only[qc]at FB⊢;cases ak:listed[i]? with
  |none=>rfl
  |some b=>rw[ak]at FB;simpa using FB
 have kf:=st.kf;have ok:=st.ok;rw[eK]at kf ok;obtain⟨m,hm,ey⟩:=px.ae (L:=λj=>decide (j<i)) 0 ml aU (λj ag=>by simpa using ag) (λj ag=>by simpa using ag);have ajR:=xN.ae (L:=λj=>decide (j<i)) 0 ev hm (λj ag=>by simpa using ag) (λj ag=>by simpa using ag);obtain⟨g0,mk,AG,t_,Na,ajS,azN,aaR⟩:=I8 FA aU;have ajT:g0=m.np:=by rw[gQ,hm]at AG;simpa using AG.symm
 subst ajT;rw[ib]at Na aaR;have hw:∀j,Fc os i j=ad->L j=ad:=λj h=>by rw[<-CT];exact S2 st.tZ aU iO h
 have y4:∀j kI iB,os[j]? =I kI->ms[j]? =I iB->j<i->L j=aS->CE os kI o iB.np m.np=ad:=λj kI iB h1 h2 ag oN=>by
  rcases TI aaR (i:=j) (a:=kI) (ka:=iB.np) (by rw[kd,if_pos ag];exact h1) (by rw[kd,if_pos ag,gQ,h2];rfl)with h|h
  ·rw[ib]at h;have:=hw j (by unfold Fc;rw[sG,t_];exact h);rw[this]at oN;cases oN
  ·exact h
 have AH:∀j kI iB,os[j]? =I kI->ms[j]? =I iB->i<j->L j=ad->CE os o kI m.np iB.np=ad:=λj kI iB h1 h2 ag oN=>by
  obtain⟨aaS,azO,bX,dV,_,_,_,dQ⟩:=I8 FA h1;have e:aaS=iB.np:=by rw[gQ,h2]at bX;simpa using bX.symm
  subst e;rw[ib]at dQ;rcases TI dQ (i:=i) (a:=o) (ka:=m.np) (by rw[kd,if_pos ag];exact aU) (by rw[kd,if_pos ag,gQ,hm];rfl)with h|h
  ·rw[ib]at h;have:=S2 (k:=j) (j:=i) st.tZ h1 (λe he aF=>st.tZ j kI (by rw[CT];exact oN) h1 e he aF) (by unfold Fc;rw[sG,dV];exact h);rw[CT,I_]at this;cases this
  ·exact h
 have aaT:∀j kI,os[j]? =I kI->∃iB,ms[j]? =I iB:=λj kI h1=>by
  obtain⟨aaS,_,bX,_⟩:=I8 FA h1;rw[gQ]at bX;cases h:ms[j]? with
  |none=>rw[h]at bX;cases bX
  |some iB=>exact⟨iB,h⟩
 have xB:∀j iB,ms[j]? =I iB->∃kI,os[j]? =I kI:=λj iB h1=>by
  have hlen:∀(os:List b_)(ms:List gy)(l:ce),px Y.X.P os os ms l->True:=λ_ _ _ _=>trivial;have:j<os.length:=by
   have aC:∀(bT:List b_)(ms:List gy)(l:ce)(eS:List b_),px Y.X.P eS bT ms l->ms.length=bT.length:=λbT=>by
    induction bT with
    |nil=>intro ms l eS h;cases ms with|nil=>rfl|cons m ms=>exact h.elim
    |cons b bT bx=>intro ms l eS h;cases ms with|nil=>exact h.elim|cons m ms=>simp[bx ms _ eS h.2]
   have:=(cz.1 h1).1;rw[aC os ms l os ml]at this;exact this
  exact⟨_,bN this⟩
 have dH:∀t,t∈AE os o->c6 (iN 0 os ms L l) t=c6 (iN 0 os ms (λj=>decide (j<i)) l) t:=λt aj=>by
  refine M9 0 os ms l l rfl λj kI ag=>?_;rw[ib];obtain⟨iB,Nb⟩:=aaT j kI ag;rcases S_ j i with b'|heq|CU
  ·cases bp:L j with
   |true=>exact .inl (by simp[b'])
   |false=>exact .inr λe=>((CS (y4 j kI iB ag Nb b' bp)).1 t e).1 aj
  ·subst heq;exact .inl (by simp[I_])
  ·cases bp:L j with
   |false=>exact .inl (by simp;omega)
   |true=>exact .inr λe=>((CS (AH j kI iB ag Nb CU bp)).2.1 t e).1 aj
 have ajU:∀id,id∈m.np.1->(gZ 0 ms L H)[id]? =(gZ 0 ms (λj=>decide (j<i)) H)[id]? :=λid u9=>by
  refine Fu 0 ms H H rfl rfl λj iB ag=>?_;rw[ib];obtain⟨kI,sQ⟩:=xB j iB ag;rcases S_ j i with b'|heq|CU
  ·cases bp:L j with
   |true=>exact .inl (by simp[b'])
   |false=>exact .inr λq aB e=>((CS (y4 j kI iB sQ ag b' bp)).2.2.1 id (by rw[<-e];exact Ax aB)).1 u9
  ·subst heq;exact .inl (by simp[I_])
  ·cases bp:L j with
   |false=>exact .inl (by simp;omega)
   |true=>exact .inr λq aB e=>((CS (AH j kI iB sQ ag CU bp)).2.2.2 id (by rw[<-e];exact Ax aB)).1 u9
 have ajV:gx (gZ 0 ms L H) m.dx:=λq aB=>by rw[ajU q.1 (Ax aB)];exact ajR q aB
 let nI:Nat->Bool:=λj=>(listed.setIfInBounds i ad).getD j aS
 have aaU:nI i=ad:=by show(listed.setIfInBounds i ad).getD i aS=ad;simp[qc,aaq,gw,c4]
 have FC:∀j,j≠i->nI j=L j:=λj ag=>by show(listed.setIfInBounds i ad).getD j aS=_;rw[getD_set_ne aS (λe=>ag e.symm),CT]
 have TK:An os (listed.setIfInBounds i ad):=st.tZ.set aU iO;have I':eH (gZ 0 ms L H) m.c0=gZ 0 ms nI H:=by
  apply m3;intro id;by_cases u9:id∈m.np.2
  ·have h1:(gZ 0 ms nI H)[id]? =(gZ 0 ms (λj=>nI j&&fb j i) H)[id]? :=by
    refine Fu 0 ms H H rfl rfl λj iB ag=>?_;rw[ib];obtain⟨kI,sQ⟩:=xB j iB ag;by_cases CV:j<=i
    ·exact .inl (by simp[CV])
    ·cases bp:nI j with
     |false=>exact .inl (by simp)
     |true=>exact .inr λq aB e=>((CS (AH j kI iB sQ ag (by omega) (by rw[<-FC j (by omega)];exact bp))).2.2.2 id (by rw[<-e];exact Ax aB)).2 u9
   rw[h1,aaO (L:=λj=>nI j&&fb j i) 0 ms H i m hm (by rw[ib];simp[aaU]) (λj ag=>by rw[ib];show(nI j&&fb j i)=aS;rw[ajO ag,Bool.and_false])];refine TH _ _ _ (by rw[TG,TG]) ?_;refine Fu 0 ms H H rfl rfl λj iB ag=>?_;rw[ib];obtain⟨kI,sQ⟩:=xB j iB ag;rcases S_ j i with b'|heq|CU
   ·refine .inl ?_;rw[FC j (by omega),ib,tS (show ¬j=i by omega),ajP (show j<=i by omega)];simp
   ·subst heq;refine .inl ?_;rw[ib,show eF j j=ad from kq j,I_];simp
   ·cases bp:L j with
    |false=>exact .inl (by rw[FC j (by omega),bp];simp)
    |true=>exact .inr λq aB e=>((CS (AH j kI iB sQ ag CU bp)).2.2.2 id (by rw[<-e];exact Ax aB)).2 u9
  ·rw[I0 _ _ _ λq aB e=>u9 (by rw[<-e];exact Ax aB)];refine Fu 0 ms H H rfl rfl λj iB ag=>?_;rw[ib];by_cases CV:j=i
   ·subst CV;rw[hm]at ag;cases ag;exact .inr λq aB e=>u9 (by rw[<-e];exact Ax aB)
   ·exact .inl (FC j CV).symm
 have Fm:∀g' w' v,iX Y.X g' w' (gZ 0 ms nI H) (iN 0 os ms L l) a->cN g' w' (gZ 0 ms nI H) m.d v->iX Y.X g' w' (gZ 0 ms nI H) (iN 0 os ms nI l) (a.put o.dst v):=λg' w' v h1 h2=>by
  have hp:=h1.put ajS h2;refine⟨hp.1,hp.2.1,λt d aj=>hp.2.2 t d ?_⟩;by_cases e:o.dst=I t
  ·have:=aaP (t:=t) (L:=nI) 0 os ms l i o m aU hm e (by rw[ib];exact aaU) λj kI ag sQ bp bc=>by
    rw[ib]at bp;obtain⟨iB,Nb⟩:=aaT j kI sQ;exact((CS (AH j kI iB sQ Nb ag (by rw[<-FC j (by omega)];exact bp))).1 t e).2 bc
   rw[this]at aj;rw[e,M8];exact aj
  ·rw[I6 e];rw[<-aj];refine M9 0 os ms l l rfl λj kI ag=>?_;rw[ib];by_cases CV:j=i
   ·subst CV;rw[aU]at ag;cases ag;exact .inr e
   ·exact .inl (FC j CV).symm
 have fi:∀v w' g',cn w g (gZ 0 ms L H) g' w' (eH (gZ 0 ms L H) m.c0)->cN g' w' (eH (gZ 0 ms L H) m.c0) m.d v->K (a.put o.dst v) w':=λv w' g' h1 h2=>by
  rw[I']at h1 h2;refine bZ g' w' _ ⟨?_,?_,TK⟩
  ·exact kf.then h1
  ·exact Fm g' w' v (ok.bi h1.bi) h2
 have ajW:∀x∈o.op.operands,∀u,bV (iN 0 os ms (λj=>decide (j<i)) l) x=I u->cN g w (gZ 0 ms L H) u (a.eval x):=λx ak u hu=>by
  refine ok.bB ?_;cases x with
  |tmp t=>simp only[bV]at hu⊢;rw[dH t (by unfold AE aaN;rw[h3];right;exact List.mem_filterMap.2 ⟨.tmp t,by simpa using ak,rfl⟩)];exact hu
  |const v=>exact hu
  |global q=>exact hu
  |func f=>exact hu
 have ajX:m.ga (gZ 0 ms L H):=by
  refine aaQ 0 ms H (Fz i m hm).1 λj iB ag oN=>?_;rw[ib]at oN;rcases(Fz i m hm).2 j iB ag with h|h
  ·exfalso;obtain⟨kI,sQ⟩:=xB j iB ag;have:=S2 (k:=j) (j:=i) st.tZ sQ (λe he aF=>st.tZ j kI (by rw[CT];exact oN) sQ e he aF) h;rw[CT,I_]at this;cases this
  ·exact h
 have run:M7 m.ga Y.X.P o.op o.type (bV (iN 0 os ms (λj=>decide (j<i)) l)) m.dx m.c0 m.d->o.wpIn (jT Y.X.r) 0 Y.X.P a w K Q:=λh=>by
  refine⟨λ_ _=>trivial,?_⟩;rcases h g w _ a.eval o rfl rfl kf.jV ajX ajV ajW with⟨v,w',h1,g',h2,ay⟩|⟨w',h1,g',h2,ay⟩|⟨n,h1,h2⟩
  ·rw[uY h1 (by intro d h;cases h)];exact fi v w' g' h2 ay
  ·rw[uY h1 (by intro d h;cases h)];exact fi undef w' g' h2 ay
  ·rw[uY h1 h2.CI];exact h2.MM λv w' ⟨g',ay,bl⟩=>fi v w' g' ay bl
 have aaV:∀{j dM:Nat}{want b:Bool},o.guard=I (j,want)->(os[j]?).bind (·.dst)=I dM->c6 (iN 0 os ms (λj=>decide (j<i)) l) dM=I (.p (.v (.bool b)))->yielded os.toArray a.tmps j=I b:=λ{j dM want b} b5 ag aF=>
  Td ok (by simpa using ag) (by rw[dH dM (by unfold AE;rw[b5,h3];left;show dM∈((os[j]?).bind (·.dst)).toList;rw[ag];simp)];exact aF)
 have CU:∀{j dM:Nat}{want:Bool}{x:Array be},o.guard=I (j,want)->(os[j]?).bind (·.dst)=I dM->c6 (iN 0 os ms (λj=>decide (j<i)) l) dM=I (.p (.v (.tuple x)))->yielded os.toArray a.tmps j=aJ:=λ{j dM want x} b5 ag aF=>by obtain⟨v,h1,h2⟩:=ok.2.2 dM _ (by rw[dH dM (by unfold AE;rw[b5,h3];left;show dM∈((os[j]?).bind (·.dst)).toList;rw[ag];simp)];exact aF);have:=h2.ic;unfold yielded;rw[show(os.toArray[j]?).bind (·.dst)=I dM by simpa using ag];simp[h1,this]
 cases ey with
 |run b5 h=>
  have:tW o (yielded os.toArray a.tmps)=ad:=by unfold tW;rw[b5]
  rw[if_pos this];exact run h
 |on b5 ag aF h=>
  have:tW o (yielded os.toArray a.tmps)=ad:=by unfold tW;rw[b5];simp only[aaV b5 ag aF,beq_self_eq_true]
  rw[if_pos this];exact run h
 |@off j dM want b5 ag aF he=>
  have:tW o (yielded os.toArray a.tmps)=aS:=by unfold tW;rw[b5];simp only[aaV b5 ag aF];cases want<;>rfl
  rw[if_neg (by rw[this];decide)];subst he;refine bZ g w _ ⟨?_,?_,TK⟩
  ·show cn Y.cK Y.cl Y.ca g w (gZ 0 ms nI H);rw[<-I'];exact kf
  ·exact Fm g w undef (by rw[<-I'];exact ok) (.v _)
 |@Ft j dM want x b5 ag aF he=>
  have:tW o (yielded os.toArray a.tmps)=aS:=by unfold tW;rw[b5];simp only[CU b5 ag aF];rfl
  rw[if_neg (by rw[this];decide)];subst he;refine bZ g w _ ⟨?_,?_,TK⟩
  ·show cn Y.cK Y.cl Y.ca g w (gZ 0 ms nI H);rw[<-I'];exact kf
  ·exact Fm g w undef (by rw[<-I'];exact ok) (.v _)
theorem ajY{ms:List gy}{H:List aN}(ml:px Y.X.P os os ms l)(ev:xN ms H)(Fz:I9 os ms H)(FA:rZ os Y.X.N (ms.map gy.np) os (ms.map gy.np) (sK os []) 0=ad)
  (ajZ:∀listed g w a,M' Y os ms l H listed g w a->(∀i,i<os.length->listed.getD i aS=ad)->Q .normal a w):
  ∀(m:Nat)(listed:Array Bool)(g:cu)(w:bj)(a:di),listed.toList.count aS=m->listed.size=os.length->M' Y os ms l H listed g w a->wpAnyIn (jT Y.X.r) 0 Y.X.P .any os.toArray Q m listed a w:=by
 intro m;induction m with
 |zero=>
  intro listed g w a CW gw st;have iO:∀i,i<os.length->listed.getD i aS=ad:=λi hi=>by
   cases aF:listed.getD i aS with
   |true=>rfl
   |false=>
    exfalso;rw[List.count_eq_zero]at CW;apply CW;have b':i<listed.size:=by omega
    rw[qc,S8 b']at aF;simp at aF;exact cm (i:=i) (by rw[aar,S8 b',aF])
  refine⟨?_,ajZ listed g w a st iO⟩;rw[List.eq_nil_iff_forall_not_mem];intro i hi;obtain⟨bh,o,aU,_⟩:=mem_ready.1 hi;have b':i<os.length:=by simpa using(Array.getElem?_eq_some_iff.1 aU).1
  have h1:=iO i b';simp only[qc]at bh h1;cases ak:listed[i]? with
  |none=>rw[ak]at h1;simp at h1
  |some b=>rw[ak]at bh h1;simp at bh h1;rw[bh]at h1;cases h1
 |succ m bx=>
  intro listed g w a CW gw st;have hex:∃i,i<os.length/\listed.getD i ad=aS:=by have hm:aS∈listed.toList:=List.count_pos_iff.1 (by omega);obtain⟨i,hi⟩:=hf hm;have b':=(cz.1 hi).1;refine⟨i,by simpa[gw]using b',?_⟩;rw[aar]at hi;rw[qc,hi];rfl
  obtain⟨i0,⟨kW,Ja⟩,aj0⟩:=lU hex;have q0:os[i0]? =I os[i0]:=bN kW;have Nc:i0∈Region.ready .any os.toArray listed:=by
   refine mem_ready.2 ⟨Ja,os[i0],by simpa using q0,λe he aF=>?_⟩;obtain⟨_,_,_,_,Na,_⟩:=I8 FA q0;rw[ib]at Na;have b':=aiZ Na e he aF;have hle:e.on<listed.size:=by omega
   cases bp:listed.getD e.on ad with
   |true=>rw[qc,S8 hle]at bp⊢;simpa using bp
   |false=>have:=aj0 e.on ⟨by omega,bp⟩;omega
  refine⟨λbh=>by rw[bh]at Nc;simp at Nc,λi tY=>?_⟩;obtain⟨FB,o,aU,iO⟩:=mem_ready.1 tY;have u2:os[i]? =I o:=by simpa using aU
  have Jb:listed.toList[i]? =I aS:=ai0 FB;have:=ajQ (Q:=Q) (K:=wpAnyIn (jT Y.X.r) 0 Y.X.P .any os.toArray Q m (listed.setIfInBounds i ad)) ml ev Fz FA gw st u2 FB iO λg' w' fo st'=>bx _ g' w' fo (by have:=Z2 _ _ Jb;simp only[Array.toList_setIfInBounds];omega) (by simp[gw]) st';unfold wpOpIn;simp only[aU];split
  ·rename_i hw;rw[if_pos hw]at this;exact this
  ·rename_i hw;rw[if_neg hw]at this;exact⟨λ_ _=>trivial,this⟩
def jI(Y:gY)(Q:df->di->bj->Prop)(eS:List b_)(rest:List b_)(l:ce)(H:List aN)(acc:List (List Nat×List Nat)):Prop:=
 ∃ms:List gy,px Y.X.P eS rest ms l/\xN ms H/\(∀m∈ms,m.ga=λ_=>True)/\rZ eS Y.X.N (acc++ms.map gy.np) eS (acc++ms.map gy.np) (sK eS []) 0=ad/\fI Y Q .normal (iN 0 rest ms (λ_=>ad) l) (gZ 0 ms (λ_=>ad) H)
variable {acc:List (List Nat×List Nat)}{eS:List b_}
theorem jI.nil{H:List aN}(ax:rZ eS Y.X.N acc eS acc (sK eS []) 0=ad)(h:fI Y Q .normal l H):jI Y Q eS [] l H acc:=⟨[],trivial,trivial,λ_ h=>(by cases h),by simpa using ax,h⟩
theorem aaW:∀(k:Nat)(os:List b_)(ms:List gy)(l:ce),iN (k+1) os ms (λ_=>ad) l=iN k os ms (λ_=>ad) l:=λk os=>by
 induction os generalizing k with
 |nil=>intro ms l;cases ms<;>rfl
 |cons x os bx=>intro ms l;cases ms with|nil=>rfl|cons m ms=>rw[iN,iN];exact bx _ _ _
theorem aaX:∀(k:Nat)(ms:List gy)(H:List aN),gZ (k+1) ms (λ_=>ad) H=gZ k ms (λ_=>ad) H:=λk ms=>by
 induction ms generalizing k with
 |nil=>intro H;rfl
 |cons x ms bx=>intro H;rw[gZ,gZ];exact bx _ _
variable {rest:List b_}
theorem jI.cons{o:b_}{H:List aN}{m:gy}(hi:wl Y.X.P eS o l m)(ev:gx H m.dx)(k:jI Y Q eS rest (hJ o.dst m.d l) (eH H m.c0) (acc++[m.np]))(hp:m.ga=λ_=>True:=by rfl):jI Y Q eS (o::rest) l H acc:=by
 obtain⟨ms,h1,h2,bO,ay,bl⟩:=k;refine⟨m::ms,⟨hi,h1⟩,⟨ev,h2⟩,?_,by simpa using ay,?_⟩
 ·intro x ak;rcases qf.1 ak with e|e
  ·rw[e];exact hp
  ·exact bO x e
 ·rw[iN,gZ,aaW,aaX];exact bl
variable {op:Op}{ty:co}
theorem jI.q{t:Nat}{pos:String}{cT:Array jG}{H:List aN}{d:V}(h:bP Y.X.P op ty (bV l) [] [] d)(k:jI Y Q eS rest ((t,d)::l) H (acc++[([],[])])):
  jI Y Q eS ({dst:=I t,op:=op,type:=ty,pos:=pos,after:=cT,guard:=aJ}::rest) l H acc:=jI.cons (m:=⟨[],[],d,λ_=>True⟩) (.run rfl h.CQ) fy k
variable {dst:Option Tmp}
theorem jI.o{pos:String}{cT:Array jG}{H:List aN}{eP:aN}{c0:List (Nat×aN)}{d:V}(h:bP Y.X.P op ty (bV l) [(i,eP)] c0 d)(hi:H[i]? =I eP)
  (k:jI Y Q eS rest (hJ dst d l) (eH H c0) (acc++[([i],c0.map (·.1))])):jI Y Q eS ({dst:=dst,op:=op,type:=ty,pos:=pos,after:=cT,guard:=aJ}::rest) l H acc:=jI.cons (m:=⟨[(i,eP)],c0,d,λ_=>True⟩) (.run rfl h.CQ) (fa hi) k
theorem jI.ar{pos:String}{cT:Array jG}{H:List aN}{dx c0:List (Nat×aN)}{d:V}(h:bP Y.X.P op ty (bV l) dx c0 d)(hi:gx H dx)
  (k:jI Y Q eS rest (hJ dst d l) (eH H c0) (acc++[(dx.map (·.1),c0.map (·.1))])):jI Y Q eS ({dst:=dst,op:=op,type:=ty,pos:=pos,after:=cT,guard:=aJ}::rest) l H acc:=jI.cons (m:=⟨dx,c0,d,λ_=>True⟩) (.run rfl h.CQ) hi k
variable {id:Nat}
theorem eq.aaY{H:List aN}(hm:Y.X.P.follows .mixedOrders=ad)(ms:List gy)(h1:px Y.X.P os os ms l)(h2:xN ms H)(bO:I9 os ms H)(ay:rZ os Y.X.N (ms.map gy.np) os (ms.map gy.np) (sK os []) 0=ad)
  (bl:fI Y Q .normal (iN 0 os ms (λ_=>ad) l) (gZ 0 ms (λ_=>ad) H)):eq Y (.region id os.toArray ad) Q l H:=λg w a aO a4=>by
 refine wpIn_region_any hm ?_;have Jb:∀j,(MP os.toArray.size aS).getD j aS=aS:=λj=>by simp only[qc];rw[Array.getElem?_replicate];split<;>simp
 have aaZ:gZ 0 ms (λj=>(MP os.toArray.size aS).getD j aS) H=H:=M_ λj=>Jb _;have aj1:iN 0 os ms (λj=>(MP os.toArray.size aS).getD j aS) l=l:=by
  have TJ:∀(k:Nat)(os:List b_)(ms:List gy)(L:Nat->Bool)(l:ce),(∀j,L j=aS)->iN k os ms L l=l:=λk os=>by
   induction os generalizing k with
   |nil=>intro ms L l _;cases ms<;>rfl
   |cons x os bx=>intro ms L l eK;cases ms with|nil=>rfl|cons m ms=>rw[iN,eK k];exact bx _ _ _ _ eK
  exact TJ 0 os ms _ l Jb
 have Nd:iA g w H g w.drew H:=⟨bL _,λ_ _=>bL _,λ_ _ _ _=>rfl,λ_ h=>⟨h,rfl⟩,λt m aj=>⟨m,aj,bL _,λ_=>rfl⟩⟩
 have ev:cn w g H g w.drew H:=⟨rfl,rfl,rfl,aO.oe.bi Nd,Nd,λ_ _ _=>⟨rfl,rfl⟩,λi o hi=>lx.bi Nd hi (λ_ _=>⟨rfl,rfl⟩) (λ_ _ _ _ _=>rfl) (aO.eP i o hi),aO.lY,λi b aU=>.inl ⟨i,aU⟩⟩
 have:=ajY (Y:=Y) (Q:=Q) h1 h2 bO ay (λlisted g' w' fo st iO=>by
  have a2:gZ 0 ms (λj=>listed.getD j aS) H=gZ 0 ms (λ_=>ad) H:=by
   apply m3;intro id;refine Fu 0 ms H H rfl rfl λi m hi=>.inl ?_;rw[ib];have aC:∀(bT:List b_)(ms:List gy)(l:ce)(eS:List b_),px Y.X.P eS bT ms l->ms.length=bT.length:=λbT=>by
    induction bT with
    |nil=>intro ms l eS h;cases ms with|nil=>rfl|cons m ms=>exact h.elim
    |cons b bT bx=>intro ms l eS h;cases ms with|nil=>exact h.elim|cons m ms=>simp[bx ms _ eS h.2]
   exact iO i (by rw[<-aC os ms l os h1];exact(cz.1 hi).1)
  refine bl g' w' fo (by rw[<-a2];exact st.kf) ?_;have ok:=st.ok;rw[a2]at ok;refine⟨ok.1,ok.2.1,λt d aj=>ok.2.2 t d ?_⟩;rw[<-aj];refine M9 0 os ms l l rfl λi o hi=>.inl ?_;rw[ib];exact iO i (cz.1 hi).1) os.toArray.size (MP os.toArray.size aS) g w.drew a (by simp) (by simp)
  ⟨by rw[aaZ];exact aO.then ev,by rw[aaZ,aj1];exact a4.bi Nd,λi o aC=>by rw[Jb]at aC;cases aC⟩
 exact this
theorem eq.any{H:List aN}(hm:Y.X.P.follows .mixedOrders=ad)(h:jI Y Q os os l H []):eq Y (.region id os.toArray ad) Q l H:=by obtain⟨ms,h1,h2,bO,ay,bl⟩:=h;exact eq.aaY hm ms h1 h2 (.aX bO) (by simpa using ay) bl
end
abbrev CX(aw:cF)(f:hE)(ds:List V)(H:List aN)(r:V)(H':List aN):Prop:=tX aw f ds H (λh5 H2=>h5=r/\H2=H')
abbrev CY(aw:cF)(f:hE)(ds:List V)(r:V):Prop:=CX aw f ds [] r []
abbrev aL(n:Int):V:=.p (.v (.int .i64 n))
abbrev bD(b:Bool):V:=.p (.v (.bool b))
abbrev gh(n:Int):V:=.p (.v (.int .u8 n))
abbrev cE(s:ByteArray):V:=.p (.v (.string s))
abbrev bI(n:Int):P:=.v (.int .i64 n)
abbrev Nf(b:Bool):P:=.v (.bool b)
abbrev bd(n:Int):P:=.v (.int .u8 n)
abbrev fA(s:ByteArray):P:=.v (.string s)
def sl{α:Type}(k:Nat)(e:α->List P)(xs:List α):P:=.sl k xs.length (xs.flatMap e)
abbrev bM{α:Type}(k:Nat)(e:α->List P)(xs:List α):V:=.p (sl k e xs)
def cZ{α:Type}(k:Nat)(e:α->List P)(xs:List α)(i m:Nat):V:=.cZ k xs.length (xs.flatMap e) i m
def ch(n:Int):List P:=[bI n]
def aa0(b:Bool):List P:=[Nf b]
def mm(n:Int):List P:=[bd n]
def fd(s:ByteArray):List P:=[fA s]
theorem TL{α:Type}{k:Nat}{e:α->List P}(ap:∀x,(e x).length=k):∀{xs:List α}{j:Nat}{x:α},xs[j]? =I x->((xs.flatMap e).drop (j*k)).take k=e x
 |[],j,x,h=>by simp at h
 |y::cO,0,x,h=>by simp at h;subst h;rw[Fj,List.drop_zero,kp,List.take_append_of_le_length (by rw[ap];exact bL _),List.take_of_length_le (by rw[ap];exact bL _)]
 |y::cO,j+1,x,h=>by rw[kp,il,Nat.one_mul,Nat.add_comm,<-List.drop_drop,show List.drop k (e y++cO.flatMap e)=cO.flatMap e by rw[<-ap y];simp];exact TL ap (by simpa using h)
def V.nJ{α:Type}(k:Nat)(e:α->List P)(d:V)(xs:List α):Prop:=d.rT=I (k,xs.length,xs.flatMap e)
variable {α:Type}{e:α->List P}{k:Nat}{xs:List α}
theorem sR:V.nJ k e (bM k e xs) xs:=rfl
theorem FD{i m:Nat}:V.nJ k e (cZ k e xs i m) xs:=rfl
section
variable {aw : cF} {ty : co} {ρ : bY -> Option V}
variable {E T:Nat}{α:Type}{e:α->List P}{k:Nat}{x:bY}{xs:List α}
theorem Ng {y:bY}{K:IntKind}{j:Int}{d:V}{z:α}(cw:∀w,(underlying T).run aw w=.ok (.slice E) w)(aY:∀w,(sizeOf E).run aw w=.ok k w)(ak:ρ x=I d)(a9:ρ y=I (.p (.v (.int K j))))(aG:V.nJ k e d xs)(ap:∀x,(e x).length=k)
  (bh:0<=j) (aP:xs[j.toNat]? =I z):bP aw (.indexAddr T x y) ty ρ [] [] (.bG (e z)):=
 ajx cw aY ak a9 aG bh (by have:=(cz.1 aP).1;omega) (TL ap aP)
theorem aj2{d:V}(cw:∀w,(underlying T).run aw w=.ok (.slice E) w)(ak:ρ x=I d)(aG:V.nJ k e d xs):bP aw (.call {callee:=.builtin .len,args:=#[x],argTypes:=#[T]}) ty ρ [] [] (aL xs.length):=ajy cw ak aG
variable {bG t:Nat}{z:be}
theorem Nh {bytes i m:Nat} {s:bY} {cO:List α}{d:V}(aj:aw.underlying t=I (.slice bG))(hi:(aw.info? bG).map (λi=>(i.zero,i.size,i.bytes))=I (I z,k,bytes))(aP:z.cells.size=k)(ap:0<k)
  (aQ:ρ s=I (cZ k e xs i m)) (ak:ρ x=I d) (aG:V.nJ k e d cO) (aU:∀y,(e y).all P.one=ad) (CJ:xs.length+cO.length<=9223372036854775807) (sM:(xs.length+cO.length)*bytes<=140737488355328):
  bP aw (.call {callee:=.builtin .append,args:=#[s,x],argTypes:=#[t,t]}) ty ρ [(i,.bs bG k m)] [(i,.bs bG k (m+1))] (cZ k e (xs++cO) i (m+1)):=by
 have:=ajL (ty:=ty) aj hi aP ap aQ ak aG (λc ax=>by obtain⟨y,_,h2⟩:=List.mem_flatMap.1 ax;exact kX.1 (aU y) c h2) CJ sM;unfold cZ;rw[hW,List.flatMap_append];exact this
theorem aj3{os:List bY}{parts:Array (Nat×bY)}{ds:List V}(xs:List α)(aj:∀w,(underlying t).run aw w=.ok (.slice bG) w)(ap:∀w,(sizeOf bG).run aw w=.ok k w)(aP:∀w,(zeroValue bG).run aw w=.ok z w)
  (no:parts.toList=os.zipIdx.map (λp=>(p.2,p.1))) (ak:os.map ρ=ds.map I) (aU:(ds.all λd=>d.cells.all V.one&&eF d.cells.length k)=ad) (gl:ds.flatMap V.cells=(xs.flatMap e).map .p) (a6:ds.length=xs.length) (hle:xs.length*k<=16777216):bP aw (.buildSlice t xs.length parts) ty ρ [] [] (bM k e xs):=
 ajJ aj ap aP no ak aU gl a6 hle
end
section
variable {Y : gY} {Q : df -> di -> bj -> Prop} {l : ce} {H : List aN} {ops : Array b_} {rest : List b_}
theorem aj4{α:Type}{e:α->List P}{T k i t:Nat}{g:cu}{w:bj}{a:di}(aO:cn Y.cK Y.cl Y.ca g w H)(a4:iX Y.X g w H l a)(aj:c6 l t=I (.p (.v (.slice aJ 0 0))))(hi:H[i]? =I .cc):
  ∃g',cn Y.cK Y.cl Y.ca g' w (H.set i (.bs T k 0))/\iX Y.X g' w (H.set i (.bs T k 0)) ((t,cZ k e [] i 0)::l) a:=by
 have aQ:=cn.aap (T:=T) (k:=k) aO.jV hi;refine⟨_,aO.then aQ,?_⟩;have py:=a4.bi aQ.bi;refine⟨py.1,py.2.1,λs d aG=>?_⟩;simp only[c6]at aG;by_cases q:t=s
 ·subst q;rw[show eF t t=ad from kq t]at aG;simp only[cond_true,je]at aG;subst aG;obtain⟨v,h1,h2⟩:=py.2.2 t _ aj;refine⟨v,h1,?_⟩;rw[h2.ic];refine .cZ .nil ⟨0,?_,bL _,λ_=>(fL _ _ _).symm⟩;show xx (H.set i _)[i]? =_;rw[kV (cz.1 hi).1];rfl
 ·rw[tS q]at aG;exact py.2.2 s d aG
theorem eq.nil{α:Type}{c:eZ}(e:α->List P)(T k i t:Nat)(aj:c6 l t=I (.p (.v (.slice aJ 0 0))))(hi:H[i]? =I .cc)(h:eq Y c Q ((t,cZ k e [] i 0)::l) (H.set i (.bs T k 0))):eq Y c Q l H:=λg w a aO a4=>by obtain⟨g',h1,h2⟩:=aj4 (e:=e) (T:=T) (k:=k) aO a4 aj hi;exact h g' w a h1 h2
end
theorem hg.TM{α:Type}{k:Nat}{e:α->List P}{xs:List α}{i m:Nat}:hg (Go.Dp.cZ k e xs i m) (bM k e xs):=hg.cZ
theorem bU{H:List aN}{i:Nat}{o:aN}{dx:List (Nat×aN)}(h:H[i]? =I o)(k:gx H dx):gx H ((i,o)::dx):=λq aB=>by
 rcases qf.1 aB with rfl|aB
 ·exact h
 ·exact k q aB
def aa1(k0:Nat)(a1:List Nat):Bool:=(gD k0).all λi=>h4 i a1.length&&eF (b0 a1 i) i
theorem pv.aX{ca H e1:List aN}{a1:List Nat}(aC:a1.length=e1.length)(h:gx H (eW (b0 a1) a1 e1))(a6:a1.Nodup)(b':e1.all (aN.lt e1.length)=ad)(u9:aa1 ca.length a1=ad):pv ca H e1 a1:=
 ⟨M1 aC h,a6,b',λi hi=>by have:=kX.1 u9 i (by simpa using hi);simp only[dn]at this;exact⟨by simpa[lA]using this.1,mi this.2⟩⟩
end Go.Dp

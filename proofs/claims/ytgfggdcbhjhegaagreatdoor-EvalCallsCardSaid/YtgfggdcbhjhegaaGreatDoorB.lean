/- Deep data: operations that read and write. -/
import Derived.Test.YtgfggdcbhjhegaaGreatDoorA
set_option linter.all false
namespace Go.Dp
open Go Go.Mi Go.RowKit
open _root_.Array renaming getD_eq_getD_getElem?->nZ,getElem?_eq_getElem->N9,replicate->H7,getElem?_setIfInBounds->VK,getElem?_toList->VL
open Bool renaming true->ah,and_eq_true->ea,false->aQ,or_eq_true->hk
open Classical renaming choose->wO,choose_spec->Ej,not_not->uc
open Go renaming Operand->bM,Value->a4,World->bb,Oper->bU,Program->cj,TypeId->b3,ResultVar->p7,Exit->cN,FuncId->gh,Act->cO,Code->dS,Edge->ie
open Go.Builtin renaming append_->N_,firstCells->Ek,lenOf->yS,len_->VM
open Go.Call renaming operands->iZ
open Go.Exit renaming inBlock->sU
open Go.Instr renaming sureAddr->sV,loadAt->H8,fill->mm,fieldAt->El,build->wP
open Go.Op renaming operands->c_,buildSlice->VN
open Go.Region renaming wanted->n0
open Go.Result renaming andThen->ce
open Go.Sem renaming run_bind->ck,run->vg
open List renaming getElem?_eq_some_iff->cz,getElem?_eq_getElem->cq,getElem?_take->kx,mem_map_of_mem->wQ,all_eq_true->kj,mem_of_getElem?->cC,getElem?_map->fv,getElem?_drop->sQ,getD_eq_getElem?_getD->p9,flatMap_cons->iX,getElem?_of_mem->fO,getElem?_append_right->ud,mem_cons->n4,mem_append->ig,getElem?_eq_none->n1,map_cons->gI,mem_map->lH,ext_getElem?->mr,length_take->jf,eq_nil_of_length_eq_zero->nl,nodup_cons->oK,getElem?_append_left->sP,map_map->kk,length_append->ky,getElem_range->A6,getElem?_set->rT,mem_toArray->VO,getElem_mem->VP,getD->yH,length_map->h6,replicate->dm,all_cons->VQ,length->p_,range->mn
open Nat renaming zero_add->hD,le_refl->b5,le_of_ble_eq_true->lI,add_zero->mO,blt_eq->iu,beq->d',ble->ev,beq_refl->jp,blt->fV,eq_of_beq_eq_true->kz,lt_trichotomy->N',zero_mul->Be,add_mul->jD,ble_eq->Bf,add_assoc->sS,zero_le->gx
open Option renaming some->D,none->aF,map_eq_some_iff->A7,map_some->lV
open Option.some renaming injEq->hX,inj->pA
def V.one:V->Bool
 |.p x=>x.one
 |.agg _=>aQ
 |.cg _=>aQ
 |_=>ah
def V.cells:V->List V
 |.agg cs=>cs
 |d=>[d]
def oL:List V->Nat->List V->List V
 |cs,_,[]=>cs
 |cs,o,d::ds=>oL (cs.set o d) (o+1) ds
section
variable {g : b_} {w : bb} {H : List aG}
theorem cD.one{d:V}{v:a4}(h:cD g w H d v)(h1:d.one=ah):n2 v=ah:=by
 cases h with
 |p h=>exact h.one h1
 |cT h=>exact hL.one (x:=.dI _ _ _) h rfl
 |agg h=>cases h1
 |cg h=>cases h1
 |gs h _=>exact h
 |js h _=>exact h
 |_=>rfl
theorem cD.cells{d:V}{v:a4}(h:cD g w H d v)(h1:d.cells.all V.one=ah):∃vs:List a4,v.cells=vs.toArray/\cU g w H d.cells vs/\(∀u∈vs,n2 u=ah):=by
 have single:d.cells=[d]->∃vs:List a4,v.cells=vs.toArray/\cU g w H d.cells vs/\(∀u∈vs,n2 u=ah):=λe=>by rw[e]at h1⊢;have a1:=h.one (by simpa using h1);exact⟨[v],by rw[NZ a1],.cons h .nil,by simpa using a1⟩
 cases h with
 |@agg cs vs h=>
  refine⟨vs,rfl,h,λu hu=>?_⟩;obtain⟨j,ae⟩:=fO hu;have jW:j<cs.length:=by have:=(cz.1 ae).1;have:=h.len;omega
  obtain⟨oM,e,aM⟩:=h.aq (cq jW);rw[ae]at e;cases e;exact aM.one (kj.1 h1 _ (VP _))
 |p h=>exact single rfl
 |cT h ai=>exact single rfl
 |aR aK=>exact single rfl
 |bA u aS aB hu h=>exact single rfl
 |dX aK=>exact single rfl
 |map aK=>exact single rfl
 |fn h1 h2=>exact single rfl
 |fW aK=>exact single rfl
 |z=>exact single rfl
 |gs h2 h=>exact single rfl
 |js h2 h=>exact single rfl
 |cg h=>exact single rfl
theorem cU.oG:∀{ds:List V}{vs:List a4}{o:Nat}{cs:List V}{us:List a4},cU g w H cs us->cU g w H ds vs->cU g w H (oL cs o ds) (Mi.oG us o vs)
 |_,_,o,cs,us,h,.nil=>h
 |_,_,o,cs,us,h,.cons (d:=d) (v:=v) az aV=>cU.oG (o:=o+1) (cs:=cs.set o d) (us:=us.set o v) (h.set az) aV
theorem cU.one{ds:List V}{vs:List a4}(h:cU g w H ds vs)(h1:ds.all V.one=ah):∀u∈vs,n2 u=ah:=λu hu=>by
 obtain⟨j,ae⟩:=fO hu;have jW:j<ds.length:=by have:=(cz.1 ae).1;have:=h.len;omega
 obtain⟨oM,e,aM⟩:=h.aq (cq jW);rw[ae]at e;cases e;exact aM.one (kj.1 h1 _ (VP _))
variable {cs:List P}
theorem Oa{v:a4}(h:cD g w H (.bA cs) v):∃b o us,v=.pointer (D ⟨b,o,aF⟩)/\o+cs.length<=g.E b/\b<w.heap.size/\e_ g.E w cs us/\∀j u,us[j]? =D u->w.cell? ⟨b,o+j,aF⟩=D u:=by
 cases h with
 |@bA cs b o u aS aB hu h=>
  refine⟨b,o,(mn cs.length).map u,rfl,aS,aB,⟨by simp,λj c x ae ar=>?_⟩,λj x ar=>?_⟩
  ·rw[fv,A7]at ar;obtain⟨i,ao,e⟩:=ar;obtain⟨cf,he⟩:=(cz.1 ao)
   rw[A6]at he;subst he;subst e;exact h j c ae
  ·rw[fv,A7]at ar;obtain⟨i,ao,e⟩:=ar;obtain⟨cf,he⟩:=(cz.1 ao)
   rw[A6]at he;subst he;subst e;exact hu j (by simpa using cf)
theorem H9{us:List a4}{b o:Nat}(h:e_ g.E w cs us)(aS:o+cs.length<=g.E b)(aB:b<w.heap.size)(hu:∀j u,us[j]? =D u->w.cell? ⟨b,o+j,aF⟩=D u):cD g w H (.bA cs) (.pointer (D ⟨b,o,aF⟩)):=by
 refine .bA (λj=>us.getD j undef) aS aB (λj ae=>?_) (λj c ae=>?_)
 ·have jW:j<us.length:=by have:=h.1;omega
  rw[hu j us[j] (cq jW)];simp[yH,cq jW]
 ·have jW:j<us.length:=by have:=(cz.1 ae).1;have:=h.1;omega
  have:=h.2 j c us[j] ae (cq jW);simpa[yH,cq jW]using this
theorem e_.drop{E:Nat->Nat}{cs:List P}{us:List a4}(h:e_ E w cs us)(n:Nat):e_ E w (cs.drop n) (us.drop n):=
 ⟨by simp[h.1],λj c u h1 h2=>h.2 (n+j) c u (by rw[<-sQ];exact h1) (by rw[<-sQ];exact h2)⟩
theorem e_.take{E:Nat->Nat}{cs:List P}{us:List a4}(h:e_ E w cs us)(n:Nat):e_ E w (cs.take n) (us.take n):=
 ⟨by simp[h.1],λj c u h1 h2=>h.2 j c u (by rw[kx]at h1;split at h1;exact h1;cases h1) (by rw[kx]at h2;split at h2;exact h2;cases h2)⟩
theorem e_.Bg:∀{cs:List P}{us:List a4},e_ g.E w cs us->cU g w H (cs.map .p) us
 |[],[],_=>.nil
 |[],_::_,h=>by have:=h.1;simp at this
 |_::_,[],h=>by have:=h.1;simp at this
 |c::cs,u::us,h=>.cons (.p (h.2 0 c u rfl rfl)) (e_.Bg ⟨by have:=h.1;simpa using this,λj c' oM h1 h2=>h.2 (j+1) c' oM (by simpa using h1) (by simpa using h2)⟩)
end
def V.pB:V->Option (Nat×Nat×List P)
 |.p (.dI k n cs)=>D (k,n,cs)
 |.cT k n cs _ _=>D (k,n,cs)
 |_=>aF
theorem cD.pB{g:b_}{w:bb}{H:List aG}{d:V}{v:a4}{k n:Nat}{cs:List P}(h:cD g w H d v)(az:d.pB=D (k,n,cs)):hL g.E w (.dI k n cs) v:=by
 cases h with
 |p h=>
  rename_i x;cases x with
  |v x=>cases az
  |dI cA kC cs'=>cases az;exact h
 |cT h ai=>cases az;exact h
 |_=>cases az
section
variable {av : cj} {ty : b3} {ρ : bM -> Option V}
variable {S:b3}{f i off:Nat}{x:bM}
theorem VR {o:Nat}(a8:∀w a,(El S (.pointer (D a)) f).run av w=.ok (.pointer (D (a.add off))) w)(ar:ρ x=D (.aR i o)):bE av (.fieldAddr S x f) ty ρ [] [] (.aR i (o+off)):=.pure λg w H e q aE _ _ h=>by have a5:=h x (by simp[c_]) _ ar;generalize he:e x=v at a5;cases a5 with|aR aK=>exact⟨.pointer (D ⟨g.β i,o+off,aF⟩),by unfold execOp;rw[aE];simp[he,a8,ck,ce,qb],.aR aK⟩
variable {cs:List P}
theorem VS(a8:∀w a,(El S (.pointer (D a)) f).run av w=.ok (.pointer (D (a.add off))) w)(ar:ρ x=D (.bA cs))(aK:ev off cs.length=ah):bE av (.fieldAddr S x f) ty ρ [] [] (.bA (cs.drop off)):=.pure λg w H e q aE _ _ h=>by have a5:=h x (by simp[c_]) _ ar;have aK:=lI aK;obtain⟨b,o,us,he,h1,h2,aJ,bp⟩:=Oa a5;refine⟨.pointer (D ⟨b,o+off,aF⟩),by unfold execOp;rw[aE];simp[he,a8,ck,ce,qb],H9 (aJ.drop off) (by simp;omega) h2 λj u ae=>?_⟩;rw[sQ]at ae;rw[sS];exact bp _ _ ae
theorem VT{T:b3}{c:P}(cc:∀w,(isAgg T).run av w=.ok aQ w)(ar:ρ x=D (.bA cs))(aP:cs[0]? =D c):bE av (.load T x) ty ρ [] [] (.p c):=.pure λg w H e q aE _ _ h=>by
 obtain⟨b,o,us,he,h1,h2,aJ,bp⟩:=Oa (h x (by simp[c_]) _ ar);have aK:0<us.length:=by have:=(cz.1 aP).1;have:=aJ.1;omega
 have hu:=cq aK;exact⟨us[0],by unfold execOp;rw[aE];simp[he,H8,sV,ck,ce,D5 cc (show w.cell? ⟨b,o,aF⟩=D us[0]from bp 0 _ hu)],.p (aJ.2 0 c _ aP hu)⟩
variable {T:Nat}
theorem afb {n:Nat}(cc:∀w,(isAgg T).run av w=.ok ah w)(a_:∀w,(sizeOf T).run av w=.ok n w)(ar:ρ x=D (.bA cs))(aK:ev n cs.length=ah):bE av (.load T x) ty ρ [] [] (.agg ((cs.take n).map .p)):=.pure λg w H e q aE _ _ h=>by
 obtain⟨b,o,us,he,h1,h2,aJ,bp⟩:=Oa (h x (by simp[c_]) _ ar);have aK:=lI aK;have VU:=aJ.1;have hC:qZ w b o (us.take n):=λj ae=>by rw[jf]at ae;have hu:us[j]? =D us[j]:=cq (by omega);rw[bp j _ hu,kx,if_pos (by omega),hu]
 exact⟨_,by unfold execOp;rw[aE];simp[he,H8,sV,ck,ce,HV cc a_ hC (by simp;omega)],.agg (aJ.take n).Bg⟩
theorem bE.Em{op:Op}{d:V}{ec:aG}(h:∀(g:b_)(w:bb)(H:List aG)(e:bM->a4)(o:bU),o.op=op->o.type=ty->gm g w H->H[i]? =D ec->(∀x∈op.operands,∀u,ρ x=D u->cD g w H u (e x))->
  ∃v,(execOp e o).run av w=.ok (.value v) w/\cD g w H d v):bE av op ty ρ [(i,ec)] [] d:=λg w H e o a1 ai aM dY a8=>by
 obtain⟨v,h1,h2⟩:=h g w H e o a1 ai aM dY.one a8;exact .inl ⟨v,w,h1,g,aM.jV,h2⟩
variable {dF:Nat}
theorem Ob{cs:List V}{d:V}(cc:∀w,(isAgg T).run av w=.ok aQ w)(ar:ρ x=D (.aR i off))(az:cs[off]? =D d):bE av (.load T x) ty ρ [(i,.cells dF cs)] [] d:=.Em λg w H e q aE _ aM ao h=>by have a5:=h x (by simp[c_]) _ ar;obtain⟨us,dw,aP,_⟩:=aM.ec i _ ao;obtain⟨v,bg,kD⟩:=aP.aq az;generalize he:e x=u at a5;cases a5 with|aR aK=>exact⟨v,by unfold execOp;rw[aE];simp[he,H8,sV,ck,ce,D5 cc ((dw.cell (o:=off)).trans bg)],kD⟩
theorem VV {n:Nat}{cs:List V}(cc:∀w,(isAgg T).run av w=.ok ah w)(a_:∀w,(sizeOf T).run av w=.ok n w)(ar:ρ x=D (.aR i off))(aK:ev (off+n) cs.length=ah):bE av (.load T x) ty ρ [(i,.cells dF cs)] [] (.agg ((cs.drop off).take n)):=.Em λg w H e q aE _ aM ao h=>by
 have a5:=h x (by simp[c_]) _ ar;obtain⟨us,dw,aP,_⟩:=aM.ec i _ ao;have aK:=lI aK;have VU:=aP.len;have hC:qZ w (g.β i) off ((us.drop off).take n):=λj ae=>by rw[jf]at ae;rw[dw.cell,kx,if_pos (by omega),sQ]
 generalize he:e x=u at a5;cases a5 with|aR bg=>exact⟨_,by unfold execOp;rw[aE];simp[he,H8,sV,ck,ce,HV cc a_ hC (by simp;omega)],.agg ((aP.drop off).take n)⟩
variable {y:bM}
theorem yT {n:Nat}{cs:List V}{d:V}(a_:∀w,(sizeOf T).run av w=.ok n w)(ar:ρ x=D (.aR i off))(bh:ρ y=D d)(h1:d.cells.all V.one=ah)(qd:d.cells.length=n)(hle:ev (off+n) cs.length=ah):
  bE av (.store T x y) ty ρ [(i,.cells dF cs)] [(i,.cells dF (oL cs off d.cells))] (.p (.v undef)):=λg w H e q aE _ aM dY h=>by
 have a5:=h x (by simp[c_]) _ ar;have bk:=h y (by simp[c_]) _ bh;obtain⟨vs,oN,kD,pr⟩:=bk.cells h1;obtain⟨us,dw,aP,_⟩:=aM.ec i _ dY.one;have hle:=lI hle;have H_:=kD.len;have no:=aP.len;obtain⟨w',fH,iC,iS⟩:=D7 (P:=av) (o:=off) vs 0 us w dw pr (by omega);generalize he:e x=u at a5;cases a5 with
 |aR bg=>refine .inr (.inl ⟨w',?_,g,b'.aeV aM dY.one iC iS (cU.oG aP kD),.v undef⟩);unfold execOp;rw[aE];simp[he,Instr.storeAt,sV,storeVar,a_,oN,qd,<-H_,ck,ce,fH]
theorem afc{d:V}(ar:ρ x=D d)(h1:d.cells.all V.one=ah):bE av (.box T x) ty ρ [(i,.bW)] [(i,.cells T d.cells)] (.aR i 0):=λg w H e q aE _ aM dY h=>by
 obtain⟨vs,oN,kD,pr⟩:=(h x (by simp[c_]) _ ar).cells h1;have ao:=dY.one;refine .inl ⟨.pointer (D ⟨w.heap.size,0,aF⟩),w.alloc (.cells vs.toArray T),?_,_,b'.Vz aM ao kD,?_⟩
 ·unfold execOp;rw[aE];simp[Instr.box,newVar,newRow,newObj,ck,vg,ce,oN]
 ·have:=cD.aR (g:=⟨dD g.β i w.heap.size,dD g.E w.heap.size 0,g.h⟩) (w:=w.alloc (.cells vs.toArray T)) (H:=dT H [(i,.cells T d.cells)]) (i:=i) (off:=0) (by unfold ct;show tY (H.set i _)[i]?;rw[jH (cz.1 ao).1];trivial);simpa[fB]using this
theorem afd{v:a4}{vs:List a4}(bj:∀w,(zeroValue T).run av w=.ok v w)(oN:v.cells=vs.toArray):bE av (.alloc T) ty ρ [(i,.bW)] [(i,.cells T (vs.map λu=>.p (.v u)))] (.aR i 0):=λg w H e q aE _ aM dY h=>by
 have ao:=dY.one;have kD:cU g w H (vs.map λu=>.p (.v u)) vs:=by
  clear oN;induction vs with
  |nil=>exact .nil
  |cons u us bB=>exact .cons (.v u) bB
 refine .inl ⟨.pointer (D ⟨w.heap.size,0,aF⟩),w.alloc (.cells vs.toArray T),?_,_,b'.Vz aM ao kD,?_⟩
 ·unfold execOp;rw[aE];simp[Instr.alloc,bj,newVar,newRow,newObj,ck,vg,ce,oN]
 ·have:=cD.aR (g:=⟨dD g.β i w.heap.size,dD g.E w.heap.size 0,g.h⟩) (w:=w.alloc (.cells vs.toArray T)) (H:=dT H [(i,.cells T (vs.map λu=>.p (.v u)))]) (i:=i) (off:=0) (by unfold ct;show tY (H.set i _)[i]?;rw[jH (cz.1 ao).1];trivial);simpa[fB]using this
variable {E k:Nat}
theorem afe {n:Nat}{K:IntKind}{j:Int}{d:V} {es:List P}(cc:∀w,(underlying T).run av w=.ok (.slice E) w)(aS:∀w,(sizeOf E).run av w=.ok k w)(ar:ρ x=D d)(bh:ρ y=D (.p (.v (.int K j))))(az:d.pB=D (k,n,cs))
  (bw:0<=j) (h1:j<n) (yU:(cs.drop (j.toNat*k)).take k=es):bE av (.indexAddr T x y) ty ρ [] [] (.bA es):=.pure λg w H e q aE _ _ h=>by
 have a5:=(h x (by simp[c_]) _ ar).pB az;have bk:=(h y (by simp[c_]) _ bh).g4;rcases a5.rR with⟨he,a_,_⟩|⟨b,o,cap,us,he,aP,wK,aB,aK,rU,hu⟩
 ·omega
 ·have atX:j.toNat<n:=by omega
  have hmul:j.toNat*k+k<=n*k:=by have:=Nat.mul_le_mul_right k (show j.toNat+1<=n by omega);rw[jD]at this;omega
  refine⟨.pointer (D ⟨b,o+j.toNat*k,aF⟩),?_,?_⟩
  ·unfold execOp;rw[aE];have c0:(0<=j/\j<(n:Int)):=⟨bw,h1⟩
   simp[he,bk,Instr.indexAt,asIntOf,cc,aS,ck,ce,c0,qb]
  ·subst yU;refine H9 ((rU.drop (j.toNat*k)).take k) (by simp;omega) aB λi u ao=>?_;rw[kx]at ao;split at ao
   ·rw[sQ]at ao;rw[sS];exact hu _ _ ao
   ·cases ao
theorem aff {n:Nat}{d:V}(cc:∀w,(underlying T).run av w=.ok (.slice E) w)(ar:ρ x=D d)(az:d.pB=D (k,n,cs)):bE av (.call {callee:=.builtin .len,args:=#[x],argTypes:=#[T]}) ty ρ [] [] (.p (.v (.int .i64 n))):=.pure λg w H e q aE _ _ h=>by
 have a5:=(h x (by simp[c_,iZ]) _ ar).pB az;refine⟨_,?_,.v (.int .i64 n)⟩;unfold execOp;rw[aE];rcases a5.rR with⟨⟨oH,he⟩,a_,_⟩|⟨b,o,cap,us,he,_⟩
 ·subst a_;simp[resolve,he,invoke,builtin,VM,cc,ck,ce,goInt]
 ·simp[resolve,he,invoke,builtin,VM,cc,ck,ce,goInt]
end
def bO(l:bY):bM->Option V
 |.tmp t=>cR l t
 |.const v=>D (.p (.v v))
 |.global g=>D (.p (.v (.pointer (D ⟨g,0,aF⟩))))
 |.func f=>D (.p (.v (.func (.func f) #[] #[])))
structure gj where
 X:hY
 cn:bb
 b0:b_
 bS:List aG
def hM(X:hY)(g:b_)(w:bb)(H:List aG)(l:bY)(a:cO):Prop:=a.defers=X.ds/\a.tmps.size=X.N/\∀t d,cR l t=D d->∃v,a.tmps[t]? =D v/\cD g w H d v
variable {X:hY}{a:cO}{l:bY}{w:bb}
theorem hM.bo{g:b_}{H:List aG}(h:hM X g w H l a){x:bM}{d:V}(az:bO l x=D d):cD g w H d (a.eval x):=by
 cases x with
 |tmp t=>obtain⟨v,h1,h2⟩:=h.2.2 t d az;simpa[Act.eval,nZ,h1]using h2
 |const v=>simp only[bO,hX]at az;subst az;exact .v _
 |global q=>simp only[bO,hX]at az;subst az;exact .v _
 |func f=>simp only[bO,hX]at az;subst az;exact .v _
theorem hM.a'{X:hY}{g g':b_}{w w':bb}{H H':List aG}{l:bY}{a:cO}(h:hM X g w H l a)(m:hx g w H g' w' H'):hM X g' w' H' l a:=
 ⟨h.1,h.2.1,λt d ai=>by obtain⟨v,h1,h2⟩:=h.2.2 t d ai;exact⟨v,h1,h2.a' m⟩⟩
def gn:Option Tmp->V->bY->bY
 |some t,d,l=>(t,d)::l
 |none,_,l=>l
def kT(N:Nat):Option Tmp->Bool
 |some t=>fV t N
 |none=>ah
theorem hM.put{X:hY}{g:b_}{w:bb}{H:List aG}{l:bY}{a:cO}(h:hM X g w H l a){dst:Option Tmp}(az:kT X.N dst=ah){d:V}{v:a4}(bg:cD g w H d v):hM X g w H (gn dst d l) (a.put dst v):=by
 cases dst with
 |none=>exact h
 |some t=>
  refine⟨h.1,by simp[Act.put,h.2.1],λs u aV=>?_⟩;have ai:t<X.N:=by simpa[kT,iu]using az
  simp only[gn,cR]at aV;simp only[Act.put,VK,h.2.1];by_cases e:t=s
  ·subst e;rw[show d' t t=ah from jp t]at aV;simp only[cond_true,hX]at aV;subst aV;exact⟨v,by simp[ai],bg⟩
  ·rw[p' e]at aV;simp only[cond_false]at aV;obtain⟨oM,h1,h2⟩:=h.2.2 s u aV;exact⟨oM,by simp[e,h1],h2⟩
def fY(d cQ:V):Prop:=∀(g:b_)(w:bb)(H:List aG)(v:a4),cD g w H d v->cD g w H cQ v
theorem fY.gp{d:V}:fY d d:=λ_ _ _ _ h=>h
theorem fY.cT{k n:Nat}{cs:List P}{t m:Nat}:fY (.cT k n cs t m) (.p (.dI k n cs)):=λ_ _ _ _ h=>by cases h with|cT h _=>exact .p h
theorem fY.nil{k:Nat}:fY (.p (.v (.slice aF 0 0))) (.p (.dI k 0 [])):=λ_ _ _ _ h=>by rw[h.g4];exact .p .nil
def dM(l l':bY):Prop:=∀t d,cR l' t=D d->∃cQ,cR l t=D cQ/\fY cQ d
theorem dM.n:dM l []:=λt d h=>by simp[cR]at h
theorem dM.gp{l:bY}:dM l l:=λ_ d h=>⟨d,h,.gp⟩
variable {l':bY}{t:Nat}
theorem dM.c{d cQ:V}(h:cR l t=D cQ)(hw:fY cQ d)(aV:dM l l'):dM l ((t,d)::l'):=λs u hu=>by
 simp only[cR]at hu;by_cases e:t=s
 ·subst e;rw[show d' t t=ah from jp t]at hu;simp only[cond_true,hX]at hu;subst hu;exact⟨cQ,h,hw⟩
 ·rw[p' e]at hu;exact aV s u hu
theorem dM.s{d:V}(h:cR l t=D d)(aV:dM l l'):dM l ((t,d)::l'):=dM.c h .gp aV
theorem hM.sub{g:b_}{H:List aG}(h:hM X g w H l a)(aV:dM l l'):hM X g w H l' a:=
 ⟨h.1,h.2.1,λt d ai=>by obtain⟨cQ,h1,h2⟩:=aV t d ai;obtain⟨v,aJ,bp⟩:=h.2.2 t cQ h1;exact⟨v,aJ,h2 _ _ _ _ bp⟩⟩
def dL(Y:gj)(c:dS)(Q:cN->cO->bb->Prop)(l:bY)(H:List aG):Prop:=∀g w a,b' Y.cn Y.b0 Y.bS g w H->hM Y.X g w H l a->c.wpIn (hK Y.X.r) 0 Y.X.P Q a w
def eU(Y:gj)(Q:cN->cO->bb->Prop)(e:cN)(l:bY)(H:List aG):Prop:=∀g w a,b' Y.cn Y.b0 Y.bS g w H->hM Y.X g w H l a->Q e a w
def eo(Y:gj)(ops:Array bU)(Q:cN->cO->bb->Prop)(rest:List bU)(l:bY)(H:List aG):Prop:=∀g w a,b' Y.cn Y.b0 Y.bS g w H->hM Y.X g w H l a->jQ Y.X ops Q rest a w
section
variable {Y : gj} {Q : cN -> cO -> bb -> Prop} {l : bY} {H : List aG}
theorem dL.seq{x y:dS}(h:dL Y x (pp Y.X y Q) l H):dL Y (.seq x y) Q l H:=λg w a aM a9=>wpIn_seq (h g w a aM a9)
variable {id:Nat}
theorem dL.iQ{c:dS}(h:dL Y c (sU id Q) l H):dL Y (.block id c) Q l H:=λg w a aM a9=>wpIn_block (h g w a aM a9)
theorem dL.skip(h:eU Y Q .normal l H):dL Y .skip Q l H:=λg w a aM a9=>wpIn_skip (h g w a aM a9)
theorem dL.exit{id:Nat}(h:eU Y Q (.exit id) l H):dL Y (.exit id) Q l H:=λg w a aM a9=>wpIn_exit (h g w a aM a9)
theorem dL.ret(h:eU Y Q .ret l H):dL Y .ret Q l H:=λg w a aM a9=>wpIn_ret (h g w a aM a9)
theorem dL.cond{c:bM}{x y:dS}{b:Bool}(aP:bO l c=D (.p (.v (.bool b))))(ai:b=ah->dL Y x Q l H)(a8:b=aQ->dL Y y Q l H):dL Y (.cond c x y) Q l H:=
 λg w a aM a9=>wpIn_cond_split (a9.bo aP).g4 (λe=>ai e g w a aM a9) (λe=>a8 e g w a aM a9)
variable {x y:dS}
theorem dL.Ia{c:bM}(aP:bO l c=D (.p (.v (.bool ah))))(ai:dL Y x Q l H):dL Y (.cond c x y) Q l H:=dL.cond aP (λ_=>ai) (λe=>by cases e)
theorem dL.Bh{c:bM}(aP:bO l c=D (.p (.v (.bool aQ))))(a8:dL Y y Q l H):dL Y (.cond c x y) Q l H:=dL.cond aP (λe=>by cases e) (λ_=>a8)
theorem eU.sub{e:cN}{l':bY}(aV:dM l l')(h:eU Y Q e l' H):eU Y Q e l H:=λg w a aM a9=>h g w a aM (a9.sub aV)
theorem eU.then(h:dL Y y Q l H):eU Y (pp Y.X y Q) .normal l H:=h
theorem eU.rV(h:eU Y Q .normal l H):eU Y (sU id Q) (.exit id) l H:=λg w a aM a9=>by simp only[sU,if_true];exact h g w a aM a9
theorem eU.Oc {wR:Nat}(e5:d' wR id=aQ)(h:eU Y Q (.exit wR) l H):eU Y (sU id Q) (.exit wR) l H:=λg w a aM a9=>by
 have:¬wR=id:=λe=>by subst e;rw[jp]at e5;cases e5
 simp only[sU,this,if_false];exact h g w a aM a9
def En(Y:gj){α:Type}(dG:α->bY)(G:α->List aG)(K:α->Prop)(pv :α->Nat)(m:Nat)(Q:cN->cO->bb->Prop):cN->cO->bb->Prop:=
 Exit.then (λa w=>∃x g,hM Y.X g w (G x) (dG x) a/\b' Y.cn Y.b0 Y.bS g w (G x)/\K x/\ pv x<m) Q
theorem dL.loop{α:Type}{c:dS}(dG:α->bY)(G:α->List aG)(K:α->Prop)(pv :α->Nat)(er:α)(bw:dM l (dG er))(iD:H=G er)(bV:K er)
  (round:∀x,K x->dL Y c (En Y dG G K pv (pv x) Q) (dG x) (G x)):dL Y (.loop c) Q l H:=by
 classical
 intro g w a aM a9;let p:cO->bb->Nat->Prop:=λa w n=>∃x g,hM Y.X g w (G x) (dG x) a/\b' Y.cn Y.b0 Y.bS g w (G x)/\K x/\ pv x=n
 let M:cO->bb->Nat:=λa w=>if h:∃n,p a w n then wO (ke h)else 0
 have eZ:∀a w,(∃n,p a w n)->p a w (M a w)/\∀m,p a w m->M a w<=m:=λa w h=>by simp only[M,dif_pos h];exact Ej (ke h)
 refine wpIn_loop (λa w=>∃n,p a w n) M ⟨_,er,g,by rw[<-iD];exact a9.sub bw,by rw[<-iD];exact aM,bV,rfl⟩ ?_;intro a w bx;obtain⟨⟨x,g,jh,yV,ae,kU⟩,_⟩:=eZ a w bx;refine wpIn_mono (round x ae g w a yV jh) ?_;intro e gy w' aE;cases e with
 |normal=>
  obtain⟨mu,g',Bi,VW,jq,cf⟩:=aE;have VX:∃n,p gy w' n:=⟨_,mu,g',Bi,VW,jq,rfl⟩
  exact⟨VX,by have:=(eZ gy w' VX).2 _ ⟨mu,g',Bi,VW,jq,rfl⟩;omega⟩
 |exit id=>exact aE
 |goto t=>exact aE
 |ret=>exact aE
 |panic afg=>exact aE
 |outgrown=>exact aE
variable {α:Type}{dG:α->bY}{K:α->Prop}{m:Nat}{pv:α->Nat}
theorem eU.loop{G:α->List aG}(x:α)(aV:dM l (dG x))(iD:H=G x)(bV:K x)(cf: pv x<m):eU Y (En Y dG G K pv m Q) .normal l H:=
 λg w a aM a9=>⟨x,g,by rw[<-iD];exact a9.sub aV,by rw[<-iD];exact aM,bV,cf⟩
theorem eU.afh{G:α->List aG}(h:eU Y Q (.exit id) l H):eU Y (En Y dG G K pv m Q) (.exit id) l H:=h
theorem eU.afi{G:α->List aG}(h:eU Y Q .ret l H):eU Y (En Y dG G K pv m Q) .ret l H:=h
variable {b:Bool}{d:Nat}{r:Bool}
theorem dL.or(aB:cR l d=D (.p (.v (.bool b))))(a8:b=aQ->(∀l',dM l' ((d,.p (.v (.bool r)))::l)->eU Y Q .normal l' H)->dL Y y Q l H)
  (k:eU Y Q .normal ((d,.p (.v (.bool (b||r))))::l) H):dL Y (.cond (.tmp d) .skip y) Q l H:=by
 refine dL.cond (b:=b) aB (λe=>dL.skip (eU.sub ?_ k)) λe=>a8 e λl' aV=>eU.sub aV ?_
 ·subst e;exact dM.s (by simpa using aB) .gp
 ·subst e;exact k
theorem dL.and(aB:cR l d=D (.p (.v (.bool b))))(ai:b=ah->(∀l',dM l' ((d,.p (.v (.bool r)))::l)->eU Y Q .normal l' H)->dL Y x Q l H)
  (k:eU Y Q .normal ((d,.p (.v (.bool (b&&r))))::l) H):dL Y (.cond (.tmp d) x .skip) Q l H:=by
 refine dL.cond (b:=b) aB (λe=>ai e λl' aV=>eU.sub aV ?_) λe=>dL.skip (eU.sub ?_ k)
 ·subst e;exact k
 ·subst e;exact dM.s (by simpa using aB) .gp
theorem dL.region{id:Nat}{os:List bU}(h:eo Y os.toArray Q os l H):dL Y (.region id os.toArray aQ) Q l H:=λg w a aM a9=>by refine wpIn_region ?_;have:=HU (X:=Y.X) (ops:=os.toArray) (Q:=Q) os 0 a w (λj=>by simp) (h g w a aM a9);simpa[List.range_eq_range']using this
variable {ops : Array bU} {rest : List bU}
theorem eo.nil(h:eU Y Q .normal l H):eo Y ops Q [] l H:=h
theorem eo.sub{l':bY}(aV:dM l l')(h:eo Y ops Q rest l' H):eo Y ops Q rest l H:=λg w a aM a9=>h g w a aM (a9.sub aV)
variable {dst:Option Tmp}{op:Op}{ty:b3}
theorem eo.aC{pos:String}{cx:Array ie}{cV cE:List (Nat×aG)}{d:V}(h:bE Y.X.P op ty (bO l) cV cE d)(dY:fq H cV)(az:kT Y.X.N dst=ah)(k:eo Y ops Q rest (gn dst d l) (dT H cE)):
  eo Y ops Q ({dst:=dst,op:=op,type:=ty,pos:=pos,after:=cx,guard:=aF}::rest) l H:=λg w a aM a9=>by
 simp only[jQ,n0,if_true,Oper.wpIn];refine⟨λ_ _=>trivial,?_⟩
 have fin:∀v w' g',b' w g H g' w' (dT H cE)->cD g' w' (dT H cE) d v->jQ Y.X ops Q rest (a.put dst v) w':=λv w' g' h1 h2=>
  k g' w' _ (aM.then h1) ((a9.a' h1.a').put az h2)
 rcases h g w H a.eval {dst:=dst,op:=op,type:=ty,pos:=pos,after:=cx,guard:=aF} rfl rfl aM.iR dY (λx _ u hu=>a9.bo hu)with⟨v,w',h1,g',h2,aJ⟩|⟨w',h1,g',h2,aJ⟩|⟨n,h1,h2⟩
 ·rw[qY h1 (by intro d h;cases h)];exact fin v w' g' h2 aJ
 ·rw[qY h1 (by intro d h;cases h)];exact fin undef w' g' h2 aJ
 ·rw[qY h1 h2.yQ];exact h2.H5 λv w' ⟨g',aJ,bp⟩=>fin v w' g' aJ bp
theorem e6{H:List aG}:fq H []:=λ_ h=>by cases h
variable {i:Nat}
theorem da{o:aG}(h:H[i]? =D o):fq H [(i,o)]:=λq aE=>by simp at aE;subst aE;exact h
theorem eo.q{t:Nat}{pos:String}{cx:Array ie}{d:V}(h:bE Y.X.P op ty (bO l) [] [] d)(az:fV t Y.X.N=ah)(k:eo Y ops Q rest ((t,d)::l) H):eo Y ops Q ({dst:=D t,op:=op,type:=ty,pos:=pos,after:=cx,guard:=aF}::rest) l H:=
 eo.aC h e6 az k
theorem eo.o{pos:String}{cx:Array ie}{ec:aG}{cE:List (Nat×aG)}{d:V}(h:bE Y.X.P op ty (bO l) [(i,ec)] cE d)(ao:H[i]? =D ec)(az:kT Y.X.N dst=ah)(k:eo Y ops Q rest (gn dst d l) (dT H cE)):
  eo Y ops Q ({dst:=dst,op:=op,type:=ty,pos:=pos,after:=cx,guard:=aF}::rest) l H:=eo.aC h (da ao) az k
variable {b:Bool}{j:Nat}
theorem Od{a:cO}{X:hY}{g:b_}{w:bb}(a9:hM X g w H l a) {db:Nat}(ae:(ops[j]?).bind (·.dst)=D db)(aB:cR l db=D (.p (.v (.bool b)))):yielded ops a.tmps j=D b:=by obtain⟨v,h1,h2⟩:=a9.2.2 db _ aB;have:=h2.g4;unfold yielded;rw[ae];simp[h1,this]
variable {cx:Array ie}{pos:String}{want:Bool}
theorem eo.Ib(db:Nat)(ae:(ops[j]?).bind (·.dst)=D db)(aB:cR l db=D (.p (.v (.bool b))))(he:b=want)
  (k:eo Y ops Q ({dst:=dst,op:=op,type:=ty,pos:=pos,after:=cx,guard:=aF}::rest) l H):eo Y ops Q ({dst:=dst,op:=op,type:=ty,pos:=pos,after:=cx,guard:=D (j,want)}::rest) l H:=λg w a aM a9=>by
 have au:=k g w a aM a9;simp only[jQ,n0,if_true]at au;simp only[jQ,n0,Od a9 ae aB,he,beq_self_eq_true,if_true];exact au
theorem eo.br{op:Op}{ty:b3}{pos:String}{cx:Array ie}(db:Nat)(ae:(ops[j]?).bind (·.dst)=D db)(aB:cR l db=D (.p (.v (.bool b))))(he:b= !want)(az:kT Y.X.N dst=ah)
  (k:eo Y ops Q rest (gn dst (.p (.v undef)) l) H):eo Y ops Q ({dst:=dst,op:=op,type:=ty,pos:=pos,after:=cx,guard:=D (j,want)}::rest) l H:=λg w a aM a9=>by
 have e5:(D b==D want)=aQ:=by rw[he];cases want<;>rfl
 simp only[jQ,n0,Od a9 ae aB,e5];exact k g w _ aM (a9.put az (.v _))
theorem eo.and {r:Bool}(n d db:Nat)(atY:cR l db=D (.p (.v (.bool b))))(ai:b=ah->(∀l',dM l' ((d,.p (.v (.bool r)))::l)->eo Y ops Q (rest.drop n) l' H)->eo Y ops Q rest l H)
  (a8:b=aQ->(∀l',dM l' ((d,.p (.v (.bool aQ)))::l)->eo Y ops Q (rest.drop n) l' H)->eo Y ops Q rest l H) (k:eo Y ops Q (rest.drop n) ((d,.p (.v (.bool (b&&r))))::l) H):eo Y ops Q rest l H:=by
 cases b with
 |true=>exact ai rfl λl' aV=>eo.sub aV k
 |false=>exact a8 rfl λl' aV=>eo.sub aV k
end
mutual
def V.dc(s:Nat->Nat):V->V
 |.p x=>.p x
 |.cT k n cs t m=>.cT k n cs (s t) m
 |.aR i o=>.aR (s i) o
 |.bA cs=>.bA cs
 |.dX i o n c=>.dX (s i) o n c
 |.map i=>.map (s i)
 |.fn f b c=>.fn f (gb s b) (gb s c)
 |.agg cs=>.agg (gb s cs)
 |.cg cs=>.cg (gb s cs)
 |.fW i=>.fW (s i)
 |.z=>.z
 |.gs k n t m o=>.gs k n (s t) m o
 |.js t m o=>.js (s t) m o
def gb(s:Nat->Nat):List V->List V
 |[]=>[]
 |d::ds=>d.dc s::gb s ds
end
mutual
def V.lt(k:Nat):V->Bool
 |.p _=>ah
 |.cT _ _ _ t _=>fV t k
 |.aR i _=>fV i k
 |.bA _=>ah
 |.dX i _ _ _=>fV i k
 |.map i=>fV i k
 |.fn _ b c=>le k b&&le k c
 |.agg cs=>le k cs
 |.cg cs=>le k cs
 |.fW i=>fV i k
 |.z=>ah
 |.gs _ _ t _ _=>fV t k
 |.js t _ _=>fV t k
def le(k:Nat):List V->Bool
 |[]=>ah
 |d::ds=>d.lt k&&le k ds
end
def ue(s:Nat->Nat):List (a4×V)->List (a4×V)
 |[]=>[]
 |p::r=>(p.1,p.2.dc s)::ue s r
def rW(s:Nat->Nat):bY->bY
 |[]=>[]
 |p::r=>(p.1,p.2.dc s)::rW s r
def Bj(k:Nat):bY->Bool
 |[]=>ah
 |p::r=>p.2.lt k&&Bj k r
theorem Oe(s:Nat->Nat):∀(l:bY)(t:Nat),cR (rW s l) t=(cR l t).map (V.dc s)
 |[],_=>rfl
 |(d,v)::r,t=>by
  simp only[rW,cR];cases d' d t with
  |true=>rfl
  |false=>exact Oe s r t
theorem VY{k:Nat}:∀{l:bY}{t:Nat}{d:V},Bj k l=ah->cR l t=D d->d.lt k=ah
 |(e,v)::r,t,d,h,az=>by
  simp only[Bj,ea]at h;simp only[cR]at az;cases aB:d' e t with
  |true=>rw[aB]at az;simp at az;rw[<-az];exact h.1
  |false=>rw[aB]at az;simp at az;exact VY h.2 az
def aG.dc(s:Nat->Nat):aG->aG
 |.bW=>.bW
 |.cells T cs=>.cells T (gb s cs)
 |.bu T cs=>.bu T cs
 |.bl T k m=>.bl T k m
 |.hf T k m cs=>.hf T k m cs
 |.gH T cs=>.gH T cs
 |.nn c bH kv=>.nn c bH (ue s kv)
 |.loop st dJ f N fr ps a b j=>.loop st dJ f N (rW s fr) ps a b (s j)
 |.cr b=>.cr b
 |.pw j=>.pw (s j)
 |.mP dj kv=>.mP dj kv
 |.kg j A=>.kg (s j) A
 |.mq ds vs=>.mq (gb s ds) vs
def aG.lt(k:Nat):aG->Bool
 |.cells _ cs=>le k cs
 |.nn _ _ kv=>le k (kv.map (·.2))
 |.loop _ _ _ _ fr _ _ _ j=>fV j k&&Bj k fr
 |.pw j=>fV j k
 |.kg j _=>fV j k
 |.mq ds _=>le k ds
 |_=>ah
theorem Of(s:Nat->Nat):∀kv:List (a4×V),(ue s kv).map (·.1)=kv.map (·.1)
 |[]=>rfl
 |p::r=>by simp[ue,Of s r]
theorem Og(s:Nat->Nat):∀kv:List (a4×V),(ue s kv).length=kv.length
 |[]=>rfl
 |p::r=>by simp[ue,Og s r]
theorem Oh(s:Nat->Nat):∀kv:List (a4×V),(ue s kv).map (·.2)=gb s (kv.map (·.2))
 |[]=>rfl
 |p::r=>by simp[ue,gb,Oh s r]
def b_.dc(g:b_)(s:Nat->Nat):b_:=⟨λi=>g.β (s i),g.E,λi=>g.h (s i)⟩
section
variable {g : b_} {w : bb} {H Hc : List aG} {s : Nat -> Nat} {k0 : Nat}
structure Ic(H Hc:List aG)(s:Nat->Nat)(k0:Nat):Prop where
 ct:∀i,i<k0->(ct H (s i)↔ct Hc i)
 eL:∀i,i<k0->eL H (s i)=eL Hc i
mutual
theorem Eo(h:Ic H Hc s k0):∀(d:V)(v:a4),d.lt k0=ah->cD g w H (d.dc s) v->cD (g.dc s) w Hc d v
 |.p x,v,_,bg=>by cases bg with|p hp=>exact .p hp
 |.cT k n cs t m,v,aK,bg=>by
  have ai:t<k0:=by simpa[V.lt,iu]using aK
  cases bg with|cT hp au=>obtain⟨m',a,b,c⟩:=au;exact .cT hp ⟨m',by rw[<-h.eL t ai];exact a,b,c⟩
 |.aR i o,v,aK,bg=>by
  have ao:i<k0:=by simpa[V.lt,iu]using aK
  cases bg with|aR pC=>exact .aR (g:=g.dc s) ((h.ct i ao).1 pC)
 |.bA cs,v,_,bg=>by cases bg with|bA u aS aB hu fG=>exact .bA u aS aB hu fG
 |.dX i o n c,v,aK,bg=>by
  have ao:i<k0:=by simpa[V.lt,iu]using aK
  cases bg with|dX pC=>exact .dX (g:=g.dc s) ((h.ct i ao).1 pC)
 |.map i,v,aK,bg=>by
  have ao:i<k0:=by simpa[V.lt,iu]using aK
  cases bg with|map pC=>exact .map (g:=g.dc s) ((h.ct i ao).1 pC)
 |.fn f b c,v,aK,bg=>by simp only[V.lt,ea]at aK;cases bg with|fn h1 h2=>exact .fn (rX h b _ aK.1 h1) (rX h c _ aK.2 h2)
 |.agg cs,v,aK,bg=>by cases bg with|agg h1=>exact .agg (rX h cs _ aK h1)
 |.cg cs,v,aK,bg=>by cases bg with|cg h1=>exact .cg (rX h cs _ aK h1)
 |.z,v,aK,bg=>by cases bg;exact .z
 |.gs k n t m o,v,aK,bg=>by
  have ai:t<k0:=by simpa[V.lt,iu]using aK
  cases bg with|gs h1 au=>obtain⟨m',a,b,c⟩:=au;exact .gs h1 ⟨m',by rw[<-h.eL t ai];exact a,b,c⟩
 |.js t m o,v,aK,bg=>by
  have ai:t<k0:=by simpa[V.lt,iu]using aK
  cases bg with|js h1 au=>obtain⟨m',a,b,c⟩:=au;exact .js h1 ⟨m',by rw[<-h.eL t ai];exact a,b,c⟩
 |.fW i,v,aK,bg=>by
  have ao:i<k0:=by simpa[V.lt,iu]using aK
  cases bg with|fW pC=>exact .fW (g:=g.dc s) ((h.ct i ao).1 pC)
theorem rX(h:Ic H Hc s k0):∀(ds:List V)(vs:List a4),le k0 ds=ah->cU g w H (gb s ds) vs->cU (g.dc s) w Hc ds vs
 |[],vs,_,bg=>by cases bg with|nil=>exact .nil
 |d::ds,vs,aK,bg=>by simp only[le,ea]at aK;cases bg with|cons h1 h2=>exact .cons (Eo h d _ aK.1 h1) (rX h ds _ aK.2 h2)
end
theorem Ie{i:Nat}(h:ct Hc i):i<Hc.length:=by
 unfold ct at h;cases ao:Hc[i]? with
 |none=>rw[ao]at h;exact h.elim
 |some o=>exact(cz.1 ao).1
theorem Oi{i m:Nat}(h:eL Hc i=D m):i<Hc.length:=by
 unfold eL at h;cases ao:Hc[i]? with
 |none=>rw[ao]at h;cases h
 |some o=>exact(cz.1 ao).1
variable {g' : b_}
structure If(g:b_)(H:List aG)(g':b_)(Hc:List aG)(s:Nat->Nat):Prop where
 ct:∀i,ct Hc i->ct H (s i)/\g.β (s i)=g'.β i
 eL:∀i m,eL Hc i=D m->eL H (s i)=D m/\g.h (s i)=g'.h i
 E:g.E=g'.E
mutual
theorem Ep(h:If g H g' Hc s):∀(d:V)(v:a4),cD g' w Hc d v->cD g w H (d.dc s) v
 |.p x,v,bg=>by cases bg with|p hp=>exact .p (by rw[h.E];exact hp)
 |.cT k n cs t m,v,bg=>by cases bg with|cT hp au=>obtain⟨m',a,b,c⟩:=au;have e:=h.eL t m' a;exact .cT (by rw[h.E];exact hp) ⟨m',e.1,b,λq=>by rw[e.2];exact c q⟩
 |.aR i o,v,bg=>by cases bg with|aR pC=>have e:=h.ct i pC;rw[<-e.2];exact .aR e.1
 |.bA cs,v,bg=>by cases bg with|bA u aS aB hu fG=>exact .bA u (by rw[h.E];exact aS) aB hu (by rw[h.E];exact fG)
 |.dX i o n c,v,bg=>by cases bg with|dX pC=>have e:=h.ct i pC;rw[<-e.2];exact .dX e.1
 |.map i,v,bg=>by cases bg with|map pC=>have e:=h.ct i pC;rw[<-e.2];exact .map e.1
 |.fn f b c,v,bg=>by cases bg with|fn h1 h2=>exact .fn (wS h b _ h1) (wS h c _ h2)
 |.agg cs,v,bg=>by cases bg with|agg h1=>exact .agg (wS h cs _ h1)
 |.cg cs,v,bg=>by cases bg with|cg h1=>exact .cg (wS h cs _ h1)
 |.z,v,bg=>by cases bg;exact .z
 |.gs k n t m o,v,bg=>by cases bg with|gs h1 au=>obtain⟨m',a,b,c⟩:=au;have e:=h.eL t m' a;exact .gs h1 ⟨m',e.1,b,by rw[e.2];exact c⟩
 |.js t m o,v,bg=>by cases bg with|js h1 au=>obtain⟨m',a,b,c⟩:=au;have e:=h.eL t m' a;exact .js h1 ⟨m',e.1,b,by rw[e.2];exact c⟩
 |.fW i,v,bg=>by cases bg with|fW pC=>have e:=h.ct i pC;rw[<-e.2];exact .fW e.1
theorem wS(h:If g H g' Hc s):∀(ds:List V)(vs:List a4),cU g' w Hc ds vs->cU g w H (gb s ds) vs
 |[],vs,bg=>by cases bg with|nil=>exact .nil
 |d::ds,vs,bg=>by cases bg with|cons h1 h2=>exact .cons (Ep h d _ h1) (wS h ds _ h2)
end
theorem jU.Eo(aK:Ic H Hc s k0){i:Nat}{o:aG}(a1:o.lt k0=ah)(h:jU g w H (s i) (o.dc s)):jU (g.dc s) w Hc i o:=by
 cases o with
 |bW=>trivial
 |cells T cs=>obtain⟨us,h1,h2,aJ⟩:=h;exact⟨us,h1,rX aK cs us a1 h2,aJ⟩
 |bu T cs=>exact h
 |gH T cs=>exact h
 |bl T k m=>exact h
 |hf T k m cs=>exact h
 |nn c bH kv=>obtain⟨us,h1,h2,aJ⟩:=h;rw[Of]at h1;rw[Oh]at aJ;exact⟨us,h1,by rw[h2,Og],rX aK _ us a1 aJ⟩
 |loop st dJ f N fr ps a b j=>obtain⟨f0,tm,h1,h2,aJ,bp⟩:=h;simp only[aG.lt,ea,iu]at a1;refine⟨f0,tm,h1,h2,(aK.ct j a1.1).1 aJ,λt d az=>?_⟩;obtain⟨v,bg,aM⟩:=bp t (d.dc s) (by rw[Oe,az];rfl);exact⟨v,bg,Go.Dp.Eo aK d v (VY a1.2 az) aM⟩
 |cr b=>exact h
 |pw j=>obtain⟨a,b,h1,aJ⟩:=h;simp only[aG.lt,iu]at a1;exact⟨a,b,h1,(aK.ct j a1).1 aJ⟩
 |mP dj kv=>exact h
 |kg j A=>simp only[aG.lt,iu]at a1;exact⟨(aK.ct j a1).1 h.1,h.2⟩
 |mq ds vs=>exact rX aK ds vs a1 h
theorem jU.Ep(aB:If g H g' Hc s){i:Nat}{o:aG}(ao:Hc[i]? =D o)(h:jU g' w Hc i o):jU g w H (s i) (o.dc s):=by
 cases o with
 |bW=>trivial
 |cells T cs=>obtain⟨us,h1,h2,aJ⟩:=h;have e:=(aB.ct i (by unfold ct;rw[ao];trivial)).2;exact⟨us,by rw[e];exact h1,wS aB cs us h2,by rw[e,aB.E];exact aJ⟩
 |bu T cs=>obtain⟨us,h1,h2,aJ⟩:=h;have e:=(aB.ct i (by unfold ct;rw[ao];trivial)).2;exact⟨us,by rw[e];exact h1,by rw[aB.E];exact h2,by rw[e,aB.E];exact aJ⟩
 |gH T cs=>obtain⟨us,h1,h2,aJ⟩:=h;have e:=(aB.ct i (by unfold ct;rw[ao];trivial)).2;exact⟨us,by rw[e];exact h1,by rw[aB.E];exact h2,by rw[e,aB.E];exact aJ⟩
 |bl T k m=>obtain⟨n,us,h1,h2⟩:=h;have e:=(aB.eL i m (by unfold eL;rw[ao];rfl)).2;exact⟨n,us,by rw[e];exact h1,by rw[e,aB.E];exact h2⟩
 |hf T k m cs=>obtain⟨n,us,h1,aJ,h2⟩:=h;have e:=(aB.eL i m (by unfold eL;rw[ao];rfl)).2;exact⟨n,us,by rw[e];exact h1,by rw[aB.E];exact aJ,by rw[e,aB.E];exact h2⟩
 |nn c bH kv=>obtain⟨us,h1,h2,aJ⟩:=h;have e:=(aB.ct i (by unfold ct;rw[ao];trivial)).2;exact⟨us,by rw[e,Of];exact h1,by rw[h2,Og],by rw[Oh];exact wS aB _ us aJ⟩
 |loop st dJ f N fr ps a b j=>
  obtain⟨f0,tm,h1,h2,aJ,bp⟩:=h;have e:=(aB.ct i (by unfold ct;rw[ao];trivial)).2;have wT:=aB.ct j aJ;refine⟨f0,tm,by rw[e,wT.2];exact h1,h2,wT.1,λt d az=>?_⟩;rw[Oe]at az;cases aE:cR fr t with
  |none=>rw[aE]at az;cases az
  |some cQ=>rw[aE]at az;simp only[lV,hX]at az;subst az;obtain⟨v,bg,aM⟩:=bp t cQ aE;exact⟨v,bg,Go.Dp.Ep aB cQ v aM⟩
 |cr b=>have e:=(aB.ct i (by unfold ct;rw[ao];trivial)).2;show w.heap[g.β (s i)]? =_;rw[e];exact h
 |pw j=>obtain⟨a,b,h1,aJ⟩:=h;have e:=(aB.ct i (by unfold ct;rw[ao];trivial)).2;have wT:=aB.ct j aJ;exact⟨a,b,by rw[e,wT.2];exact h1,wT.1⟩
 |mP dj kv=>obtain⟨c,bH,us,bw,h1,h2,aJ,bp⟩:=h;have e:=(aB.ct i (by unfold ct;rw[ao];trivial)).2;exact⟨c,bH,us,bw,by rw[e];exact h1,h2,aJ,by rw[aB.E];exact bp⟩
 |kg j A=>have wT:=aB.ct j h.1;exact⟨wT.1,wT.2.trans h.2⟩
 |mq ds vs=>exact wS aB ds vs h
theorem Oj{s:Nat->Nat}{o:aG}:tY (D (o.dc s))↔tY (D o):=by cases o<;>exact Iff.rfl
theorem Ok{s:Nat->Nat}{o:aG}:tX (D (o.dc s))=tX (D o):=by cases o<;>rfl
end
def bQ(aU:List Nat):Nat->Nat:=λi=>aU.getD i 0
def uf(H Hc:List aG)(aU:List Nat):Prop:=aU.length=Hc.length/\∀(i:Nat)(o:aG),Hc[i]? =D o->H[bQ aU i]? =D (o.dc (bQ aU))
theorem uf.yW{H Hc:List aG}{aU:List Nat}(h:uf H Hc aU):Ic H Hc (bQ aU) Hc.length:=by
 refine⟨λi ao=>?_,λi ao=>?_⟩
 ·have e:=cq ao;unfold ct;rw[h.2 i _ e,e];exact Oj
 ·have e:=cq ao;unfold eL;rw[h.2 i _ e,e];exact Ok
theorem vj{aU:List Nat}{i:Nat}(ao:i<aU.length):aU[i]? =D (bQ aU i):=by simp[bQ,yH,cq ao]
theorem VZ{aU:List Nat}(a_:aU.Nodup){i j:Nat}(ao:i<aU.length)(ae:j<aU.length)(e:bQ aU i=bQ aU j):i=j:=
 (List.getElem?_inj ao a_).1 (by rw[vj ao,vj ae,e])
theorem Ig{g:b_}{H Hc:List aG}{aU:List Nat}(h:uf H Hc aU){i b:Nat}(a1:own (g.dc (bQ aU)) Hc i b):i<Hc.length/\own g H (bQ aU i) b:=by
 unfold own at a1⊢;cases ao:Hc[i]? with
 |none=>rw[ao]at a1;exact a1.elim
 |some o=>refine⟨(cz.1 ao).1,?_⟩;rw[h.2 i o ao];rw[ao]at a1;cases o<;>exact a1
theorem gm.aU{g:b_}{w:bb}{H Hc:List aG}{aU:List Nat}(h:gm g w H)(aV:uf H Hc aU)(a_:aU.Nodup)(cf:Hc.all (aG.lt Hc.length)=ah):gm (g.dc (bQ aU)) w Hc:=by
 refine⟨h.mT,λi o ao=>?_,λi j b h1 h2=>?_⟩
 ·exact jU.Eo aV.yW (kj.1 cf o (cC ao)) (h.ec _ _ (aV.2 i o ao))
 ·obtain⟨gG,dq⟩:=Ig aV h1;obtain⟨jI,dU⟩:=Ig aV h2;exact VZ a_ (by rw[aV.1];exact gG) (by rw[aV.1];exact jI) (h.kh _ _ b dq dU)
def q1(av:cj)(f:gh)(args:List V)(H:List aG)(post:V->List aG->Prop):Prop:=
 ∀(g:b_)(w:bb)(vs:List a4),gm g w H->cU g w H args vs->Calls av f vs.toArray w λe w'=>∃v g' r H',e=.returned v/\post r H'/\b' w g H g' w' H'/\cD g' w' H' r v
def ek(s:Nat->Nat):List Nat->List aG->List (Nat×aG)
 |j::Ol,o::os=>(j,o.dc s)::ek s Ol os
 |_,_=>[]
theorem Om:∀(ws:List (Nat×aG))(H:List aG),(dT H ws).length=H.length
 |[],_=>rfl
 |(i,o)::r,H=>by rw[dT,Om r];simp
theorem Er:∀(ws:List (Nat×aG))(H:List aG)(j:Nat),(∀q∈ws,q.1≠j)->(dT H ws)[j]? =H[j]?
 |[],_,_,_=>rfl
 |(i,o)::r,H,j,h=>by rw[dT,Er r _ j λq aE=>h q (by simp[aE]),jG λe=>h (i,o) (by simp) e.symm]
theorem V0:∀(ws:List (Nat×aG))(H:List aG)(j:Nat)(o:aG),(ws.map (·.1)).Nodup->(j,o)∈ws->j<H.length->(dT H ws)[j]? =D o
 |[],_,_,_,_,h,_=>by cases h
 |(i,q)::r,H,j,o,a_,h,aK=>by
  simp only[gI,oK]at a_;rw[dT];rcases n4.1 h with e|e
  ·cases e;rw[Er r _ i λq aE e=>a_.1 (by rw[<-e];exact wQ aE),jH aK]
  ·exact V0 r _ j o a_.2 e (by simpa using aK)
theorem On(s:Nat->Nat):∀(S:List Nat)(Hc:List aG)(i:Nat)(o:aG)(j:Nat),S[i]? =D j->Hc[i]? =D o->(j,o.dc s)∈ek s S Hc
 |[],_,i,o,j,h,_=>by simp at h
 |_::_,[],i,o,j,_,h=>by simp at h
 |q::S,p::Hc,0,o,j,h1,h2=>by simp at h1 h2;subst h1;subst h2;simp[ek]
 |q::S,p::Hc,i+1,o,j,h1,h2=>by simp[ek];exact .inr (On s S Hc i o j (by simpa using h1) (by simpa using h2))
theorem Oo(s:Nat->Nat):∀(S:List Nat)(Hc:List aG)(q:Nat×aG),q∈ek s S Hc->∃i,i<Hc.length/\S[i]? =D q.1
 |[],_,q,h=>by simp[ek]at h
 |_::_,[],q,h=>by simp[ek]at h
 |a::S,p::Hc,q,h=>by
  simp only[ek,n4]at h;rcases h with rfl|h
  ·exact⟨0,by simp,rfl⟩
  ·obtain⟨i,h1,h2⟩:=Oo s S Hc q h;exact⟨i+1,by simpa using h1,by simpa using h2⟩
theorem Oq(s:Nat->Nat):∀(S:List Nat)(Hc:List aG),S.Nodup->((ek s S Hc).map (·.1)).Nodup
 |[],_,_=>by simp[ek]
 |_::_,[],_=>by simp[ek]
 |a::S,p::Hc,h=>by simp only[oK]at h;simp only[ek,gI,oK];refine⟨λhm=>?_,Oq s S Hc h.2⟩;obtain⟨q,aE,e⟩:=lH.1 hm;obtain⟨i,_,h2⟩:=Oo s S Hc q aE;exact h.1 (by rw[<-e];exact cC h2)
theorem afj{aU fr:List Nat}{i:Nat}(ao:i<aU.length):bQ (aU++fr) i=bQ aU i:=by unfold bQ;rw[p9,p9,sP ao]
theorem Ot{g g':b_}{w w':bb}{H Hc dZ:List aG}{aU fr:List Nat}(h:gm g w H)(aV:uf H Hc aU)(a_:(aU++fr).Nodup)(c1:∀j∈fr,H[j]? =D .bW)(hle:aU.length<=dZ.length)(Bb:dZ.length<=(aU++fr).length)
  (k:b' w (g.dc (bQ aU)) Hc g' w' dZ):∃V1,b' w g H V1 w' (dT H (ek (bQ (aU++fr)) (aU++fr) dZ))/\∀r v,cD g' w' dZ r v->cD V1 w' (dT H (ek (bQ (aU++fr)) (aU++fr) dZ)) (r.dc (bQ (aU++fr))) v:=by
 classical
 obtain⟨S,eT⟩:∃S,aU++fr=S:=⟨_,rfl⟩
 have Es:∀i,i<aU.length->bQ S i=bQ aU i:=λi ao=>by rw[<-eT];exact afj ao
 rw[eT]at a_ Bb⊢;obtain⟨H2,wU⟩:∃H2,dT H (ek (bQ S) S dZ)=H2:=⟨_,rfl⟩
 rw[wU];have afk:∀i,i<dZ.length->bQ S i<H.length:=λi ao=>by
  by_cases e:i<aU.length
  ·rw[Es i e];have aP:i<Hc.length:=by rw[<-aV.1];exact e
   exact(cz.1 (aV.2 i _ (cq aP))).1
  ·have hm:bQ S i∈fr:=by
    have h1:=vj (aU:=S) (i:=i) (by omega);rw[<-eT,ud (by omega)]at h1;rw[<-eT];exact cC h1
   exact(cz.1 (c1 _ hm)).1
 have fJ:∀i o,dZ[i]? =D o->H2[bQ S i]? =D (o.dc (bQ S)):=λi o ao=>by have aK:=(cz.1 ao).1;rw[<-wU];exact V0 _ _ _ _ (Oq _ _ _ a_) (On _ S dZ i o _ (vj (by omega)) ao) (afk i aK)
 have rY:∀j,(∀i,i<dZ.length->bQ S i≠j)->H2[j]? =H[j]? :=λj ae=>by rw[<-wU];refine Er _ _ _ λq aE e=>?_;obtain⟨i,h1,h2⟩:=Oo _ _ _ q aE;rw[vj (by omega)]at h2;exact ae i h1 (by rw[pA h2];exact e)
 have afl:∀i j,i<dZ.length->j<dZ.length->bQ S i=bQ S j->i=j:=λi j ao ae e=>VZ a_ (by omega) (by omega) e;let eM:b_:=⟨λj=>if h:∃i,i<dZ.length/\bQ S i=j then g'.β (wO h)else g.β j,g'.E,λj=>if h:∃i,i<dZ.length/\bQ S i=j then g'.h (wO h)else g.h j⟩
 have ug:∀i (ao:i<dZ.length),∃h:∃g5,g5<dZ.length/\bQ S g5=bQ S i,wO h=i:=λi ao=>by
  have h:∃g5,g5<dZ.length/\bQ S g5=bQ S i:=⟨i,ao,rfl⟩
  exact⟨h,afl _ _ (Ej h).1 ao (Ej h).2⟩
 have py:∀i,i<dZ.length->eM.β (bQ S i)=g'.β i:=λi ao=>by obtain⟨h,e⟩:=ug i ao;show(if h:∃g5,g5<dZ.length/\bQ S g5=bQ S i then g'.β (wO h)else _)=_;rw[dif_pos h,e]
 have Ou:∀i,i<dZ.length->eM.h (bQ S i)=g'.h i:=λi ao=>by obtain⟨h,e⟩:=ug i ao;show(if h:∃g5,g5<dZ.length/\bQ S g5=bQ S i then g'.h (wO h)else _)=_;rw[dif_pos h,e]
 have df:∀j,(∀i,i<dZ.length->bQ S i≠j)->eM.β j=g.β j/\eM.h j=g.h j:=λj ae=>by have a_:¬ ∃i,i<dZ.length/\bQ S i=j:=λ⟨i,h1,h2⟩=>ae i h1 h2;exact⟨dif_neg a_,dif_neg a_⟩
 have Ih:If eM H2 g' dZ (bQ S):=by
  refine⟨λi ao=>?_,λi m ao=>?_,rfl⟩
  ·have aK:=Ie ao;have e:=cq aK;refine⟨?_,py i aK⟩;unfold ct at ao⊢;rw[fJ i _ e];rw[e]at ao;exact Oj.2 ao
  ·have aK:=Oi ao;have e:=cq aK;refine⟨?_,Ou i aK⟩;unfold eL at ao⊢;rw[fJ i _ e];rw[e]at ao;rw[Ok];exact ao
 have rO:∀j,(∃i,i<dZ.length/\bQ S i=j)\/∀i,i<dZ.length->bQ S i≠j:=λj=>by
  by_cases ar:∃i,i<dZ.length/\bQ S i=j
  ·exact .inl ar
  ·exact .inr λi h1 h2=>ar ⟨i,h1,h2⟩
 have hold:∀i,i<dZ.length->Hc.length<=i->H[bQ S i]? =D .bW:=λi ao aP=>by refine c1 _ ?_;have h1:=vj (aU:=S) (i:=i) (by omega);rw[<-eT,ud (by rw[aV.1];exact aP)]at h1;rw[<-eT];exact cC h1
 have V2:∀i o,Hc[i]? =D o->H[bQ S i]? =D (o.dc (bQ aU)):=λi o ao=>by rw[Es i (by rw[aV.1];exact(cz.1 ao).1)];exact aV.2 i o ao
 have dO:hx g w H eM w' H2:=by
  refine⟨k.a'.size,k.a'.E,k.a'.cell,λj ae=>?_,λt m ai=>?_⟩
  ·rcases rO j with⟨i,ao,rfl⟩|jq
   ·by_cases aP:i<Hc.length
    ·have e:=cq aP;have aK:ct Hc i:=by unfold ct at ae⊢;rw[V2 i _ e]at ae;rw[e];exact Oj.1 ae
     obtain⟨a,b⟩:=k.a'.ct i aK;refine⟨(Ih.ct i a).1,?_⟩;rw[py i ao,b];show g.β (bQ aU i)=_;rw[Es i (by rw[aV.1];exact aP)]
    ·unfold ct at ae;rw[hold i ao (by omega)]at ae;exact ae.elim
   ·exact⟨by unfold ct at ae⊢;rw[rY j jq];exact ae,(df j jq).1⟩
  ·rcases rO t with⟨i,ao,rfl⟩|jq
   ·by_cases aP:i<Hc.length
    ·have e:=cq aP;have aK:eL Hc i=D m:=by unfold eL at ai⊢;rw[V2 i _ e]at ai;rw[e];rw[Ok]at ai;exact ai
     obtain⟨m',a,b,c⟩:=k.a'.bl i m aK;refine⟨m',(Ih.eL i m' a).1,b,λq=>?_⟩;rw[Ou i ao,c q];show g.h (bQ aU i)=_;rw[Es i (by rw[aV.1];exact aP)]
    ·unfold eL at ai;rw[hold i ao (by omega)]at ai;cases ai
   ·exact⟨m,by unfold eL at ai⊢;rw[rY t jq];exact ai,b5 _,λ_=>(df t jq).2⟩
 have Ov:∀i b,own (g.dc (bQ aU)) Hc i b->own g H (bQ S i) b/\i<Hc.length:=λi b a1=>by obtain⟨l,o⟩:=Ig aV a1;exact⟨by rw[Es i (by rw[aV.1];exact l)];exact o,l⟩
 have Ow:∀i b,i<dZ.length->own eM H2 (bQ S i) b->own g' dZ i b:=λi b ao a1=>by have e:=cq ao;unfold own at a1⊢;rw[fJ i _ e]at a1;rw[e];cases pD:dZ[i]<;>rw[pD]at a1<;>simp only[aG.dc,tZ,py i ao,Ou i ao]at a1⊢ <;>exact a1
 have Ii:∀j b,(∀i,i<dZ.length->bQ S i≠j)->(own eM H2 j b↔own g H j b):=λj b ae=>by
  obtain⟨a5,bk⟩:=df j ae;unfold own;rw[rY j ae];cases H[j]? with
  |none=>exact Iff.rfl
  |some o=>cases o<;>simp only[tZ,a5,bk]
 have Ox:∀i b,i<dZ.length->own eM H2 (bQ S i) b->(∃g5,g5<Hc.length/\own g H (bQ S g5) b)\/w.heap.size<=b:=λi b ao a1=>by
  rcases k.px i b (Ow i b ao a1)with⟨g5,dp⟩|dp
  ·obtain⟨a,b⟩:=Ov g5 _ dp;exact .inl ⟨g5,b,a⟩
  ·exact .inr dp
 have Oy:∀i,i<Hc.length->i<dZ.length:=λi ao=>by rw[<-aV.1]at ao;omega
 refine⟨eM,⟨k.os,k.tape,k.output,h.mT.a' dO,dO,λb aB V3=>k.iQ b aB λi a1=>V3 _ (Ov i b a1).1,λj o ae=>?_,λi j b h1 h2=>?_,λj b a1=>?_⟩,λr v bg=>Ep Ih r v bg⟩
 ·rcases rO j with⟨i,ao,rfl⟩|jq
  ·have e:=cq ao;rw[fJ i _ e]at ae;cases ae;exact jU.Ep Ih e (k.ec i _ e)
  ·rw[rY j jq]at ae;refine jU.a' dO ae (λb aB=>k.iQ b (vi h aB) λi a1=>?_) (λ_ _ _ _ _=>(df j jq).2) (h.ec j o ae);obtain⟨a,l⟩:=Ov i b a1;exact jq i (Oy i l) (h.kh _ _ b a aB)
 ·rcases rO i with⟨i1,ao,rfl⟩|vk
  ·rcases rO j with⟨wV,ae,rfl⟩|jq
   ·rw[k.kh i1 wV b (Ow i1 b ao h1) (Ow wV b ae h2)]
   ·have V4:=(Ii j b jq).1 h2;rcases Ox i1 b ao h1 with⟨i2,jI,dU⟩|Oz
    ·exact absurd (h.kh _ _ b dU V4) (jq i2 (Oy i2 jI))
    ·have:=vi h V4;omega
  ·have oO:=(Ii i b vk).1 h1;rcases rO j with⟨wV,ae,rfl⟩|jq
   ·rcases Ox wV b ae h2 with⟨i2,jI,dU⟩|Oz
    ·exact absurd (h.kh _ _ b dU oO) (vk i2 (Oy i2 jI))
    ·have:=vi h oO;omega
   ·exact h.kh i j b oO ((Ii j b jq).1 h2)
 ·rcases rO j with⟨i,ao,rfl⟩|jq
  ·rcases Ox i b ao a1 with⟨i2,_,dU⟩|Oz
   ·exact .inl ⟨_,dU⟩
   ·exact .inr Oz
  ·exact .inl ⟨j,(Ii j b jq).1 a1⟩
theorem Bk{g:b_}{w:bb}{H:List aG}{ρ:bM->Option V}{e:bM->a4}:∀{args:List bM}{ds:List V},args.map ρ=ds.map D->(∀x∈args,∀u,ρ x=D u->cD g w H u (e x))->cU g w H ds (args.map e)
 |[],[],_,_=>.nil
 |[],_::_,h,_=>by simp at h
 |_::_,[],h,_=>by simp at h
 |x::xs,d::ds,h,a8=>by simp only[gI,List.cons.injEq]at h;exact .cons (a8 x (by simp) d h.1) (Bk h.2 λy bh=>a8 y (by simp[bh]))
theorem Ij{H Hc:List aG}{aU:List Nat}(aK:aU.length=Hc.length)(h:fq H (ek (bQ aU) aU Hc)):uf H Hc aU:=by
 refine⟨aK,λi o ao=>?_⟩;have cf:i<aU.length:=by rw[aK];exact(cz.1 ao).1
 exact h _ (On (bQ aU) aU Hc i o _ (vj cf) ao)
structure pE(Hc dZ:List aG)(ds:List V)(aU fr:List Nat):Prop where
 len:aU.length=Hc.length
 lt:le Hc.length ds=ah
 lo:Hc.all (aG.lt Hc.length)=ah
 af:(aU++fr).Nodup
 iE:aU.length<=dZ.length
 OA:dZ.length<=(aU++fr).length
theorem pE.lf{Hc dZ:List aG}{ds:List V}{aU fr:List Nat}(h:(d' aU.length Hc.length&&le Hc.length ds&&Hc.all (aG.lt Hc.length)&&decide (aU++fr).Nodup&&ev aU.length dZ.length&&ev dZ.length (aU++fr).length)=ah):pE Hc dZ ds aU fr:=by simp only[ea,decide_eq_true_eq,Nat.beq_eq_true_eq,Bf]at h;obtain⟨⟨⟨⟨⟨a,b⟩,c⟩,d⟩,e⟩,f⟩:=h;exact⟨kz a,b,c,d,e,f⟩
theorem V5{av:cj}{f:gh}{ds:List V}{Hc:List aG}{post:V->List aG->Prop}(aP:q1 av f ds Hc post){g:b_}{w:bb}{H:List aG}{vs:List a4}{aU fr:List Nat}(aM:gm g w H)(jX:fq H (ek (bQ aU) aU Hc))(c1:∀j∈fr,H[j]? =D .bW)
  (eE:∀r H',post r H'->pE Hc H' ds aU fr) (Ik:aU.length=Hc.length/\le Hc.length ds=ah/\Hc.all (aG.lt Hc.length)=ah/\aU.Nodup) (bg:cU g w H (gb (bQ aU) ds) vs):
  Calls av f vs.toArray w λgz w'=>∃v,gz=.returned v/\∃r H' g',post r H'/\b' w g H g' w' (dT H (ek (bQ (aU++fr)) (aU++fr) H'))/\cD g' w' (dT H (ek (bQ (aU++fr)) (aU++fr) H')) (r.dc (bQ (aU++fr))) v:=by
 have aV:=Ij Ik.1 jX;refine Calls.mono (aP (g.dc (bQ aU)) w vs (aM.aU aV Ik.2.2.2 Ik.2.2.1) (rX aV.yW ds vs Ik.2.1 bg)) ?_;rintro gz w' ⟨v,g',r,H',rfl,hp,h1,h2⟩;have c:=eE r H' hp;obtain⟨eM,dA,e7⟩:=Ot aM aV c.af c1 c.iE c.OA h1;exact⟨v,rfl,r,H',eM,hp,dA,e7 r v h2⟩
section
variable {av : cj} {ty : b3} {ρ : bM -> Option V}
variable {f:gh}
theorem bE.Il{op:Op}{ds:List V}{Hc dZ:List aG}{aU fr:List Nat}{r:V}(aP:q1 av f ds Hc (λgJ H'=>gJ=r/\H'=dZ))(eE:pE Hc dZ ds aU fr)
  (mv:∀(g:b_)(w:bb)(H:List aG)(e:bM->a4)(o:bU),o.op=op->(∀x∈op.operands,∀u,ρ x=D u->cD g w H u (e x))->∃vs:List a4,(execOp e o).run av w=.ok (.enter f vs.toArray) w/\cU g w H (gb (bQ aU) ds) vs):
  bE av op ty ρ (ek (bQ aU) aU Hc++fr.map λj=>(j,.bW)) (ek (bQ (aU++fr)) (aU++fr) dZ) (r.dc (bQ (aU++fr))):=λg w H e o a1 ai aM dY a8=>by
 obtain⟨vs,h1,h2⟩:=mv g w H e o a1 a8;refine .inr (.inr ⟨_,h1,.aY (Calls.mono (V5 aP aM (λq aE=>dY q (List.mem_append_left _ aE)) (λj ae=>dY (j,.bW) (List.mem_append_right _ (lH.2 ⟨j,ae,rfl⟩))) (λgJ H' hp=>by obtain⟨rfl,rfl⟩:=hp;exact eE) ⟨eE.len,eE.lt,eE.lo,(List.nodup_append.1 eE.af).1⟩ h2) ?_)⟩);rintro gz w' ⟨v,rfl,gJ,H',g',⟨rfl,rfl⟩,dA,e7⟩;exact⟨v,rfl,g',dA,e7⟩
variable {args:List bM}{e:bM->a4}{tys:Array b3}{w:bb}
theorem OB{o:bU}(he:e (.func f)=.func (.func f) #[] #[])(a1:o.op=.call {callee:=.value (.func f),args:=args.toArray,argTypes:=tys})(a8:∀args w,(callFunc f args).run av w=.ok (.enter f args) w):
  (execOp e o).run av w=.ok (.enter f (args.map e).toArray) w:=by
 unfold execOp;rw[a1];simp[resolve,he,Deferred.ofValue,invoke,ck,ce,a8]
theorem V6{x:bM}{us cs:List a4}{o:bU}(he:e x=.func (.func f) us.toArray cs.toArray)(a1:o.op=.call {callee:=.value x,args:=args.toArray,argTypes:=tys})(a8:∀args w,(callFunc f args).run av w=.ok (.enter f args) w):
  (execOp e o).run av w=.ok (.enter f (us++args.map e++cs).toArray) w:=by
 unfold execOp;rw[a1];simp[resolve,he,Deferred.ofValue,invoke,ck,ce,a8]
theorem bE.call{f:gh}{args:List bM}{tys:Array b3}{ds:List V}{Hc dZ:List aG}{aU fr:List Nat}{r:V}(aP:q1 av f ds Hc (λgJ H'=>gJ=r/\H'=dZ))(a8:∀args w,(callFunc f args).run av w=.ok (.enter f args) w)
  (oP:ρ (.func f)=D (.p (.v (.func (.func f) #[] #[])))) (i5:args.map ρ=(gb (bQ aU) ds).map D) (eE:pE Hc dZ ds aU fr):
  bE av (.call {callee:=.value (.func f),args:=args.toArray,argTypes:=tys}) ty ρ (ek (bQ aU) aU Hc++fr.map λj=>(j,.bW)) (ek (bQ (aU++fr)) (aU++fr) dZ) (r.dc (bQ (aU++fr))):=
 bE.Il aP eE λg w H e o a1 c1=>⟨args.map e,OB (c1 _ (by simp[c_,iZ]) _ oP).g4 a1 a8,Bk i5 λx ar=>c1 x (by simp[c_,iZ,ar])⟩
end
def sW:Nat->List V->bY
 |_,[]=>[]
 |n,v::vs=>(n,v)::sW (n+1) vs
theorem Im:∀(vs:List V)(n t:Nat)(v:V),cR (sW n vs) t=D v->n<=t/\vs[t-n]? =D v
 |[],n,t,v,h=>by simp[sW,cR]at h
 |u::us,n,t,v,h=>by
  simp only[sW,cR]at h;by_cases e:n=t
  ·subst e;rw[show d' n n=ah from jp n]at h;simp only[cond_true,hX]at h;simp[h]
  ·rw[p' e]at h;obtain⟨h1,h2⟩:=Im us (n+1) t v h;refine⟨by omega,?_⟩;have:t-n=(t-(n+1))+1:=by omega
   rw[this];simpa using h2
def i6(w:bb)(g:b_)(H:List aG)(post:V->List aG->Prop):Ending->bb->Prop:=λe w'=>∃v g' r H',e=.returned v/\post r H'/\b' w g H g' w' H'/\cD g' w' H' r v
theorem q1.aY{av:cj}{f:gh}{fn:Func}{c:dS}{N:Nat}{ds:List V}{H:List aG}{post:V->List aG->Prop}(a8:av.funcs[f]? =D fn)(aB:fn.body=D c)(e0:fn.ntmps=N)(hle:ev ds.length N=ah)
  (h:∀w g,dL ⟨⟨aF,av,N,[]⟩,w,g,H⟩ c (bodyPost av fn (i6 w g H post)) (sW 0 ds) H):q1 av f ds H post:=λg w vs aM bg=>by
 refine(callsIn_wide (n:=0)).1 (callsIn_of_wp a8 aB trivial ?_);have aK:=bg.len;refine h w g g w _ aM.jV ⟨rfl,?_,λt d ai=>?_⟩
 ·have:ds.length<=N:=lI hle;simp[e0];omega
 ·obtain⟨_,h2⟩:=Im ds 0 t d ai;simp only[Nat.sub_zero]at h2;obtain⟨v,aJ,bp⟩:=bg.aq h2;have cf:t<vs.length:=(cz.1 aJ).1;refine⟨v,?_,bp⟩;simp only[Array.getElem?_append,List.size_toArray,cf,if_true];simpa using aJ
theorem dL.ext{Y:gj}{c:dS}{Q:cN->cO->bb->Prop}{l:bY}{H:List aG}(n:Nat)(h:dL Y c Q l (H++dm n .bW)):dL Y c Q l H:=λg w a aM a9=>by
 obtain⟨H2,wU⟩:∃H2,H++dm n aG.bW=H2:=⟨_,rfl⟩
 rw[wU]at h;have b2:∀i,H2[i]? =H[i]? \/(H[i]? =aF/\H2[i]? =D aG.bW)\/(H[i]? =aF/\H2[i]? =aF):=λi=>by
  rw[<-wU];by_cases ao:i<H.length
  ·exact .inl (sP ao)
  ·rw[ud (by omega),List.getElem?_replicate];have e:H[i]? =aF:=n1 (by omega);split
   ·exact .inr (.inl ⟨e,rfl⟩)
   ·exact .inr (.inr ⟨e,rfl⟩)
 have aK:∀i,ct H2 i↔ct H i:=λi=>by
  unfold ct;rcases b2 i with e|⟨a5,bk⟩|⟨a5,bk⟩
  ·rw[e]
  ·rw[a5,bk];exact Iff.rfl
  ·rw[a5,bk]
 have aP:∀i,eL H2 i=eL H i:=λi=>by
  unfold eL;rcases b2 i with e|⟨a5,bk⟩|⟨a5,bk⟩
  ·rw[e]
  ·rw[a5,bk];rfl
  ·rw[a5,bk]
 have a1:∀i b,own g H2 i b↔own g H i b:=λi b=>by
  unfold own;rcases b2 i with e|⟨a5,bk⟩|⟨a5,bk⟩
  ·rw[e]
  ·rw[a5,bk];exact Iff.rfl
  ·rw[a5,bk]
 have dO:hx g w H g w H2:=⟨b5 _,λ_ _=>b5 _,λ_ _ _ _=>rfl,λi ao=>⟨(aK i).2 ao,rfl⟩,λt m ai=>⟨m,by rw[aP];exact ai,b5 _,λ_=>rfl⟩⟩
 refine h g w a ⟨aM.os,aM.tape,aM.output,aM.mT.a' dO,aM.a'.trans dO,aM.iQ,λi o ao=>?_,λi j b h1 h2=>aM.kh i j b ((a1 i b).1 h1) ((a1 j b).1 h2),λi b h1=>aM.px i b ((a1 i b).1 h1)⟩ (a9.a' dO);rcases b2 i with e|⟨_,bk⟩|⟨_,bk⟩
 ·rw[e]at ao;exact jU.a' dO ao (λ_ _=>⟨rfl,rfl⟩) (λ_ _ _ _ _=>rfl) (aM.ec i o ao)
 ·rw[bk]at ao;cases ao;trivial
 ·rw[bk]at ao;cases ao
theorem b'.afm{cn w:bb}{b0 g:b_}{bS H el:List aG}{aU:List Nat}(h:b' cn b0 bS g w H)(aV:uf H el aU)(a_:aU.Nodup)(cf:el.all (aG.lt el.length)=ah)(rZ:∀i,i<bS.length->i<aU.length/\bQ aU i=i):b' cn b0 bS (g.dc (bQ aU)) w el:=by
 have bw:=h.iR.aU aV a_ cf;have aK:=aV.yW;refine⟨h.os,h.tape,h.output,h.mT,⟨h.a'.size,h.a'.E,h.a'.cell,λi ao=>?_,λt m ai=>?_⟩,h.iQ,bw.ec,bw.kh,λi b a1=>?_⟩
 ·obtain⟨a,b⟩:=h.a'.ct i ao;obtain⟨c,d⟩:=rZ i (Ie ao);refine⟨(aK.ct i (by rw[<-aV.1];exact c)).1 (by rw[d];exact a),?_⟩;show g.β (bQ aU i)=_;rw[d];exact b
 ·obtain⟨m',a,b,e⟩:=h.a'.bl t m ai;obtain⟨c,d⟩:=rZ t (Oi ai);refine⟨m',by rw[<-aK.eL t (by rw[<-aV.1];exact c),d];exact a,b,λq=>?_⟩;show g.h (bQ aU t)=_;rw[d];exact e q
 ·obtain⟨_,o⟩:=Ig aV a1;exact h.px _ b o
def kB(av:cj)(l:bY)(H:List aG)(rv:p7)(d:V):Prop:=∀(X:hY)(g:b_)(w:bb)(a:cO),gm g w H->hM X g w H l a->∃v,(wG a rv).run av w=.ok v w/\cD g w H d v
theorem kB.tmp{av:cj}{l:bY}{H:List aG}{t:Nat}{d:V}(h:cR l t=D d):kB av l H (.tmp t) d:=λX g w a _ a9=>by obtain⟨v,h1,h2⟩:=a9.2.2 t d h;exact⟨v,by simp[wG,nZ,h1],h2⟩
theorem kB.cell{av:cj}{l:bY}{H:List aG}{t T dF i off:Nat}{cs:List V}{d:V}(h:cR l t=D (.aR i off))(ao:H[i]? =D (.cells dF cs))(cc:∀w,(isAgg T).run av w=.ok aQ w)(az:cs[off]? =D d):kB av l H (.cell t T) d:=λX g w a aM a9=>by obtain⟨u,h1,h2⟩:=a9.2.2 t _ h;obtain⟨us,dw,aP,_⟩:=aM.ec i _ ao;obtain⟨v,bg,kD⟩:=aP.aq az;cases h2 with|aR aK=>exact⟨v,by simp[wG,nZ,h1,asAddr,ck,ce,D5 cc ((dw.cell (o:=off)).trans bg)],kD⟩
theorem kB.yL{av:cj}{l:bY}{H:List aG}{t T dF i off n:Nat}{cs:List V}(h:cR l t=D (.aR i off))(ao:H[i]? =D (.cells dF cs))(cc:∀w,(isAgg T).run av w=.ok ah w)(a_:∀w,(sizeOf T).run av w=.ok n w)(aK:ev (off+n) cs.length=ah):
  kB av l H (.cell t T) (.agg ((cs.drop off).take n)):=λX g w a aM a9=>by
 obtain⟨u,h1,h2⟩:=a9.2.2 t _ h;obtain⟨us,dw,aP,_⟩:=aM.ec i _ ao;have aK:=lI aK;have VU:=aP.len;have hC:qZ w (g.β i) off ((us.drop off).take n):=λj ae=>by rw[jf]at ae;rw[dw.cell,kx,if_pos (by omega),sQ]
 cases h2 with|aR bg=>exact⟨_,by simp[wG,nZ,h1,asAddr,ck,ce,HV cc a_ hC (by simp;omega)],.agg ((aP.drop off).take n)⟩
section
variable {av : cj} {N : Nat} {l : bY} {fn : Func} {e : cN} {cn : bb} {b0 : b_} {bS H el : List aG} {post : V -> List aG -> Prop} {aU : List Nat}
structure np(bS H el:List aG)(aU:List Nat):Prop where
 dI:uf H el aU
 af:aU.Nodup
 lt:el.all (aG.lt el.length)=ah
 id:∀i,i<bS.length->i<aU.length/\bQ aU i=i
theorem np.nil{H:List aG}:np [] H [] []:=⟨⟨rfl,λi o h=>by simp at h⟩,List.nodup_nil,rfl,λi h=>by simp at h⟩
theorem Et{r:V}{v:a4}{g:b_}{w:bb}(au:np bS H el aU)(cf:r.lt el.length=ah)(hp:post r el)(aM:b' cn b0 bS g w H)(bg:cD g w H (r.dc (bQ aU)) v):i6 cn b0 bS post (.returned v) w:=
 ⟨v,_,r,el,rfl,hp,aM.afm au.dI au.af au.lt au.id,Eo au.dI.yW r v cf bg⟩
theorem In{rv:Array p7}(aS:Exit.kf e=ah)(h:∀(g:b_)(w:bb)(a:cO),b' cn b0 bS g w H->hM ⟨aF,av,N,[]⟩ g w H l a->∃v,(results fn a.tmps).run av w=.ok v w/\i6 cn b0 bS post (.returned v) w):
  eU ⟨⟨aF,av,N,[]⟩,cn,b0,bS⟩ (bodyPost av fn (i6 cn b0 bS post)) e l H:=λg w a aM a9=>by
 obtain⟨v,h1,h2⟩:=h g w a aM a9;cases e<;>first|(exact⟨a9.1,v,h1,h2⟩)|(simp[Exit.kf]at aS)
theorem eU.OC(aS:Exit.kf e=ah)(jY:fn.results=#[])(au:np bS H el aU)(hp:post (.cg []) el):eU ⟨⟨aF,av,N,[]⟩,cn,b0,bS⟩ (bodyPost av fn (i6 cn b0 bS post)) e l H:=
 In (rv:=#[]) aS λg w a aM a9=>⟨.tuple #[],by simp[results,jY],Et (r:=.cg []) au rfl hp aM (.cg .nil)⟩
theorem eU.OD{rv:p7}{d r:V}(aS:Exit.kf e=ah)(jY:fn.results=#[rv])(h1:kB av l H rv d)(hw:fY d (r.dc (bQ aU)))(au:np bS H el aU)(cf:r.lt el.length=ah)(hp:post r el):eU ⟨⟨aF,av,N,[]⟩,cn,b0,bS⟩ (bodyPost av fn (i6 cn b0 bS post)) e l H:=
 In (rv:=#[]) aS λg w a aM a9=>by obtain⟨v,dA,e7⟩:=h1 _ g w a aM.iR a9;exact⟨v,by rw[N0,jY];simp[ck,dA,ce],Et au cf hp aM (hw _ _ _ _ e7)⟩
theorem eU.OE{rv oQ:p7}{d cQ r gJ:V}(aS:Exit.kf e=ah)(jY:fn.results=#[rv,oQ])(h1:kB av l H rv d)(h2:kB av l H oQ cQ)(hw:fY d (r.dc (bQ aU)))(sX:fY cQ (gJ.dc (bQ aU)))(au:np bS H el aU)(cf:(V.cg [r,gJ]).lt el.length=ah)(hp:post (.cg [r,gJ]) el):
  eU ⟨⟨aF,av,N,[]⟩,cn,b0,bS⟩ (bodyPost av fn (i6 cn b0 bS post)) e l H:=
 In (rv:=#[]) aS λg w a aM a9=>by obtain⟨v,dA,e7⟩:=h1 _ g w a aM.iR a9;obtain⟨fh,gN,r0⟩:=h2 _ g w a aM.iR a9;exact⟨.tuple #[v,fh],by rw[N0,jY];simp[ck,dA,gN,ce],Et au cf hp aM (.cg (.cons (hw _ _ _ _ e7) (.cons (sX _ _ _ _ r0) .nil)))⟩
theorem eU.OF{rv oQ wW:p7}{d cQ uh r gJ OG:V}(aS:Exit.kf e=ah)(jY:fn.results=#[rv,oQ,wW])(h1:kB av l H rv d)(h2:kB av l H oQ cQ)(aJ:kB av l H wW uh)(hw:fY d (r.dc (bQ aU)))(sX:fY cQ (gJ.dc (bQ aU)))(Eu:fY uh (OG.dc (bQ aU)))(au:np bS H el aU)
  (cf:(V.cg [r,gJ,OG]).lt el.length=ah) (hp:post (.cg [r,gJ,OG]) el):eU ⟨⟨aF,av,N,[]⟩,cn,b0,bS⟩ (bodyPost av fn (i6 cn b0 bS post)) e l H:=
 In (rv:=#[]) aS λg w a aM a9=>by obtain⟨v,dA,e7⟩:=h1 _ g w a aM.iR a9;obtain⟨fh,gN,r0⟩:=h2 _ g w a aM.iR a9;obtain⟨afn,Ev,r1⟩:=aJ _ g w a aM.iR a9;exact⟨.tuple #[v,fh,afn],by rw[N0,jY];simp[ck,dA,gN,Ev,ce],Et au cf hp aM (.cg (.cons (hw _ _ _ _ e7) (.cons (sX _ _ _ _ r0) (.cons (Eu _ _ _ _ r1) .nil))))⟩
end
section
variable {Y : gj} {Q : cN -> cO -> bb -> Prop} {l : bY} {H : List aG} {ops : Array bU} {rest : List bU}
end
def Bl(pl:List (Nat×Nat)):List V->List (Nat×V)->Option (List V)
 |e',[]=>D e'
 |e',(i,d)::r=>match pl[i]? with
  |none=>aF
  |some (off,size)=>if d' d.cells.length size&&ev (off+d.cells.length) e'.length then Bl pl (oL e' off d.cells) r else aF
theorem V7:∀(vs us:List a4)(off j:Nat),((vs.zipIdx j).foldl (λ(cs:Array a4)(c:a4×Nat)=>cs.setIfInBounds (off+c.2) c.1) us.toArray)=(Mi.oG us (off+j) vs).toArray
 |[],us,off,j=>rfl
 |v::vs,us,off,j=>by simp only[List.zipIdx_cons,List.foldl_cons,Mi.oG];rw[List.setIfInBounds_toArray,V7 vs _ off (j+1)];rfl
theorem V8{g:b_}{w:bb}{H:List aG}{pl:List (Nat×Nat)}:∀{parts:List (Nat×V)}{vs:List a4}{e' dk:List V}{us:List a4},cU g w H e' us->cU g w H (parts.map (·.2)) vs->(parts.all λq=>q.2.cells.all V.one)=ah->Bl pl e' parts=D dk->
  ∃A:List a4,mm (λi=>pl[i]?) us.toArray ((parts.map (·.1)).zip vs)=D A.toArray/\cU g w H dk A
 |[],vs,e',dk,us,bj,hp,_,a8=>by cases hp;simp only[Bl,hX]at a8;subst a8;exact⟨us,by simp[mm],bj⟩
 |(i,d)::r,vs,e',dk,us,bj,hp,a1,a8=>by
  cases hp with
  |cons az aM=>
   replace az:cD g w H d _:=az;simp only[VQ,ea]at a1;replace a1:d.cells.all V.one=ah/\_:=a1;simp only[Bl]at a8;cases pF:pl[i]? with
   |none=>rw[pF]at a8;cases a8
   |some q=>
    obtain⟨off,size⟩:=q;rw[pF]at a8;simp only at a8;split at a8
    ·rename_i aP;simp only[ea,Bf]at aP;have aV:=kz aP.1;obtain⟨Bm,a5,bk,_⟩:=az.cells a1.1;have H_:=bk.len;have no:=bj.len;obtain⟨A,h1,h2⟩:=V8 (cU.oG bj bk) aM a1.2 a8;refine⟨A,?_,h2⟩;simp only[gI,List.zip_cons_cons,mm,pF,a5];have c0:Bm.toArray.size=size:=by simp;omega
     have gA:¬(off+Bm.toArray.size>us.toArray.size):=by simp;omega
     rw[if_neg (by simp only[ne_eq,hk,decide_eq_true_eq,not_or,uc];exact⟨c0,gA⟩)];have afo:=V7 Bm us off 0;rw[<-h1];congr 1;rw[<-Array.foldl_toList,Array.toList_zipIdx];exact afo
    ·cases a8
section
variable {av : cj} {ty : b3} {ρ : bM -> Option V}
theorem afp{T:Nat}{parts:List (Nat×bM)}{ds:List V}{pl:List (Nat×Nat)}{e':List a4}{dk:List V}(aB:∀(c:Array a4)(ps:List (Nat×a4))(w:bb),mm (λi=>pl[i]?) e'.toArray ps=D c->(wP T ps.toArray).run av w=.ok (.agg c) w)
  (ar:(parts.map (·.2)).map ρ=ds.map D) (a1:(((parts.map (·.1)).zip ds).all λq=>q.2.cells.all V.one)=ah) (a8:Bl pl (e'.map λv=>.p (.v v)) ((parts.map (·.1)).zip ds)=D dk):bE av (.build T parts.toArray) ty ρ [] [] (.agg dk):=.pure λg w H e o rS _ _ h=>by
 have kD:=Bk (e:=e) ar λx ar u hu=>h x (by simp only[c_,VO];obtain⟨q,aE,a5⟩:=lH.1 ar;simpa using⟨q.1,by rw[<-a5];exact aE⟩) u hu;have hlen:(parts.map (·.1)).length=ds.length:=by have:=congrArg p_ ar;simpa using this
 have bj:cU g w H (e'.map λv=>V.p (P.v v)) e':=by
  clear a8 aB;induction e' with
  |nil=>exact .nil
  |cons u us bB=>exact .cons (.v u) bB
 obtain⟨A,h1,h2⟩:=V8 (parts:=(parts.map (·.1)).zip ds) (vs:=(parts.map (·.2)).map e) bj (by rw[List.map_snd_zip (by omega)];exact kD) a1 a8;rw[List.map_fst_zip (by omega)]at h1;refine⟨_,?_,.agg h2⟩;unfold execOp;rw[rS];have bk:(parts.toArray.map λ(q:Nat×bM)=>(q.1,e q.2))=((parts.map (·.1)).zip ((parts.map (·.2)).map e)).toArray:=by simp only[List.map_toArray,List.zip_map',kk];rfl
 show(do pure (Next.value (<-wP T (parts.toArray.map λ(q:Nat×bM)=>(q.1,e q.2)))):Sem Next).run av w=_;rw[bk];simp only[ck,aB _ _ w h1,ce,Sem.run_pure]
variable {x:bM}
theorem OH{S f off:Nat}{cs:List V}{d:V}(a8:∀(cs:List a4)(v:a4)(w:bb),cs[off]? =D v->(Instr.field S (.agg cs.toArray) f).run av w=.ok v w)(ar:ρ x=D (.agg cs))(az:cs[off]? =D d):bE av (.field S x f) ty ρ [] [] d:=.pure λg w H e o a1 _ _ h=>by
 have a5:=h x (by simp[c_]) _ ar;generalize he:e x=v at a5;cases a5 with
 |agg aP=>obtain⟨u,h1,h2⟩:=aP.aq az;exact⟨u,by unfold execOp;rw[a1];simp[he,a8 _ _ w h1,ck,ce],h2⟩
theorem afq{fn:Go.Fn}{cI cap:List bM}{bH cs:List V}(aB:cI.map ρ=bH.map D)(aP:cap.map ρ=cs.map D):bE av (.makeFunc fn cI.toArray cap.toArray) ty ρ [] [] (.fn fn bH cs):=.pure λg w H e o a1 _ _ h=>by have h1:=Bk (e:=e) aB λx ar u hu=>h x (by simp[c_,ar]) u hu;have h2:=Bk (e:=e) aP λx ar u hu=>h x (by simp[c_,ar]) u hu;exact⟨_,by unfold execOp;rw[a1];simp[Instr.makeFunc,ck,ce],.fn h1 h2⟩
theorem V9{g:b_}{w:bb}{H:List aG}:∀{ds:List V}{vs:List a4},cU g w H ds vs->(ds.all λd=>d.cells.all V.one)=ah->cU g w H (ds.flatMap V.cells) (vs.flatMap λv=>v.cells.toList)/\(∀u∈vs.flatMap (λv=>v.cells.toList),n2 u=ah)/\∀k,(∀d∈ds,d.cells.length=k)->∀v∈vs,v.cells.size=k
 |_,_,.nil,_=>⟨.nil,λu hu=>by simp at hu,λk _ v bg=>by simp at bg⟩
 |_,_,.cons (d:=d) (v:=v) h aV,a1=>by
  simp only[VQ,ea]at a1;obtain⟨Bm,a5,bk,c0⟩:=h.cells a1.1;obtain⟨h1,h2,aJ⟩:=V9 aV a1.2;refine⟨?_,λu hu=>?_,λk au u hu=>?_⟩
  ·simp only[iX];rw[a5];exact bk.append h1
  ·simp only[iX,ig]at hu;rw[a5]at hu;rcases hu with hu|hu
   ·exact c0 u (by simpa using hu)
   ·exact h2 u hu
  ·rcases n4.1 hu with rfl|hu
   ·rw[a5];have:=bk.len;have:=au d (by simp);simp;omega
   ·exact aJ k (λd az=>au d (by simp[az])) u hu
theorem Ew{g:b_}{w:bb}{H:List aG}:∀{cs:List P}{us:List a4},cU g w H (cs.map .p) us->e_ g.E w cs us
 |[],us,h=>by cases h;exact⟨rfl,λj c u h=>by simp at h⟩
 |c::cs,us,h=>by
  cases h with
  |cons h aV=>
   have bB:=Ew aV;refine⟨by simp[bB.1],λj c' oM h1 h2=>?_⟩;match j with
   |0=>simp at h1 h2;subst h1;subst h2;cases h with|p h=>exact h
   |j+1=>exact bB.2 j c' oM (by simpa using h1) (by simpa using h2)
variable {cs:List P}{e k:Nat}{os:List bM}{parts:Array (Nat×bM)}{t:Nat}{z:a4}
theorem OI {n:Nat}{ds:List V}(ai:∀w,(underlying t).run av w=.ok (.slice e) w)(au:∀w,(sizeOf e).run av w=.ok k w)(bj:∀w,(zeroValue e).run av w=.ok z w)
  (lJ:parts.toList=os.zipIdx.map (λp=>(p.2,p.1))) (ar:os.map ρ=ds.map D) (a1:(ds.all λd=>d.cells.all V.one&&d' d.cells.length k)=ah) (e9:ds.flatMap V.cells=cs.map .p) (a_:ds.length=n) (hle:n*k<=16777216)
  {g:b_} {w:bb} {H:List aG} {bo:bM->a4} {o:bU} (hE:o.op=.buildSlice t n parts) (h:∀x∈(VN t n parts).operands,∀u,ρ x=D u->cD g w H u (bo x)):
  ∃us:List a4,(execOp bo o).run av w=.ok (.value (.slice (D ⟨w.heap.size,0,aF⟩) n n)) (w.alloc (.cells us.toArray e))/\e_ g.E w cs us/\us.length=n*k:=by
 have r2:∀x∈os,x∈(VN t n parts).operands:=λx ar=>by simp only[c_,lJ,VO,kk];obtain⟨j,ae⟩:=fO ar;exact lH.2 ⟨(x,j),by rw[List.mem_zipIdx_iff_getElem?];exact ae,rfl⟩
 have kD:=Bk (e:=bo) ar λx ar u hu=>h x (r2 x ar) u hu;have ui:(ds.all λd=>d.cells.all V.one)=ah:=by rw[kj]at a1⊢;exact λd az=>by have:=a1 d az;simp only[ea]at this;exact this.1
 have n5:∀d∈ds,d.cells.length=k:=λd az=>by have:=kj.1 a1 d az;simp only[ea]at this;exact kz this.2
 obtain⟨h1,h2,aJ⟩:=V9 kD ui;rw[e9]at h1;have aK:(os.map bo).length=n:=by rw[<-kD.len,a_]
 have aM:=aeQ (P:=av) ai au bj aK (aJ k n5) hle w;have hp:parts.map (λ(p:Nat×bM)=>(p.1,bo p.2))=((os.map bo).zipIdx.map λp=>(p.2,p.1)).toArray:=by apply Array.toList_inj.1;rw[Array.toList_map,lJ];simp only[kk,List.zipIdx_map];congr 1
 refine⟨_,?_,Ew h1,?_⟩
 ·unfold execOp;rw[hE];show(do pure (Next.value (<-Instr.buildSlice t n (parts.map λ(q:Nat×bM)=>(q.1,bo q.2)))):Sem Next).run av w=_;rw[hp];simp[ck,aM,ce]
 ·have:=h1.len;rw[h6]at this;rw[<-this];have bk:=congrArg p_ e9;rw[h6]at bk;rw[<-bk,<-a_];clear kD h1 h2 aJ a1 ui ar a_ hle e9 bk this h aK aM hp r2 hE;induction ds with
  |nil=>simp
  |cons d ds bB=>simp only[iX,ky,List.length_cons];rw[bB λd az=>n5 d (by simp[az]),n5 d (by simp),jD];omega
theorem afr {n:Nat}{ds:List V}(ai:∀w,(underlying t).run av w=.ok (.slice e) w)(au:∀w,(sizeOf e).run av w=.ok k w)(bj:∀w,(zeroValue e).run av w=.ok z w)
  (lJ:parts.toList=os.zipIdx.map (λp=>(p.2,p.1))) (ar:os.map ρ=ds.map D) (a1:(ds.all λd=>d.cells.all V.one&&d' d.cells.length k)=ah) (e9:ds.flatMap V.cells=cs.map .p) (a_:ds.length=n) (hle:n*k<=16777216):bE av (.buildSlice t n parts) ty ρ [] [] (.p (.dI k n cs)):=λg w H bo o hE _ aM _ h=>by
 obtain⟨us,h1,h2,aJ⟩:=OI ai au bj lJ ar a1 e9 a_ hle hE h;have b2:=b'.Eh (E:=dD g.E w.heap.size (n*k)) aM (yJ w (.cells us.toArray e)) (λb aB=>ki (by omega));refine .inl ⟨_,_,h1,_,b2,.p ?_⟩;refine e_.dI (us:=us) (h2.a' b2.a'.size b2.a'.E b2.a'.cell) (by rw[h2.1];exact aJ) (b5 _) (by show 0+n*k<=dD g.E w.heap.size (n*k) w.heap.size;rw[fB];omega) (by simp) λj u ae=>?_;rw[(yK w us e).cell,hD];exact ae
variable {i:Nat}
theorem afs {n:Nat}{ds:List V}(ai:∀w,(underlying t).run av w=.ok (.slice e) w)(au:∀w,(sizeOf e).run av w=.ok k w)(bj:∀w,(zeroValue e).run av w=.ok z w)
  (lJ:parts.toList=os.zipIdx.map (λp=>(p.2,p.1))) (ar:os.map ρ=ds.map D) (a1:(ds.all λd=>d.cells.all V.one&&d' d.cells.length k)=ah) (e9:ds.flatMap V.cells=cs.map .p) (a_:ds.length=n) (hle:n*k<=16777216) (hm:n<=maxLen):bE av (.buildSlice t n parts) ty ρ [(i,.bW)] [(i,.bl e k 0)] (.cT k n cs i 0):=λg w H bo o hE _ aM dY h=>by
 obtain⟨us,h1,h2,aJ⟩:=OI ai au bj lJ ar a1 e9 a_ hle hE h;have ao:=dY.one;have b2:=b'.afa (T:=e) (k:=k) (n:=n) (us:=us) aM ao aJ hm;refine .inl ⟨_,_,h1,_,b2,.cT ?_ ⟨0,?_,b5 _,λ_=>(fB _ _ _).symm⟩⟩
 ·refine e_.dI (us:=us) (h2.a' b2.a'.size b2.a'.E b2.a'.cell) (by rw[h2.1];exact aJ) (b5 _) (by show 0+n*k<=dD g.E w.heap.size (n*k) w.heap.size;rw[fB];omega) (by simp) λj u ae=>?_;rw[(yK w us e).cell,hD];exact ae
 ·show tX (H.set i _)[i]? =_;rw[jH (cz.1 ao).1];rfl
theorem aft {bytes n hF m:Nat} {s:bM} {vl:List P}{d:V}(ai:av.underlying t=D (.slice e))(ao:(av.info? e).map (λi=>(i.zero,i.size,i.bytes))=D (D z,k,bytes))(bj:z.cells.size=k)(au:0<k)
  (aV:ρ s=D (.cT k n cs i m)) (ar:ρ x=D d) (az:d.pB=D (k,hF,vl)) (a1:∀c∈vl,c.one=ah) (yR:n+hF<=9223372036854775807) (qc:(n+hF)*bytes<=140737488355328):
  bE av (.call {callee:=.builtin .append,args:=#[s,x],argTypes:=#[t,t]}) ty ρ [(i,.bl e k m)] [(i,.bl e k (m+1))] (.cT k (n+hF) (cs++vl) i (m+1)):=λg w H bo o hE pG aM dY h=>by
 have a5:=h s (by simp[c_,iZ]) _ aV;have bk:=(h x (by simp[c_,iZ]) _ ar).pB az;have jZ:=dY.one;have dN:=(cz.1 jZ).1;cases a5 with
 |cT hp yM=>
  obtain⟨m',aP,_,bg⟩:=yM;have VG:eL H i=D m:=by unfold eL;rw[jZ];rfl
  rw[VG]at aP;cases aP;have bg:=bg rfl;obtain⟨fX,us,oI,q0⟩:=aM.ec i _ jZ;have Ei:fX=n/\e_ g.E w cs us:=by
   rcases hp.rR with⟨⟨oH,f1⟩,f2,f3⟩|⟨b,o',cap,sY,f1,f2,f3,f4,f5,f6,f7⟩
   ·rw[bg]at f1;rcases oI.2 with⟨ep,fD⟩|⟨q,OJ,h5,ep,_⟩
    ·have:us=[]:=nl (by rw[oI.1,fD,Be]);subst this;subst f3;exact⟨by omega,rfl,λj c u h=>by simp at h⟩
    ·rw[f1]at ep;cases ep;have:us=[]:=nl (by rw[oI.1,Be]);subst this;subst f3;exact⟨by omega,rfl,λj c u h=>by simp at h⟩
   ·rw[bg]at f1;rcases oI.2 with⟨ep,fD⟩|⟨q,OJ,h5,ep,_,b2,N6,_,e9,wI⟩
    ·rw[f1]at ep;cases ep
    ·rw[f1]at ep;cases ep;refine⟨rfl,?_⟩;have:sY=us:=by
      apply mr;intro j;have H_:sY.length=n*k:=by rw[<-f6.1,f5]
      have no:=oI.1;by_cases ae:j<n*k
      ·have Io:sY[j]? =D sY[j]:=cq (by omega);have aP:=f7 j _ Io;unfold World.cell? at aP;simp only[b2,hD]at aP;have fP:(h5.toList.take (n*k))[j]? =h5.toList[j]? :=by rw[kx,if_pos ae]
       rw[wI]at fP;rw[Io,fP];simpa using aP.symm
      ·rw[n1 (by omega),n1 (by omega)]
     rw[<-this];exact f6
  obtain⟨rfl,afu⟩:=Ei
  have key:∃fh w' news,(N_ #[t,t] ty #[g.h i,bo x]).run av w=.ok fh w'/\w'.ownsRow 0 e k fh (fX+hF) (us++news)/\w'.os=w.os/\w'.tape=w.tape/\w'.output=w.output/\w.heap.size<=w'.heap.size/\
    ((fh.ownBlock=(g.h i).ownBlock/\∀b,b<w.heap.size->(g.h i).ownBlock≠D b->w'.heap[b]? =w.heap[b]?)\/(fh.ownBlock=D w.heap.size/\∀b,b<w.heap.size->w'.heap[b]? =w.heap[b]?))/\e_ g.E w vl news:=by
   rcases bk.rR with⟨⟨oH,f1⟩,f2,f3⟩|⟨b,o',cap,V_,f1,f2,f3,f4,f5,f6,f7⟩
   ·subst f2;subst f3;obtain⟨q,ju,_,ub,_⟩:∃q,av.info? e=D q/\q.zero=D z/\q.size=k/\q.bytes=bytes:=by
     cases ar:av.info? e with
     |none=>rw[ar]at ao;cases ao
     |some q=>rw[ar]at ao;simp only[lV,hX,Prod.mk.injEq]at ao;exact⟨q,rfl,ao.1,ao.2.1,ao.2.2⟩
    refine⟨g.h i,w,[],?_,by simpa using oI,rfl,rfl,rfl,b5 _,.inl ⟨rfl,λ_ _ _=>rfl⟩,rfl,λj c u h=>by simp at h⟩;rw[f1];rcases oI.2 with⟨q,a_⟩|⟨atZ,cap,h5,q,_,b2,aP,_⟩
    ·rw[q];cases oH<;>simp[N_,run_underlying ai,sizeOf,typeInfo,ju,yS,Ek,loadCells,loadCellsFrom]
    ·rw[q];cases oH<;>simp[N_,run_underlying ai,sizeOf,typeInfo,ju,yS,Ek,aP,storeCells,loadCells,loadCellsFrom]
   ·rw[f1];obtain⟨fh,w',fH,iC,iS,yX,Ex,Ey,Bn⟩:=VF (av:=av) (ty:=ty) (m:=hF) (c:=cap) (a:=⟨b,o',aF⟩) (news:=V_) ai ao bj au oI (by rw[<-f6.1,f5]) (λj u ae=>by rw[qb];exact f7 j u ae) (f6.one a1) yR qc;exact⟨fh,w',V_,fH,iC,iS,yX,Ex,Ey,Bn,f6⟩
  obtain⟨fh,w',news,fH,iC,iS,yX,Ex,Ey,Bn,afv⟩:=key;obtain⟨b2,aS⟩:=b'.ae8 aM jZ oI iC (Nat.le_add_right _ _) iS yX Ex Ey Bn;refine .inl ⟨fh,w',?_,_,b2,.cT ?_ ⟨m+1,?_,b5 _,λ_=>(fB _ _ _).symm⟩⟩
  ·unfold execOp;rw[hE];simp[resolve,invoke,builtin,pG,bg,ck,ce,fH]
  ·exact ownsRow.dI iC ((afu.append afv).a' b2.a'.size b2.a'.E b2.a'.cell) aS
  ·show tX (H.set i _)[i]? =_;rw[jH dN];rfl
end
structure ft where
 cV:List (Nat×aG)
 cE:List (Nat×aG)
 d:V
 fa:List aG->Prop:=λ_=>True
def ft.lg(m:ft):List Nat×List Nat:=(m.cV.map (·.1),m.cE.map (·.1))
def ft.br:ft:=⟨[],[],.p (.v undef),λ_=>True⟩
def Ip(wX:List aG->Prop)(av:cj)(op:Op)(ty:b3)(ρ:bM->Option V)(cV cE:List (Nat×aG))(d:V):Prop:=
 ∀(g:b_)(w:bb)(H:List aG)(e:bM->a4)(o:bU),o.op=op->o.type=ty->gm g w H->wX H->fq H cV->(∀x∈op.operands,∀u,ρ x=D u->cD g w H u (e x))->VD av e o w λv w'=>∃g',b' w g H g' w' (dT H cE)/\cD g' w' (dT H cE) d v
theorem bE.wY{wX:List aG->Prop}{av:cj}{op:Op}{ty:b3}{ρ:bM->Option V}{cV cE:List (Nat×aG)}{d:V}(h:bE av op ty ρ cV cE d):Ip wX av op ty ρ cV cE d:=λg w H e o h1 h2 aJ _=>h g w H e o h1 h2 aJ
inductive sZ (av:cj) (os:List bU) (o:bU) (l:bY) (m:ft):Prop
 |run (b2:o.guard=aF) (h:Ip m.fa av o.op o.type (bO l) m.cV m.cE m.d):sZ av os o l m
 |on {j db:Nat} {want:Bool} (b2:o.guard=D (j,want)) (ae:(os[j]?).bind (·.dst)=D db) (aB:cR l db=D (.p (.v (.bool want)))) (h:Ip m.fa av o.op o.type (bO l) m.cV m.cE m.d):sZ av os o l m
 |off {j db:Nat} {want:Bool} (b2:o.guard=D (j,want)) (ae:(os[j]?).bind (·.dst)=D db) (aB:cR l db=D (.p (.v (.bool (!want))))) (hm:m=ft.br):sZ av os o l m
 |Bo {j db:Nat} {want:Bool} {x:Array a4} (b2:o.guard=D (j,want)) (ae:(os[j]?).bind (·.dst)=D db) (aB:cR l db=D (.p (.v (.tuple x)))) (hm:m=ft.br):sZ av os o l m
def nq(av:cj)(ed:List bU):List bU->List ft->bY->Prop
 |[],[],_=>True
 |o::os,m::ms,l=>sZ av ed o l m/\nq av ed os ms (gn o.dst m.d l)
 |_,_,_=>False
def uj:List ft->List aG->Prop
 |[],_=>True
 |m::ms,H=>fq H m.cV/\uj ms (dT H m.cE)
def hy:Nat->List bU->List ft->(Nat->Bool)->bY->bY
 |k,o::os,m::ms,L,l=>hy (k+1) os ms L (if L k then gn o.dst m.d l else l)
 |_,_,_,_,l=>l
def fQ:Nat->List ft->(Nat->Bool)->List aG->List aG
 |k,m::ms,L,H=>fQ (k+1) ms L (if L k then dT H m.cE else H)
 |_,[],_,H=>H
theorem OK:∀(k:Nat)(ms:List ft)(L:Nat->Bool)(H:List aG),(fQ k ms L H).length=H.length
 |_,[],_,_=>rfl
 |k,m::ms,L,H=>by
  rw[fQ,OK];split
  ·exact Om _ _
  ·rfl
variable {l:bY}{t:Nat}
theorem Ez{dst:Option Tmp}{d:V}(h:dst≠D t):cR (gn dst d l) t=cR l t:=by
 cases dst with
 |none=>rfl
 |some s=>have:s≠t:=λe=>h (by rw[e]);simp only[gn,cR,p' this,cond_false]
theorem Iq{d:V}:cR (gn (D t) d l) t=D d:=by simp only[gn,cR,show d' t t=ah from jp t,cond_true]
theorem Ir{t:Nat}{L lY:Nat->Bool}:∀(k:Nat)(os:List bU)(ms:List ft)(l l':bY),cR l t=cR l' t->(∀(i:Nat)(o:bU),os[i]? =D o->L (k+i)=lY (k+i)\/o.dst≠D t)->cR (hy k os ms L l) t=cR (hy k os ms lY l') t
 |k,[],ms,l,l',h,_=>by cases ms<;>exact h
 |k,o::os,[],l,l',h,_=>h
 |k,o::os,m::ms,l,l',h,az=>by
  rw[hy,hy];refine Ir (k+1) os ms _ _ ?_ λi o' ao=>by have:=az (i+1) o' (by simpa using ao);rwa[show k+1+i=k+(i+1) by omega]
  rcases az 0 o (by simp)with e|e
  ·rw[mO]at e;rw[e];split
   ·by_cases q:o.dst=D t
    ·rw[q,Iq,Iq]
    ·rw[Ez q,Ez q];exact h
   ·exact h
  ·have h1:∀(b:Bool)(l:bY),cR (if b=ah then gn o.dst m.d l else l) t=cR l t:=λb l=>by
    cases b
    ·rfl
    ·exact Ez e
   rw[h1,h1];exact h
theorem OL{id:Nat}:∀(ws:List (Nat×aG))(H H':List aG),H.length=H'.length->H[id]? =H'[id]? ->(dT H ws)[id]? =(dT H' ws)[id]?
 |[],_,_,_,h=>h
 |(i,o)::r,H,H',aK,h=>by
  rw[dT,dT];refine OL r _ _ (by simp[aK]) ?_;rw[rT,rT,aK];split
  ·rfl
  ·exact h
theorem Bp{id:Nat}{L lY:Nat->Bool}:∀(k:Nat)(ms:List ft)(H H':List aG),H.length=H'.length->H[id]? =H'[id]? ->(∀(i:Nat)(m:ft),ms[i]? =D m->L (k+i)=lY (k+i)\/∀q∈m.cE,q.1≠id)->(fQ k ms L H)[id]? =(fQ k ms lY H')[id]?
 |k,[],H,H',_,h,_=>h
 |k,m::ms,H,H',aK,h,az=>by
  rw[fQ,fQ];have hlen:∀(b:Bool)(H:List aG),(if b=ah then dT H m.cE else H).length=H.length:=λb H=>by cases b;rfl;exact Om _ _
  refine Bp (k+1) ms _ _ (by rw[hlen,hlen,aK]) ?_ λi m' ao=>by have:=az (i+1) m' (by simpa using ao);rwa[show k+1+i=k+(i+1) by omega]
  rcases az 0 m (by simp)with e|e
  ·rw[mO]at e;rw[e];split
   ·exact OL _ _ _ aK h
   ·exact h
  ·have h1:∀(b:Bool)(H:List aG),(if b=ah then dT H m.cE else H)[id]? =H[id]? :=λb H=>by
    cases b
    ·rfl
    ·exact Er _ _ _ e
   rw[h1,h1];exact h
def V'(o:bU):List Nat:=o.op.operands.toList.filterMap λ| .tmp t=>D t|_=>aF
def wZ(os:List bU)(o:bU):List Nat:=(match o.guard with|some (j,_)=>((os[j]?).bind (·.dst)).toList|none=>[])++V' o
def yY(a b:List Nat):Bool:=a.all λx=> !b.contains x
def uk(o:bU):List Nat:=o.dst.toList
def yN(os:List bU)(a b:bU)(ka gc:List Nat×List Nat):Bool:=yY (uk a) (wZ os b)&&yY (uk b) (wZ os a)&&yY (uk a) (uk b)&&yY ka.2 gc.1&&yY gc.2 ka.1&&yY ka.2 gc.2
def Bq(os:List bU)(b:bU)(gc:List Nat×List Nat)(mk:Nat):List bU->List (List Nat×List Nat)->Nat->Bool
 |a::as,ka::Br,i=>(mk.testBit i||yN os a b ka gc)&&Bq os b gc mk as Br (i+1)
 |_,_,_=>ah
def oR(ed:List bU)(N:Nat)(EA:List (List Nat×List Nat)):List bU->List (List Nat×List Nat)->List Nat->Nat->Bool
 |b::bH,gc::Bs,mk::Bt,j=>HW b j&&kT N b.dst&&(match b.guard with|some (i,_)=>mk.testBit i|none=>ah)&&Bq ed b gc mk (ed.take j) (EA.take j) 0&&oR ed N EA bH Bs Bt (j+1)
 |[],[],[],_=>ah
 |_,_,_,_=>aQ
theorem OM{os:List bU}{b:bU}{gc:List Nat×List Nat}{mk:Nat}:∀{as:List bU}{Br:List (List Nat×List Nat)}{i0 i:Nat}{a:bU}{ka:List Nat×List Nat},Bq os b gc mk as Br i0=ah->as[i]? =D a->Br[i]? =D ka->mk.testBit (i0+i)=ah\/yN os a b ka gc=ah
 |[],_,i0,i,a,ka,_,h,_=>by simp at h
 |_::_,[],i0,i,a,ka,_,_,h=>by simp at h
 |x::as,y::Br,i0,0,a,ka,h,h1,h2=>by simp at h1 h2;subst h1;subst h2;simp only[Bq,ea,hk]at h;simpa using h.1
 |x::as,y::Br,i0,i+1,a,ka,h,h1,h2=>by
  simp only[Bq,ea]at h;have:=OM h.2 (i:=i) (by simpa using h1) (by simpa using h2)
  rwa[show i0+1+i=i0+(i+1) by omega]at this
theorem EB{ed:List bU}{N:Nat}{EA:List (List Nat×List Nat)}:∀{bH:List bU}{Bs:List (List Nat×List Nat)}{Bt:List Nat}{jF j:Nat}{b:bU},oR ed N EA bH Bs Bt jF=ah->bH[j]? =D b->
  ∃gc mk,Bs[j]? =D gc/\Bt[j]? =D mk/\HW b (jF+j)=ah/\kT N b.dst=ah/\(∀i want,b.guard=D (i,want)->mk.testBit i=ah)/\Bq ed b gc mk (ed.take (jF+j)) (EA.take (jF+j)) 0=ah
 |[],_,_,jF,j,b,_,h=>by simp at h
 |_::_,[],_,jF,j,b,h,_=>by simp[oR]at h
 |_::_,_::_,[],jF,j,b,h,_=>by simp[oR]at h
 |x::bH,y::Bs,z::Bt,jF,0,b,h,h1=>by simp at h1;subst h1;simp only[oR,ea]at h;refine⟨y,z,rfl,rfl,by simpa using h.1.1.1.1,h.1.1.1.2,λi want e=>?_,by simpa using h.1.2⟩;have:=h.1.1.2;rw[e]at this;exact this
 |x::bH,y::Bs,z::Bt,jF,j+1,b,h,h1=>by simp only[oR,ea]at h;obtain⟨gc,mk,aj,a6,dg⟩:=EB h.2 (j:=j) (by simpa using h1);rw[show jF+1+j=jF+(j+1) by omega]at dg;exact⟨gc,mk,by simpa using aj,by simpa using a6,dg⟩
theorem w0{a b:List Nat}(h:yY a b=ah){x:Nat}(ar:x∈a):¬x∈b:=λaB=>by have:=kj.1 h x ar;simp at this;exact this aB
theorem nq.aq{av:cj}{ed:List bU}:∀{os:List bU}{ms:List ft}{l:bY}{i:Nat}{o:bU}{L:Nat->Bool}(k:Nat),nq av ed os ms l->os[i]? =D o->(∀j,j<i->L (k+j)=ah)->(∀j,i<=j->L (k+j)=aQ)->∃m,ms[i]? =D m/\sZ av ed o (hy k os ms L l) m
 |[],_,l,i,o,L,k,_,h,_,_=>by simp at h
 |_::_,[],l,i,o,L,k,h,_,_,_=>h.elim
 |x::os,m::ms,l,0,o,L,k,h,h1,_,g6=>by
  simp at h1;subst h1;refine⟨m,rfl,?_⟩;have e:hy k (x::os) (m::ms) L l=l:=by
   have hl:∀(cA:Nat)(os:List bU)(ms:List ft),(∀j,L (cA+j)=aQ)->hy cA os ms L l=l:=λcA os=>by
    induction os generalizing cA with
    |nil=>intro ms _;cases ms<;>rfl
    |cons y os bB=>
     intro ms au;cases ms with
     |nil=>rfl
     |cons m ms=>have:=au 0;rw[mO]at this;rw[hy,this];exact bB (cA+1) ms λj=>by have:=au (j+1);rwa[show cA+(j+1)=cA+1+j by omega]at this
   exact hl k _ _ λj=>g6 j (gx _)
  rw[e];exact h.1
 |x::os,m::ms,l,i+1,o,L,k,h,h1,h2,g6=>by
  have bw:L k=ah:=by have:=h2 0 (by omega);rwa[mO]at this
  obtain⟨m',e,ao⟩:=nq.aq (L:=L) (k+1) h.2 (i:=i) (by simpa using h1) (λj ae=>by have:=h2 (j+1) (by omega);rwa[show k+1+j=k+(j+1) by omega]) (λj ae=>by have:=g6 (j+1) (by omega);rwa[show k+1+j=k+(j+1) by omega]);refine⟨m',by simpa using e,?_⟩;rw[hy,bw];exact ao
theorem uj.aq:∀{ms:List ft}{H:List aG}{i:Nat}{m:ft}{L:Nat->Bool}(k:Nat),uj ms H->ms[i]? =D m->(∀j,j<i->L (k+j)=ah)->(∀j,i<=j->L (k+j)=aQ)->fq (fQ k ms L H) m.cV
 |[],H,i,m,L,k,_,h,_,_=>by simp at h
 |x::ms,H,0,m,L,k,h,h1,_,g6=>by
  simp at h1;subst h1;have e:fQ k (x::ms) L H=H:=by
   have hl:∀(cA:Nat)(ms:List ft),(∀j,L (cA+j)=aQ)->fQ cA ms L H=H:=λcA ms=>by
    induction ms generalizing cA with
    |nil=>intro _;rfl
    |cons y ms bB=>intro au;have:=au 0;rw[mO]at this;rw[fQ,this];exact bB (cA+1) λj=>by have:=au (j+1);rwa[show cA+(j+1)=cA+1+j by omega]at this
   exact hl k _ λj=>g6 j (gx _)
  rw[e];exact h.1
 |x::ms,H,i+1,m,L,k,h,h1,h2,g6=>by
  have bw:L k=ah:=by have:=h2 0 (by omega);rwa[mO]at this
  rw[fQ,bw];exact uj.aq (k+1) h.2 (by simpa using h1) (λj ae=>by have:=h2 (j+1) (by omega);rwa[show k+1+j=k+(j+1) by omega]) (λj ae=>by have:=g6 (j+1) (by omega);rwa[show k+1+j=k+(j+1) by omega])
variable {i j:Nat}
theorem afw(h:i<j):ev j i=aQ:=by
 cases aB:ev j i with
 |false=>rfl
 |true=>have:=lI aB;omega
theorem afx(h:j<=i):ev j i=ah:=by rw[Bf];exact h
theorem Is{k:Nat}:∀{ms:List ft}{L:Nat->Bool}{H:List aG},(∀j,L (k+j)=aQ)->fQ k ms L H=H
 |[],_,_,_=>rfl
 |m::ms,L,H,h=>by have:=h 0;rw[mO]at this;rw[fQ,this];exact Is λj=>by have:=h (j+1);rwa[show k+(j+1)=k+1+j by omega]at this
theorem Wa{L:Nat->Bool}:∀(k:Nat)(ms:List ft)(H:List aG)(i:Nat)(m:ft),ms[i]? =D m->L (k+i)=ah->(∀j,i<j->L (k+j)=aQ)->fQ k ms L H=dT (fQ k ms (λj=>L j&& !Nat.beq j (k+i)) H) m.cE
 |k,[],H,i,m,h,_,_=>by simp at h
 |k,x::ms,H,0,m,h,h1,h2=>by
  simp at h;subst h;rw[mO]at h1;have bj:∀j,L (k+1+j)=aQ:=λj=>by have:=h2 (j+1) (by omega);rwa[show k+(j+1)=k+1+j by omega]at this
  rw[fQ,h1,fQ,Is bj,Is (λj=>by simp only[bj j,Bool.false_and]),h1,mO,show d' k k=ah from jp k];rfl
 |k,x::ms,H,i+1,m,h,h1,h2=>by
  rw[fQ,fQ];have au:(L k&& !Nat.beq k (k+(i+1)))=L k:=by rw[p' (show ¬k=k+(i+1) by omega)];simp
  rw[au,Wa (k+1) ms _ i m (by simpa using h) (by rwa[show k+1+i=k+(i+1) by omega]) (λj ae=>by have:=h2 (j+1) (by omega);rwa[show k+(j+1)=k+1+j by omega]at this)];rw[show k+1+i=k+(i+1) by omega]
theorem Wb{t:Nat}{L:Nat->Bool}:∀(k:Nat)(os:List bU)(ms:List ft)(l:bY)(i:Nat)(o:bU)(m:ft),os[i]? =D o->ms[i]? =D m->o.dst=D t->L (k+i)=ah->(∀j o',i<j->os[j]? =D o'->L (k+j)=ah->o'.dst≠D t)->cR (hy k os ms L l) t=D m.d
 |k,[],ms,l,i,o,m,h,_,_,_,_=>by simp at h
 |k,_::_,[],l,i,o,m,_,h,_,_,_=>by simp at h
 |k,x::os,y::ms,l,0,o,m,h1,h2,aJ,bp,cy=>by
  simp at h1 h2;subst h1;subst h2;rw[mO]at bp;rw[hy,bp,if_pos rfl];have ON:∀(cA:Nat)(os:List bU)(ms:List ft)(l:bY),cR l t=D y.d->(∀j o',os[j]? =D o'->L (cA+j)=ah->o'.dst≠D t)->cR (hy cA os ms L l) t=D y.d:=λcA os=>by
   induction os generalizing cA with
   |nil=>intro ms l h _;cases ms<;>exact h
   |cons z os bB=>
    intro ms l h az;cases ms with
    |nil=>exact h
    |cons m ms=>
     rw[hy];refine bB (cA+1) ms _ ?_ λj o' ae aK=>az (j+1) o' (by simpa using ae) (by rwa[show cA+(j+1)=cA+1+j by omega]);split
     ·rename_i aK;rw[Ez (az 0 z (by simp) (by rwa[mO]))];exact h
     ·exact h
  refine ON (k+1) os ms _ (by rw[aJ];exact Iq) λj o' ae aK=>cy (j+1) o' (by omega) (by simpa using ae) (by rwa[show k+(j+1)=k+1+j by omega])
 |k,x::os,y::ms,l,i+1,o,m,h1,h2,aJ,bp,cy=>by rw[hy];exact Wb (k+1) os ms _ i o m (by simpa using h1) (by simpa using h2) aJ (by rwa[show k+1+i=k+(i+1) by omega]) λj o' ae a1 aK=>cy (j+1) o' (by omega) (by simpa using a1) (by rwa[show k+(j+1)=k+1+j by omega])
section
variable {Y : gj} {Q : cN -> cO -> bb -> Prop}
structure It(Y:gj)(os:List bU)(ms:List ft)(l:bY)(H:List aG)(listed:Array Bool)(g:b_)(w:bb)(a:cO):Prop where
 jV:b' Y.cn Y.b0 Y.bS g w (fQ 0 ms (λj=>listed.getD j aQ) H)
 ok:hM Y.X g w (fQ 0 ms (λj=>listed.getD j aQ) H) (hy 0 os ms (λj=>listed.getD j aQ) l) a
 q2:wH os listed
variable {os:List bU}
theorem yZ{a b:bU}{ka gc:List Nat×List Nat}(h:yN os a b ka gc=ah):
  (∀t,a.dst=D t->¬t∈wZ os b/\b.dst≠D t)/\(∀t,b.dst=D t->¬t∈wZ os a/\a.dst≠D t)/\(∀x∈ka.2,¬x∈gc.1/\¬x∈gc.2)/\(∀x∈gc.2,¬x∈ka.1/\¬x∈ka.2):=by
 simp only[yN,ea]at h;obtain⟨⟨⟨⟨⟨h1,h2⟩,aJ⟩,bp⟩,cy⟩,cY⟩:=h
 refine⟨λt e=>⟨w0 h1 (by simp[uk,e]),λbk=>w0 aJ (x:=t) (by simp[uk,e]) (by simp[uk,bk])⟩,λt e=>⟨w0 h2 (by simp[uk,e]),λbk=>w0 aJ (x:=t) (by simp[uk,bk]) (by simp[uk,e])⟩,
  λx ar=>⟨w0 bp ar,w0 cY ar⟩,λx ar=>⟨w0 cy ar,λe=>w0 cY e ar⟩⟩
theorem Wc{wX:List aG->Prop}{L:Nat->Bool}:∀(k:Nat)(ms:List ft)(H:List aG),wX H->(∀j m,ms[j]? =D m->L (k+j)=ah->∀H,wX H->wX (dT H m.cE))->wX (fQ k ms L H)
 |_,[],_,h,_=>h
 |k,m::ms,H,h,hw=>by
  rw[fQ];refine Wc (k+1) ms _ ?_ λj m' hm aK=>hw (j+1) m' (by simpa using hm) (by rwa[show k+(j+1)=k+1+j by omega]);split
  ·rename_i aK;exact hw 0 m (by simp) aK H h
  ·exact h
def EC(os:List bU)(ms:List ft)(H:List aG):Prop:=∀i m,ms[i]? =D m->m.fa H/\∀j hz,ms[j]? =D hz->A9 os j i=ah\/∀H',m.fa H'->m.fa (dT H' hz.cE)
theorem EC.aY{ms:List ft}{H:List aG}(h:∀m∈ms,m.fa=λ_=>True):EC os ms H:=λi m hm=>by have e:=h m (cC hm);rw[e];exact⟨trivial,λ_ _ _=>.inr λ_ _=>trivial⟩
variable {i:Nat}{l:bY}
theorem afy{ms:List ft}{H:List aG}{listed:Array Bool}{g:b_}{w:bb}{a:cO}(kE:nq Y.X.P os os ms l)(dY:uj ms H)(Bu:EC os ms H)(Bv:oR os Y.X.N (ms.map ft.lg) os (ms.map ft.lg) (pu os []) 0=ah)(ff:listed.size=os.length)
  (st:It Y os ms l H listed g w a) {o:bU} (a1:os[i]? =D o) (Bw:listed.getD i ah=aQ) (hl:∀e∈o.after,Region.binds .any e=ah->listed.getD e.on aQ=ah)
  {K:cO->bb->Prop} (bV:∀g' w' gy,It Y os ms l H (listed.setIfInBounds i ah) g' w' gy->K gy w'):if n0 o (yielded os.toArray a.tmps)then o.wpIn (hK Y.X.r) 0 Y.X.P a w K Q else K (a.put o.dst undef) w:=by
 have dN:i<os.length:=(cz.1 a1).1;obtain⟨L,g6⟩:∃L:Nat->Bool,(λj=>listed.getD j aQ)=L:=⟨_,rfl⟩
 have y0:∀j,listed.getD j aQ=L j:=λj=>by rw[<-g6]
 have ED:L i=aQ:=by
  rw[<-y0];simp only[nZ]at Bw⊢;cases ar:listed[i]? with
  |none=>rfl
  |some b=>rw[ar]at Bw;simpa using Bw
 have jV:=st.jV;have ok:=st.ok;rw[g6]at jV ok;obtain⟨m,hm,hn⟩:=nq.aq (L:=λj=>decide (j<i)) 0 kE a1 (λj ae=>by simpa using ae) (λj ae=>by simpa using ae);have afz:=uj.aq (L:=λj=>decide (j<i)) 0 dY hm (λj ae=>by simpa using ae) (λj ae=>by simpa using ae);obtain⟨gc,mk,w1,q3,Iu,afA,at0,Wd⟩:=EB Bv a1;have afB:gc=m.lg:=by rw[fv,hm]at w1;simpa using w1.symm
 subst afB;rw[hD]at Iu Wd;have hw:∀j,A9 os i j=ah->L j=ah:=λj h=>by rw[<-y0];exact N1 st.q2 a1 hl h
 have s0:∀j i' hz,os[j]? =D i'->ms[j]? =D hz->j<i->L j=aQ->yN os i' o hz.lg m.lg=ah:=λj i' hz h1 h2 ae mV=>by
  rcases OM Wd (i:=j) (a:=i') (ka:=hz.lg) (by rw[kx,if_pos ae];exact h1) (by rw[kx,if_pos ae,fv,h2];rfl)with h|h
  ·rw[hD]at h;have:=hw j (by unfold A9;rw[p9,q3];exact h);rw[this]at mV;cases mV
  ·exact h
 have ul:∀j i' hz,os[j]? =D i'->ms[j]? =D hz->i<j->L j=ah->yN os o i' m.lg hz.lg=ah:=λj i' hz h1 h2 ae mV=>by
  obtain⟨We,at1,dA,e7,_,_,_,gN⟩:=EB Bv h1;have e:We=hz.lg:=by rw[fv,h2]at dA;simpa using dA.symm
  subst e;rw[hD]at gN;rcases OM gN (i:=i) (a:=o) (ka:=m.lg) (by rw[kx,if_pos ae];exact a1) (by rw[kx,if_pos ae,fv,hm];rfl)with h|h
  ·rw[hD]at h;have:=N1 (k:=j) (j:=i) st.q2 h1 (λe he aB=>st.q2 j i' (by rw[y0];exact mV) h1 e he aB) (by unfold A9;rw[p9,e7];exact h);rw[y0,ED]at this;cases this
  ·exact h
 have Wf:∀j i',os[j]? =D i'->∃hz,ms[j]? =D hz:=λj i' h1=>by
  obtain⟨We,_,dA,_⟩:=EB Bv h1;rw[fv]at dA;cases h:ms[j]? with
  |none=>rw[h]at dA;cases dA
  |some hz=>exact⟨hz,h⟩
 have t':∀j hz,ms[j]? =D hz->∃i',os[j]? =D i':=λj hz h1=>by
  have hlen:∀(os:List bU)(ms:List ft)(l:bY),nq Y.X.P os os ms l->True:=λ_ _ _ _=>trivial;have:j<os.length:=by
   have aK:∀(bH:List bU)(ms:List ft)(l:bY)(ed:List bU),nq Y.X.P ed bH ms l->ms.length=bH.length:=λbH=>by
    induction bH with
    |nil=>intro ms l ed h;cases ms with|nil=>rfl|cons m ms=>exact h.elim
    |cons b bH bB=>intro ms l ed h;cases ms with|nil=>exact h.elim|cons m ms=>simp[bB ms _ ed h.2]
   have:=(cz.1 h1).1;rw[aK os ms l os kE]at this;exact this
  exact⟨_,cq this⟩
 have c1:∀t,t∈wZ os o->cR (hy 0 os ms L l) t=cR (hy 0 os ms (λj=>decide (j<i)) l) t:=λt ai=>by
  refine Ir 0 os ms l l rfl λj i' ae=>?_;rw[hD];obtain⟨hz,Iv⟩:=Wf j i' ae;rcases N' j i with cf|heq|y1
  ·cases bg:L j with
   |true=>exact .inl (by simp[cf])
   |false=>exact .inr λe=>((yZ (s0 j i' hz ae Iv cf bg)).1 t e).1 ai
  ·subst heq;exact .inl (by simp[ED])
  ·cases bg:L j with
   |false=>exact .inl (by simp;omega)
   |true=>exact .inr λe=>((yZ (ul j i' hz ae Iv y1 bg)).2.1 t e).1 ai
 have afC:∀id,id∈m.lg.1->(fQ 0 ms L H)[id]? =(fQ 0 ms (λj=>decide (j<i)) H)[id]? :=λid rZ=>by
  refine Bp 0 ms H H rfl rfl λj hz ae=>?_;rw[hD];obtain⟨i',qe⟩:=t' j hz ae;rcases N' j i with cf|heq|y1
  ·cases bg:L j with
   |true=>exact .inl (by simp[cf])
   |false=>exact .inr λq aE e=>((yZ (s0 j i' hz qe ae cf bg)).2.2.1 id (by rw[<-e];exact wQ aE)).1 rZ
  ·subst heq;exact .inl (by simp[ED])
  ·cases bg:L j with
   |false=>exact .inl (by simp;omega)
   |true=>exact .inr λq aE e=>((yZ (ul j i' hz qe ae y1 bg)).2.2.2 id (by rw[<-e];exact wQ aE)).1 rZ
 have afD:fq (fQ 0 ms L H) m.cV:=λq aE=>by rw[afC q.1 (wQ aE)];exact afz q aE
 let lY:Nat->Bool:=λj=>(listed.setIfInBounds i ah).getD j aQ
 have Wg:lY i=ah:=by show(listed.setIfInBounds i ah).getD i aQ=ah;simp[nZ,VK,ff,dN]
 have Bx:∀j,j≠i->lY j=L j:=λj ae=>by show(listed.setIfInBounds i ah).getD j aQ=_;rw[getD_set_ne aQ (λe=>ae e.symm),y0]
 have OO:wH os (listed.setIfInBounds i ah):=st.q2.set a1 hl;have EE:dT (fQ 0 ms L H) m.cE=fQ 0 ms lY H:=by
  apply mr;intro id;by_cases rZ:id∈m.lg.2
  ·have h1:(fQ 0 ms lY H)[id]? =(fQ 0 ms (λj=>lY j&&ev j i) H)[id]? :=by
    refine Bp 0 ms H H rfl rfl λj hz ae=>?_;rw[hD];obtain⟨i',qe⟩:=t' j hz ae;by_cases y2:j<=i
    ·exact .inl (by simp[y2])
    ·cases bg:lY j with
     |false=>exact .inl (by simp)
     |true=>exact .inr λq aE e=>((yZ (ul j i' hz qe ae (by omega) (by rw[<-Bx j (by omega)];exact bg))).2.2.2 id (by rw[<-e];exact wQ aE)).2 rZ
   rw[h1,Wa (L:=λj=>lY j&&ev j i) 0 ms H i m hm (by rw[hD];simp[Wg]) (λj ae=>by rw[hD];show(lY j&&ev j i)=aQ;rw[afw ae,Bool.and_false])];refine OL _ _ _ (by rw[OK,OK]) ?_;refine Bp 0 ms H H rfl rfl λj hz ae=>?_;rw[hD];obtain⟨i',qe⟩:=t' j hz ae;rcases N' j i with cf|heq|y1
   ·refine .inl ?_;rw[Bx j (by omega),hD,p' (show ¬j=i by omega),afx (show j<=i by omega)];simp
   ·subst heq;refine .inl ?_;rw[hD,show d' j j=ah from jp j,ED];simp
   ·cases bg:L j with
    |false=>exact .inl (by rw[Bx j (by omega),bg];simp)
    |true=>exact .inr λq aE e=>((yZ (ul j i' hz qe ae y1 bg)).2.2.2 id (by rw[<-e];exact wQ aE)).2 rZ
  ·rw[Er _ _ _ λq aE e=>rZ (by rw[<-e];exact wQ aE)];refine Bp 0 ms H H rfl rfl λj hz ae=>?_;rw[hD];by_cases y2:j=i
   ·subst y2;rw[hm]at ae;cases ae;exact .inr λq aE e=>rZ (by rw[<-e];exact wQ aE)
   ·exact .inl (Bx j y2).symm
 have Bi:∀g' w' v,hM Y.X g' w' (fQ 0 ms lY H) (hy 0 os ms L l) a->cD g' w' (fQ 0 ms lY H) m.d v->hM Y.X g' w' (fQ 0 ms lY H) (hy 0 os ms lY l) (a.put o.dst v):=λg' w' v h1 h2=>by
  have hp:=h1.put afA h2;refine⟨hp.1,hp.2.1,λt d ai=>hp.2.2 t d ?_⟩;by_cases e:o.dst=D t
  ·have:=Wb (t:=t) (L:=lY) 0 os ms l i o m a1 hm e (by rw[hD];exact Wg) λj i' ae qe bg bk=>by
    rw[hD]at bg;obtain⟨hz,Iv⟩:=Wf j i' qe;exact((yZ (ul j i' hz qe Iv ae (by rw[<-Bx j (by omega)];exact bg))).1 t e).2 bk
   rw[this]at ai;rw[e,Iq];exact ai
  ·rw[Ez e];rw[<-ai];refine Ir 0 os ms l l rfl λj i' ae=>?_;rw[hD];by_cases y2:j=i
   ·subst y2;rw[a1]at ae;cases ae;exact .inr e
   ·exact .inl (Bx j y2).symm
 have fin:∀v w' g',b' w g (fQ 0 ms L H) g' w' (dT (fQ 0 ms L H) m.cE)->cD g' w' (dT (fQ 0 ms L H) m.cE) m.d v->K (a.put o.dst v) w':=λv w' g' h1 h2=>by
  rw[EE]at h1 h2;refine bV g' w' _ ⟨?_,?_,OO⟩
  ·exact jV.then h1
  ·exact Bi g' w' v (ok.a' h1.a') h2
 have afE:∀x∈o.op.operands,∀u,bO (hy 0 os ms (λj=>decide (j<i)) l) x=D u->cD g w (fQ 0 ms L H) u (a.eval x):=λx ar u hu=>by
  refine ok.bo ?_;cases x with
  |tmp t=>simp only[bO]at hu⊢;rw[c1 t (by unfold wZ V';rw[ig];right;exact List.mem_filterMap.2 ⟨.tmp t,by simpa using ar,rfl⟩)];exact hu
  |const v=>exact hu
  |global q=>exact hu
  |func f=>exact hu
 have afF:m.fa (fQ 0 ms L H):=by
  refine Wc 0 ms H (Bu i m hm).1 λj hz ae mV=>?_;rw[hD]at mV;rcases(Bu i m hm).2 j hz ae with h|h
  ·exfalso;obtain⟨i',qe⟩:=t' j hz ae;have:=N1 (k:=j) (j:=i) st.q2 qe (λe he aB=>st.q2 j i' (by rw[y0];exact mV) qe e he aB) h;rw[y0,ED]at this;cases this
  ·exact h
 have run:Ip m.fa Y.X.P o.op o.type (bO (hy 0 os ms (λj=>decide (j<i)) l)) m.cV m.cE m.d->o.wpIn (hK Y.X.r) 0 Y.X.P a w K Q:=λh=>by
  refine⟨λ_ _=>trivial,?_⟩;rcases h g w _ a.eval o rfl rfl jV.iR afF afD afE with⟨v,w',h1,g',h2,aJ⟩|⟨w',h1,g',h2,aJ⟩|⟨n,h1,h2⟩
  ·rw[qY h1 (by intro d h;cases h)];exact fin v w' g' h2 aJ
  ·rw[qY h1 (by intro d h;cases h)];exact fin undef w' g' h2 aJ
  ·rw[qY h1 h2.yQ];exact h2.H5 λv w' ⟨g',aJ,bp⟩=>fin v w' g' aJ bp
 have Wh:∀{j db:Nat}{want b:Bool},o.guard=D (j,want)->(os[j]?).bind (·.dst)=D db->cR (hy 0 os ms (λj=>decide (j<i)) l) db=D (.p (.v (.bool b)))->yielded os.toArray a.tmps j=D b:=λ{j db want b} b2 ae aB=>
  Od ok (by simpa using ae) (by rw[c1 db (by unfold wZ;rw[b2,ig];left;show db∈((os[j]?).bind (·.dst)).toList;rw[ae];simp)];exact aB)
 have y1:∀{j db:Nat}{want:Bool}{x:Array a4},o.guard=D (j,want)->(os[j]?).bind (·.dst)=D db->cR (hy 0 os ms (λj=>decide (j<i)) l) db=D (.p (.v (.tuple x)))->yielded os.toArray a.tmps j=aF:=λ{j db want x} b2 ae aB=>by obtain⟨v,h1,h2⟩:=ok.2.2 db _ (by rw[c1 db (by unfold wZ;rw[b2,ig];left;show db∈((os[j]?).bind (·.dst)).toList;rw[ae];simp)];exact aB);have:=h2.g4;unfold yielded;rw[show(os.toArray[j]?).bind (·.dst)=D db by simpa using ae];simp[h1,this]
 cases hn with
 |run b2 h=>
  have:n0 o (yielded os.toArray a.tmps)=ah:=by unfold n0;rw[b2]
  rw[if_pos this];exact run h
 |on b2 ae aB h=>
  have:n0 o (yielded os.toArray a.tmps)=ah:=by unfold n0;rw[b2];simp only[Wh b2 ae aB,beq_self_eq_true]
  rw[if_pos this];exact run h
 |@off j db want b2 ae aB he=>
  have:n0 o (yielded os.toArray a.tmps)=aQ:=by unfold n0;rw[b2];simp only[Wh b2 ae aB];cases want<;>rfl
  rw[if_neg (by rw[this];decide)];subst he;refine bV g w _ ⟨?_,?_,OO⟩
  ·show b' Y.cn Y.b0 Y.bS g w (fQ 0 ms lY H);rw[<-EE];exact jV
  ·exact Bi g w undef (by rw[<-EE];exact ok) (.v _)
 |@Bo j db want x b2 ae aB he=>
  have:n0 o (yielded os.toArray a.tmps)=aQ:=by unfold n0;rw[b2];simp only[y1 b2 ae aB];rfl
  rw[if_neg (by rw[this];decide)];subst he;refine bV g w _ ⟨?_,?_,OO⟩
  ·show b' Y.cn Y.b0 Y.bS g w (fQ 0 ms lY H);rw[<-EE];exact jV
  ·exact Bi g w undef (by rw[<-EE];exact ok) (.v _)
theorem afG{ms:List ft}{H:List aG}(kE:nq Y.X.P os os ms l)(dY:uj ms H)(Bu:EC os ms H)(Bv:oR os Y.X.N (ms.map ft.lg) os (ms.map ft.lg) (pu os []) 0=ah)
  (afH:∀listed g w a,It Y os ms l H listed g w a->(∀i,i<os.length->listed.getD i aQ=ah)->Q .normal a w):
  ∀(m:Nat)(listed:Array Bool)(g:b_)(w:bb)(a:cO),listed.toList.count aQ=m->listed.size=os.length->It Y os ms l H listed g w a->wpAnyIn (hK Y.X.r) 0 Y.X.P .any os.toArray Q m listed a w:=by
 intro m;induction m with
 |zero=>
  intro listed g w a y3 ff st;have hl:∀i,i<os.length->listed.getD i aQ=ah:=λi ao=>by
   cases aB:listed.getD i aQ with
   |true=>rfl
   |false=>
    exfalso;rw[List.count_eq_zero]at y3;apply y3;have cf:i<listed.size:=by omega
    rw[nZ,N9 cf]at aB;simp at aB;exact cC (i:=i) (by rw[VL,N9 cf,aB])
  refine⟨?_,afH listed g w a st hl⟩;rw[List.eq_nil_iff_forall_not_mem];intro i ao;obtain⟨bw,o,a1,_⟩:=mem_ready.1 ao;have cf:i<os.length:=by simpa using(Array.getElem?_eq_some_iff.1 a1).1
  have h1:=hl i cf;simp only[nZ]at bw h1;cases ar:listed[i]? with
  |none=>rw[ar]at h1;simp at h1
  |some b=>rw[ar]at bw h1;simp at bw h1;rw[bw]at h1;cases h1
 |succ m bB=>
  intro listed g w a y3 ff st;have hex:∃i,i<os.length/\listed.getD i ah=aQ:=by have hm:aQ∈listed.toList:=List.count_pos_iff.1 (by omega);obtain⟨i,ao⟩:=fO hm;have cf:=(cz.1 ao).1;refine⟨i,by simpa[ff]using cf,?_⟩;rw[VL]at ao;rw[nZ,ao];rfl
  obtain⟨i0,⟨ju,EF⟩,afI⟩:=ke hex;have oI:os[i0]? =D os[i0]:=cq ju;have Iw:i0∈Region.ready .any os.toArray listed:=by
   refine mem_ready.2 ⟨EF,os[i0],by simpa using oI,λe he aB=>?_⟩;obtain⟨_,_,_,_,Iu,_⟩:=EB Bv oI;rw[hD]at Iu;have cf:=aeI Iu e he aB;have hle:e.on<listed.size:=by omega
   cases bg:listed.getD e.on ah with
   |true=>rw[nZ,N9 hle]at bg⊢;simpa using bg
   |false=>have:=afI e.on ⟨by omega,bg⟩;omega
  refine⟨λbw=>by rw[bw]at Iw;simp at Iw,λi vk=>?_⟩;obtain⟨Bw,o,a1,hl⟩:=mem_ready.1 vk;have rS:os[i]? =D o:=by simpa using a1
  have EG:listed.toList[i]? =D aQ:=aeJ Bw;have:=afy (Q:=Q) (K:=wpAnyIn (hK Y.X.r) 0 Y.X.P .any os.toArray Q m (listed.setIfInBounds i ah)) kE dY Bu Bv ff st rS Bw hl λg' w' gy st'=>bB _ g' w' gy (by have:=Vk _ _ EG;simp only[Array.toList_setIfInBounds];omega) (by simp[ff]) st';unfold wpOpIn;simp only[a1];split
  ·rename_i hw;rw[if_pos hw]at this;exact this
  ·rename_i hw;rw[if_neg hw]at this;exact⟨λ_ _=>trivial,this⟩
def iv(Y:gj)(Q:cN->cO->bb->Prop)(ed:List bU)(rest:List bU)(l:bY)(H:List aG)(acc:List (List Nat×List Nat)):Prop:=
 ∃ms:List ft,nq Y.X.P ed rest ms l/\uj ms H/\(∀m∈ms,m.fa=λ_=>True)/\oR ed Y.X.N (acc++ms.map ft.lg) ed (acc++ms.map ft.lg) (pu ed []) 0=ah/\eU Y Q .normal (hy 0 rest ms (λ_=>ah) l) (fQ 0 ms (λ_=>ah) H)
variable {acc:List (List Nat×List Nat)}{ed:List bU}
theorem iv.nil{H:List aG}(aP:oR ed Y.X.N acc ed acc (pu ed []) 0=ah)(h:eU Y Q .normal l H):iv Y Q ed [] l H acc:=⟨[],trivial,trivial,λ_ h=>(by cases h),by simpa using aP,h⟩
theorem OP:∀(k:Nat)(os:List bU)(ms:List ft)(l:bY),hy (k+1) os ms (λ_=>ah) l=hy k os ms (λ_=>ah) l:=λk os=>by
 induction os generalizing k with
 |nil=>intro ms l;cases ms<;>rfl
 |cons x os bB=>intro ms l;cases ms with|nil=>rfl|cons m ms=>rw[hy,hy];exact bB _ _ _
theorem OQ:∀(k:Nat)(ms:List ft)(H:List aG),fQ (k+1) ms (λ_=>ah) H=fQ k ms (λ_=>ah) H:=λk ms=>by
 induction ms generalizing k with
 |nil=>intro H;rfl
 |cons x ms bB=>intro H;rw[fQ,fQ];exact bB _ _
variable {rest:List bU}
theorem iv.cons{o:bU}{H:List aG}{m:ft}(ao:sZ Y.X.P ed o l m)(dY:fq H m.cV)(k:iv Y Q ed rest (gn o.dst m.d l) (dT H m.cE) (acc++[m.lg]))(hp:m.fa=λ_=>True:=by rfl):iv Y Q ed (o::rest) l H acc:=by
 obtain⟨ms,h1,h2,cy,aJ,bp⟩:=k;refine⟨m::ms,⟨ao,h1⟩,⟨dY,h2⟩,?_,by simpa using aJ,?_⟩
 ·intro x ar;rcases n4.1 ar with e|e
  ·rw[e];exact hp
  ·exact cy x e
 ·rw[hy,fQ,OP,OQ];exact bp
variable {op:Op}{ty:b3}
theorem iv.q{t:Nat}{pos:String}{cx:Array ie}{H:List aG}{d:V}(h:bE Y.X.P op ty (bO l) [] [] d)(k:iv Y Q ed rest ((t,d)::l) H (acc++[([],[])])):
  iv Y Q ed ({dst:=D t,op:=op,type:=ty,pos:=pos,after:=cx,guard:=aF}::rest) l H acc:=iv.cons (m:=⟨[],[],d,λ_=>True⟩) (.run rfl h.wY) e6 k
variable {dst:Option Tmp}
theorem iv.o{pos:String}{cx:Array ie}{H:List aG}{ec:aG}{cE:List (Nat×aG)}{d:V}(h:bE Y.X.P op ty (bO l) [(i,ec)] cE d)(ao:H[i]? =D ec)
  (k:iv Y Q ed rest (gn dst d l) (dT H cE) (acc++[([i],cE.map (·.1))])):iv Y Q ed ({dst:=dst,op:=op,type:=ty,pos:=pos,after:=cx,guard:=aF}::rest) l H acc:=iv.cons (m:=⟨[(i,ec)],cE,d,λ_=>True⟩) (.run rfl h.wY) (da ao) k
theorem iv.aC{pos:String}{cx:Array ie}{H:List aG}{cV cE:List (Nat×aG)}{d:V}(h:bE Y.X.P op ty (bO l) cV cE d)(ao:fq H cV)
  (k:iv Y Q ed rest (gn dst d l) (dT H cE) (acc++[(cV.map (·.1),cE.map (·.1))])):iv Y Q ed ({dst:=dst,op:=op,type:=ty,pos:=pos,after:=cx,guard:=aF}::rest) l H acc:=iv.cons (m:=⟨cV,cE,d,λ_=>True⟩) (.run rfl h.wY) ao k
variable {id:Nat}
theorem dL.Wi{H:List aG}(hm:Y.X.P.follows .mixedOrders=ah)(ms:List ft)(h1:nq Y.X.P os os ms l)(h2:uj ms H)(cy:EC os ms H)(aJ:oR os Y.X.N (ms.map ft.lg) os (ms.map ft.lg) (pu os []) 0=ah)
  (bp:eU Y Q .normal (hy 0 os ms (λ_=>ah) l) (fQ 0 ms (λ_=>ah) H)):dL Y (.region id os.toArray ah) Q l H:=λg w a aM a9=>by
 refine wpIn_region_any hm ?_;have EG:∀j,(H7 os.toArray.size aQ).getD j aQ=aQ:=λj=>by simp only[nZ];rw[Array.getElem?_replicate];split<;>simp
 have Wj:fQ 0 ms (λj=>(H7 os.toArray.size aQ).getD j aQ) H=H:=Is λj=>EG _;have afJ:hy 0 os ms (λj=>(H7 os.toArray.size aQ).getD j aQ) l=l:=by
  have ON:∀(k:Nat)(os:List bU)(ms:List ft)(L:Nat->Bool)(l:bY),(∀j,L j=aQ)->hy k os ms L l=l:=λk os=>by
   induction os generalizing k with
   |nil=>intro ms L l _;cases ms<;>rfl
   |cons x os bB=>intro ms L l g6;cases ms with|nil=>rfl|cons m ms=>rw[hy,g6 k];exact bB _ _ _ _ g6
  exact ON 0 os ms _ l EG
 have Ix:hx g w H g w.drew H:=⟨b5 _,λ_ _=>b5 _,λ_ _ _ _=>rfl,λ_ h=>⟨h,rfl⟩,λt m ai=>⟨m,ai,b5 _,λ_=>rfl⟩⟩
 have dY:b' w g H g w.drew H:=⟨rfl,rfl,rfl,aM.mT.a' Ix,Ix,λ_ _ _=>⟨rfl,rfl⟩,λi o ao=>jU.a' Ix ao (λ_ _=>⟨rfl,rfl⟩) (λ_ _ _ _ _=>rfl) (aM.ec i o ao),aM.kh,λi b a1=>.inl ⟨i,a1⟩⟩
 have:=afG (Y:=Y) (Q:=Q) h1 h2 cy aJ (λlisted g' w' gy st hl=>by
  have a5:fQ 0 ms (λj=>listed.getD j aQ) H=fQ 0 ms (λ_=>ah) H:=by
   apply mr;intro id;refine Bp 0 ms H H rfl rfl λi m ao=>.inl ?_;rw[hD];have aK:∀(bH:List bU)(ms:List ft)(l:bY)(ed:List bU),nq Y.X.P ed bH ms l->ms.length=bH.length:=λbH=>by
    induction bH with
    |nil=>intro ms l ed h;cases ms with|nil=>rfl|cons m ms=>exact h.elim
    |cons b bH bB=>intro ms l ed h;cases ms with|nil=>exact h.elim|cons m ms=>simp[bB ms _ ed h.2]
   exact hl i (by rw[<-aK os ms l os h1];exact(cz.1 ao).1)
  refine bp g' w' gy (by rw[<-a5];exact st.jV) ?_;have ok:=st.ok;rw[a5]at ok;refine⟨ok.1,ok.2.1,λt d ai=>ok.2.2 t d ?_⟩;rw[<-ai];refine Ir 0 os ms l l rfl λi o ao=>.inl ?_;rw[hD];exact hl i (cz.1 ao).1) os.toArray.size (H7 os.toArray.size aQ) g w.drew a (by simp) (by simp)
  ⟨by rw[Wj];exact aM.then dY,by rw[Wj,afJ];exact a9.a' Ix,λi o aK=>by rw[EG]at aK;cases aK⟩
 exact this
theorem dL.any{H:List aG}(hm:Y.X.P.follows .mixedOrders=ah)(h:iv Y Q os os l H []):dL Y (.region id os.toArray ah) Q l H:=by obtain⟨ms,h1,h2,cy,aJ,bp⟩:=h;exact dL.Wi hm ms h1 h2 (.aY cy) (by simpa using aJ) bp
end
abbrev y4(av:cj)(f:gh)(ds:List V)(H:List aG)(r:V)(H':List aG):Prop:=q1 av f ds H (λgJ H2=>gJ=r/\H2=H')
abbrev y5(av:cj)(f:gh)(ds:List V)(r:V):Prop:=y4 av f ds [] r []
abbrev aI(n:Int):V:=.p (.v (.int .i64 n))
abbrev bs(b:Bool):V:=.p (.v (.bool b))
abbrev fw(n:Int):V:=.p (.v (.int .u8 n))
abbrev cG(s:ByteArray):V:=.p (.v (.string s))
abbrev bD(n:Int):P:=.v (.int .i64 n)
abbrev Wk(b:Bool):P:=.v (.bool b)
abbrev a2(n:Int):P:=.v (.int .u8 n)
abbrev eV(s:ByteArray):P:=.v (.string s)
def dI{α:Type}(k:Nat)(e:α->List P)(xs:List α):P:=.dI k xs.length (xs.flatMap e)
abbrev bT{α:Type}(k:Nat)(e:α->List P)(xs:List α):V:=.p (dI k e xs)
def cT{α:Type}(k:Nat)(e:α->List P)(xs:List α)(i m:Nat):V:=.cT k xs.length (xs.flatMap e) i m
def cH(n:Int):List P:=[bD n]
def Wl(b:Bool):List P:=[Wk b]
def jJ(n:Int):List P:=[a2 n]
def fk(s:ByteArray):List P:=[eV s]
theorem OR{α:Type}{k:Nat}{e:α->List P}(au:∀x,(e x).length=k):∀{xs:List α}{j:Nat}{x:α},xs[j]? =D x->((xs.flatMap e).drop (j*k)).take k=e x
 |[],j,x,h=>by simp at h
 |y::cX,0,x,h=>by simp at h;subst h;rw[Be,List.drop_zero,iX,List.take_append_of_le_length (by rw[au];exact b5 _),List.take_of_length_le (by rw[au];exact b5 _)]
 |y::cX,j+1,x,h=>by rw[iX,jD,Nat.one_mul,Nat.add_comm,<-List.drop_drop,show List.drop k (e y++cX.flatMap e)=cX.flatMap e by rw[<-au y];simp];exact OR au (by simpa using h)
def V.lZ{α:Type}(k:Nat)(e:α->List P)(d:V)(xs:List α):Prop:=d.pB=D (k,xs.length,xs.flatMap e)
variable {α:Type}{e:α->List P}{k:Nat}{xs:List α}
theorem qf:V.lZ k e (bT k e xs) xs:=rfl
theorem By{i m:Nat}:V.lZ k e (cT k e xs i m) xs:=rfl
section
variable {av : cj} {ty : b3} {ρ : bM -> Option V}
variable {E T:Nat}{α:Type}{e:α->List P}{k:Nat}{x:bM}{xs:List α}
theorem Iy {y:bM}{K:IntKind}{j:Int}{d:V}{z:α}(cc:∀w,(underlying T).run av w=.ok (.slice E) w)(aS:∀w,(sizeOf E).run av w=.ok k w)(ar:ρ x=D d)(bh:ρ y=D (.p (.v (.int K j))))(az:V.lZ k e d xs)(au:∀x,(e x).length=k)
  (bw:0<=j) (bj:xs[j.toNat]? =D z):bE av (.indexAddr T x y) ty ρ [] [] (.bA (e z)):=
 afe cc aS ar bh az bw (by have:=(cz.1 bj).1;omega) (OR au bj)
theorem afK{d:V}(cc:∀w,(underlying T).run av w=.ok (.slice E) w)(ar:ρ x=D d)(az:V.lZ k e d xs):bE av (.call {callee:=.builtin .len,args:=#[x],argTypes:=#[T]}) ty ρ [] [] (aI xs.length):=aff cc ar az
variable {bA t:Nat}{z:a4}
theorem Iz {bytes i m:Nat} {s:bM} {cX:List α}{d:V}(ai:av.underlying t=D (.slice bA))(ao:(av.info? bA).map (λi=>(i.zero,i.size,i.bytes))=D (D z,k,bytes))(bj:z.cells.size=k)(au:0<k)
  (aV:ρ s=D (cT k e xs i m)) (ar:ρ x=D d) (az:V.lZ k e d cX) (a1:∀y,(e y).all P.one=ah) (yR:xs.length+cX.length<=9223372036854775807) (qc:(xs.length+cX.length)*bytes<=140737488355328):
  bE av (.call {callee:=.builtin .append,args:=#[s,x],argTypes:=#[t,t]}) ty ρ [(i,.bl bA k m)] [(i,.bl bA k (m+1))] (cT k e (xs++cX) i (m+1)):=by
 have:=aft (ty:=ty) ai ao bj au aV ar az (λc aP=>by obtain⟨y,_,h2⟩:=List.mem_flatMap.1 aP;exact kj.1 (a1 y) c h2) yR qc;unfold cT;rw[ky,List.flatMap_append];exact this
theorem afL{os:List bM}{parts:Array (Nat×bM)}{ds:List V}(xs:List α)(ai:∀w,(underlying t).run av w=.ok (.slice bA) w)(au:∀w,(sizeOf bA).run av w=.ok k w)(bj:∀w,(zeroValue bA).run av w=.ok z w)
  (lJ:parts.toList=os.zipIdx.map (λp=>(p.2,p.1))) (ar:os.map ρ=ds.map D) (a1:(ds.all λd=>d.cells.all V.one&&d' d.cells.length k)=ah) (e9:ds.flatMap V.cells=(xs.flatMap e).map .p) (a_:ds.length=xs.length) (hle:xs.length*k<=16777216):bE av (.buildSlice t xs.length parts) ty ρ [] [] (bT k e xs):=
 afr ai au bj lJ ar a1 e9 a_ hle
end
section
variable {Y : gj} {Q : cN -> cO -> bb -> Prop} {l : bY} {H : List aG} {ops : Array bU} {rest : List bU}
theorem afM{α:Type}{e:α->List P}{T k i t:Nat}{g:b_}{w:bb}{a:cO}(aM:b' Y.cn Y.b0 Y.bS g w H)(a9:hM Y.X g w H l a)(ai:cR l t=D (.p (.v (.slice aF 0 0))))(ao:H[i]? =D .bW):
  ∃g',b' Y.cn Y.b0 Y.bS g' w (H.set i (.bl T k 0))/\hM Y.X g' w (H.set i (.bl T k 0)) ((t,cT k e [] i 0)::l) a:=by
 have aV:=b'.VJ (T:=T) (k:=k) aM.iR ao;refine⟨_,aM.then aV,?_⟩;have n6:=a9.a' aV.a';refine⟨n6.1,n6.2.1,λs d az=>?_⟩;simp only[cR]at az;by_cases q:t=s
 ·subst q;rw[show d' t t=ah from jp t]at az;simp only[cond_true,hX]at az;subst az;obtain⟨v,h1,h2⟩:=n6.2.2 t _ ai;refine⟨v,h1,?_⟩;rw[h2.g4];refine .cT .nil ⟨0,?_,b5 _,λ_=>(fB _ _ _).symm⟩;show tX (H.set i _)[i]? =_;rw[jH (cz.1 ao).1];rfl
 ·rw[p' q]at az;exact n6.2.2 s d az
theorem dL.nil{α:Type}{c:dS}(e:α->List P)(T k i t:Nat)(ai:cR l t=D (.p (.v (.slice aF 0 0))))(ao:H[i]? =D .bW)(h:dL Y c Q ((t,cT k e [] i 0)::l) (H.set i (.bl T k 0))):dL Y c Q l H:=λg w a aM a9=>by obtain⟨g',h1,h2⟩:=afM (e:=e) (T:=T) (k:=k) aM a9 ai ao;exact h g' w a h1 h2
end
theorem fY.IA{α:Type}{k:Nat}{e:α->List P}{xs:List α}{i m:Nat}:fY (Go.Dp.cT k e xs i m) (bT k e xs):=fY.cT
theorem bK{H:List aG}{i:Nat}{o:aG}{cV:List (Nat×aG)}(h:H[i]? =D o)(k:fq H cV):fq H ((i,o)::cV):=λq aE=>by
 rcases n4.1 aE with rfl|aE
 ·exact h
 ·exact k q aE
def Wm(k0:Nat)(aU:List Nat):Bool:=(mn k0).all λi=>fV i aU.length&&d' (bQ aU i) i
theorem np.aY{bS H el:List aG}{aU:List Nat}(aK:aU.length=el.length)(h:fq H (ek (bQ aU) aU el))(a_:aU.Nodup)(cf:el.all (aG.lt el.length)=ah)(rZ:Wm bS.length aU=ah):np bS H el aU:=
 ⟨Ij aK h,a_,cf,λi ao=>by have:=kj.1 rZ i (by simpa using ao);simp only[ea]at this;exact⟨by simpa[iu]using this.1,kz this.2⟩⟩
end Go.Dp

/- Code beside a function that may fail: rows that are made, copied into, cut, and handed on. -/
import Derived.Test.YtjfgooffdmnnkaaGreatDoorE
set_option linter.all false
namespace Go.Dp
open Go Go.Mi Go.RowKit
open Bool renaming true->ad,not_eq_true->UQ,false->aS
open Go renaming Operand->bY,Value->be,TypeId->co,World->bj,Oper->b_,Exit->df,IntKind->ip,Program->cF,FuncId->hE,Edge->jG,Act->di,Deferred->oH
open Go.Builtin renaming lenOf->CK,firstCells->IS
open Go.Call renaming operands->ji
open Go.Instr renaming sliceBounds->sS,sliceBound->qh,mapEntry->acE,sliceAt->u',fieldAt->IU,slice->va
open Go.MapKept renaming run_setObj_map->AR,run_getObj_map->wt
open Go.Op renaming operands->dw
open Go.Result renaming andThen->cp
open Go.Sem renaming run_bind->cq,run_pure->jp
open Int renaming le_refl->g_,toNat_natCast->dA
open List renaming getElem?_eq_some_iff->cz,map_map->lZ,getElem?_map->gQ,length_take->fF,length_map->hI,getElem?_eq_getElem->bN,flatMap_cons->kp,take_of_length_le->g4,replicate->cC,map_append->hT,mem_of_getElem?->cm,mem_cons->qf,length_append->hW,nodup_cons->q3,getD_eq_getElem?_getD->sG,map_cons->hH,map_set->C7,set_append_right->acF,getElem?_eq_none->nD,flatMap_append->acG,mem_cons_self->x1,getElem?_take->kd,getElem?_set->u4,ext_getElem?->m3,length_drop->tQ,length_cons->oa,all_eq_true->kX,take_take->qo,map_take->acH,mem_map->lz,map_nil->qp,take->x2
open Nat renaming le_refl->bL,le_of_ble_eq_true->nn,zero_le->fR,mul_le_mul_right->qX,add_mul->il,zero_add->ib,mul_one->pA,min_eq_left->l0,beq_refl->kq,beq->eF,eq_of_beq_eq_true->mi,blt->h4,ble->fb,one_mul->CZ,add_sub_cancel_left->acI,add_comm->tR,le_succ->A0,min_comm->acJ,le_trans->gE
open Option renaming some->I,none->aJ,map_some->nE
open Option.some renaming injEq->je
theorem acK:∀(ds:List V)(cs:List V)(off:Nat),off+ds.length<=cs.length->q4 cs off ds=cs.take off++ds++cs.drop (off+ds.length)
 |[],cs,off,_=>by simp[q4]
 |d::ds,cs,off,h=>by
  simp only[oa]at h;rw[q4,acK ds (cs.set off d) (off+1) (by simp;omega)];have h1:(cs.set off d).take (off+1)=cs.take off++[d]:=by rw[List.take_set,List.take_add_one,bN (by omega)];simp only[Option.toList];rw[acF _ _ (by rw[fF];omega)];rw[fF,l0 (by omega),Nat.sub_self];rfl
  have h2:(cs.set off d).drop (off+1+ds.length)=cs.drop (off+(ds.length+1)):=by rw[List.drop_set_of_lt (by omega)];congr 1;omega
  rw[h1,h2];simp
def om{α:Type}(xs:List α)(off n:Nat)(cO:List α):Option (List α):=if off+n<=xs.length then I (xs.take off++cO.take n++xs.drop (off+min cO.length n))else aJ
def wC{α:Type}(xs:List α)(off n x3 iM:Nat):Option (List α):=if x3+iM<=xs.length then om xs off n ((xs.drop x3).take iM)else aJ
theorem UR{α:Type}{xs cO f':List α}{off n:Nat}(h:om xs off n cO=I f'):off+n<=xs.length/\f'=xs.take off++cO.take n++xs.drop (off+min cO.length n):=by
 unfold om at h;split at h
 ·cases h;exact⟨by assumption,rfl⟩
 ·cases h
section
variable {α : Type} {e : α -> List P} {k : Nat}
theorem vd(he:∀x,(e x).length=k):∀xs:List α,(xs.flatMap e).length=xs.length*k
 |[]=>by simp
 |x::xs=>by rw[kp,hW,he,vd he xs,oa,il,CZ,tR]
theorem FY(he:∀x,(e x).length=k):∀(xs:List α)(n:Nat),(xs.take n).flatMap e=(xs.flatMap e).take (n*k)
 |[],n=>by simp
 |x::xs,0=>by simp
 |x::xs,n+1=>by
  have a2:(n+1)*k=k+n*k:=by rw[il,CZ,tR]
  rw[List.take_succ_cons,kp,kp,FY he xs n,a2,List.take_append,he,g4 (by rw[he];omega:(e x).length<=k+n*k),acI]
theorem US(he:∀x,(e x).length=k):∀(xs:List α)(n:Nat),(xs.drop n).flatMap e=(xs.flatMap e).drop (n*k)
 |[],n=>by simp
 |x::xs,0=>by simp
 |x::xs,n+1=>by
  have a2:(n+1)*k=k+n*k:=by rw[il,CZ,tR]
  rw[List.drop_succ_cons,kp,US he xs n,a2,List.drop_append,he,List.drop_of_length_le (by rw[he];omega:(e x).length<=k+n*k),acI];rfl
theorem UT(aU:∀x,(e x).all P.one=ad):∀xs:List α,(xs.flatMap e).all P.one=ad
 |[]=>rfl
 |x::xs=>by rw[kp,List.all_append,aU,UT aU xs];rfl
theorem acL{x:α}(he:∀x,(e x).length=k):∀(n j:Nat),j<n*k->((cC n x).flatMap e)[j]? =(e x)[j%k]?
 |0,j,h=>by omega
 |n+1,j,h=>by
  rw[List.replicate_succ,kp];by_cases ag:j<k
  ·rw[List.getElem?_append_left (by rw[he];exact ag),Nat.mod_eq_of_lt ag]
  ·rw[il,CZ]at h;rw[List.getElem?_append_right (by rw[he];omega),he,acL he n (j-k) (by omega),<-Nat.mod_eq_sub_mod (by omega)]
end
section
variable {aw : cF} {ty : co} {ρ : bY -> Option V}
theorem acM{T cf bG s i off n c m2 eC c8:Nat}{cs ds:List P}{dx:List (Nat×aN)}{x y:bY}{d:V}(cw:∀w,(underlying T).run aw w=.ok (.slice bG) w)(aY:∀w,(sizeOf bG).run aw w=.ok s w)(ak:ρ x=I (.ek i off n c))(a9:ρ y=I d)
  (hi:(i,aN.bA c8 cs)∈dx) (hle:off+ds.length<=cs.length) (h1:ds.all P.one=ad) (UU:Nat.min m2 n=eC)
  (amj:∀g w H u,g6 g w H->gx H dx->cN g w H d u->∃vs:List be,(CK u).run aw w=.ok m2 w/\(IS s eC u).run aw w=.ok vs.toArray w/\fH g.E w ds vs):
  bP aw (.call {callee:=.builtin .copy,args:=#[x,y],argTypes:=#[T,cf]}) ty ρ dx [(i,.bA c8 (cs.take off++ds++cs.drop (off+ds.length)))] (aL eC):=λg w H e o aU _ aO ev dH=>by
 have a2:=dH x (by simp[dw,ji]) _ ak;have bc:=dH y (by simp[dw,ji]) _ a9;obtain⟨vs,gR,fu,gG⟩:=amj g w H _ aO ev bc;have li:H[i]? =I (.bA c8 cs):=ev _ hi;obtain⟨us,eO,ax,_⟩:=aO.eP i _ li;have MS:=gG.1;have kR:=ax.1;have rK:(ds.map V.p).all V.one=ad:=by rw[List.all_map];exact h1
 obtain⟨w',s1,s2,h6⟩:=Fb (P:=aw) (o:=off) vs 0 us w eO ((gG.Fl (H:=H)).one rK) (by omega);have wy:fH g.E w (cs.take off++ds++cs.drop (off+ds.length)) (Mi.oc us off vs):=by refine I4 (H:=H) ?_;have:=dp.oc (o:=off) (ax.Fl (H:=H)) (gG.Fl (H:=H));rw[acK _ _ _ (by simp;omega)]at this;simpa[acH,List.map_drop]using this
 generalize aB:e x=u at a2;cases a2 with
 |ek bp=>refine .inl ⟨.int .i64 eC,w',?_,g,cn.aah aO li s2 h6 wy,.v _⟩;unfold execOp;rw[aU];simp[resolve,invoke,builtin,Builtin.copy_,aB,cw,aY,gR,UU,fu,s1,goInt,cq,cp]
section
variable {α : Type} {e : α -> List P} {T cf bG k i n c c8 : Nat} {x y : bY} {d : V} {xs cO f' : List α} {f : List α -> List P}
theorem acN{off:Nat}(he:∀x,(e x).length=k)(aP:om xs off n cO=I f'):f'.flatMap e=(xs.flatMap e).take (off*k)++(cO.take n).flatMap e++(xs.flatMap e).drop (off*k+((cO.take n).flatMap e).length):=by obtain⟨_,rfl⟩:=UR aP;rw[acG,acG,FY he,US he,vd he (cO.take n),fF,acJ n,il]
theorem NT(off:Nat)(cw:∀w,(underlying T).run aw w=.ok (.slice bG) w)(aY:∀w,(sizeOf bG).run aw w=.ok k w)(he:∀x,(e x).length=k)(aU:∀x,(e x).all P.one=ad)(bg:∀xs,f xs=xs.flatMap e)(ak:ρ x=I (.ek i (off*k) n c))(a9:ρ y=I d)(aG:V.nJ k e d cO)(aP:om xs off n cO=I f'):
  bP aw (.call {callee:=.builtin .copy,args:=#[x,y],argTypes:=#[T,cf]}) ty ρ [(i,.bA c8 (f xs))] [(i,.bA c8 (f f'))] (aL (min cO.length n:Nat)):=by
 obtain⟨h1,h2⟩:=UR aP;rw[bg,bg,acN he aP];refine acM (m2:=cO.length) cw aY ak a9 (x1 ..) ?_ (UT aU _) rfl λg w H u aO ev hu=>?_
 ·rw[vd he,vd he,fF,<-il];exact qX _ (by omega)
 ·have u5:=hu.rT aG;rcases u5.u1 with⟨⟨qZ,rfl⟩,ea,fN⟩|⟨g5,o',cap,us,rfl,ea,fN,jZ,wz,acO,amk⟩
  ·have:cO=[]:=List.length_eq_zero_iff.1 ea;subst this;exact⟨[],by simp[CK],by cases qZ<;>simp[IS,loadCells,loadCellsFrom],by simp[fH]⟩
  ·have aC:=acO.1;rw[FY he];have hmul:min cO.length n*k<=cO.length*k:=qX _ (Nat.min_le_left _ n);have aml:(cO.flatMap e).take (n*k)=(cO.flatMap e).take (min cO.length n*k):=by
    rw[<-FY he,<-FY he];congr 1;by_cases gf:cO.length<=n
    ·rw[l0 gf,g4 gf,g4 (bL _)]
    ·rw[Nat.min_eq_right (by omega)]
   rw[aml];refine⟨us.take (min cO.length n*k),by simp[CK],run_firstCells_some _ _ _ _ _ _ _ (by rw[fF,<-aC,wz];exact l0 hmul) (λq v aB=>?_),acO.take _⟩;rw[kd]at aB;split at aB
   ·rw[rJ];exact amk q v aB
   ·cases aB
theorem UV{iM hX:Nat}(off x3:Nat)(cw:∀w,(underlying T).run aw w=.ok (.slice bG) w)(aY:∀w,(sizeOf bG).run aw w=.ok k w)(he:∀x,(e x).length=k)(aU:∀x,(e x).all P.one=ad)(bg:∀xs,f xs=xs.flatMap e)(ak:ρ x=I (.ek i (off*k) n c))(a9:ρ y=I (.ek i (x3*k) iM hX))(aP:wC xs off n x3 iM=I f'):
  bP aw (.call {callee:=.builtin .copy,args:=#[x,y],argTypes:=#[T,cf]}) ty ρ [(i,.bA c8 (f xs))] [(i,.bA c8 (f f'))] (aL (min iM n:Nat)):=by
 unfold wC at aP;split at aP
 ·rename_i bh;obtain⟨h1,h2⟩:=UR aP;have kR:((xs.drop x3).take iM).length=iM:=by rw[fF,tQ];omega
  rw[bg,bg,acN he aP];refine acM (m2:=iM) cw aY ak a9 (x1 ..) ?_ (UT aU _) rfl λg w H u aO ev hu=>?_
  ·rw[vd he,vd he,fF,kR,<-il];exact qX _ (by omega)
  ·obtain⟨us,eO,ax,_⟩:=aO.eP i _ ev.one;have aC:=ax.1;rw[vd he]at aC;cases hu with
   |ek bp=>
    have bc:(x2 n (x2 iM (List.drop x3 xs))).flatMap e=((xs.flatMap e).drop (x3*k)).take (min iM n*k):=by rw[<-US he,<-FY he,qo,acJ]
    rw[bc];refine⟨(us.drop (x3*k)).take (min iM n*k),by simp[CK],run_firstCells_some _ _ _ _ _ _ _ ?_ (λq v aB=>?_),(ax.drop _).take _⟩
    ·rw[fF,tQ,<-aC];have:(x3+min iM n)*k<=xs.length*k:=qX _ (by omega);rw[il]at this;exact l0 (by omega)
    ·rw[rJ,eO.cell];rw[kd]at aB;split at aB
     ·rw[List.getElem?_drop]at aB;exact aB
     ·cases aB
 ·cases aP
theorem amm{n cap:Nat}{lo:Int}{K:ip}(off:Nat)(cw:∀w,(underlying T).run aw w=.ok (.slice bG) w)(aY:∀w,(sizeOf bG).run aw w=.ok k w)(ak:ρ x=I (.ek i (off*k) n cap))(a9:ρ y=I (.p (.v (.int K lo))))(h1:0<=lo)(h2:lo.toNat<=n)(ay:lo.toNat<cap):
  bP aw (.slice T x (I y) aJ aJ) ty ρ [] [] (.ek i ((off+lo.toNat)*k) (n-lo.toNat) (cap-lo.toNat)):=.pure λg w H e o aU _ _ bg=>by
 have a2:=bg x (by simp[dw]) _ ak;have bc:=(bg y (by simp[dw]) _ a9).ic;generalize aB:e x=u at a2;cases a2 with
 |ek bp=>
  have fM:¬cap=lo.toNat:=by omega
  have y4:lo<=(n:Int):=by omega
  refine⟨_,?_,by rw[il];exact .ek bp⟩;unfold execOp;rw[aU];simp[u',va,sS,qh,aB,bc,cw,aY,h1,y4,fM,asIntOf,Addr.add,cq,cp]
theorem amn{n cap:Nat}{hi:Int}{K:ip}(off:Nat)(cw:∀w,(underlying T).run aw w=.ok (.slice bG) w)(aY:∀w,(sizeOf bG).run aw w=.ok k w)(ak:ρ x=I (.ek i (off*k) n cap))(a9:ρ y=I (.p (.v (.int K hi))))(h1:0<=hi)(h2:hi.toNat<=cap):
  bP aw (.slice T x aJ (I y) aJ) ty ρ [] [] (.ek i (off*k) hi.toNat cap):=.pure λg w H e o aU _ _ bg=>by
 have a2:=bg x (by simp[dw]) _ ak;have bc:=(bg y (by simp[dw]) _ a9).ic;generalize aB:e x=u at a2;cases a2 with
 |ek bp=>
  have y4:hi<=(cap:Int):=by omega
  refine⟨_,?_,.ek bp⟩;unfold execOp;rw[aU];simp[u',va,sS,qh,aB,bc,cw,aY,h1,y4,asIntOf,Addr.add,cq,cp]
end
end
theorem amo{α:Type}{ty:co}{aw:cF}{ρ:bY->Option V}{t e bytes i k:Nat}{z:be}{x:bY}{K:ip}{n:Int}{j0:α->List P}{fc:α}(x4:∀x,(j0 x).length=k)(aj:aw.underlying t=I (.slice e))(hi:(aw.info? e).map (λi=>(i.zero,i.size,i.bytes))=I (I z,k,bytes))(aP:z.cells.size=k)(ap:0<k)(ak:ρ x=I (.p (.v (.int K n))))(aF:fb bytes 128=ad)
  (a6:0<=n/\n<=1099511627776) (bh:∀E w,fH E w (j0 fc) z.cells.toList):bP aw (.makeSlice t x x) ty ρ [(i,.cc)] [(i,.bA e ((cC n.toNat fc).flatMap j0))] (.ek i 0 n.toNat n.toNat):=λg w H bB o iL _ aO ev h=>by
 have a2:=(h x (by simp[dw]) _ ak).ic;have aG:=ev.one;obtain⟨q,kW,Fh,xE,Fi⟩:∃i,aw.info? e=I i/\i.zero=I z/\i.size=k/\i.bytes=bytes:=by
  cases ak:aw.info? e with
  |none=>rw[ak]at hi;cases hi
  |some i=>rw[ak]at hi;simp only[nE,je,Prod.mk.injEq]at hi;exact⟨i,rfl,hi.1,hi.2.1,hi.2.2⟩
 have sM:bytes*n.toNat<=281474976710656:=by
  have:=nn aF
  calc bytes*n.toNat<=128*1099511627776:=Nat.mul_le_mul this (by omega)
   _<=281474976710656:=by decide
 have we:((n.toNat:Nat):Int)=n:=Int.toNat_of_nonneg a6.1;have t_:=run_make (P:=aw) w t e q z aj kW Fh K K (n.toNat:Int) (n.toNat:Int) (by omega) (g_ _) (by have h:=Int.ofNat_le.2 sM;rw[Int.natCast_mul]at h;rw[Fi];exact h) (by omega);simp only[dA,xE]at t_;have hp:fH g.E w ((cC n.toNat fc).flatMap j0) (madeCells z.cells (n.toNat*k)).toList:=by
  refine⟨by rw[vd x4];simp[madeCells],λj p u h1 h2=>?_⟩;have ag:j<n.toNat*k:=by have:=(cz.1 h1).1;rw[vd x4]at this;simpa using this
  rw[acL x4 _ _ ag]at h1;have hm:j%k<k:=Nat.mod_lt _ ap;have ay:z.cells.toList[j%k]? =I u:=by simp only[madeCells,Array.toList_map,Array.toList_range,gQ,List.getElem?_range ag,nE,je]at h2;rw[<-h2,Array.getElem?_toList,aP,getElem!_pos z.cells (j%k) (by rw[aP];exact hm),Array.getElem?_eq_getElem (by rw[aP];exact hm)]
  exact(bh g.E w).2 (j%k) p u h1 ay
 refine .inl ⟨.slice (I ⟨w.heap.size,0,aJ⟩) n.toNat n.toNat,w.alloc (.cells (madeCells z.cells (n.toNat*k)) e),?_,_,by have:=cn.aag (T:=e) aO aG hp;simp only[Array.toArray_toList]at this;exact this,?_⟩
 ·unfold execOp;rw[iL];rw[we]at t_;simp[a2,t_,cq,cp]
 ·have:=cN.ek (g:=⟨dT g.β i w.heap.size,dT g.E w.heap.size 0,g.h⟩) (w:=w.alloc (.cells (madeCells z.cells (n.toNat*k)) e)) (H:=eH H [(i,.bA e ((cC n.toNat fc).flatMap j0))]) (i:=i) (off:=0) (n:=n.toNat) (cap:=n.toNat) (by unfold cL;show xy (H.set i _)[i]?;rw[kV (cz.1 aG).1];trivial);simpa[fL]using this
inductive ze (i n:Nat) (d:V):List V->List V->Prop
 |n:ze i n d [] []
 |k {x:V} {xs cO:List V} (h:x.bt i=ad) (t:ze i n d xs cO):ze i n d (x::xs) (x::cO)
 |f {xs cO:List V} (t:ze i n d xs cO):ze i n d (.ek i 0 n n::xs) (d::cO)
inductive NU (i n:Nat) (d:V):V->V->Prop
 |a:NU i n d (.ek i 0 n n) d
 |g {xs cO:List V} (h:ze i n d xs cO):NU i n d (.agg xs) (.agg cO)
section
variable {Y : gY} {Q : df -> di -> bj -> Prop} {l : ce} {H : List aN} {R : Type} {m : Option R} {T : R -> Prop}
variable {e:df}{l':ce}
theorem b7.JN(is:List Nat)(aQ:ew l l')(ap:y8 Y.ca.length l' H is=ad)(k:b7 Y Q e l' (y7 H is) m T):b7 Y Q e l H m T:=λq g w a aO a4=>by obtain⟨h1,h2⟩:=TS aO (a4.sub aQ) ap;exact k q g w a h1 h2
variable {c8 i k n:Nat}
theorem b7.amp {t:Nat}{cs:List P}{x y:V}(hi:H[i]? =I (.bA c8 cs))(aj:c6 l t=I x)(ak:NU i n (.p (.sl k n cs)) x y)(a6:n*k=cs.length)(aQ:ew l l')(bh:fb Y.ca.length i=ad)(dL:H.all (aN.bt i)=ad)(aC:l'.all (λq=>q.2.bt i)=ad)(h:b7 Y Q e ((t,y)::l') (H.set i .cc) m T):b7 Y Q e l H m T:=λq g w a aO a4=>by
 obtain⟨us,eO,hp,tV⟩:=aO.eP i _ hi;obtain⟨bX,dV⟩:=aO.gF hi (nn bh) dL;have py:=(a4.sub aQ).ll aC;have key:∀v,cN g w H (.ek i 0 n n) v->cN ⟨g.β,dT g.E (g.β i) cs.length,g.h⟩ w (H.set i .cc) (.p (.sl k n cs)) v:=λv bp=>by
  cases bp with
  |ek bp=>
   refine .p ?_;refine fH.sl (us:=us) (hp.bi (bL _) dV (λ_ _ _ _=>rfl)) a6.symm (bL _) ?_ eO.lt λj u ag=>?_
   ·show 0+n*k<=dT g.E (g.β i) _ (g.β i);rw[fL];omega
   ·rw[eO.cell,ib];exact ag
 have UW:∀{xs cO:List V},ze i n (.p (.sl k n cs)) xs cO->∀vs,dp g w H xs vs->dp ⟨g.β,dT g.E (g.β i) cs.length,g.h⟩ w (H.set i .cc) cO vs:=by
  intro xs cO eK;induction eK with
  |n=>intro vs h;cases h;exact .nil
  |k h t bx=>intro vs bp;cases bp with|cons h1 h2=>exact .cons ((cN.ll h h1).abn dV) (bx _ h2)
  |f t bx=>intro vs bp;cases bp with|cons h1 h2=>exact .cons (key _ h1) (bx _ h2)
 refine h q _ w a bX ⟨py.1,py.2.1,λs d aG=>?_⟩;simp only[c6]at aG;by_cases e:t=s
 ·subst e;rw[show eF t t=ad from kq t]at aG;simp only[cond_true,je]at aG;subst aG;obtain⟨v,h1,h2⟩:=a4.2.2 t _ aj;refine⟨v,h1,?_⟩;cases ak with
  |a=>exact key _ h2
  |g eK=>cases h2 with|agg ay=>exact .agg (UW eK _ ay)
 ·rw[tS e]at aG;obtain⟨v,h1,h2⟩:=py.2.2 s d aG;exact⟨v,h1,h2.abn dV⟩
theorem b7.zf{α:Type}{x y:List α->V}{xs:List α}{f:List α->Option R}(t:Nat)(j0:α->List P)(ug:List α->List P)(x4:∀x,(j0 x).length=k)(bg:∀xs,ug xs=xs.flatMap j0)(hi:H[i]? =I (.bA c8 (ug xs)))(aj:c6 l t=I (x xs))(ak:∀z,n=z.length->NU i n (bM k j0 z) (x z) (y z))(aQ:ew l l')(bh:fb Y.ca.length i=ad)(dL:H.all (aN.bt i)=ad)(aC:l'.all (λq=>q.2.bt i)=ad)
  (h:∀z,b7 Y Q e ((t,y z)::l') (H.set i .cc) (f z) T):b7 Y Q e l H ((Go.Dp.gF n xs).bind f) T:=λdt=>by
 obtain⟨z,h1,h2⟩:=dt.bind;obtain⟨ay,rfl⟩:=abj h1;subst ay;have:=ak z rfl;refine b7.amp (k:=k) (cs:=ug z) hi aj (by rw[bg];exact this) (by rw[bg,vd x4]) aQ bh dL aC (h z) h2
end
def A1(n cap:Nat)(lo:Int):Option Unit:=if 0<=lo/\lo.toNat<=n/\lo.toNat<cap then I ()else aJ
def A2(cap:Nat)(hi:Int):Option Unit:=if 0<=hi/\hi.toNat<=cap then I ()else aJ
section
variable {aw : cF} {ty : co} {ρ : bY -> Option V} {T bG k i n cap : Nat} {x y : bY} {lo : Int} {K : ip} {z : Unit}
theorem UX(off:Nat)(cw:∀w,(underlying T).run aw w=.ok (.slice bG) w)(aY:∀w,(sizeOf bG).run aw w=.ok k w)(ak:ρ x=I (.ek i (off*k) n cap))(a9:ρ y=I (.p (.v (.int K lo))))(h:A1 n cap lo=I z):
  bP aw (.slice T x (I y) aJ aJ) ty ρ [] [] (.ek i ((off+lo.toNat)*k) (n-lo.toNat) (cap-lo.toNat)):=by
 unfold A1 at h;split at h
 ·rename_i cr;exact amm off cw aY ak a9 cr.1 cr.2.1 cr.2.2
 ·cases h
theorem UY(off:Nat)(cw:∀w,(underlying T).run aw w=.ok (.slice bG) w)(aY:∀w,(sizeOf bG).run aw w=.ok k w)(ak:ρ x=I (.ek i (off*k) n cap))(a9:ρ y=I (.p (.v (.int K lo))))(h:A2 cap lo=I z):
  bP aw (.slice T x aJ (I y) aJ) ty ρ [] [] (.ek i (off*k) lo.toNat cap):=by
 unfold A2 at h;split at h
 ·rename_i cr;exact amn off cw aY ak a9 cr.1 cr.2
 ·cases h
theorem acP{α:Type}{t e bytes i k:Nat}{z:be}{n:Int}{j0:α->List P}{fc:α}{f':List α}(x4:∀x,(j0 x).length=k)(aj:aw.underlying t=I (.slice e))(hi:(aw.info? e).map (λi=>(i.zero,i.size,i.bytes))=I (I z,k,bytes))(aP:z.cells.size=k)(ap:0<k)(ak:ρ x=I (.p (.v (.int K n))))(aF:fb bytes 128=ad)
  (bh:∀E w,fH E w (j0 fc) z.cells.toList) (h:mk n fc=I f'):bP aw (.makeSlice t x x) ty ρ [(i,.cc)] [(i,.bA e (f'.flatMap j0))] (.ek i 0 f'.length f'.length):=by
 obtain⟨h1,rfl⟩:=abk h;have:=amo (i:=i) (ty:=ty) x4 aj hi aP ap ak aF h1 bh;rw[List.length_replicate];exact this
end
theorem acQ{E:Nat->Nat}{w:bj}:∀{cs:List be},fH E w (cs.map .v) cs:=⟨by simp,λj c u h1 h2=>by rw[gQ,h2]at h1;cases h1;exact .v⟩
theorem b7.acR{Y:gY}{Q:df->di->bj->Prop}{l:ce}{H:List aN}{R:Type}{T:R->Prop}{α:Type}{e:df}{l':ce}{c8 cf i n k:Nat}{us ds:List α->List V}{xs:List α}{f:List α->Option R}(j:Nat)(j0:α->List P)(ug:List α->List P)(x4:∀x,(j0 x).length=k)(bg:∀xs,ug xs=xs.flatMap j0)(hi:H[i]? =I (.bA c8 (ug xs)))(ag:H[j]? =I (.cells cf (us xs)))(vc:eF i j=aS)(ak:∀z,n=z.length->ze i n (bM k j0 z) (us z) (ds z))(aQ:ew l l')(bh:fb Y.ca.length i=ad)(acS:fb Y.ca.length j=ad)(dL:(H.set j .cc).all (aN.bt i)=ad)(aC:l'.all (λq=>q.2.bt i)=ad)
  (h:∀z,b7 Y Q e l' ((H.set i .cc).set j (.cells cf (ds z))) (f z) T):b7 Y Q e l H ((Go.Dp.gF n xs).bind f) T:=λdt=>by
 obtain⟨z,h1,h2⟩:=dt.bind;obtain⟨ay,rfl⟩:=abj h1;subst ay;have eK:=ak z rfl;have ap:=h z h2;intro g w a aO a4;have fM:i≠j:=λe=>by subst e;rw[kq]at vc;cases vc
 have bh:=nn bh;have acS:=nn acS;obtain⟨wq,eO,hp,tV⟩:=aO.eP i _ hi;obtain⟨amq,amr,Dg,ams⟩:=aO.eP j _ ag;have c4:=(cz.1 hi).1;have ly:=(cz.1 ag).1;have FI:own g H i (g.β i):=by unfold own;rw[hi];rfl
 have sQ:own g H j (g.β j):=by unfold own;rw[ag];rfl
 have amt:g.β j≠g.β i:=λe=>fM (aO.lY i j _ FI (by rw[<-e];exact sQ));generalize hm:(ug z).length=eC;generalize Au:(⟨g.β,dT g.E (g.β i) eC,g.h⟩:cu)=g';have aY:∀b,g.E b<=g'.E b:=λb=>by
  rw[<-Au];by_cases e:b=g.β i
  ·subst e;rw[tV];exact fR _
  ·show _<=dT g.E (g.β i) eC b;rw[lg e];exact bL _
 have Aq:∀b,b≠g.β i->g'.E b=g.E b:=λb e=>by rw[<-Au];exact lg e
 have rQ:∀q,g'.β q=g.β q:=λq=>by rw[<-Au]
 have gf:∀q,g'.h q=g.h q:=λq=>by rw[<-Au]
 generalize UZ:(H.set i .cc).set j (.cells cf (ds z))=H' at ap;have acT:H'[i]? =I .cc:=by rw[<-UZ,lf fM];exact kV c4
 have U0:H'[j]? =I (.cells cf (ds z)):=by rw[<-UZ];exact kV (by simpa using ly)
 have A3:∀q,q≠i->q≠j->H'[q]? =H[q]? :=λq a2 bc=>by rw[<-UZ,lf bc,lf a2]
 have MJ:∀q,q≠i->(cL H' q↔cL H q):=λq a2=>by
  unfold cL;by_cases bc:q=j
  ·subst bc;rw[U0,ag];exact Iff.rfl
  ·rw[A3 q a2 bc]
 have acU:∀q m,e5 H q=I m->e5 H' q=I m:=λq m ax=>by
  unfold e5 at ax⊢;by_cases a2:q=i
  ·subst a2;rw[hi]at ax;cases ax
  ·by_cases bc:q=j
   ·subst bc;rw[ag]at ax;cases ax
   ·rw[A3 q a2 bc];exact ax
 have eR:∀q b,own g' H' q b->own g H q b/\q≠i:=λq b aU=>by
  unfold own at aU⊢;by_cases a2:q=i
  ·subst a2;rw[acT]at aU;exact aU.elim
  ·refine⟨?_,a2⟩;by_cases bc:q=j
   ·subst bc;rw[U0]at aU;rw[ag];have:b=g'.β q:=aU;rw[rQ]at this;exact this
   ·rw[A3 q a2 bc]at aU;cases aB:H[q]? with
    |none=>rw[aB]at aU;exact aU.elim
    |some o=>rw[aB]at aU;rw[<-Au]at aU;cases o<;>exact aU
 have ei:iA g w (H.set i .cc) g' w H':=⟨bL _,λb _=>aY b,λ_ _ _ _=>rfl,λq aB=>by
   by_cases a2:q=i
   ·subst a2;unfold cL at aB;rw[kV c4]at aB;exact aB.elim
   ·exact⟨(MJ q a2).2 ((y6 a2).1 aB),rQ q⟩,λq m ax=>⟨m,by
   by_cases a2:q=i
   ·subst a2;unfold e5 at ax;rw[kV c4]at ax;cases ax
   ·refine acU q m ?_;unfold e5 at ax⊢;rw[lf a2]at ax;exact ax,bL _,λ_=>gf q⟩⟩
 have key:∀v,cN g w H (.ek i 0 z.length z.length) v->cN g' w H' (bM k j0 z) v:=λv bp=>by
  cases bp with
  |ek bp=>
   refine .p ?_;unfold sl;rw[<-bg];refine fH.sl (us:=wq) (hp.bi (bL _) (λb _=>aY b) (λ_ _ _ _=>rfl)) (by rw[bg,vd x4]) (bL _) ?_ eO.lt λq u aB=>?_
   ·rw[<-Au];show 0+z.length*k<=dT g.E (g.β i) eC (g.β i);rw[fL,<-hm,bg,vd x4];omega
   ·rw[eO.cell,ib];exact aB
 have UW:∀{xs cO:List V},ze i z.length (bM k j0 z) xs cO->∀vs,dp g w H xs vs->dp g' w H' cO vs:=by
  intro xs cO eK;induction eK with
  |n=>intro vs h;cases h;exact .nil
  |k h t bx=>intro vs bp;cases bp with|cons h1 h2=>exact .cons ((cN.ll h h1).bi ei) (bx _ h2)
  |f t bx=>intro vs bp;cases bp with|cons h1 h2=>exact .cons (key _ h1) (bx _ h2)
 have IX:cn Y.cK Y.cl Y.ca g' w H':=by
  refine⟨aO.os,aO.tape,aO.output,aO.oe.bi (H:=H.set i .cc) (H':=H') ei,⟨aO.bi.size,λb aF=>gE (aO.bi.E b aF) (aY b),aO.bi.cell,λq aB=>?_,λq m aB=>?_⟩,λb aF aB=>?_,λq o aB=>?_,λa c b ea fN=>aO.lY a c b (eR _ _ ea).1 (eR _ _ fN).1,λq b ea=>aO.rP q b (eR _ _ ea).1⟩
  ·have aC:=MW aB;obtain⟨an,a'⟩:=aO.bi.cL q aB;exact⟨(MJ q (by omega)).2 an,by rw[rQ];exact a'⟩
  ·obtain⟨m',an,a',dr⟩:=aO.bi.bs q m aB;exact⟨m',acU q m' an,a',λe=>by rw[gf];exact dr e⟩
  ·obtain⟨an,a'⟩:=aO.iq b aF aB;refine⟨an,?_⟩;by_cases e:b=g.β i
   ·subst e;rcases aO.rP i _ FI with⟨q,uc⟩|Fg
    ·exact absurd uc (aB q)
    ·omega
   ·rw[Aq b e];exact a'
  ·by_cases a2:q=i
   ·subst a2;rw[acT]at aB;cases aB;trivial
   ·by_cases bc:q=j
    ·subst bc;rw[U0]at aB;cases aB;exact⟨amq,by rw[rQ];exact amr,UW eK _ Dg,by rw[rQ,Aq _ amt];exact ams⟩
    ·rw[A3 q a2 bc]at aB;have amu:o.bt i=ad:=kX.1 dL o (cm (i:=q) (by rw[lf bc];exact aB));have xC:=(aO.eP q o aB).ll amu;refine lx.bi ei (by rw[lf a2];exact aB) (λb aF=>⟨rfl,Aq b λe=>?_⟩) (λ_ _ _ _ _=>gf q) xC;subst e;have:own g H q (g.β i):=by unfold own at aF⊢;rw[lf a2]at aF;exact aF
     exact a2 (aO.lY q i _ this FI)
 refine ap g' w a IX ?_;have py:=(a4.sub aQ).ll aC;exact py.bi ei
open Go.MapKept
section
variable {K X : Type} [DecidableEq K]
abbrev ve(dX:Bool)(cQ:K->be)(e_:X->List P)(c:Nat)(bT:List Nat)(kv:List (K×X)):aN:=.pt c bT (kv.map λq=>(cQ q.1,gT dX (e_ q.2)))
def A4(c:Nat)(bT:List Nat)(kv:List (K×X))(k:K):Nat:=match iu (kv.map (·.1)) k with|some j=>bT.getD j 0|none=>c
def x5(c:Nat)(kv:List (K×X))(k:K):Nat:=match iu (kv.map (·.1)) k with|some _=>c|none=>c+1
def vf(c:Nat)(bT:List Nat)(kv:List (K×X))(k:K):List Nat:=match iu (kv.map (·.1)) k with|some _=>bT|none=>bT++[c]
def zg(kv:List (K×X))(k:K)(fc:X):List (K×X):=match iu (kv.map (·.1)) k with|some _=>kv|none=>kv++[(k,fc)]
theorem U1{c:Nat}{bT:List Nat}{kv:List (K×X)}{k:K}(h:qe c bT):qe (x5 c kv k) (vf c bT kv k):=by
 unfold x5 vf;cases iu (kv.map (·.1)) k with
 |none=>exact h.push
 |some j=>exact h
end
section
variable {aw : cF} {ty : co} {ρ : bY -> Option V} {K X : Type} [DecidableEq K] {cQ : K -> be} {e_ : X -> List P} {T lW : co} {i c : Nat} {bT : List Nat} {dX : Bool} {kv : List (K × X)} {k : K}
theorem acV{g:cu}{w:bj}{H:List aN}(aO:g6 g w H)(hi:H[i]? =I (ve dX cQ e_ c bT kv)):∃us,w.heap[g.β i]? =I (.map (gm bT (kv.map λq=>cQ q.1) us).toArray c)/\bT.length=kv.length/\us.length=kv.length/\(gm bT (kv.map λq=>cQ q.1) us).map (·.key)=(kv.map (·.1)).map cQ/\
  dp g w H (kv.map λq=>gT dX (e_ q.2)) us:=by
 obtain⟨us,h1,h2,ay⟩:=aO.eP i _ hi;simp only[lZ,hI]at h1 h2 ay;have e:((λx:be×V=>x.1)∘λq:K×X=>(cQ q.1,gT dX (e_ q.2)))=λq=>cQ q.1:=rfl;have im:((λx:be×V=>x.2)∘λq:K×X=>(cQ q.1,gT dX (e_ q.2)))=λq=>gT dX (e_ q.2):=rfl;rw[e]at h1;rw[im]at ay;have aC:=ay.len;simp only[hI]at aC;exact⟨us,h1,h2,aC.symm,by rw[Ut (by simp[h2]) (by simp[aC])];simp,ay⟩
theorem amv{x y:bY}{fc:X}{z:be}{ie:V}(bZ:jJ aw T lW cQ)(ak:ρ x=I (.map i))(a9:ρ y=I ie)(ap:ie.val=I (cQ k))(aP:∀w,(zeroValue lW).run aw w=.ok z w)(x0:∀g w H,cN g w H (gT dX (e_ fc)) z):
  bP aw (.mapEntry T x y) ty ρ [(i,ve dX cQ e_ c bT kv)] [(i,ve dX cQ e_ (x5 c kv k) (vf c bT kv k) (zg kv k fc))] (.cx [gT dX (e_ ((eE kv k).getD fc)),aL (A4 c bT kv k)]):=λg w H e o aU _ aO ev bg=>by
 have hi:=ev.one;obtain⟨kt,hm,ax,lH,cS⟩:=bZ;obtain⟨us,c9,dU,dE,k3,jY⟩:=acV aO hi;have an:=(bg x (by simp[dw]) _ ak).FP;have a':=(bg y (by simp[dw]) _ a9).val ap;have lH:=λw=>lH k _ _ w k3;unfold x5 vf zg A4;cases ag:iu (kv.map (·.1)) k with
 |none=>
  simp only[ag,Option.bind_none]at lH;rw[Us ag];have aR:=cn.Ua (c':=c+1) (bs':=bT++[c]) (us:=us++[z]) (kv':=(kv++[(k,fc)]).map λq=>(cQ q.1,gT dX (e_ q.2))) aO hi (by simp[dU]) (by simp only[hT,lZ,hH,qp];exact dp.append (by show dp g w H (kv.map λq=>gT dX (e_ q.2)) us;exact jY) (.cons (x0 g w H) .nil));refine .inl ⟨.tuple #[z,goInt c],_,?_,g,aR,.cx (.cons (x0 _ _ _) (.cons (.v _) .nil))⟩;have hp:(gm (bT++[c]) (((kv++[(k,fc)]).map λq=>(cQ q.1,gT dX (e_ q.2))).map (·.1)) (us++[z])).toArray=(gm bT (kv.map λq=>cQ q.1) us).toArray.push ({key:=cQ k,val:=z,born:=c}:MapEntry):=by simp only[hT,lZ,hH,qp];rw[show((λx:be×V=>x.1)∘λq:K×X=>(cQ q.1,gT dX (e_ q.2)))=λq=>cQ q.1 from rfl,<-T' c (cQ k) z bT _ us (by simp[dU]) (by simp[dE])];simp
  rw[hp];unfold execOp;rw[aU];simp only[acE,an,a',cq,run_underlying hm,wt c9,ax,lH,aP,AR _ c9,cp,jp]
 |some j=>
  obtain⟨U2,a2,bc⟩:=FS ag;rw[bc];have ly:=(cz.1 a2).1;obtain⟨u,cX,g8⟩:=jY.ae (i:=j) (d:=gT dX (e_ U2)) (by rw[gQ,a2];rfl);obtain⟨b,aF⟩:∃b,bT[j]? =I b:=⟨_,bN (by omega)⟩
  have zd:(kv.map λq=>cQ q.1)[j]? =I (cQ k):=by rw[gQ,a2];rfl
  have hq:=T9 aF zd cX;simp only[ag,Option.bind_some,hq,nE]at lH;have aR:=cn.Ua (c':=c) (bs':=bT) (us:=us) (kv':=kv.map λq=>(cQ q.1,gT dX (e_ q.2))) aO hi (by simp[dU]) (by rw[lZ];show dp g w H (kv.map λq=>gT dX (e_ q.2)) us;exact jY);have amw:bT.getD j 0=b:=by rw[sG,aF];rfl
  refine .inl ⟨.tuple #[u,goInt b],_,?_,g,aR,.cx (.cons (g8.bi aR.bi) (.cons (by show cN _ _ _ (aL (bT.getD j 0:Nat)) (goInt b);rw[amw];exact .v _) .nil))⟩;have uh:(gm bT (kv.map λq=>cQ q.1) us).toArray[j]? =I {key:=cQ k,val:=u,born:=b}:=by simpa using hq
  have hp:((gm bT (kv.map λq=>cQ q.1) us).toArray.modify j λhG=>{hG with key:=cQ k})=(gm bT ((kv.map λq=>(cQ q.1,gT dX (e_ q.2))).map (·.1)) us).toArray:=by rw[lZ,show((λx:be×V=>x.1)∘λq:K×X=>(cQ q.1,gT dX (e_ q.2)))=λq=>cQ q.1 from rfl,<-T_ bT _ us j (cQ k) zd];simp[T_ bT _ us j (cQ k) zd]
  unfold execOp;rw[aU];simp only[acE,an,a',cq,run_underlying hm,wt c9,ax,lH,uh,nE,Option.getD_some,cS,AR _ c9,cp,jp,hp]
theorem amx{bT:List Nat}:∀{ks us:List be}{j:Nat},bT.length=ks.length->us.length=ks.length->bT.Nodup->∀{b:Nat},bT[j]? =I b->(gm bT ks us).findIdx? (λe=>(e.born:Int)==(b:Int))=I j:=by
 induction bT with
 |nil=>intro ks us j _ _ _ b h;simp at h
 |cons eu bT bx=>
  intro ks us j h1 h2 a6 b h;cases ks with
  |nil=>cases h1
  |cons k ks=>
   cases us with
   |nil=>cases h2
   |cons u us=>
    simp only[gm,List.findIdx?_cons];cases j with
    |zero=>simp at h;subst h;simp
    |succ j=>
     simp at h;have fM:eu≠b:=λe=>by subst e;exact(q3.1 a6).1 (cm h)
     have amy:((eu:Int)==(b:Int))=aS:=by simp;omega
     simp only[amy];rw[bx (by simpa using h1) (by simpa using h2) (q3.1 a6).2 h];rfl
theorem amz{m y x:bY}{d:V}{a fc:X}(aQ:qe c bT)(aC:bT.length=kv.length)(ak:ρ m=I (.map i))(a9:ρ y=I (aL (A4 c bT kv k)))(aG:ρ x=I d)(hw:hg d (gT dX (e_ a))):
  bP aw (.entryStore T m y x) ty ρ [(i,ve dX cQ e_ (x5 c kv k) (vf c bT kv k) (zg kv k fc))] [(i,ve dX cQ e_ (x5 c kv k) (vf c bT kv k) (fB kv k a))] (.p (.v undef)):=λg w H e o aU _ aO ev bg=>by
 have hi:=ev.one;obtain⟨us,c9,dU,dE,k3,jY⟩:=acV aO hi;have an:=(bg m (by simp[dw]) _ ak).FP;have a':=(bg y (by simp[dw]) _ a9).ic;have dr:=hw _ _ _ _ (bg x (by simp[dw]) _ aG);have amA:=U1 (kv:=kv) (k:=k) aQ;obtain⟨j,U3,m_,NV⟩:∃j,(vf c bT kv k)[j]? =I (A4 c bT kv k)/\fB kv k a=(zg kv k fc).set j (k,a)/\∃y,(zg kv k fc)[j]? =I (k,y):=by
  unfold vf A4 zg;cases ag:iu (kv.map (·.1)) k with
  |none=>
   refine⟨bT.length,?_,?_,fc,?_⟩
   ·show(bT++[c])[bT.length]? =I c;simp
   ·show fB kv k a=(kv++[(k,fc)]).set bT.length (k,a);rw[FU ag,aC,acF _ _ (bL _)];simp
   ·show(kv++[(k,fc)])[bT.length]? =_;simp[aC]
  |some j=>obtain⟨U2,a2,bc⟩:=FS ag;have ly:=(cz.1 a2).1;refine⟨j,?_,FT ag,U2,a2⟩;show bT[j]? =I (bT.getD j 0);rw[sG,bN (by omega)];rfl
 generalize zg kv k fc=NW at*;generalize vf c bT kv k=JO at*;generalize A4 c bT kv k=hF at*;generalize x5 c kv k=fe at*;obtain⟨NX,NV⟩:=NV;have ly:=(cz.1 NV).1;have zd:(NW.map λq=>cQ q.1)[j]? =I (cQ k):=by rw[gQ,NV];rfl
 have amB:=amx (ks:=NW.map λq=>cQ q.1) (us:=us) (by simp[dU]) (by simp[dE]) amA.1 U3;have zh:(fB kv k a).map (λq=>cQ q.1)=NW.map λq=>cQ q.1:=by rw[m_,C7];exact Jn zd
 have aR:=cn.Ua (c':=fe) (bs':=JO) (us:=us.set j (e x)) (kv':=(fB kv k a).map λq=>(cQ q.1,gT dX (e_ q.2))) aO hi (by rw[m_];simp[dU]) (by rw[lZ];show dp g w H ((fB kv k a).map λq=>gT dX (e_ q.2)) _;rw[m_,C7];exact jY.set dr);refine .inr (.inl ⟨_,?_,g,aR,.v _⟩);have hp:((gm JO (NW.map λq=>cQ q.1) us).toArray.modify j λhG=>{hG with val:=e x})=(gm JO (((fB kv k a).map λq=>(cQ q.1,gT dX (e_ q.2))).map (·.1)) (us.set j (e x))).toArray:=by rw[lZ];show _=(gm JO ((fB kv k a).map λq=>cQ q.1) (us.set j (e x))).toArray;rw[zh,<-abB (e x) JO _ us j];simp
 unfold execOp;rw[aU];simp only[Instr.entryStore,an,a',wt c9,asInt,asIntOf,cq,jp,cp,List.findIdx?_toArray,amB,AR _ c9,hp]
end
section
variable {Y : gY} {Q : df -> di -> bj -> Prop} {l : ce} {H : List aN} {R : Type} {m : Option R} {T : R -> Prop} {K X : Type} {cQ : K -> be} {e_ : X -> List P} {dX : Bool} {kv : List (K × X)}
variable {g:cu}{i:Nat}{w:bj}
theorem cn.amC{H:List aN}(h:g6 g w H)(hi:H[i]? =I (nP dX cQ e_ kv)):∃c bT,qe c bT/\bT.length=kv.length/\cn w g H g w (H.set i (ve dX cQ e_ c bT kv)):=by
 obtain⟨c,bT,us,bh,h1,h2,ay,bl⟩:=h.eP i _ hi;simp only[hI]at h2 ay;have c4:=(cz.1 hi).1;have eR:∀b,own g H i b↔b=g.β i:=λb=>by unfold own;rw[hi];exact Iff.rfl
 refine⟨c,bT,bh,h2,cn.one h c4 rfl rfl rfl (bL _) (λ_ _ _=>⟨rfl,rfl⟩) (λ_ _ _ _=>rfl) (λ_ _=>bL _) (λ_ _=>⟨rfl,rfl⟩) (λ_=>⟨trivial,rfl⟩) (λm hm=>by rw[hi]at hm;cases hm) (λb aU=>.inl ((eR b).2 aU)) λei=>⟨us,?_,by simp[h2],?_⟩⟩
 ·rw[h1,lZ,lZ];rfl
 ·rw[lZ];show dp g w _ (kv.map λq=>gT dX (e_ q.2)) us;have:∀(kv:List (K×X))(us:List be),us.length=kv.length->(∀(j:Nat)(q:be×List P)(u:be),(kv.map λq=>(cQ q.1,e_ q.2))[j]? =I q->us[j]? =I u->oM g.E w dX q.2 u)->dp g w (H.set i (ve dX cQ e_ c bT kv)) (kv.map λq=>gT dX (e_ q.2)) us->True:=λ_ _ _ _ _=>trivial;generalize H.set i (ve dX cQ e_ c bT kv)=H2;clear this ei eR h1 h2 hi h;induction kv generalizing us with
  |nil=>cases us with
   |nil=>exact .nil
   |cons _ _=>simp at ay
  |cons q kv bx=>cases us with
   |nil=>simp at ay
   |cons u us=>refine .cons (oM.rv (bl 0 (cQ q.1,e_ q.2) u rfl rfl)) ?_;apply bx us;all_goals first|(simpa using ay)|(intro j p v hp bp;exact bl (j+1) p v (by simpa using hp) (by simpa using bp))
variable {bT:List Nat}{c:Nat}
theorem cn.amD{H:List aN}(aQ:qe c bT)(h1:∀x,dX=ad\/∃y,e_ x=[y])(h:g6 g w H)(hi:H[i]? =I (ve dX cQ e_ c bT kv)):cn w g H g w (H.set i (nP dX cQ e_ kv)):=by
 obtain⟨us,bX,dV,dQ⟩:=h.eP i _ hi;have c4:=(cz.1 hi).1;have eR:∀b,own g H i b↔b=g.β i:=λb=>by unfold own;rw[hi];exact Iff.rfl
 simp only[hI,lZ]at bX dV dQ;have aC:=dQ.len;simp only[hI]at aC;refine cn.one h c4 rfl rfl rfl (bL _) (λ_ _ _=>⟨rfl,rfl⟩) (λ_ _ _ _=>rfl) (λ_ _=>bL _) (λ_ _=>⟨rfl,rfl⟩) (λ_=>⟨trivial,rfl⟩) (λm hm=>by rw[hi]at hm;cases hm) (λb aU=>.inl ((eR b).2 aU)) λei=>⟨c,bT,us,aQ,?_,by simp[dV],by simp[aC],λj q u aB hu=>?_⟩
 ·rw[bX,lZ];rfl
 ·rw[gQ]at aB;cases hp:kv[j]? with
  |none=>rw[hp]at aB;cases aB
  |some p=>rw[hp]at aB;cases aB;obtain⟨v,ea,fN⟩:=dQ.ae (i:=j) (d:=gT dX (e_ p.2)) (by rw[gQ,hp];rfl);rw[hu]at ea;cases ea;exact oM.aX fN (h1 _)
theorem cv.open{fS:Code}(i:Nat)(hi:H[i]? =I (nP dX cQ e_ kv))(k:∀c bT,qe c bT->bT.length=kv.length->cv Y fS Q l (H.set i (ve dX cQ e_ c bT kv)) m T):cv Y fS Q l H m T:=λe g w a aO a4=>by obtain⟨c,bT,h1,h2,s⟩:=cn.amC aO.jV hi;exact k c bT h1 h2 e g w a (aO.then s) (a4.bi s.bi)
theorem b7.acW{e:df}(i:Nat)(aQ:qe c bT)(h1:∀x,dX=ad\/∃y,e_ x=[y])(hi:H[i]? =I (ve dX cQ e_ c bT kv))(k:b7 Y Q e l (H.set i (nP dX cQ e_ kv)) m T):b7 Y Q e l H m T:=λq g w a aO a4=>by have s:=cn.amD aQ h1 aO.jV hi;exact k q g w a (aO.then s) (a4.bi s.bi)
end
section
variable {Y : gY} {Q : df -> di -> bj -> Prop} {l : ce} {H : List aN} {R : Type} {m : Option R} {T : R -> Prop} {os rest : List b_} {acc : List (List Nat × List Nat)} {ty : co} {pos : String} {cT : Array jG} {fs : Option (Nat × Bool)} {dst : Option Tmp}
end
abbrev Dh(f:hE)(vs:List be):oH:={target:=.fn (.func f) #[],args:=vs.toArray}
variable {H ca:List aN}{N:Nat}{aw:cF}{fp:List V}{iD:List oH}{f:hE}{cl:cu}{l:ce}{cK:bj}
theorem e0.U4{Q:df->di->bj->Prop}{ops:Array b_}{rest:List b_}{dst:Option Tmp}{ty:co}{pos:String}{cT:Array jG}{args:List bY}{tys:Array co}(q:Nat)(aB:H[q]? =I .cc)(kw:nL (bV l) args fp)(aG:m4 N dst=ad)
  (k:∀vs,e0 ⟨⟨aJ,aw,N,Dh f vs::iD⟩,cK,cl,ca⟩ ops Q rest (hJ dst (.p (.v undef)) l) (H.set q (.qd fp vs))):
  e0 ⟨⟨aJ,aw,N,iD⟩,cK,cl,ca⟩ ops Q ({dst:=dst,op:=.defer {callee:=.value (.func f),args:=args.toArray,argTypes:=tys},type:=ty,pos:=pos,after:=cT,guard:=aJ}::rest) l H:=λg w a aO a4=>by
 simp only[m0,Region.wanted,if_true,Oper.wpIn];refine⟨λ_ _=>trivial,?_⟩;have h2:dp g w H fp (args.map a.eval):=kw.rv λx _ u hu=>a4.bB hu;generalize q5:args.map a.eval=vs at h2;have e:(({dst:=dst,op:=.defer {callee:=.value (.func f),args:=args.toArray,argTypes:=tys},type:=ty,pos:=pos,after:=cT,guard:=aJ}:b_).semAt aJ a.eval).run aw w=.ok (.defer (Dh f vs)) w:=by rw[Oper.semAt_none];unfold execOp;have bc:a.eval (.func f)=.func (.func f) #[] #[]:=rfl;simp[resolve,bc,Deferred.ofValue,cq,cp,q5]
 rw[e];show m0 ⟨aJ,aw,N,iD⟩ ops Q rest (({a with defers:=Dh f vs::a.defers}:di).put dst undef) w;have s:=cn.act (q:=q) (o:=.qd fp vs) aO.jV aB (λb h=>h) λei=>dp.bi ei h2;have nR:=(a4.bi s.bi).put aG (.v undef);rw[acC (Dh f vs::iD)];refine k vs g w _ (aO.then s) ⟨?_,?_,?_⟩
 ·cases dst<;>(show _::a.defers=_;rw[a4.1])
 ·have:=nR.2.1;cases dst<;>exact this
 ·have:=nR.2.2;cases dst<;>exact this
theorem bS.U4{aw:cF}{N:Nat}{iD:List oH}{cK:bj}{cl:cu}{ca:List aN}{Q:df->di->bj->Prop}{l:ce}{H:List aN}{R:Type}{m:Option R}{T:R->Prop}{ops:Array b_}{rest:List b_}{dst:Option Tmp}{ty:co}{pos:String}{cT:Array jG}{args:List bY}{tys:Array co}{f:hE}{fp:List V}(q:Nat)(aB:H[q]? =I .cc)(kw:nL (bV l) args fp)(aG:m4 N dst=ad)
  (k:∀vs,bS ⟨⟨aJ,aw,N,Dh f vs::iD⟩,cK,cl,ca⟩ ops Q rest (hJ dst (.p (.v undef)) l) (H.set q (.qd fp vs)) m T):
  bS ⟨⟨aJ,aw,N,iD⟩,cK,cl,ca⟩ ops Q ({dst:=dst,op:=.defer {callee:=.value (.func f),args:=args.toArray,argTypes:=tys},type:=ty,pos:=pos,after:=cT,guard:=aJ}::rest) l H m T:=λh=>e0.U4 q aB kw aG λvs=>k vs h
theorem b7.amE{fn:Func}{hz:Ending->bj->Prop}{e:df}{R:Type}{T:R->Prop}{α:Type}{x:Option α}{acX:α->Option R} {ds:List V}{vs:List be}{Hc:List aN}{rr:α->V}{oh H2:α->List aN}(q:Nat)(a1 fr:List Nat)(aY:Exit.m1 e=ad)(aB:H[q]? =I (.qd fp vs))(bg:∀args w,(callFunc f args).run aw w=.ok (.enter f args) w)
  (ax:∀z,x=I z->al6 aw f ds Hc (rr z) (oh z) a1 fr H (H2 z)) (m7:fp=g7 (b0 a1) ds) (lC:gx H (eW (b0 a1) a1 Hc++fr.map λj=>(j,.cc)))
  (k:∀z,b7 ⟨⟨aJ,aw,N,iD⟩,cK,cl,ca⟩ (bodyPostM (jT aJ) 0 aw fn hz) e l (H2 z) (acX z) T):b7 ⟨⟨aJ,aw,N,Dh f vs::iD⟩,cK,cl,ca⟩ (bodyPostM (jT aJ) 0 aw fn hz) e l H (x.bind acX) T:=λdt=>by
 obtain⟨z,h1,h2⟩:=dt.bind;intro g w a aO a4;obtain⟨fe,dy,oS⟩:=ax z h1;have acY:dp g w H fp vs:=aO.eP q _ aB;rw[m7]at acY;have ra:gx H (eW (b0 a1) a1 Hc):=λq aB=>lC q (List.mem_append_left _ aB);have aQ:=M1 dy.len ra;have amF:=fe (g.dN (b0 a1)) w vs .returning (aO.jV.a1 aQ (List.nodup_append.1 dy.af).1 dy.lo) (u7 aQ.CN ds vs dy.lt acY);have aG:a.defers=Dh f vs::iD:=a4.1;have key:LeavesInM (jT aJ) 0 aw fn a.tmps hz a.defers .returning w:=by rw[aG];refine⟨(by intro e;cases e),.inr ⟨(λe=>by cases e),.func f,#[],f,vs.toArray,rfl,by simp[invoke];exact bg _ _,(λ_ _=>trivial),CallsDIn.mono amF ?_⟩⟩;rintro hG sN w' ⟨rfl,v,g',h5,H',rfl,⟨rfl,rfl⟩,bX,dV⟩;obtain⟨dU,dQ,_⟩:=Tq aO.jV aQ dy.af (λj ag=>lC (j,.cc) (List.mem_append_right _ (lz.2 ⟨j,ag,rfl⟩))) dy.jW dy.Tx bX;rw[oS]at dQ;have ay:=k z h2 dU w' {a with defers:=iD} (aO.then dQ) ⟨rfl,(a4.bi dQ.bi).2.1,(a4.bi dQ.bi).2.2⟩;show LeavesInM (jT aJ) 0 aw fn a.tmps hz iD (settle .returning) w';cases e<;>first|exact ay|(simp[Exit.m1]at aY)
 cases e<;>first|exact key|(simp[Exit.m1]at aY)
theorem acZ{i:Nat}{o:aN}(h:H[i]? =I o):H.set i o=H:=by
 apply m3;intro j;rw[u4];split
 ·next e=>subst e;rw[if_pos (cz.1 h).1,h]
 ·rfl
theorem NY{ws:List Nat}:∀{c0:List (Nat×aN)}{H:List aN},(c0.map (·.1)).Nodup->(∀q∈c0,ws.contains q.1=ad\/H[q.1]? =I q.2)->eH H c0=eH H (c0.filter λq=>ws.contains q.1)
 |[],_,_,_=>rfl
 |(i,o)::r,H,a6,h=>by
  simp only[hH,q3]at a6;by_cases e:ws.contains i=ad
  ·rw[List.filter_cons_of_pos (by simpa using e),eH,eH];refine NY a6.2 λq aB=>?_;rcases h q (by simp[aB])with h1|h1
   ·exact .inl h1
   ·refine .inr ?_;rw[lf (λe=>a6.1 (by rw[<-e];exact List.mem_map_of_mem aB))];exact h1
  ·rw[List.filter_cons_of_neg (by simpa using e),eH];rcases h (i,o) (by simp)with h1|h1
   ·exact absurd h1 e
   ·rw[acZ h1];exact NY a6.2 λq aB=>h q (by simp[aB])
def NZ(ws:List Nat):List (Nat×aN)->List (Nat×aN)->Prop
 |[],_=>True
 |q::c0,[]=>ws.contains q.1=ad/\NZ ws c0 []
 |q::c0,p::dx=>(ws.contains q.1=ad\/q=p)/\NZ ws c0 dx
theorem N0{ws:List Nat}{H:List aN}:∀{c0 dx:List (Nat×aN)},NZ ws c0 dx->gx H dx->∀q∈c0,ws.contains q.1=ad\/H[q.1]? =I q.2
 |[],_,_,_,q,aB=>by cases aB
 |p::c0,[],h,aO,q,aB=>by
  rcases qf.1 aB with rfl|aB
  ·exact .inl h.1
  ·exact N0 h.2 aO q aB
 |p::c0,vg::dx,h,aO,q,aB=>by
  rcases qf.1 aB with rfl|aB
  ·rcases h.1 with e|rfl
   ·exact .inl e
   ·exact .inr (aO q (by simp))
  ·exact N0 h.2 (λx ak=>aO x (by simp[ak])) q aB
variable {ty:co}
theorem bP.drop{op:Op}{ρ:bY->Option V}{dx c0 ac0:List (Nat×aN)}{d:V}(h:bP aw op ty ρ dx c0 d)(he:∀H,gx H dx->eH H c0=eH H ac0):bP aw op ty ρ dx ac0 d:=λg w H e o aU aj aO ev bg=>by
 have:=h g w H e o aU aj aO ev bg
 rwa[he H ev]at this
section
variable {Y : gY} {Q : df -> di -> bj -> Prop} {l : ce} {H : List aN} {R : Type} {m : Option R} {T : R -> Prop} {ops : Array b_} {os rest : List b_} {acc : List (List Nat × List Nat)} {t : Nat} {ty : co} {pos : String} {cT : Array jG} {fs : Option (Nat × Bool)} {dst : Option Tmp}
end
def A5{α:Type}(xs cO:List α):Option (List α):=if xs.length+cO.length<=2000000 then I (xs++cO)else aJ
abbrev gs(n i m:Nat):V:=.gs 1 n i m 0
section
variable {aw : cF} {ty : co} {ρ : bY -> Option V}
variable {i:Nat}
theorem amG {t e:Nat}{z:be}{parts:Array (Nat×bY)}(aj:∀w,(underlying t).run aw w=.ok (.slice e) w)(ap:∀w,(sizeOf e).run aw w=.ok 1 w)(aP:∀w,(zeroValue e).run aw w=.ok z w)(hp:parts.toList=[]):
  bP aw (.buildSlice t 0 parts) ty ρ [(i,.cc)] [(i,.fq e 1 1 [])] (gs 0 i 1):=λg w H bB o iL _ aO ev h=>by
 obtain⟨us,h1,h2,ay⟩:=TE (os:=[]) (ds:=[]) (cs:=[]) (n:=0) aj ap aP (by simpa using hp) rfl rfl rfl rfl (by decide) iL h;have hi:=ev.one;have c4:=(cz.1 hi).1;have AV:us=[]:=List.eq_nil_of_length_eq_zero (by simpa using ay);subst AV;have JG:=CB w (.cells ([]:List be).toArray e);have aU:(w.alloc (.cells ([]:List be).toArray e)).ownsRow 0 e 1 (.slice (I ⟨w.heap.size,0,aJ⟩) 0 0) 0 []:=⟨rfl,.inr ⟨w.heap.size,0,#[],rfl,fR _,CC w ([]:List be) e,bL _,fR _,rfl,rfl⟩⟩
 have b5:=cn.akZ (k:=1) (T:=e) (n:=0) aO hi JG aU rfl h2;refine .inl ⟨_,_,h1,_,b5,.gs rfl (Nw (Nx c4) ⟨w.heap.size,0,0,0,0,?_,rfl,bL _,bL _,.inl rfl,λ_=>⟨rfl,rfl⟩⟩)⟩;show dT g.h i _ i=_;rw[fL]
variable {cs:List P}{eC n:Nat}{x:bY}{α:Type}
theorem amH {cf E:Nat}{c8:Nat} {y:bY}{K:ip}{j:Int}{xs:List α}{z:{q:Nat×α // xs[q.1]? =I q.2}}(cw:∀w,(underlying cf).run aw w=.ok (.slice E) w)(aY:∀w,(sizeOf E).run aw w=.ok 1 w)(ak:ρ x=I (gs n i eC))(a9:ρ y=I (.p (.v (.int K j))))(aP:gz n xs j=I z):
  bP aw (.indexAddr cf x y) ty ρ [(i,.fq c8 1 eC cs)] [] (.kr i eC z.1.1):=by
 have bh:(0<=j/\j<n)/\z.1.1=j.toNat:=by
  unfold gz at aP;split at aP
  ·next h=>
   refine⟨h,?_⟩;split at aP
   ·cases aP;rfl
   ·cases aP
  ·cases aP
 rw[bh.2,show j.toNat=0+j.toNat from(ib _).symm];exact ak8 cw aY ak a9 bh.1.1 bh.1.2
theorem amI {β:Type}(c:α->β)(xs:List α)(i:Nat)(v:α):(xs.map c).set i (c v)=(xs.set i v).map c:=by rw[C7]
inductive x6 (ρ:bY->Option V) (i n eC:Nat) (cs:List P):List bY->List V->Prop
 |n:x6 ρ i n eC cs [] []
 |c {x:bY} {xs:List bY} {d db:V} {ds:List V} (h:ρ x=I d) (w:hg d db) (t:x6 ρ i n eC cs xs ds):x6 ρ i n eC cs (x::xs) (db::ds)
 |b {x:bY} {xs:List bY} {ds:List V} (h:ρ x=I (gs n i eC)) (t:x6 ρ i n eC cs xs ds):x6 ρ i n eC cs (x::xs) (.p (.sl 1 n cs)::ds)
variable {ds:List V}
theorem x6.s{ρ:bY->Option V}{xs:List bY}{d:V}(h:ρ x=I d)(t:x6 ρ i n eC cs xs ds):x6 ρ i n eC cs (x::xs) (d::ds):=.c h .lB t
variable {T:Nat}
theorem amJ{g:cu}{w:bj}{H:List aN}(h:g6 g w H)(hi:H[i]? =I (.fq T 1 eC cs)):∃E:Nat->Nat,iA g w H ⟨g.β,E,g.h⟩ w H/\∀v,cN g w H (gs cs.length i eC) v->cN ⟨g.β,E,g.h⟩ w H (.p (.sl 1 cs.length cs)) v:=by
 obtain⟨AY,us,aU,ax,aY⟩:=h.eP i _ hi;refine⟨λb=>if(g.h i).ownBlock=I b then cs.length else g.E b,⟨bL _,λb _=>?_,λ_ _ _ _=>rfl,λ_ h=>⟨h,rfl⟩,λ_ m h=>⟨m,h,bL _,λ_=>rfl⟩⟩,λv bp=>?_⟩
 ·show g.E b<=if _ then _ else _
  split
  ·next e=>rw[aY b e];exact fR _
  ·exact bL _
 ·cases bp with
  |gs h2 nM=>
   rcases AM h hi nM with⟨f0,_,rfl,f3,rfl⟩|⟨eu,el,io,hy,hS,cap,us,an,a',dr,gp,jk,iQ,jt,lm,ky,mK,l1,m9,nN,vb⟩
   ·exact .p .nil
   obtain⟨rfl,rfl⟩:=iQ rfl;simp only[pA,ib]at dr mK l1 m9;have aC:cs.length=us.length:=nN.1;have AN:w.ownsRow 0 T 1 v cs.length us:=⟨by rw[aC,pA],.inr ⟨eu,cap,hy,a',fR _,jt,gp,ky,by omega,by rw[pA,aC,m9,l1]⟩⟩
   refine .p (ownsRow.sl AN (nN.bi (bL _) (λb _=>?_) λ_ _ _ _=>rfl) λb aF=>?_)
   ·show g.E b<=if _ then _ else _
    split
    ·next e=>rw[aY b e];exact fR _
    ·exact bL _
   ·rw[a']at aF;cases aF;show(if(g.h i).ownBlock=I eu then cs.length else g.E eu)=_;rw[an];simp[Value.ownBlock]
theorem bP.JP{f:hE}{args:List bY}{tys:Array co} {T:Nat}{u:be}(ax:CY aw f ds (.p (.v u)))(bg:∀args w,(callFunc f args).run aw w=.ok (.enter f args) w)
  (q6:ρ (.func f)=I (.p (.v (.func (.func f) #[] #[])))) (kw:x6 ρ i cs.length eC cs args (g7 (b0 []) ds)) (b':m5 0 ds=ad):
  bP aw (.call {callee:=.value (.func f),args:=args.toArray,argTypes:=tys}) ty ρ [(i,.fq T 1 eC cs)] [] (.p (.v u)):=λg w H e o aU aj aO ev dH=>by
 have hi:=ev.one;obtain⟨E,hm,bp⟩:=amJ aO hi;have AB:=Ty (args:=args) (tys:=tys) (w:=w) (dH _ (by simp[dw,ji]) _ q6).ic aU bg;have q5:dp ⟨g.β,E,g.h⟩ w H (g7 (b0 []) ds) (args.map e):=by
  have ak:∀x∈args,∀u,ρ x=I u->cN g w H u (e x):=λx ak=>dH x (by simp[dw,ji,ak]);clear AB dH aU ax b';generalize g7 (b0 []) ds=r1 at kw;induction kw with
  |n=>exact .nil
  |c h k t bx=>exact .cons ((k _ _ _ _ (ak _ (by simp) _ h)).bi hm) (bx λy a9=>ak y (by simp[a9]))
  |b h t bx=>exact .cons (bp _ (ak _ (by simp) _ h)) (bx λy a9=>ak y (by simp[a9]))
 have JQ:g6 (cu.dN ⟨g.β,E,g.h⟩ (b0 [])) w []:=⟨aO.oe.bi (g':=cu.dN ⟨g.β,E,g.h⟩ (b0 [])) (H:=[]) (H':=[]) ⟨hm.size,hm.E,hm.cell,λ_ h=>h.elim,λ_ _ h=>(by cases h)⟩,λi o h=>(by cases h),λi j b h _=>h.elim⟩
 have U5:=u7 (Hc:=[]) (k0:=0) (xH.CN (H:=H) (Hc:=[]) (a1:=[]) ⟨rfl,λ_ _ h=>(by cases h)⟩) ds _ b' q5;refine .inr (.inr ⟨_,AB,.aX (Calls.mono (ax _ w _ JQ U5) ?_)⟩);rintro hG w' ⟨v,g',h5,H',rfl,⟨rfl,rfl⟩,bX,dV⟩;have aF:Below w.heap.size w w':=⟨bX.os,bX.tape,bX.output,bX.bi.size,λb aF=>(bX.iq b aF λ_ h=>h.elim).1⟩
 exact⟨v,rfl,_,cn.ML (E:=g.E) aO aF (λ_ _=>rfl),by cases dV with|p h=>cases h;exact .p .v⟩
end
section
variable {Y : gY} {Q : df -> di -> bj -> Prop} {l : ce} {H : List aN} {R : Type} {m : Option R} {T : R -> Prop} {ops : Array b_} {os rest : List b_} {t : Nat} {ty : co} {pos : String} {cT : Array jG} {dst : Option Tmp}
variable {cf bG:Nat}{z:be}
theorem bS.amK{parts:List (Nat×bY)}(i:Nat)(aj:∀w,(underlying cf).run Y.X.P w=.ok (.slice bG) w)(ap:∀w,(sizeOf bG).run Y.X.P w=.ok 1 w)(aP:∀w,(zeroValue bG).run Y.X.P w=.ok z w)(hp:parts=[])(hi:H[i]? =I .cc)(aG:h4 t Y.X.N=ad)(k:bS Y ops Q rest ((t,gs 0 i 1)::l) (H.set i (.fq bG 1 1 [])) m T):
  bS Y ops Q ({dst:=I t,op:=.buildSlice cf 0 parts.toArray,type:=ty,pos:=pos,after:=cT,guard:=aJ}::rest) l H m T:=λdt=>by
 subst hp;exact e0.ar (dst:=I t) (amG aj ap aP rfl) (fa hi) aG (k dt)
variable {i eC n:Nat}{x:bY}{α:Type}{xs:List α}
theorem bS.ac1 {bytes:Nat} {s:bY} {cO:List α}{d:V}{f:List α->Option R}(c:α->P)(aj:Y.X.P.underlying cf=I (.slice bG))(gM:(Y.X.P.info? bG).map (λi=>(i.zero,i.size,i.bytes))=I (I z,1,bytes))(aP:z.cells.size=1) (aQ:bV l s=I (gs n i eC)) (IQ:n=xs.length) (ak:bV l x=I d) (wD:d.rT=I (1,cO.length,cO.map c)) (aU:∀a,(c a).one=ad) (sM:fb (2000000*bytes) 140737488355328=ad) (a6:h4 0 cO.length=ad) (hi:H[i]? =I (.fq bG 1 eC (xs.map c))) (aG:h4 t Y.X.N=ad)
  (k:∀f',bS Y ops Q rest ((t,gs f'.length i (eC+1))::l) (H.set i (.fq bG 1 (eC+1) (f'.map c))) (f f') T):
  bS Y ops Q ({dst:=I t,op:=.call {callee:=.builtin .append,args:=#[s,x],argTypes:=#[cf,cf]},type:=ty,pos:=pos,after:=cT,guard:=aJ}::rest) l H ((A5 xs cO).bind f) T:=λdt=>by
 subst IQ;obtain⟨f',h1,h2⟩:=dt.bind;unfold A5 at h1;split at h1
 ·next hle=>
  cases h1;have ey:=ak3 (ty:=ty) (ρ:=bV l) aj gM aP aQ ak wD (λc' lI=>by obtain⟨a,_,rfl⟩:=lz.1 lI;exact aU a) (by simpa[Nat.blt_eq]using a6) hle (gE (qX _ hle) (nn sM)) (cs:=xs.map c);rw[show(xs.map c).take xs.length++cO.map c=(xs++cO).map c by rw[g4 (by simp),hT]]at ey;refine e0.ar (dst:=I t) ey (fa hi) aG ?_;have:=k (xs++cO) h2;rw[hW]at this;exact this
 ·cases h1
variable {c8:Nat}{y:bY}
theorem bS.N1 {E:Nat}{cs:List P}{K:ip}{j:Int}(xs:List α){f:{q:Nat×α // xs[q.1]? =I q.2}->Option R}(cw:∀w,(underlying cf).run Y.X.P w=.ok (.slice E) w)(aY:∀w,(sizeOf E).run Y.X.P w=.ok 1 w)(ak:bV l x=I (gs n i eC))(a9:bV l y=I (.p (.v (.int K j))))(hi:H[i]? =I (.fq c8 1 eC cs))(aG:h4 t Y.X.N=ad)
  (k:∀z:{q:Nat×α // xs[q.1]? =I q.2},bS Y ops Q rest ((t,.kr i eC z.1.1)::l) H (f z) T):bS Y ops Q ({dst:=I t,op:=.indexAddr cf x y,type:=ty,pos:=pos,after:=cT,guard:=aJ}::rest) l H ((gz n xs j).bind f) T:=λdt=>by
 obtain⟨z,h1,h2⟩:=dt.bind;exact e0.ar (dst:=I t) (amH cw aY ak a9 h1) (fa hi) aG (k _ h2)
theorem bS.ac2{c:α->P}(v:α)(q:{q:Nat×α // xs[q.1]? =I q.2})(a6:∀w,(sizeOf cf).run Y.X.P w=.ok 1 w)(ak:bV l x=I (.kr i eC q.1.1))(a9:bV l y=I (.p (c v)))(h1:(c v).one=ad)(hi:H[i]? =I (.fq c8 1 eC (xs.map c)))
  (k:bS Y ops Q rest l (H.set i (.fq c8 1 eC ((xs.set q.1.1 v).map c))) m T):bS Y ops Q ({dst:=aJ,op:=.store cf x y,type:=ty,pos:=pos,after:=cT,guard:=aJ}::rest) l H m T:=λdt=>by
 have aC:q.1.1<(xs.map c).length:=by rw[hI];exact(cz.1 q.2).1
 have ey:=alb (aw:=Y.X.P) (ty:=ty) (ρ:=bV l) (c8:=c8) a6 ak a9 (c:=c v) rfl rfl (by simpa[V.one]using h1) aC;rw[amI]at ey;exact e0.ar (dst:=aJ) ey (fa hi) rfl (k dt)
theorem bS.JP{α β:Type}{g:hE}{args:List bY}{tys:Array co}{ds:List V}{i c8 eC:Nat}{xs:List β}{u:α->be}{x:Option α}{f:α->Option R}(c:β->P)(j0:β->List P)(ax:∀z,x=I z->CY Y.X.P g ds (.p (.v (u z))))(bg:∀args w,(callFunc g args).run Y.X.P w=.ok (.enter g args) w)
  (hi:H[i]? =I (.fq c8 1 eC (xs.map c))) (he:xs.map c=xs.flatMap j0) (kw:x6 (bV l) i xs.length eC (xs.flatMap j0) args (g7 (b0 []) ds)) (b':m5 0 ds=ad) (aG:m4 Y.X.N dst=ad) (k:∀z,bS Y ops Q rest (hJ dst (.p (.v (u z))) l) H (f z) T):
  bS Y ops Q ({dst:=dst,op:=.call {callee:=.value (.func g),args:=args.toArray,argTypes:=tys},type:=ty,pos:=pos,after:=cT,guard:=aJ}::rest) l H (x.bind f) T:=λdt=>by
 obtain⟨z,h1,h2⟩:=dt.bind;have aC:xs.length=(xs.map c).length:=by simp
 rw[<-he,aC]at kw;exact e0.ar (bP.JP (ax z h1) bg rfl kw b') (fa hi) aG (k z h2)
end
section
variable {Y : gY} {Q : df -> di -> bj -> Prop} {l : ce} {H : List aN} {R : Type} {m : Option R} {T : R -> Prop}
variable {g:cu}{i eC:Nat}{w:bj}
theorem cn.FZ{H:List aN} {T:Nat}{cs:List P}{v:be}(h:g6 g w H)(hi:H[i]? =I (.fq T 1 eC cs))(bp:cN g w H (gs cs.length i eC) v):
  ∃g':cu,cn w g H g' w (H.set i (.bs T 1 (eC+1)))/\cN g' w (H.set i (.bs T 1 (eC+1))) (.cZ 1 cs.length cs i (eC+1)) v:=by
 have c4:=(cz.1 hi).1;have eR:=Nv (w:=w) hi (g:=g);cases bp with
 |gs h2 nM=>
  rcases AM h hi nM with⟨_,_,rfl,f3,rfl⟩|⟨eu,el,io,hy,hS,cap,us,an,a',dr,gp,jk,iQ,jt,lm,ky,mK,l1,m9,nN,vb⟩
  ·have b5:cn w g H g w (H.set i (.bs T 1 (eC+1))):=by
    refine cn.one h c4 rfl rfl rfl (bL _) (λb _ _=>⟨rfl,rfl⟩) (λb o _ _=>rfl) (λb _=>bL _) (λj _=>⟨rfl,rfl⟩) (λaC=>by rw[hi]at aC;exact aC.elim)
     (λnG sZ=>by rw[hi]at sZ;cases sZ;exact⟨_,rfl,A0 _,λe=>by omega⟩) (λb aF=>?_) (λei=>⟨0,[],?_,λb aF=>?_⟩)
    ·have e:(g.h i).ownBlock=I b:=aF;rw[f3]at e;cases e
    ·rw[f3];exact⟨by simp,.inl ⟨rfl,rfl⟩⟩
    ·rw[f3]at aF;cases aF
   exact⟨g,b5,.cZ .nil ⟨eC+1,by unfold e5;rw[kV c4];rfl,bL _,λ_=>f3.symm⟩⟩
  obtain⟨rfl,rfl⟩:=iQ rfl;simp only[pA,ib]at dr mK l1 m9;have aC:cs.length=us.length:=nN.1;have rW:∀b,own g H i b↔b=eu:=λb=>by rw[eR,an];simp[Value.ownBlock,eq_comm]
  have AN:w.ownsRow 0 T 1 v cs.length us:=⟨by rw[aC,pA],.inr ⟨eu,cap,hy,a',fR _,jt,gp,ky,by omega,by rw[pA,aC,m9,l1]⟩⟩
  have b5:cn w g H ⟨g.β,dT g.E eu cs.length,dT g.h i v⟩ w (H.set i (.bs T 1 (eC+1))):=by
   refine cn.one h c4 rfl rfl rfl (bL _) (λb aC mh=>⟨rfl,lg λe=>mh ((rW b).2 e)⟩) (λb o aF b'=>rfl) (λb aF=>?_) (λj ag=>⟨rfl,lg ag⟩) (λaC=>by rw[hi]at aC;exact aC.elim)
    (λnG sZ=>by rw[hi]at sZ;cases sZ;exact⟨_,rfl,A0 _,λe=>by omega⟩) (λb aF=>?_) (λei=>⟨cs.length,us,?_,λb aF=>?_⟩)
   ·rw[(rW b).1 aF,vb];exact fR _
   ·have e:(dT g.h i v i).ownBlock=I b:=aF;rw[fL,a']at e;cases e;exact .inl ((rW eu).2 rfl)
   ·show w.ownsRow 0 T 1 (dT g.h i v i) cs.length _;rw[fL];exact AN
   ·have e:(dT g.h i v i).ownBlock=I b:=aF;rw[fL,a']at e;cases e;show dT g.E eu cs.length eu=_;rw[fL];omega
  refine⟨_,b5,.cZ (ownsRow.sl AN (nN.bi b5.bi.size b5.bi.E b5.bi.cell) λb aF=>?_) ⟨eC+1,by unfold e5;rw[kV c4];rfl,bL _,λ_=>(fL _ _ _).symm⟩⟩;rw[a']at aF;cases aF;show dT g.E eu cs.length eu=_;rw[fL];omega
theorem cn.amL{H:List aN} {T:Nat}(h:g6 g w H)(hi:H[i]? =I .cc):cn w g H ⟨g.β,g.E,dT g.h i (.slice aJ 0 0)⟩ w (H.set i (.fq T 1 1 []))/\cN ⟨g.β,g.E,dT g.h i (.slice aJ 0 0)⟩ w (H.set i (.fq T 1 1 [])) (gs 0 i 1) (.slice aJ 0 0):=by
 have c4:=(cz.1 hi).1;have dL:∀b,¬own g H i b:=λb aU=>by unfold own at aU;rw[hi]at aU;exact aU
 refine⟨cn.one h c4 rfl rfl rfl (bL _) (λb _ _=>⟨rfl,rfl⟩) (λb _ aU=>absurd aU (dL b)) (λb aU=>absurd aU (dL b)) (λj ag=>⟨rfl,lg ag⟩) (λaC=>by rw[hi]at aC;exact aC.elim)
  (λm hm=>by rw[hi]at hm;cases hm) (λb aU=>?_) (λei=>?_),.gs rfl (Uc (Nx c4) (fL _ _ _))⟩
 ·have e:(dT g.h i (.slice aJ 0 0) i).ownBlock=I b:=aU;rw[fL]at e;cases e
 ·refine⟨0,[],?_,⟨rfl,λj c u ag=>by simp at ag⟩,λb aF=>?_⟩
  ·show World.ownsRow _ 0 T 1 (dT g.h i _ i) 0 [];rw[fL];exact⟨by simp,.inl ⟨rfl,rfl⟩⟩
  ·have e:(dT g.h i (.slice aJ 0 0) i).ownBlock=I b:=aF;rw[fL]at e;cases e
variable {X:jU}{a:di}{d db:V}
theorem iX.U6{H:List aN}{l:ce}{t:Nat}(a4:iX X g w H l a)(aj:c6 l t=I d)(bp:∀v,cN g w H d v->cN g w H db v):iX X g w H ((t,db)::l) a:=⟨a4.1,a4.2.1,λs d2 aG=>by
 simp only[c6]at aG;by_cases e:t=s
 ·subst e;rw[show eF t t=ad from kq t]at aG;simp only[cond_true,je]at aG;subst aG;obtain⟨v,h1,h2⟩:=a4.2.2 t _ aj;exact⟨v,h1,bp v h2⟩
 ·rw[show eF t s=aS from by rw[<-UQ];intro q;exact e (mi q)]at aG;exact a4.2.2 s d2 aG⟩
theorem iX.step {g':cu} {w':bj}{H H':List aN}{l:ce}(a4:iX X g w H l a)(m:iA g w H g' w' H'):iX X g' w' H' l a:=⟨a4.1,a4.2.1,λs d aG=>by obtain⟨v,h1,h2⟩:=a4.2.2 s d aG;exact⟨v,h1,h2.bi m⟩⟩
variable {ops:Array b_}{rest:List b_}
theorem bS.x7 {n:Nat}(t lh:Nat)(aj:c6 l t=I (gs n i eC))(a6:n=lh)(k:bS Y ops Q rest ((t,gs lh i eC)::l) H m T):bS Y ops Q rest l H m T:=λdt g w a aO a4=>by subst a6;exact k dt g w a aO (a4.U6 aj λ_ h=>h)
theorem bS.amM(t:Nat)(db:V)(aj:c6 l t=I d)(hw:hg d db)(k:bS Y ops Q rest ((t,db)::l) H m T):bS Y ops Q rest l H m T:=λdt g w a aO a4=>k dt g w a aO (a4.U6 aj λv h=>hw _ _ _ _ h)
theorem cv.FZ{c:Code}{α:Type}{i c8 eC n:Nat}{cs:List P}(t:Nat)(j0:α->List P)(xs:List α)(hi:H[i]? =I (.fq c8 1 eC cs))(bg:cs=xs.flatMap j0)(aj:c6 l t=I (gs n i eC))(a6:n=xs.length)(mh:n=cs.length)(h:cv Y c Q ((t,cZ 1 j0 xs i (eC+1))::l) (H.set i (.bs c8 1 (eC+1))) m T):cv Y c Q l H m T:=λdt g w a aO a4=>by
 subst mh;subst bg;obtain⟨v,a2,bc⟩:=a4.2.2 t _ aj;obtain⟨c9,bX,dV⟩:=cn.FZ aO.jV hi bc;have nR:=a4.step bX.bi;refine h dt c9 w a (aO.then bX) ⟨nR.1,nR.2.1,λs d aG=>?_⟩;simp only[c6]at aG;by_cases e:t=s
 ·subst e;rw[show eF t t=ad from kq t]at aG;simp only[cond_true,je]at aG;subst aG;refine⟨v,a2,?_⟩;unfold cZ;rw[<-a6];exact dV
 ·rw[show eF t s=aS from by rw[<-UQ];intro q;exact e (mi q)]at aG;exact nR.2.2 s d aG
theorem cv.amN{c:Code}(cf i s:Nat)(aj:c6 l s=I (.p (.v (.slice aJ 0 0))))(hi:H[i]? =I .cc)(h:cv Y c Q ((s,gs 0 i 1)::l) (H.set i (.fq cf 1 1 [])) m T):cv Y c Q l H m T:=λdt g w a aO a4=>by
 obtain⟨v,a2,bc⟩:=a4.2.2 s _ aj;cases bc with|p bc=>cases bc with|v=>
 obtain⟨bX,dV⟩:=cn.amL (T:=cf) aO.jV hi;have nR:=a4.step bX.bi;refine h dt _ w a (aO.then bX) ⟨nR.1,nR.2.1,λt d aG=>?_⟩;simp only[c6]at aG;by_cases e:s=t
 ·subst e;rw[show eF s s=ad from kq s]at aG;simp only[cond_true,je]at aG;subst aG;exact⟨_,a2,dV⟩
 ·rw[show eF s t=aS from by rw[<-UQ];intro q;exact e (mi q)]at aG;exact nR.2.2 t d aG
theorem cn.Di{H:List aN} {j c8:Nat}{cs:List V}(h:g6 g w H)(hi:H[i]? =I (.cells c8 cs))(ag:cs[j]? =I d)(hw:hg d db):cn w g H g w (H.set i (.cells c8 (cs.set j db))):=by
 have c4:=(cz.1 hi).1;obtain⟨us,eO,mj,aY⟩:=h.eP i _ hi;have eR:∀b,own g H i b↔b=g.β i:=λb=>by unfold own;rw[hi];exact Iff.rfl
 refine cn.one h c4 rfl rfl rfl (bL _) (λb _ _=>⟨rfl,rfl⟩) (λb o _ _=>rfl) (λb _=>bL _) (λj _=>⟨rfl,rfl⟩) (λ_=>⟨trivial,rfl⟩) (λm hm=>by rw[hi]at hm;cases hm) (λb aU=>.inl ((eR b).2 aU)) λei=>?_;obtain⟨u,hu,aO⟩:=mj.ae ag;have wn:=(mj.bi ei).set (i:=j) (hw _ _ _ _ (aO.bi ei));have AV:us.set j u=us:=by
  apply m3;intro q;rw[u4];split
  ·rename_i e;subst e;split
   ·exact hu.symm
   ·rename_i aB;rw[nD (Nat.le_of_not_lt aB)]
  ·rfl
 rw[AV]at wn;exact⟨us,eO,wn,aY⟩
theorem b7.Di{e:df}{c8:Nat}{cs:List V}{d:V}(i j:Nat)(db:V)(hi:H[i]? =I (.cells c8 cs))(ag:cs[j]? =I d)(hw:hg d db)(h:b7 Y Q e l (H.set i (.cells c8 (cs.set j db))) m T):b7 Y Q e l H m T:=λdt g w a aO a4=>by have h1:=cn.Di aO.jV hi ag hw;exact h dt g w a (aO.then h1) (a4.bi h1.bi)
theorem cv.Di{c:Code}{c8:Nat}{cs:List V}{d:V}(i j:Nat)(db:V)(hi:H[i]? =I (.cells c8 cs))(ag:cs[j]? =I d)(hw:hg d db)(h:cv Y c Q l (H.set i (.cells c8 (cs.set j db))) m T):cv Y c Q l H m T:=λdt g w a aO a4=>by have h1:=cn.Di aO.jV hi ag hw;exact h dt g w a (aO.then h1) (a4.bi h1.bi)
end
structure aA where
 n:Nat
 b1:{cd R:Type}->(cd->Option (cd ⊕ R))->cd->Option R
 ok:∀{cd R:Type}{f:cd->Option (cd ⊕ R)}{s:cd}{r:R},b1 f s=I r->fv f s=I r
noncomputable abbrev aM(n:Nat):aA:=⟨n,fv,λh=>h⟩
def N2{cd R:Type}:Nat->(cd->Option (cd ⊕ R))->cd->Option R
 |0,_,_=>aJ
 |n+1,f,s=>match f s with
  |none=>aJ
  |some (.inl s')=>N2 n f s'
  |some (.inr r)=>I r
theorem ac3{cd R:Type}{f:cd->Option (cd ⊕ R)}{r:R}:∀{n:Nat}{s:cd},N2 n f s=I r->fv f s=I r
 |0,_,h=>by cases h
 |n+1,s,h=>by
  unfold N2 at h;split at h
  ·cases h
  ·next s' e=>rw[fv.on e];exact ac3 h
  ·next h5 e=>cases h;exact fv.bu e
def U7(n:Nat):aA:=⟨n,N2 n,ac3⟩
section
variable {Y : gY} {Q : df -> di -> bj -> Prop} {l : ce} {H : List aN} {α cd R : Type} {T : R -> Prop} {body : cd -> Option (cd ⊕ R)}
theorem cv.ac4{J:aA}{c:Code}{ir:cd}(lF:α->cd)(eh:α->ce)(G:α->List aN)(fc:α)(ak:lF fc=ir)(bh:ew l (eh fc))(jr:H=G fc)
  (round:∀x n,cv Y c (xQ Y lF eh G body T n Q) (eh x) (G x) (body (lF x)) (xP body T n)):cv Y (.loop c) Q l H (J.b1 body ir) T:=λ⟨r,h1,h2⟩=>cv.loop lF eh G fc ak bh jr round ⟨r,J.ok h1,h2⟩
end
abbrev oo:=Nat×Nat×V
def vh(q:oo)(H:List aN):Prop:=match H[q.1]? with|some (.cells _ cs)=>cs[q.2.1]? =I q.2.2|_=>False
def N3(q:oo):List (Nat×aN)->Prop
 |[]=>True
 |p::r=>(match eF p.1 q.1 with|true=>(match p.2 with| .cells _ cs=>cs[q.2.1]? =I q.2.2|_=>False)|false=>True)/\N3 q r
def wE(c0:List (Nat×aN)):List oo->Prop
 |[]=>True
 |q::r=>N3 q c0/\wE c0 r
def U8(H:List aN):List oo->Prop
 |[]=>True
 |q::r=>vh q H/\U8 H r
theorem ac5{q:oo}:∀{c0:List (Nat×aN)}{H:List aN},N3 q c0->vh q H->vh q (eH H c0)
 |[],_,_,h=>h
 |(i,o)::r,H,ap,h=>by
  rw[eH];refine ac5 ap.2 ?_;have h1:=ap.1;by_cases e:i=q.1
  ·rw[show eF i q.1=ad from by subst e;exact kq _]at h1;have aC:q.1<H.length:=by
    apply Classical.byContradiction;intro a6;unfold vh at h;rw[nD (by omega)]at h;exact h
   unfold vh;rw[<-e,kV (by rw[e];exact aC)];cases o with
   |cells T cs=>exact h1
   |_=>exact h1.elim
  ·unfold vh at h⊢;rw[lf (λx=>e x.symm)];exact h
theorem ac6{c0:List (Nat×aN)}:∀{en:List oo}{q:oo},wE c0 en->q∈en->N3 q c0
 |_::_,q,h,aB=>by
  rcases qf.1 aB with rfl|aB
  ·exact h.1
  ·exact ac6 h.2 aB
theorem JR:∀{en:List oo},wE [] en
 |[]=>trivial
 |_::_=>⟨trivial,JR⟩
theorem ac7{H:List aN}:∀{en:List oo}{q:oo},U8 H en->q∈en->vh q H
 |_::_,q,h,aB=>by
  rcases qf.1 aB with rfl|aB
  ·exact h.1
  ·exact ac7 h.2 aB
variable {H:List aN}{d:V}
theorem amO{i off:Nat}(h:vh (i,off,d) H):∃T cs,H[i]? =I (.cells T cs)/\cs[off]? =I d:=by
 unfold vh at h;dsimp only at h;cases e:H[i]? with
 |none=>rw[e]at h;exact h.elim
 |some o=>
  rw[e]at h;cases o with
  |cells T cs=>exact⟨T,cs,rfl,h⟩
  |_=>exact h.elim
def amP(os:List b_)(j:Nat):Bool:=(List.range j).all λi=>Fc os j i
def jl(en:List oo)(Y:gY)(Q:df->di->bj->Prop)(eS:List b_)(rest:List b_)(l:ce)(H:List aN)(acc:List (List Nat×List Nat)):Prop:=
 ∃ms:List gy,px Y.X.P eS rest ms l/\xN ms H/\(∀k m,ms[k]? =I m->((m.ga=λ_=>True)\/∃q∈en,m.ga=vh q)/\(wE m.c0 en\/(m.ga=λ_=>True)/\ms.length=k+1/\amP eS (acc.length+k)=ad))/\rZ eS Y.X.N (acc++ms.map gy.np) eS (acc++ms.map gy.np) (sK eS []) 0=ad/\fI Y Q .normal (iN 0 rest ms (λ_=>ad) l) (gZ 0 ms (λ_=>ad) H)
variable {Q:df->di->bj->Prop}{Y:gY}{acc:List (List Nat×List Nat)}{l:ce}{eS:List b_}
theorem jl.nil{en:List oo}(ax:rZ eS Y.X.N acc eS acc (sK eS []) 0=ad)(h:fI Y Q .normal l H):jl en Y Q eS [] l H acc:=⟨[],trivial,trivial,λ_ _ h=>(by simp at h),by simpa using ax,h⟩
variable {rest:List b_}
theorem jl.cons{en:List oo}{o:b_}{m:gy}(hi:wl Y.X.P eS o l m)(ev:gx H m.dx)(hp:((m.ga=λ_=>True)\/∃q∈en,m.ga=vh q)/\wE m.c0 en)(k:jl en Y Q eS rest (hJ o.dst m.d l) (eH H m.c0) (acc++[m.np])):jl en Y Q eS (o::rest) l H acc:=by
 obtain⟨ms,h1,h2,bO,ay,bl⟩:=k;refine⟨m::ms,⟨hi,h1⟩,⟨ev,h2⟩,?_,by simpa using ay,?_⟩
 ·intro k x ak;cases k with
  |zero=>cases ak;exact⟨hp.1,.inl hp.2⟩
  |succ k=>
   obtain⟨c9,dU⟩:=bO k x (by simpa using ak);refine⟨c9,dU.imp id λ⟨ea,fN,jZ⟩=>⟨ea,by simp[fN],?_⟩⟩;rw[hW,List.length_singleton]at jZ
   rwa[show acc.length+(k+1)=acc.length+1+k by omega]
 ·rw[iN,gZ,aaW,aaX];exact bl
variable {dst:Option Tmp}{fs:Option (Nat×Bool)}{op:Op}{dx:List (Nat×aN)}{ty:co}
theorem jl.Dj{en:List oo}{pos:String}{cT:Array jG} {c0:List (Nat×aN)}(h:bP Y.X.P op ty (bV l) dx c0 d)(hi:gx H dx)(ap:wE c0 en)(b5:kH eS l fs)
  (k:jl en Y Q eS rest (hJ dst d l) (eH H c0) (acc++[(dx.map (·.1),c0.map (·.1))])):jl en Y Q eS ({dst:=dst,op:=op,type:=ty,pos:=pos,after:=cT,guard:=fs}::rest) l H acc:=by
 refine jl.cons (m:=⟨dx,c0,d,λ_=>True⟩) ?_ hi ⟨.inl rfl,ap⟩ k;cases b5 with
 |n=>exact .run rfl h.CQ
 |y ag aF=>exact .on rfl ag aF h.CQ
theorem jl.oO{en:List oo}{pos:String}{cT:Array jG}(h:bP Y.X.P op ty (bV l) dx [] d)(hi:gx H dx)(b5:kH eS l fs)
  (k:jl en Y Q eS rest (hJ dst d l) H (acc++[(dx.map (·.1),[])])):jl en Y Q eS ({dst:=dst,op:=op,type:=ty,pos:=pos,after:=cT,guard:=fs}::rest) l H acc:=jl.Dj h hi JR b5 k
def dl(en:List oo)(Y:gY)(Q:df->di->bj->Prop)(os rest:List b_)(l:ce)(H:List aN)(acc:List (List Nat×List Nat)){R:Type}(m:Option R)(T:R->Prop):Prop:=qi m T->jl en Y Q os rest l H acc
section
variable {en : List oo} {Y : gY} {Q : df -> di -> bj -> Prop} {l : ce} {H : List aN} {R : Type} {m m' : Option R} {T : R -> Prop} {ops : Array b_} {os rest : List b_} {acc : List (List Nat × List Nat)} {t : Nat} {ty : co} {pos : String} {cT : Array jG} {fs : Option (Nat × Bool)} {dst : Option Tmp}
theorem cv.ac8{id:Nat}(en:List oo)(hm:Y.X.P.follows .mixedOrders=ad)(bh:U8 H en)(h:dl en Y Q os os l H [] m T):cv Y (.region id os.toArray ad) Q l H m T:=λe=>by
 obtain⟨ms,h1,h2,bO,ay,bl⟩:=h e;have hlen:ms.length=os.length:=by
  have:∀{rest:List b_}{ms:List gy}{l:ce},px Y.X.P os rest ms l->ms.length=rest.length:=λ{rest}=>by
   induction rest with
   |nil=>intro ms l h;cases ms with|nil=>rfl|cons _ _=>exact h.elim
   |cons o r bx=>intro ms l h;cases ms with|nil=>exact h.elim|cons m ms=>simp[bx h.2]
  exact this h1
 refine eq.aaY hm ms h1 h2 (λi m hm=>?_) ay bl;have amQ:=bO i m hm;rcases amQ.1 with e|⟨q,aB,e⟩
 ·rw[e];exact⟨trivial,λj iB ag=>.inr λ_ _=>trivial⟩
 ·refine⟨by rw[e];exact ac7 bh aB,λj iB ag=>?_⟩;rcases(bO j iB ag).2 with g|⟨c9,dU,dE⟩
  ·rw[e];exact .inr λH' lD=>ac5 (ac6 g aB) lD
  ·have c4:=(cz.1 hm).1;by_cases vc:i=j
   ·subst vc;rw[hm]at ag;cases ag;rw[c9];exact .inr λ_ _=>trivial
   ·left;have:=kX.1 dE i (List.mem_range.2 (by simp;omega));simpa using this
theorem dl.nil(ax:rZ os Y.X.N acc os acc (sK os []) 0=ad)(h:b7 Y Q .normal l H m T):dl en Y Q os [] l H acc m T:=λe=>jl.nil ax (h e)
variable {cf:Nat}{d:V}{i off:Nat}{x:bY}
theorem dl.amR(k0:Nat)(cw:∀w,(isAgg cf).run Y.X.P w=.ok aS w)(ak:bV l x=I (.aV i off))(aB:en[k0]? =I (i,off,d))(k:dl en Y Q os rest ((t,d)::l) H (acc++[([],[])]) m T):dl en Y Q os ({dst:=I t,op:=.load cf x,type:=ty,pos:=pos,after:=cT,guard:=aJ}::rest) l H acc m T:=λdt=>by refine jl.cons (m:=⟨[],[],d,vh (i,off,d)⟩) (.run rfl ?_) fy ⟨.inr ⟨_,cm aB,rfl⟩,JR⟩ (k dt);intro g w H e o' aU aj aO Fz ev bg;obtain⟨c8,cs,bX,dV⟩:=amO Fz;exact(Ta (aw:=Y.X.P) (ty:=ty) (ρ:=bV l) (T:=cf) (c8:=c8) (x:=x) (i:=i) (off:=off) (d:=d) cw ak dV) g w H e o' aU aj aO (fa bX) bg
theorem dl.amS{α:Type}{g:hE}{args:List bY}{tys:Array co}{ds:List V}{Hc:List aN}{rr dd:α->V}{oh H2:α->List aN}{x:Option α}{f:α->Option R}(a1 fr ws:List Nat)(ax:∀z,x=I z->r2 Y.X.P g ds Hc (rr z) (oh z) a1 fr H (dd z) (H2 z))(bg:∀args w,(callFunc g args).run Y.X.P w=.ok (.enter g args) w)
  (kw:nL (bV l) args (g7 (b0 a1) ds)) (lC:gx H (eW (b0 a1) a1 Hc++fr.map λj=>(j,.cc))) (hu:∀z,NZ ws (eW (b0 (a1++fr)) (a1++fr) (oh z)) (eW (b0 a1) a1 Hc++fr.map λj=>(j,.cc))) (hw:∀z,((eW (b0 (a1++fr)) (a1++fr) (oh z)).filter λq=>ws.contains q.1).map (·.1)=ws) (ap:∀z,wE ((eW (b0 (a1++fr)) (a1++fr) (oh z)).filter λq=>ws.contains q.1) en) (b5:kH os l fs) (k:∀z,dl en Y Q os rest (hJ dst (dd z) l) (H2 z) (acc++[((eW (b0 a1) a1 Hc++fr.map λj=>(j,aN.cc)).map (·.1),ws)]) (f z) T):
  dl en Y Q os ({dst:=dst,op:=.call {callee:=.value (.func g),args:=args.toArray,argTypes:=tys},type:=ty,pos:=pos,after:=cT,guard:=fs}::rest) l H acc (x.bind f) T:=λdt=>by
 obtain⟨z,h1,h2⟩:=dt.bind;obtain⟨fe,hX,pE,oS⟩:=ax z h1;have hi:=bP.abh (ty:=ty) (tys:=tys) fe bg rfl kw hX;have A6:=Tp (b0 (a1++fr)) (a1++fr) (oh z) hX.af;refine jl.Dj (hi.drop λH' aO=>NY A6 (N0 (hu z) aO)) lC (ap z) b5 ?_;rw[<-NY A6 (N0 (hu z) lC),pE,oS,hw z];exact k z h2
theorem dl.gT(h:bV l x=I d)(b5:kH os l fs)(k:dl en Y Q os rest ((t,d)::l) H (acc++[([],[])]) m T):dl en Y Q os ({dst:=I t,op:=.move x,type:=ty,pos:=pos,after:=cT,guard:=fs}::rest) l H acc m T:=λdt=>jl.oO (dst:=I t) (aak h) fy b5 (k dt)
theorem dl.d'(h:bV l x=I d)(b5:kH os l fs)(k:dl en Y Q os rest ((t,d)::l) H (acc++[([],[])]) m T):dl en Y Q os ({dst:=I t,op:=.assign x,type:=ty,pos:=pos,after:=cT,guard:=fs}::rest) l H acc m T:=λdt=>jl.oO (dst:=I t) (S5 h) fy b5 (k dt)
theorem dl.dF(ak:bV l x=I (.aV i off))(b5:kH os l fs)(k:dl en Y Q os rest ((t,.aV i off)::l) H (acc++[([],[])]) m T):dl en Y Q os ({dst:=I t,op:=.nilCheck x,type:=ty,pos:=pos,after:=cT,guard:=fs}::rest) l H acc m T:=λdt=>jl.oO (dst:=I t) (MN ak) fy b5 (k dt)
theorem dl.amT {c8:Nat}{cs:List V}(cw:∀w,(isAgg cf).run Y.X.P w=.ok aS w)(ak:bV l x=I (.aV i off))(hi:H[i]? =I (.cells c8 cs))(ax:cs[off]? =I d)(b5:kH os l fs)(k:dl en Y Q os rest ((t,d)::l) H (acc++[([i],[])]) m T):dl en Y Q os ({dst:=I t,op:=.load cf x,type:=ty,pos:=pos,after:=cT,guard:=fs}::rest) l H acc m T:=λdt=>jl.oO (dst:=I t) (Ta cw ak ax) (fa hi) b5 (k dt)
theorem dl.aH{α:Type}{cf E k:Nat}{e:α->List P}{x y:bY}{K:ip}{j:Int}{d:V}{xs:List α}{f:α->Option R}(cw:∀w,(underlying cf).run Y.X.P w=.ok (.slice E) w)(aY:∀w,(sizeOf E).run Y.X.P w=.ok k w)(ak:bV l x=I d)(a9:bV l y=I (.p (.v (.int K j))))(aQ:V.nJ k e d xs)(ap:∀x,(e x).length=k)(b5:kH os l fs)(k:∀z:α,dl en Y Q os rest ((t,.bG (e z))::l) H (acc++[([],[])]) (f z) T):dl en Y Q os ({dst:=I t,op:=.indexAddr cf x y,type:=ty,pos:=pos,after:=cT,guard:=fs}::rest) l H acc ((aH xs j).bind f) T:=λdt=>by
 obtain⟨z,h1,h2⟩:=dt.bind
 skip
 exact jl.oO (dst:=I t) (Ng cw aY ak a9 aQ ap (AI h1).1 (AI h1).2) fy b5 (k _ h2)
variable {S:Nat}{cs:List P}
theorem dl.amU {f:Nat}(bg:∀w a,(IU S (.pointer (I a)) f).run Y.X.P w=.ok (.pointer (I (a.add off))) w)(ak:bV l x=I (.bG cs))(aC:fb off cs.length=ad)(b5:kH os l fs)(k:dl en Y Q os rest ((t,.bG (cs.drop off))::l) H (acc++[([],[])]) m T):dl en Y Q os ({dst:=I t,op:=.fieldAddr S x f,type:=ty,pos:=pos,after:=cT,guard:=fs}::rest) l H acc m T:=λdt=>jl.oO (dst:=I t) (aax bg ak aC) fy b5 (k dt)
theorem dl.U9 {f o:Nat}(bg:∀w a,(IU S (.pointer (I a)) f).run Y.X.P w=.ok (.pointer (I (a.add off))) w)(ak:bV l x=I (.aV i o))(b5:kH os l fs)(k:dl en Y Q os rest ((t,.aV i (o+off))::l) H (acc++[([],[])]) m T):dl en Y Q os ({dst:=I t,op:=.fieldAddr S x f,type:=ty,pos:=pos,after:=cT,guard:=fs}::rest) l H acc m T:=λdt=>jl.oO (dst:=I t) (aaw bg ak) fy b5 (k dt)
theorem dl.ac9{cf:co}{c:P}(cw:∀w,(isAgg cf).run Y.X.P w=.ok aS w)(ak:bV l x=I (.bG cs))(ax:cs[0]? =I c)(b5:kH os l fs)(k:dl en Y Q os rest ((t,.p c)::l) H (acc++[([],[])]) m T):dl en Y Q os ({dst:=I t,op:=.load cf x,type:=ty,pos:=pos,after:=cT,guard:=fs}::rest) l H acc m T:=λdt=>jl.oO (dst:=I t) (aay cw ak ax) fy b5 (k dt)
end
def rb(n:Nat)(a:Int):Option {z:Nat // z<=n}:=if h:0<=a/\a<=n then I ⟨a.toNat,by omega⟩else aJ
theorem ada{n:Nat}{a:Int}{z:{z:Nat // z<=n}}(h:rb n a=I z):0<=a/\a<=n/\z.1=a.toNat:=by
 unfold rb at h;split at h
 ·next gf=>cases h;exact⟨gf.1,gf.2,rfl⟩
 ·cases h
section
variable {Y : gY} {Q : df -> di -> bj -> Prop} {l : ce} {H : List aN} {R : Type} {m : Option R} {T : R -> Prop} {ops : Array b_} {os rest : List b_} {t : Nat} {ty : co} {pos : String} {cT : Array jG} {dst : Option Tmp}
variable {E:Nat}{K:ip}{c8 cf:Nat}{cs:List P}{i eC n:Nat}{x:bY}
theorem bS.amV {lo:bY}{a:Int}{f:{z:Nat // z<=n}->Option R}(cw:∀w,(underlying cf).run Y.X.P w=.ok (.slice E) w)(aY:∀w,(sizeOf E).run Y.X.P w=.ok 1 w)(ak:bV l x=I (gs n i eC))(aC:bV l lo=I (.p (.v (.int K a))))(hi:H[i]? =I (.fq c8 1 eC cs))(aG:h4 t Y.X.N=ad)
  (k:∀z:{z:Nat // z<=n},bS Y ops Q rest ((t,.gs 1 (n-z.1) i eC z.1)::l) H (f z) T):bS Y ops Q ({dst:=I t,op:=.slice cf x (I lo) aJ aJ,type:=ty,pos:=pos,after:=cT,guard:=aJ}::rest) l H ((rb n a).bind f) T:=λdt=>by
 obtain⟨z,h1,h2⟩:=dt.bind;obtain⟨a2,bc,cR⟩:=ada h1;have ey:=abG (aw:=Y.X.P) (ty:=ty) (ρ:=bV l) (lo:=I lo) (hi:=aJ) (l:=a) (h:=n) (c8:=c8) (cs:=cs) cw aY ak (λcap ax=>⟨λy a9=>(by cases a9;exact⟨K,aC⟩),λe=>(by cases e),λy a9=>(by cases a9),λ_=>⟨rfl,rfl⟩,λy a9=>(by cases a9),λ_=>rfl,a2,bc,(by omega),g_ _⟩) (g_ _);rw[dA,ib,<-cR]at ey;exact e0.ar (dst:=I t) ey (fa hi) aG (k z h2)
theorem bS.amW {tY:bY}{b:Int}{f:{z:Nat // z<=n}->Option R}(cw:∀w,(underlying cf).run Y.X.P w=.ok (.slice E) w)(aY:∀w,(sizeOf E).run Y.X.P w=.ok 1 w)(ak:bV l x=I (gs n i eC))(gf:bV l tY=I (.p (.v (.int K b))))(hi:H[i]? =I (.fq c8 1 eC cs))(aG:h4 t Y.X.N=ad)
  (k:∀z:{z:Nat // z<=n},bS Y ops Q rest ((t,gs z.1 i eC)::l) H (f z) T):bS Y ops Q ({dst:=I t,op:=.slice cf x aJ (I tY) aJ,type:=ty,pos:=pos,after:=cT,guard:=aJ}::rest) l H ((rb n b).bind f) T:=λdt=>by
 obtain⟨z,h1,h2⟩:=dt.bind;obtain⟨a2,bc,cR⟩:=ada h1;have ey:=abG (aw:=Y.X.P) (ty:=ty) (ρ:=bV l) (lo:=aJ) (hi:=I tY) (l:=0) (h:=b) (c8:=c8) (cs:=cs) cw aY ak (λcap ax=>⟨λy a9=>(by cases a9),λ_=>rfl,λy a9=>(by cases a9;exact⟨K,gf⟩),λe=>(by cases e),λy a9=>(by cases a9),λ_=>rfl,g_ _,a2,(by omega),g_ _⟩) bc;rw[show(0:Int).toNat=0 from rfl,Nat.sub_zero,ib,<-cR]at ey;exact e0.ar (dst:=I t) ey (fa hi) aG (k z h2)
variable {off:Nat}{α:Type}{xs:List α}
theorem bS.amX{mJ:be}(c:α->P)(JS:α)(cw:∀w,(underlying cf).run Y.X.P w=.ok (.slice E) w)(aP:∀w,(zeroValue E).run Y.X.P w=.ok mJ w)(pD:oK mJ=ad)(ax:c JS=.v mJ)(ak:bV l x=I (.gs 1 n i eC off))(aC:off+n=xs.length)(hi:H[i]? =I (.fq c8 1 eC (xs.map c)))(aG:m4 Y.X.N dst=ad)
  (k:bS Y ops Q rest (hJ dst (.p (.v undef)) l) (H.set i (.fq c8 1 eC ((xs.take off++cC n JS).map c))) m T):bS Y ops Q ({dst:=dst,op:=.call {callee:=.builtin .clear,args:=#[x],argTypes:=#[cf]},type:=ty,pos:=pos,after:=cT,guard:=aJ}::rest) l H m T:=λdt=>by
 have ey:=ale (aw:=Y.X.P) (ty:=ty) (ρ:=bV l) (c8:=c8) (cs:=xs.map c) cw aP pD ak (by rw[hI];omega);rw[List.drop_eq_nil_of_le (by rw[hI];omega),List.append_nil,<-ax,<-acH,<-List.map_replicate,<-hT]at ey;exact e0.ar (dst:=dst) ey (fa hi) aG (k dt)
theorem bS.adb(c:α->P)(z:{q:Nat×α // xs[q.1]? =I q.2})(cw:∀w,(isAgg cf).run Y.X.P w=.ok aS w)(ak:bV l x=I (.kr i eC z.1.1))(hi:H[i]? =I (.fq c8 1 eC (xs.map c)))(aG:h4 t Y.X.N=ad)
  (k:bS Y ops Q rest ((t,.p (c z.1.2))::l) H m T):bS Y ops Q ({dst:=I t,op:=.load cf x,type:=ty,pos:=pos,after:=cT,guard:=aJ}::rest) l H m T:=λdt=>by
 have ey:=ak9 (aw:=Y.X.P) (ty:=ty) (ρ:=bV l) (c8:=c8) (cs:=xs.map c) (c:=c z.1.2) cw ak (by rw[gQ,z.2];rfl);exact e0.ar (dst:=I t) ey (fa hi) aG (k dt)
theorem bS.adc(cw:∀w,(underlying cf).run Y.X.P w=.ok (.slice E) w)(ak:bV l x=I (.gs 1 n i eC off))(hi:H[i]? =I (.fq c8 1 eC cs))(aG:h4 t Y.X.N=ad)
  (k:bS Y ops Q rest ((t,aL n)::l) H m T):bS Y ops Q ({dst:=I t,op:=.call {callee:=.builtin .len,args:=#[x],argTypes:=#[cf]},type:=ty,pos:=pos,after:=cT,guard:=aJ}::rest) l H m T:=λdt=>by
 exact e0.ar (dst:=I t) (alc (aw:=Y.X.P) (ty:=ty) (ρ:=bV l) (c8:=c8) (cs:=cs) cw ak) (fa hi) aG (k dt)
theorem cn.U_{g:cu}{w:bj}{H:List aN} {T:Nat}{v:be}(h:g6 g w H)(hi:H[i]? =I (.fq T 1 eC cs))(a6:n<=cs.length)(bp:cN g w H (gs n i eC) v):
  ∃g':cu,cn w g H g' w (H.set i (.fq T 1 (eC+1) (cs.take n)))/\cN g' w (H.set i (.fq T 1 (eC+1) (cs.take n))) (gs n i (eC+1)) v:=by
 have c4:=(cz.1 hi).1;have eR:=Nv (w:=w) hi (g:=g);cases bp with
 |gs h2 nM=>
  have key:∃wq,w.ownsRow 0 T 1 v n wq/\fH g.E w (cs.take n) wq/\v.ownBlock=(g.h i).ownBlock/\((n=0/\v=.slice aJ 0 0)\/∃b cap,v=.slice (I ⟨b,0,aJ⟩) n cap/\n<=cap):=by
   rcases AM h hi nM with⟨rfl,_,rfl,cR,rfl⟩|⟨eu,el,io,hy,hS,cap,AL,an,a',dr,gp,jk,iQ,jt,lm,ky,mK,l1,m9,nN,vb⟩
   ·exact⟨[],⟨by simp,.inl ⟨rfl,rfl⟩⟩,⟨rfl,λj c u ag=>by simp at ag⟩,by rw[cR],.inl ⟨rfl,rfl⟩⟩
   ·obtain⟨rfl,rfl⟩:=iQ rfl;simp only[pA,ib]at dr mK l1 m9;exact⟨AL.take n,⟨by simp[m9,dr],.inr ⟨eu,cap,hy,a',fR _,jt,gp,ky,by omega,by rw[pA,<-l1,qo,l0 dr]⟩⟩,nN.take n,by rw[an,a'];rfl,.inr ⟨eu,cap,a',gp⟩⟩
  obtain⟨wq,bX,dV,dQ,lj⟩:=key;obtain⟨q,us,aU,gl,aY⟩:=h.eP i _ hi;have b5:cn w g H ⟨g.β,g.E,dT g.h i v⟩ w (H.set i (.fq T 1 (eC+1) (cs.take n))):=by
   refine cn.one h c4 rfl rfl rfl (bL _) (λb _ _=>⟨rfl,rfl⟩) (λb o _ _=>rfl) (λb _=>bL _) (λj ag=>⟨rfl,lg ag⟩) (λaC=>by rw[hi]at aC;exact aC.elim)
    (λnG sZ=>by rw[hi]at sZ;cases sZ;exact⟨_,rfl,A0 _,λe=>by omega⟩) (λb aF=>?_) (λei=>⟨n,wq,?_,dV.bi ei.size ei.E ei.cell,λb aF=>?_⟩)
   ·have e:(dT g.h i v i).ownBlock=I b:=aF;rw[fL,dQ]at e;exact .inl ((eR b).2 e)
   ·show w.ownsRow 0 T 1 (dT g.h i v i) n wq;rw[fL];exact bX
   ·have e:(dT g.h i v i).ownBlock=I b:=aF;rw[fL,dQ]at e;exact aY b e
  refine⟨_,b5,.gs h2 ?_⟩;have ax:=Nx (H:=H) (i:=i) (T:=T) (k:=1) (m:=eC+1) (cs:=cs.take n) c4;rcases lj with⟨rfl,rfl⟩|⟨b,cap,rfl,CH⟩
  ·exact Uc ax (fL _ _ _)
  ·exact Nw ax ⟨b,n,cap,0,cap,fL _ _ _,rfl,by omega,CH,.inr rfl,λ_=>⟨rfl,rfl⟩⟩
end
def D{α:Type}(m:Option α)(P:α->Prop):Prop:=∃r,m=I r/\P r
def jv{cd R:Type}(A:cd->Prop)(P:R->Prop):cd ⊕ R->Prop| .inl s=>A s| .inr r=>P r
section
variable {α β cd R bv : Type} {P : α -> Prop} {Q : β -> Prop} {A : cd -> Prop} {T : R -> Prop} {m : Option β} {f : β -> Option α} {a b : Option α}
theorem D.ret{r:α}(h:P r):D (I r) P:=⟨r,rfl,h⟩
theorem D.bind(h:D m Q)(k:∀z,Q z->D (f z) P):D (m.bind f) P:=by obtain⟨r,e,q⟩:=h;rw[e];exact k r q
theorem D.ae{z:β}(h:m=I z)(k:D (f z) P):D (m.bind f) P:=by rw[h];exact k
theorem D.map{g:β->α}(h:D m λz=>P (g z)):D (m.map g) P:=by obtain⟨r,e,q⟩:=h;rw[e];exact⟨_,rfl,q⟩
theorem D.mono{vi:α->Prop}(h:D a P)(k:∀z,P z->vi z):D a vi:=by obtain⟨r,e,q⟩:=h;exact⟨r,e,k r q⟩
theorem D.bK{c:Bool}(h1:c=ad->D a P)(h2:c=aS->D b P):D (if c=ad then a else b) P:=by
 cases c
 ·exact h2 rfl
 ·exact h1 rfl
theorem D.ar{p:Prop} [Decidable p](h1:p->D a P)(h2:¬p->D b P):D (if decide p=ad then a else b) P:=by
 by_cases h:p
 ·rw[if_pos (by simpa using h)];exact h1 h
 ·rw[if_neg (by simpa using h)];exact h2 h
theorem D.dB{p:Prop} [Decidable p](h1:¬p->D a P)(h2:p->D b P):D (if(!decide p)=ad then a else b) P:=by
 by_cases h:p
 ·rw[if_neg (by simpa using h)];exact h2 h
 ·rw[if_pos (by simpa using h)];exact h1 h
theorem D.aX{r:α}(h:a=I r)(k:P r):D a P:=⟨r,h,k⟩
theorem D.br{r:α}(h:D a (· =r)):a=I r:=by obtain⟨z,e,rfl⟩:=h;exact e
theorem D.inl{s:cd}(h:A s):D (I (Sum.inl s:cd ⊕ R)) (jv A T):=⟨_,rfl,h⟩
theorem D.inr{r:R}(h:T r):D (I (Sum.inr r:cd ⊕ R)) (jv A T):=⟨_,rfl,h⟩
theorem D.bu{m:Option R}(h:D m T):D (m.map (Sum.inr:R->cd ⊕ R)) (jv A T):=by obtain⟨r,e,q⟩:=h;rw[e];exact⟨_,rfl,q⟩
variable {body : cd -> Option (cd ⊕ R)}
theorem D.b1(eh:cd->Prop)(rM :cd->Nat){s:cd}(h:∀s,eh s->D (body s) (jv (λs'=>eh s'/\ rM s'< rM s) T))(bh:eh s):D (fv body s) T:=by
 generalize a6: rM s=n;induction n using Nat.strongRecOn generalizing s with
 |ind n bx=>
  obtain⟨r,e,q⟩:=h s bh;cases r with
  |inl s'=>rw[fv.on e];exact bx _ (by rw[<-a6];exact q.2) q.1 rfl
  |inr r=>rw[fv.bu e];exact⟨r,rfl,q⟩
theorem D.for(n:Nat)(st:Nat->bv->cd)(eq:Nat->bv->Prop){s:cd}{t0:bv}(e:s=st 0 t0)(bh:eq 0 t0)(h:∀k t,k<n->eq k t->D (body (st k t)) (jv (λs'=>∃hs,s'=st (k+1) hs/\eq (k+1) hs) T))
  (he:∀t,eq n t->D (body (st n t)) (jv (λ_=>False) T)):D (fv body s) T:=by
 have key:∀d k t,k+d=n->eq k t->D (fv body (st k t)) T:=by
  intro d;induction d with
  |zero=>
   intro k t ap ag;obtain rfl:k=n:=by omega
   obtain⟨r,e,q⟩:=he t ag;cases r with
   |inl s'=>exact q.elim
   |inr r=>rw[fv.bu e];exact⟨r,rfl,q⟩
  |succ d bx=>
   intro k t ap ag;obtain⟨r,e,q⟩:=h k t (by omega) ag;cases r with
   |inl s'=>obtain⟨hs,rfl,kU⟩:=q;rw[fv.on e];exact bx _ _ (by omega) kU
   |inr r=>rw[fv.bu e];exact⟨r,rfl,q⟩
 subst e;exact key n 0 t0 (by omega) bh
theorem fv.congr{U':cd->Option (cd ⊕ R)}(eh:cd->Prop)(h:∀s,eh s->body s=U' s)(bH:∀s s',eh s->body s=I (.inl s')->eh s'){s:cd}(bh:eh s):fv body s=fv U' s:=by
 have one:∀{hF gI:cd->Option (cd ⊕ R)},(∀s,eh s->hF s=gI s)->(∀s s',eh s->hF s=I (.inl s')->eh s')->∀{n s r},eh s->qj hF n s r->fv gI s=I r:=by
  intro hF gI h bH n s r bh aO;induction aO with
  |bu e=>exact fv.bu (by rw[<-h _ bh];exact e)
  |on e k bx=>rw[fv.on (s':=_) (by rw[<-h _ bh];exact e)];exact bx (bH _ _ bh e)
 cases a2:fv body s with
 |some r=>obtain⟨n,a6⟩:=fv.Jd a2;exact(one h bH bh a6).symm
 |none=>
  cases bc:fv U' s with
  |none=>rfl
  |some r=>obtain⟨n,a6⟩:=fv.Jd bc;have:=one (λs aQ=>(h s aQ).symm) (λs s' aQ e=>bH s s' aQ (by rw[h s aQ];exact e)) bh a6;rw[a2]at this;cases this
end
section
variable {α β : Type} {P : β -> Prop} {xs : List α} {f : α -> Option β}
theorem D.aH{i:Nat}{x:α}(h:xs[i]? =I x)(k:D (f x) P):D ((aH xs (i:Int)).bind f) P:=D.ae (e7 h) k
theorem D.hA{i:Nat}(h:i<xs.length)(k:∀x,xs[i]? =I x->D (f x) P):D ((Dp.aH xs (i:Int)).bind f) P:=D.ae (acf h) (k _ (bN h))
theorem D.x8{j:Int}(bh:0<=j)(h:j<xs.length)(k:∀x,xs[j.toNat]? =I x->D (f x) P):D ((Dp.aH xs j).bind f) P:=D.ae (acg bh (by omega)) (k _ (bN _))
theorem D.gW{s:ByteArray}{g:Int->Option β}{i:Nat}(h:i<s.size)(k:∀b:UInt8,s[i]? =I b->D (g (b.toNat:Int)) P):D ((Dp.gW s (i:Int)).bind g) P:=by have e:s[i]? =I s[i]:=getElem?_pos s i h;refine D.ae (z:=((s[i]).toNat:Int)) ?_ (k _ e);unfold Dp.gW;rw[if_pos (by omega)];simp[e]
end
@[simp] theorem Dk{n:Nat}{cd R:Type}(f:cd->Option (cd ⊕ R))(s:cd):(aM n).b1 f s=fv f s:=rfl
theorem bw{k:Nat}(h:k< 9223372036854775807):az ((k:Int)+1)=((k+1:Nat):Int):=by rw[b3 (by omega) (by omega)];omega
theorem vj{k:Nat}(h:k< 9223372036854775807):az ((k:Int)- 1)=(k:Int)- 1:=by rw[b3 (by omega) (by omega)]
end Go.Dp

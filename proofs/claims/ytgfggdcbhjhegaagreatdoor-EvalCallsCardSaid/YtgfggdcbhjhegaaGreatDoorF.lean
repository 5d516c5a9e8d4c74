/- Code beside a function that may fail: rows that are made, copied into, cut, and handed on. -/
import Derived.Test.YtgfggdcbhjhegaaGreatDoorE
set_option linter.all false
namespace Go.Dp
open Go Go.Mi Go.RowKit
open Bool renaming true->ah,false->aQ,not_eq_true->XU
open Go renaming Operand->bM,TypeId->b3,Value->a4,World->bb,Oper->bU,Exit->cN,Program->cj,IntKind->hv,FuncId->gh,Act->cO,Edge->ie,Deferred->lE
open Go.Builtin renaming lenOf->yS,firstCells->Ek
open Go.Call renaming operands->iZ
open Go.Instr renaming sliceBounds->qg,sliceBound->n7,mapEntry->XV,sliceAt->vm,fieldAt->El,slice->vn
open Go.MapKept renaming run_setObj_map->xa,run_getObj_map->s8
open Go.Op renaming operands->c_
open Go.Result renaming andThen->ce
open Go.Sem renaming run_bind->ck,run_pure->it
open List renaming getElem?_eq_some_iff->cz,map_map->kk,length_take->jf,getElem?_map->fv,getElem?_eq_getElem->cq,flatMap_cons->iX,length_map->h6,take_of_length_le->fz,replicate->dm,mem_of_getElem?->cC,mem_cons->n4,length_append->ky,nodup_cons->oK,map_append->lk,getD_eq_getElem?_getD->p9,map_cons->gI,map_set->zd,set_append_right->XW,getElem?_eq_none->n1,flatMap_append->XX,mem_cons_self->ra,getElem?_take->kx,getElem?_set->rT,ext_getElem?->mr,length_drop->qW,length_cons->pn,all_eq_true->kj,mem_map->lH,map_nil->oc,take->uB
open Nat renaming le_refl->b5,le_of_ble_eq_true->lI,mul_le_mul_right->oE,add_mul->jD,zero_le->gx,mul_one->q4,zero_add->hD,ble->ev,beq_refl->jp,min_eq_left->Ja,beq->d',one_mul->y6,add_sub_cancel_left->XY,add_comm->qX,eq_of_beq_eq_true->kz,blt->fV,min_comm->XZ,le_trans->jC
open Option renaming some->D,none->aF,map_some->lV
open Option.some renaming injEq->hX
theorem X0:∀(ds:List V)(cs:List V)(off:Nat),off+ds.length<=cs.length->oL cs off ds=cs.take off++ds++cs.drop (off+ds.length)
 |[],cs,off,_=>by simp[oL]
 |d::ds,cs,off,h=>by
  simp only[pn]at h;rw[oL,X0 ds (cs.set off d) (off+1) (by simp;omega)];have h1:(cs.set off d).take (off+1)=cs.take off++[d]:=by rw[List.take_set,List.take_add_one,cq (by omega)];simp only[Option.toList];rw[XW _ _ (by rw[jf];omega)];rw[jf,Ja (by omega),Nat.sub_self];rfl
  have h2:(cs.set off d).drop (off+1+ds.length)=cs.drop (off+(ds.length+1)):=by rw[List.drop_set_of_lt (by omega)];congr 1;omega
  rw[h1,h2];simp
def mD{α:Type}(xs:List α)(off n:Nat)(cX:List α):Option (List α):=if off+n<=xs.length then D (xs.take off++cX.take n++xs.drop (off+min cX.length n))else aF
def te{α:Type}(xs:List α)(off n uC hF:Nat):Option (List α):=if uC+hF<=xs.length then mD xs off n ((xs.drop uC).take hF)else aF
theorem PZ{α:Type}{xs cX e':List α}{off n:Nat}(h:mD xs off n cX=D e'):off+n<=xs.length/\e'=xs.take off++cX.take n++xs.drop (off+min cX.length n):=by
 unfold mD at h;split at h
 ·cases h;exact⟨by assumption,rfl⟩
 ·cases h
section
variable {α : Type} {e : α -> List P} {k : Nat}
theorem r8(he:∀x,(e x).length=k):∀xs:List α,(xs.flatMap e).length=xs.length*k
 |[]=>by simp
 |x::xs=>by rw[iX,ky,he,r8 he xs,pn,jD,y6,qX]
theorem BU(he:∀x,(e x).length=k):∀(xs:List α)(n:Nat),(xs.take n).flatMap e=(xs.flatMap e).take (n*k)
 |[],n=>by simp
 |x::xs,0=>by simp
 |x::xs,n+1=>by
  have a5:(n+1)*k=k+n*k:=by rw[jD,y6,qX]
  rw[List.take_succ_cons,iX,iX,BU he xs n,a5,List.take_append,he,fz (by rw[he];omega:(e x).length<=k+n*k),XY]
theorem P0(he:∀x,(e x).length=k):∀(xs:List α)(n:Nat),(xs.drop n).flatMap e=(xs.flatMap e).drop (n*k)
 |[],n=>by simp
 |x::xs,0=>by simp
 |x::xs,n+1=>by
  have a5:(n+1)*k=k+n*k:=by rw[jD,y6,qX]
  rw[List.drop_succ_cons,iX,P0 he xs n,a5,List.drop_append,he,List.drop_of_length_le (by rw[he];omega:(e x).length<=k+n*k),XY];rfl
theorem P1(a1:∀x,(e x).all P.one=ah):∀xs:List α,(xs.flatMap e).all P.one=ah
 |[]=>rfl
 |x::xs=>by rw[iX,List.all_append,a1,P1 a1 xs];rfl
theorem X1{x:α}(he:∀x,(e x).length=k):∀(n j:Nat),j<n*k->((dm n x).flatMap e)[j]? =(e x)[j%k]?
 |0,j,h=>by omega
 |n+1,j,h=>by
  rw[List.replicate_succ,iX];by_cases ae:j<k
  ·rw[List.getElem?_append_left (by rw[he];exact ae),Nat.mod_eq_of_lt ae]
  ·rw[jD,y6]at h;rw[List.getElem?_append_right (by rw[he];omega),he,X1 he n (j-k) (by omega),<-Nat.mod_eq_sub_mod (by omega)]
end
section
variable {av : cj} {ty : b3} {ρ : bM -> Option V}
theorem X2{T b1 bA s i off n c m2 fL dF:Nat}{cs ds:List P}{cV:List (Nat×aG)}{x y:bM}{d:V}(cc:∀w,(underlying T).run av w=.ok (.slice bA) w)(aS:∀w,(sizeOf bA).run av w=.ok s w)(ar:ρ x=D (.dX i off n c))(bh:ρ y=D d)
  (ao:(i,aG.bu dF cs)∈cV) (hle:off+ds.length<=cs.length) (h1:ds.all P.one=ah) (P2:Nat.min m2 n=fL)
  (ahW:∀g w H u,gm g w H->fq H cV->cD g w H d u->∃vs:List a4,(yS u).run av w=.ok m2 w/\(Ek s fL u).run av w=.ok vs.toArray w/\e_ g.E w ds vs):
  bE av (.call {callee:=.builtin .copy,args:=#[x,y],argTypes:=#[T,b1]}) ty ρ cV [(i,.bu dF (cs.take off++ds++cs.drop (off+ds.length)))] (aI fL):=λg w H e o a1 _ aM dY c1=>by
 have a5:=c1 x (by simp[c_,iZ]) _ ar;have bk:=c1 y (by simp[c_,iZ]) _ bh;obtain⟨vs,fH,iC,iS⟩:=ahW g w H _ aM dY bk;have oO:H[i]? =D (.bu dF cs):=dY _ ao;obtain⟨us,dw,aP,_⟩:=aM.ec i _ oO;have H_:=iS.1;have no:=aP.1;have pr:(ds.map V.p).all V.one=ah:=by rw[List.all_map];exact h1
 obtain⟨w',s1,s2,s6⟩:=D7 (P:=av) (o:=off) vs 0 us w dw ((iS.Bg (H:=H)).one pr) (by omega);have ta:e_ g.E w (cs.take off++ds++cs.drop (off+ds.length)) (Mi.oG us off vs):=by refine Ew (H:=H) ?_;have:=cU.oG (o:=off) (aP.Bg (H:=H)) (iS.Bg (H:=H));rw[X0 _ _ _ (by simp;omega)]at this;simpa[List.map_take,List.map_drop]using this
 generalize aE:e x=u at a5;cases a5 with
 |dX bg=>refine .inl ⟨.int .i64 fL,w',?_,g,b'.VB aM oO s2 s6 ta,.v _⟩;unfold execOp;rw[a1];simp[resolve,invoke,builtin,Builtin.copy_,aE,cc,aS,fH,P2,iC,s1,goInt,ck,ce]
section
variable {α : Type} {e : α -> List P} {T b1 bA k i n c dF : Nat} {x y : bM} {d : V} {xs cX e' : List α} {f : List α -> List P}
theorem X3{off:Nat}(he:∀x,(e x).length=k)(bj:mD xs off n cX=D e'):e'.flatMap e=(xs.flatMap e).take (off*k)++(cX.take n).flatMap e++(xs.flatMap e).drop (off*k+((cX.take n).flatMap e).length):=by obtain⟨_,rfl⟩:=PZ bj;rw[XX,XX,BU he,P0 he,r8 he (cX.take n),jf,XZ n,jD]
theorem Jb(off:Nat)(cc:∀w,(underlying T).run av w=.ok (.slice bA) w)(aS:∀w,(sizeOf bA).run av w=.ok k w)(he:∀x,(e x).length=k)(a1:∀x,(e x).all P.one=ah)(a8:∀xs,f xs=xs.flatMap e)(ar:ρ x=D (.dX i (off*k) n c))(bh:ρ y=D d)(az:V.lZ k e d cX)(bj:mD xs off n cX=D e'):
  bE av (.call {callee:=.builtin .copy,args:=#[x,y],argTypes:=#[T,b1]}) ty ρ [(i,.bu dF (f xs))] [(i,.bu dF (f e'))] (aI (min cX.length n:Nat)):=by
 obtain⟨h1,h2⟩:=PZ bj;rw[a8,a8,X3 he bj];refine X2 (m2:=cX.length) cc aS ar bh (ra ..) ?_ (P1 a1 _) rfl λg w H u aM dY hu=>?_
 ·rw[r8 he,r8 he,jf,<-jD];exact oE _ (by omega)
 ·have rU:=hu.pB az;rcases rU.rR with⟨⟨oH,rfl⟩,ep,fD⟩|⟨gi,o',cap,us,rfl,ep,fD,iF,tb,X4,ahX⟩
  ·have:cX=[]:=List.length_eq_zero_iff.1 ep;subst this;exact⟨[],by simp[yS],by cases oH<;>simp[Ek,loadCells,loadCellsFrom],by simp[e_]⟩
  ·have aK:=X4.1;rw[BU he];have hmul:min cX.length n*k<=cX.length*k:=oE _ (Nat.min_le_left _ n);have ahY:(cX.flatMap e).take (n*k)=(cX.flatMap e).take (min cX.length n*k):=by
    rw[<-BU he,<-BU he];congr 1;by_cases fG:cX.length<=n
    ·rw[Ja fG,fz fG,fz (b5 _)]
    ·rw[Nat.min_eq_right (by omega)]
   rw[ahY];refine⟨us.take (min cX.length n*k),by simp[yS],run_firstCells_some _ _ _ _ _ _ _ (by rw[jf,<-aK,tb];exact Ja hmul) (λq v aE=>?_),X4.take _⟩;rw[kx]at aE;split at aE
   ·rw[qb];exact ahX q v aE
   ·cases aE
theorem P3{hF jb:Nat}(off uC:Nat)(cc:∀w,(underlying T).run av w=.ok (.slice bA) w)(aS:∀w,(sizeOf bA).run av w=.ok k w)(he:∀x,(e x).length=k)(a1:∀x,(e x).all P.one=ah)(a8:∀xs,f xs=xs.flatMap e)(ar:ρ x=D (.dX i (off*k) n c))(bh:ρ y=D (.dX i (uC*k) hF jb))(bj:te xs off n uC hF=D e'):
  bE av (.call {callee:=.builtin .copy,args:=#[x,y],argTypes:=#[T,b1]}) ty ρ [(i,.bu dF (f xs))] [(i,.bu dF (f e'))] (aI (min hF n:Nat)):=by
 unfold te at bj;split at bj
 ·rename_i bw;obtain⟨h1,h2⟩:=PZ bj;have no:((xs.drop uC).take hF).length=hF:=by rw[jf,qW];omega
  rw[a8,a8,X3 he bj];refine X2 (m2:=hF) cc aS ar bh (ra ..) ?_ (P1 a1 _) rfl λg w H u aM dY hu=>?_
  ·rw[r8 he,r8 he,jf,no,<-jD];exact oE _ (by omega)
  ·obtain⟨us,dw,aP,_⟩:=aM.ec i _ dY.one;have aK:=aP.1;rw[r8 he]at aK;cases hu with
   |dX bg=>
    have bk:(uB n (uB hF (List.drop uC xs))).flatMap e=((xs.flatMap e).drop (uC*k)).take (min hF n*k):=by rw[<-P0 he,<-BU he,List.take_take,XZ]
    rw[bk];refine⟨(us.drop (uC*k)).take (min hF n*k),by simp[yS],run_firstCells_some _ _ _ _ _ _ _ ?_ (λq v aE=>?_),(aP.drop _).take _⟩
    ·rw[jf,qW,<-aK];have:(uC+min hF n)*k<=xs.length*k:=oE _ (by omega);rw[jD]at this;exact Ja (by omega)
    ·rw[qb,dw.cell];rw[kx]at aE;split at aE
     ·rw[List.getElem?_drop]at aE;exact aE
     ·cases aE
 ·cases bj
theorem ahZ{n cap:Nat}{lo:Int}{K:hv}(off:Nat)(cc:∀w,(underlying T).run av w=.ok (.slice bA) w)(aS:∀w,(sizeOf bA).run av w=.ok k w)(ar:ρ x=D (.dX i (off*k) n cap))(bh:ρ y=D (.p (.v (.int K lo))))(h1:0<=lo)(h2:lo.toNat<=n)(aJ:lo.toNat<cap):
  bE av (.slice T x (D y) aF aF) ty ρ [] [] (.dX i ((off+lo.toNat)*k) (n-lo.toNat) (cap-lo.toNat)):=.pure λg w H e o a1 _ _ a8=>by
 have a5:=a8 x (by simp[c_]) _ ar;have bk:=(a8 y (by simp[c_]) _ bh).g4;generalize aE:e x=u at a5;cases a5 with
 |dX bg=>
  have e5:¬cap=lo.toNat:=by omega
  have s0:lo<=(n:Int):=by omega
  refine⟨_,?_,by rw[jD];exact .dX bg⟩;unfold execOp;rw[a1];simp[vm,vn,qg,n7,aE,bk,cc,aS,h1,s0,e5,asIntOf,Addr.add,ck,ce]
theorem ah0{n cap:Nat}{ao:Int}{K:hv}(off:Nat)(cc:∀w,(underlying T).run av w=.ok (.slice bA) w)(aS:∀w,(sizeOf bA).run av w=.ok k w)(ar:ρ x=D (.dX i (off*k) n cap))(bh:ρ y=D (.p (.v (.int K ao))))(h1:0<=ao)(h2:ao.toNat<=cap):
  bE av (.slice T x aF (D y) aF) ty ρ [] [] (.dX i (off*k) ao.toNat cap):=.pure λg w H e o a1 _ _ a8=>by
 have a5:=a8 x (by simp[c_]) _ ar;have bk:=(a8 y (by simp[c_]) _ bh).g4;generalize aE:e x=u at a5;cases a5 with
 |dX bg=>
  have s0:ao<=(cap:Int):=by omega
  refine⟨_,?_,.dX bg⟩;unfold execOp;rw[a1];simp[vm,vn,qg,n7,aE,bk,cc,aS,h1,s0,asIntOf,Addr.add,ck,ce]
end
end
theorem ah1{α:Type}{ty:b3}{av:cj}{ρ:bM->Option V}{t e bytes i k:Nat}{z:a4}{x:bM}{K:hv}{n:Int}{jc:α->List P}{er:α}(uD:∀x,(jc x).length=k)(ai:av.underlying t=D (.slice e))(ao:(av.info? e).map (λi=>(i.zero,i.size,i.bytes))=D (D z,k,bytes))(bj:z.cells.size=k)(au:0<k)(ar:ρ x=D (.p (.v (.int K n))))(aB:ev bytes 128=ah)
  (a_:0<=n/\n<=1099511627776) (bw:∀E w,e_ E w (jc er) z.cells.toList):bE av (.makeSlice t x x) ty ρ [(i,.bW)] [(i,.bu e ((dm n.toNat er).flatMap jc))] (.dX i 0 n.toNat n.toNat):=λg w H bo o hE _ aM dY h=>by
 have a5:=(h x (by simp[c_]) _ ar).g4;have az:=dY.one;obtain⟨q,ju,Bc,ub,Bd⟩:∃i,av.info? e=D i/\i.zero=D z/\i.size=k/\i.bytes=bytes:=by
  cases ar:av.info? e with
  |none=>rw[ar]at ao;cases ao
  |some i=>rw[ar]at ao;simp only[lV,hX,Prod.mk.injEq]at ao;exact⟨i,rfl,ao.1,ao.2.1,ao.2.2⟩
 have qc:bytes*n.toNat<=281474976710656:=by
  have:=lI aB
  calc bytes*n.toNat<=128*1099511627776:=Nat.mul_le_mul this (by omega)
   _<=281474976710656:=by decide
 have sT:((n.toNat:Nat):Int)=n:=Int.toNat_of_nonneg a_.1;have q3:=run_make (P:=av) w t e q z ai ju Bc K K (n.toNat:Int) (n.toNat:Int) (by omega) (Int.le_refl _) (by have h:=Int.ofNat_le.2 qc;rw[Int.natCast_mul]at h;rw[Bd];exact h) (by omega);simp only[Int.toNat_natCast,ub]at q3;have hp:e_ g.E w ((dm n.toNat er).flatMap jc) (madeCells z.cells (n.toNat*k)).toList:=by
  refine⟨by rw[r8 uD];simp[madeCells],λj p u h1 h2=>?_⟩;have ae:j<n.toNat*k:=by have:=(cz.1 h1).1;rw[r8 uD]at this;simpa using this
  rw[X1 uD _ _ ae]at h1;have hm:j%k<k:=Nat.mod_lt _ au;have aJ:z.cells.toList[j%k]? =D u:=by simp only[madeCells,Array.toList_map,Array.toList_range,fv,List.getElem?_range ae,lV,hX]at h2;rw[<-h2,Array.getElem?_toList,bj,getElem!_pos z.cells (j%k) (by rw[bj];exact hm),Array.getElem?_eq_getElem (by rw[bj];exact hm)]
  exact(bw g.E w).2 (j%k) p u h1 aJ
 refine .inl ⟨.slice (D ⟨w.heap.size,0,aF⟩) n.toNat n.toNat,w.alloc (.cells (madeCells z.cells (n.toNat*k)) e),?_,_,by have:=b'.VA (T:=e) aM az hp;simp only[Array.toArray_toList]at this;exact this,?_⟩
 ·unfold execOp;rw[hE];rw[sT]at q3;simp[a5,q3,ck,ce]
 ·have:=cD.dX (g:=⟨dD g.β i w.heap.size,dD g.E w.heap.size 0,g.h⟩) (w:=w.alloc (.cells (madeCells z.cells (n.toNat*k)) e)) (H:=dT H [(i,.bu e ((dm n.toNat er).flatMap jc))]) (i:=i) (off:=0) (n:=n.toNat) (cap:=n.toNat) (by unfold ct;show tY (H.set i _)[i]?;rw[jH (cz.1 az).1];trivial);simpa[fB]using this
inductive vD (i n:Nat) (d:V):List V->List V->Prop
 |n:vD i n d [] []
 |k {x:V} {xs cX:List V} (h:x.br i=ah) (t:vD i n d xs cX):vD i n d (x::xs) (x::cX)
 |f {xs cX:List V} (t:vD i n d xs cX):vD i n d (.dX i 0 n n::xs) (d::cX)
inductive Jc (i n:Nat) (d:V):V->V->Prop
 |a:Jc i n d (.dX i 0 n n) d
 |g {xs cX:List V} (h:vD i n d xs cX):Jc i n d (.agg xs) (.agg cX)
section
variable {Y : gj} {Q : cN -> cO -> bb -> Prop} {l : bY} {H : List aG} {R : Type} {m : Option R} {T : R -> Prop}
variable {e:cN}{l':bY}
theorem bZ.Jd(is:List Nat)(aV:dM l l')(au:vr Y.bS.length l' H is=ah)(k:bZ Y Q e l' (vq H is) m T):bZ Y Q e l H m T:=λq g w a aM a9=>by obtain⟨h1,h2⟩:=OX aM (a9.sub aV) au;exact k q g w a h1 h2
variable {dF i k n:Nat}
theorem bZ.ah2 {t:Nat}{cs:List P}{x y:V}(ao:H[i]? =D (.bu dF cs))(ai:cR l t=D x)(ar:Jc i n (.p (.dI k n cs)) x y)(a_:n*k=cs.length)(aV:dM l l')(bw:ev Y.bS.length i=ah)(df:H.all (aG.br i)=ah)(aK:l'.all (λq=>q.2.br i)=ah)(h:bZ Y Q e ((t,y)::l') (H.set i .bW) m T):bZ Y Q e l H m T:=λq g w a aM a9=>by
 obtain⟨us,dw,hp,q0⟩:=aM.ec i _ ao;obtain⟨dA,e7⟩:=aM.gH ao (lI bw) df;have n6:=(a9.sub aV).jK aK;have key:∀v,cD g w H (.dX i 0 n n) v->cD ⟨g.β,dD g.E (g.β i) cs.length,g.h⟩ w (H.set i .bW) (.p (.dI k n cs)) v:=λv bg=>by
  cases bg with
  |dX bg=>
   refine .p ?_;refine e_.dI (us:=us) (hp.a' (b5 _) e7 (λ_ _ _ _=>rfl)) a_.symm (b5 _) ?_ dw.lt λj u ae=>?_
   ·show 0+n*k<=dD g.E (g.β i) _ (g.β i);rw[fB];omega
   ·rw[dw.cell,hD];exact ae
 have P4:∀{xs cX:List V},vD i n (.p (.dI k n cs)) xs cX->∀vs,cU g w H xs vs->cU ⟨g.β,dD g.E (g.β i) cs.length,g.h⟩ w (H.set i .bW) cX vs:=by
  intro xs cX g6;induction g6 with
  |n=>intro vs h;cases h;exact .nil
  |k h t bB=>intro vs bg;cases bg with|cons h1 h2=>exact .cons ((cD.jK h h1).WL e7) (bB _ h2)
  |f t bB=>intro vs bg;cases bg with|cons h1 h2=>exact .cons (key _ h1) (bB _ h2)
 refine h q _ w a dA ⟨n6.1,n6.2.1,λs d az=>?_⟩;simp only[cR]at az;by_cases e:t=s
 ·subst e;rw[show d' t t=ah from jp t]at az;simp only[cond_true,hX]at az;subst az;obtain⟨v,h1,h2⟩:=a9.2.2 t _ ai;refine⟨v,h1,?_⟩;cases ar with
  |a=>exact key _ h2
  |g g6=>cases h2 with|agg aJ=>exact .agg (P4 g6 _ aJ)
 ·rw[p' e]at az;obtain⟨v,h1,h2⟩:=n6.2.2 s d az;exact⟨v,h1,h2.WL e7⟩
theorem bZ.zm{α:Type}{x y:List α->V}{xs:List α}{f:List α->Option R}(t:Nat)(jc:α->List P)(q7:List α->List P)(uD:∀x,(jc x).length=k)(a8:∀xs,q7 xs=xs.flatMap jc)(ao:H[i]? =D (.bu dF (q7 xs)))(ai:cR l t=D (x xs))(ar:∀z,n=z.length->Jc i n (bT k jc z) (x z) (y z))(aV:dM l l')(bw:ev Y.bS.length i=ah)(df:H.all (aG.br i)=ah)(aK:l'.all (λq=>q.2.br i)=ah)
  (h:∀z,bZ Y Q e ((t,y z)::l') (H.set i .bW) (f z) T):bZ Y Q e l H ((Go.Dp.gH n xs).bind f) T:=λc9=>by
 obtain⟨z,h1,h2⟩:=c9.bind;obtain⟨aJ,rfl⟩:=WH h1;subst aJ;have:=ar z rfl;refine bZ.ah2 (k:=k) (cs:=q7 z) ao ai (by rw[a8];exact this) (by rw[a8,r8 uD]) aV bw df aK (h z) h2
end
def xm(n cap:Nat)(lo:Int):Option Unit:=if 0<=lo/\lo.toNat<=n/\lo.toNat<cap then D ()else aF
def xn(cap:Nat)(ao:Int):Option Unit:=if 0<=ao/\ao.toNat<=cap then D ()else aF
section
variable {av : cj} {ty : b3} {ρ : bM -> Option V} {T bA k i n cap : Nat} {x y : bM} {lo : Int} {K : hv} {z : Unit}
theorem P5(off:Nat)(cc:∀w,(underlying T).run av w=.ok (.slice bA) w)(aS:∀w,(sizeOf bA).run av w=.ok k w)(ar:ρ x=D (.dX i (off*k) n cap))(bh:ρ y=D (.p (.v (.int K lo))))(h:xm n cap lo=D z):
  bE av (.slice T x (D y) aF aF) ty ρ [] [] (.dX i ((off+lo.toNat)*k) (n-lo.toNat) (cap-lo.toNat)):=by
 unfold xm at h;split at h
 ·rename_i dp;exact ahZ off cc aS ar bh dp.1 dp.2.1 dp.2.2
 ·cases h
theorem P6(off:Nat)(cc:∀w,(underlying T).run av w=.ok (.slice bA) w)(aS:∀w,(sizeOf bA).run av w=.ok k w)(ar:ρ x=D (.dX i (off*k) n cap))(bh:ρ y=D (.p (.v (.int K lo))))(h:xn cap lo=D z):
  bE av (.slice T x aF (D y) aF) ty ρ [] [] (.dX i (off*k) lo.toNat cap):=by
 unfold xn at h;split at h
 ·rename_i dp;exact ah0 off cc aS ar bh dp.1 dp.2
 ·cases h
theorem X5{α:Type}{t e bytes i k:Nat}{z:a4}{n:Int}{jc:α->List P}{er:α}{e':List α}(uD:∀x,(jc x).length=k)(ai:av.underlying t=D (.slice e))(ao:(av.info? e).map (λi=>(i.zero,i.size,i.bytes))=D (D z,k,bytes))(bj:z.cells.size=k)(au:0<k)(ar:ρ x=D (.p (.v (.int K n))))(aB:ev bytes 128=ah)
  (bw:∀E w,e_ E w (jc er) z.cells.toList) (h:mk n er=D e'):bE av (.makeSlice t x x) ty ρ [(i,.bW)] [(i,.bu e (e'.flatMap jc))] (.dX i 0 e'.length e'.length):=by
 obtain⟨h1,rfl⟩:=WI h;have:=ah1 (i:=i) (ty:=ty) uD ai ao bj au ar aB h1 bw;rw[List.length_replicate];exact this
end
theorem X6{E:Nat->Nat}{w:bb}:∀{cs:List a4},e_ E w (cs.map .v) cs:=⟨by simp,λj c u h1 h2=>by rw[fv,h2]at h1;cases h1;exact .v⟩
theorem bZ.X7{Y:gj}{Q:cN->cO->bb->Prop}{l:bY}{H:List aG}{R:Type}{T:R->Prop}{α:Type}{e:cN}{l':bY}{dF b1 i n k:Nat}{us ds:List α->List V}{xs:List α}{f:List α->Option R}(j:Nat)(jc:α->List P)(q7:List α->List P)(uD:∀x,(jc x).length=k)(a8:∀xs,q7 xs=xs.flatMap jc)(ao:H[i]? =D (.bu dF (q7 xs)))(ae:H[j]? =D (.cells b1 (us xs)))(r6:d' i j=aQ)(ar:∀z,n=z.length->vD i n (bT k jc z) (us z) (ds z))(aV:dM l l')(bw:ev Y.bS.length i=ah)(X8:ev Y.bS.length j=ah)(df:(H.set j .bW).all (aG.br i)=ah)(aK:l'.all (λq=>q.2.br i)=ah)
  (h:∀z,bZ Y Q e l' ((H.set i .bW).set j (.cells b1 (ds z))) (f z) T):bZ Y Q e l H ((Go.Dp.gH n xs).bind f) T:=λc9=>by
 obtain⟨z,h1,h2⟩:=c9.bind;obtain⟨aJ,rfl⟩:=WH h1;subst aJ;have g6:=ar z rfl;have au:=h z h2;intro g w a aM a9;have e5:i≠j:=λe=>by subst e;rw[jp]at r6;cases r6
 have bw:=lI bw;have X8:=lI X8;obtain⟨ah3,dw,hp,q0⟩:=aM.ec i _ ao;obtain⟨ah4,ah5,uE,ah6⟩:=aM.ec j _ ae;have dN:=(cz.1 ao).1;have jW:=(cz.1 ae).1;have BD:own g H i (g.β i):=by unfold own;rw[ao];rfl
 have qe:own g H j (g.β j):=by unfold own;rw[ae];rfl
 have ah7:g.β j≠g.β i:=λe=>e5 (aM.kh i j _ BD (by rw[<-e];exact qe));generalize hm:(q7 z).length=fL;generalize wN:(⟨g.β,dD g.E (g.β i) fL,g.h⟩:b_)=g';have aS:∀b,g.E b<=g'.E b:=λb=>by
  rw[<-wN];by_cases e:b=g.β i
  ·subst e;rw[q0];exact gx _
  ·show _<=dD g.E (g.β i) fL b;rw[ki e];exact b5 _
 have wK:∀b,b≠g.β i->g'.E b=g.E b:=λb e=>by rw[<-wN];exact ki e
 have py:∀q,g'.β q=g.β q:=λq=>by rw[<-wN]
 have fG:∀q,g'.h q=g.h q:=λq=>by rw[<-wN]
 generalize P7:(H.set i .bW).set j (.cells b1 (ds z))=H' at au;have X9:H'[i]? =D .bW:=by rw[<-P7,jG e5];exact jH dN
 have P8:H'[j]? =D (.cells b1 (ds z)):=by rw[<-P7];exact jH (by simpa using jW)
 have xo:∀q,q≠i->q≠j->H'[q]? =H[q]? :=λq a5 bk=>by rw[<-P7,jG bk,jG a5]
 have H3:∀q,q≠i->(ct H' q↔ct H q):=λq a5=>by
  unfold ct;by_cases bk:q=j
  ·subst bk;rw[P8,ae];exact Iff.rfl
  ·rw[xo q a5 bk]
 have X_:∀q m,eL H q=D m->eL H' q=D m:=λq m aP=>by
  unfold eL at aP⊢;by_cases a5:q=i
  ·subst a5;rw[ao]at aP;cases aP
  ·by_cases bk:q=j
   ·subst bk;rw[ae]at aP;cases aP
   ·rw[xo q a5 bk];exact aP
 have ej:∀q b,own g' H' q b->own g H q b/\q≠i:=λq b a1=>by
  unfold own at a1⊢;by_cases a5:q=i
  ·subst a5;rw[X9]at a1;exact a1.elim
  ·refine⟨?_,a5⟩;by_cases bk:q=j
   ·subst bk;rw[P8]at a1;rw[ae];have:b=g'.β q:=a1;rw[py]at this;exact this
   ·rw[xo q a5 bk]at a1;cases aE:H[q]? with
    |none=>rw[aE]at a1;exact a1.elim
    |some o=>rw[aE]at a1;rw[<-wN]at a1;cases o<;>exact a1
 have dO:hx g w (H.set i .bW) g' w H':=⟨b5 _,λb _=>aS b,λ_ _ _ _=>rfl,λq aE=>by
   by_cases a5:q=i
   ·subst a5;unfold ct at aE;rw[jH dN]at aE;exact aE.elim
   ·exact⟨(H3 q a5).2 ((vp a5).1 aE),py q⟩,λq m aP=>⟨m,by
   by_cases a5:q=i
   ·subst a5;unfold eL at aP;rw[jH dN]at aP;cases aP
   ·refine X_ q m ?_;unfold eL at aP⊢;rw[jG a5]at aP;exact aP,b5 _,λ_=>fG q⟩⟩
 have key:∀v,cD g w H (.dX i 0 z.length z.length) v->cD g' w H' (bT k jc z) v:=λv bg=>by
  cases bg with
  |dX bg=>
   refine .p ?_;unfold dI;rw[<-a8];refine e_.dI (us:=ah3) (hp.a' (b5 _) (λb _=>aS b) (λ_ _ _ _=>rfl)) (by rw[a8,r8 uD]) (b5 _) ?_ dw.lt λq u aE=>?_
   ·rw[<-wN];show 0+z.length*k<=dD g.E (g.β i) fL (g.β i);rw[fB,<-hm,a8,r8 uD];omega
   ·rw[dw.cell,hD];exact aE
 have P4:∀{xs cX:List V},vD i z.length (bT k jc z) xs cX->∀vs,cU g w H xs vs->cU g' w H' cX vs:=by
  intro xs cX g6;induction g6 with
  |n=>intro vs h;cases h;exact .nil
  |k h t bB=>intro vs bg;cases bg with|cons h1 h2=>exact .cons ((cD.jK h h1).a' dO) (bB _ h2)
  |f t bB=>intro vs bg;cases bg with|cons h1 h2=>exact .cons (key _ h1) (bB _ h2)
 have yV:b' Y.cn Y.b0 Y.bS g' w H':=by
  refine⟨aM.os,aM.tape,aM.output,aM.mT.a' (H:=H.set i .bW) (H':=H') dO,⟨aM.a'.size,λb aB=>jC (aM.a'.E b aB) (aS b),aM.a'.cell,λq aE=>?_,λq m aE=>?_⟩,λb aB aE=>?_,λq o aE=>?_,λa c b ep fD=>aM.kh a c b (ej _ _ ep).1 (ej _ _ fD).1,λq b ep=>aM.px q b (ej _ _ ep).1⟩
  ·have aK:=Ie aE;obtain⟨aj,a6⟩:=aM.a'.ct q aE;exact⟨(H3 q (by omega)).2 aj,by rw[py];exact a6⟩
  ·obtain⟨m',aj,a6,dg⟩:=aM.a'.bl q m aE;exact⟨m',X_ q m' aj,a6,λe=>by rw[fG];exact dg e⟩
  ·obtain⟨aj,a6⟩:=aM.iQ b aB aE;refine⟨aj,?_⟩;by_cases e:b=g.β i
   ·subst e;rcases aM.px i _ BD with⟨q,n_⟩|Bb
    ·exact absurd n_ (aE q)
    ·omega
   ·rw[wK b e];exact a6
  ·by_cases a5:q=i
   ·subst a5;rw[X9]at aE;cases aE;trivial
   ·by_cases bk:q=j
    ·subst bk;rw[P8]at aE;cases aE;exact⟨ah4,by rw[py];exact ah5,P4 g6 _ uE,by rw[py,wK _ ah7];exact ah6⟩
    ·rw[xo q a5 bk]at aE;have ah8:o.br i=ah:=kj.1 df o (cC (i:=q) (by rw[jG bk];exact aE));have rQ:=(aM.ec q o aE).jK ah8;refine jU.a' dO (by rw[jG a5];exact aE) (λb aB=>⟨rfl,wK b λe=>?_⟩) (λ_ _ _ _ _=>fG q) rQ;subst e;have:own g H q (g.β i):=by unfold own at aB⊢;rw[jG a5]at aB;exact aB
     exact a5 (aM.kh q i _ this BD)
 refine au g' w a yV ?_;have n6:=(a9.sub aV).jK aK;exact n6.a' dO
open Go.MapKept
section
variable {K X : Type} [DecidableEq K]
abbrev r9(dj:Bool)(cu:K->a4)(eg:X->List P)(c:Nat)(bH:List Nat)(kv:List (K×X)):aG:=.nn c bH (kv.map λq=>(cu q.1,eJ dj (eg q.2)))
def xp(c:Nat)(bH:List Nat)(kv:List (K×X))(k:K):Nat:=match ho (kv.map (·.1)) k with|some j=>bH.getD j 0|none=>c
def uF(c:Nat)(kv:List (K×X))(k:K):Nat:=match ho (kv.map (·.1)) k with|some _=>c|none=>c+1
def r_(c:Nat)(bH:List Nat)(kv:List (K×X))(k:K):List Nat:=match ho (kv.map (·.1)) k with|some _=>bH|none=>bH++[c]
def vE(kv:List (K×X))(k:K)(er:X):List (K×X):=match ho (kv.map (·.1)) k with|some _=>kv|none=>kv++[(k,er)]
theorem P9{c:Nat}{bH:List Nat}{kv:List (K×X)}{k:K}(h:n3 c bH):n3 (uF c kv k) (r_ c bH kv k):=by
 unfold uF r_;cases ho (kv.map (·.1)) k with
 |none=>exact h.push
 |some j=>exact h
end
section
variable {av : cj} {ty : b3} {ρ : bM -> Option V} {K X : Type} [DecidableEq K] {cu : K -> a4} {eg : X -> List P} {T jT : b3} {i c : Nat} {bH : List Nat} {dj : Bool} {kv : List (K × X)} {k : K}
theorem X'{g:b_}{w:bb}{H:List aG}(aM:gm g w H)(ao:H[i]? =D (r9 dj cu eg c bH kv)):∃us,w.heap[g.β i]? =D (.map (fp bH (kv.map λq=>cu q.1) us).toArray c)/\bH.length=kv.length/\us.length=kv.length/\(fp bH (kv.map λq=>cu q.1) us).map (·.key)=(kv.map (·.1)).map cu/\
  cU g w H (kv.map λq=>eJ dj (eg q.2)) us:=by
 obtain⟨us,h1,h2,aJ⟩:=aM.ec i _ ao;simp only[kk,h6]at h1 h2 aJ;have e:((λx:a4×V=>x.1)∘λq:K×X=>(cu q.1,eJ dj (eg q.2)))=λq=>cu q.1:=rfl;have hd:((λx:a4×V=>x.2)∘λq:K×X=>(cu q.1,eJ dj (eg q.2)))=λq=>eJ dj (eg q.2):=rfl;rw[e]at h1;rw[hd]at aJ;have aK:=aJ.len;simp only[h6]at aK;exact⟨us,h1,h2,aK.symm,by rw[PA (by simp[h2]) (by simp[aK])];simp,aJ⟩
theorem ah9{x y:bM}{er:X}{z:a4}{gr:V}(bV:h8 av T jT cu)(ar:ρ x=D (.map i))(bh:ρ y=D gr)(au:gr.val=D (cu k))(bj:∀w,(zeroValue jT).run av w=.ok z w)(uA:∀g w H,cD g w H (eJ dj (eg er)) z):
  bE av (.mapEntry T x y) ty ρ [(i,r9 dj cu eg c bH kv)] [(i,r9 dj cu eg (uF c kv k) (r_ c bH kv k) (vE kv k er))] (.cg [eJ dj (eg ((dP kv k).getD er)),aI (xp c bH kv k)]):=λg w H e o a1 _ aM dY a8=>by
 have ao:=dY.one;obtain⟨kt,hm,aP,j4,cB⟩:=bV;obtain⟨us,ef,eM,gS,kY,iV⟩:=X' aM ao;have aj:=(a8 x (by simp[c_]) _ ar).BK;have a6:=(a8 y (by simp[c_]) _ bh).val au;have j4:=λw=>j4 k _ _ w kY;unfold uF r_ vE xp;cases ae:ho (kv.map (·.1)) k with
 |none=>
  simp only[ae,Option.bind_none]at j4;rw[Pz ae];have aO:=b'.Pj (c':=c+1) (bs':=bH++[c]) (us:=us++[z]) (kv':=(kv++[(k,er)]).map λq=>(cu q.1,eJ dj (eg q.2))) aM ao (by simp[eM]) (by simp only[lk,kk,gI,oc];exact cU.append (by show cU g w H (kv.map λq=>eJ dj (eg q.2)) us;exact iV) (.cons (uA g w H) .nil));refine .inl ⟨.tuple #[z,goInt c],_,?_,g,aO,.cg (.cons (uA _ _ _) (.cons (.v _) .nil))⟩;have hp:(fp (bH++[c]) (((kv++[(k,er)]).map λq=>(cu q.1,eJ dj (eg q.2))).map (·.1)) (us++[z])).toArray=(fp bH (kv.map λq=>cu q.1) us).toArray.push ({key:=cu k,val:=z,born:=c}:MapEntry):=by simp only[lk,kk,gI,oc];rw[show((λx:a4×V=>x.1)∘λq:K×X=>(cu q.1,eJ dj (eg q.2)))=λq=>cu q.1 from rfl,<-Ph c (cu k) z bH _ us (by simp[eM]) (by simp[gS])];simp
  rw[hp];unfold execOp;rw[a1];simp only[XV,aj,a6,ck,run_underlying hm,s8 ef,aP,j4,bj,xa _ ef,ce,it]
 |some j=>
  obtain⟨P_,a5,bk⟩:=BO ae;rw[bk];have jW:=(cz.1 a5).1;obtain⟨u,cY,gO⟩:=iV.aq (i:=j) (d:=eJ dj (eg P_)) (by rw[fv,a5];rfl);obtain⟨b,aB⟩:∃b,bH[j]? =D b:=⟨_,cq (by omega)⟩
  have vB:(kv.map λq=>cu q.1)[j]? =D (cu k):=by rw[fv,a5];rfl
  have gX:=Pf aB vB cY;simp only[ae,Option.bind_some,gX,lV]at j4;have aO:=b'.Pj (c':=c) (bs':=bH) (us:=us) (kv':=kv.map λq=>(cu q.1,eJ dj (eg q.2))) aM ao (by simp[eM]) (by rw[kk];show cU g w H (kv.map λq=>eJ dj (eg q.2)) us;exact iV);have aia:bH.getD j 0=b:=by rw[p9,aB];rfl
  refine .inl ⟨.tuple #[u,goInt b],_,?_,g,aO,.cg (.cons (gO.a' aO.a') (.cons (by show cD _ _ _ (aI (bH.getD j 0:Nat)) (goInt b);rw[aia];exact .v _) .nil))⟩;have q_:(fp bH (kv.map λq=>cu q.1) us).toArray[j]? =D {key:=cu k,val:=u,born:=b}:=by simpa using gX
  have hp:((fp bH (kv.map λq=>cu q.1) us).toArray.modify j λgz=>{gz with key:=cu k})=(fp bH ((kv.map λq=>(cu q.1,eJ dj (eg q.2))).map (·.1)) us).toArray:=by rw[kk,show((λx:a4×V=>x.1)∘λq:K×X=>(cu q.1,eJ dj (eg q.2)))=λq=>cu q.1 from rfl,<-Pg bH _ us j (cu k) vB];simp[Pg bH _ us j (cu k) vB]
  unfold execOp;rw[a1];simp only[XV,aj,a6,ck,run_underlying hm,s8 ef,aP,j4,q_,lV,Option.getD_some,cB,xa _ ef,ce,it,hp]
theorem aib{bH:List Nat}:∀{ks us:List a4}{j:Nat},bH.length=ks.length->us.length=ks.length->bH.Nodup->∀{b:Nat},bH[j]? =D b->(fp bH ks us).findIdx? (λe=>(e.born:Int)==(b:Int))=D j:=by
 induction bH with
 |nil=>intro ks us j _ _ _ b h;simp at h
 |cons fg bH bB=>
  intro ks us j h1 h2 a_ b h;cases ks with
  |nil=>cases h1
  |cons k ks=>
   cases us with
   |nil=>cases h2
   |cons u us=>
    simp only[fp,List.findIdx?_cons];cases j with
    |zero=>simp at h;subst h;simp
    |succ j=>
     simp at h;have e5:fg≠b:=λe=>by subst e;exact(oK.1 a_).1 (cC h)
     have aic:((fg:Int)==(b:Int))=aQ:=by simp;omega
     simp only[aic];rw[bB (by simpa using h1) (by simpa using h2) (oK.1 a_).2 h];rfl
theorem aid{m y x:bM}{d:V}{a er:X}(aV:n3 c bH)(aK:bH.length=kv.length)(ar:ρ m=D (.map i))(bh:ρ y=D (aI (xp c bH kv k)))(az:ρ x=D d)(hw:fY d (eJ dj (eg a))):
  bE av (.entryStore T m y x) ty ρ [(i,r9 dj cu eg (uF c kv k) (r_ c bH kv k) (vE kv k er))] [(i,r9 dj cu eg (uF c kv k) (r_ c bH kv k) (d_ kv k a))] (.p (.v undef)):=λg w H e o a1 _ aM dY a8=>by
 have ao:=dY.one;obtain⟨us,ef,eM,gS,kY,iV⟩:=X' aM ao;have aj:=(a8 m (by simp[c_]) _ ar).BK;have a6:=(a8 y (by simp[c_]) _ bh).g4;have dg:=hw _ _ _ _ (a8 x (by simp[c_]) _ az);have aie:=P9 (kv:=kv) (k:=k) aV;obtain⟨j,P',Fj,Je⟩:∃j,(r_ c bH kv k)[j]? =D (xp c bH kv k)/\d_ kv k a=(vE kv k er).set j (k,a)/\∃y,(vE kv k er)[j]? =D (k,y):=by
  unfold r_ xp vE;cases ae:ho (kv.map (·.1)) k with
  |none=>
   refine⟨bH.length,?_,?_,er,?_⟩
   ·show(bH++[c])[bH.length]? =D c;simp
   ·show d_ kv k a=(kv++[(k,er)]).set bH.length (k,a);rw[BQ ae,aK,XW _ _ (b5 _)];simp
   ·show(kv++[(k,er)])[bH.length]? =_;simp[aK]
  |some j=>obtain⟨P_,a5,bk⟩:=BO ae;have jW:=(cz.1 a5).1;refine⟨j,?_,BP ae,P_,a5⟩;show bH[j]? =D (bH.getD j 0);rw[p9,cq (by omega)];rfl
 generalize vE kv k er=Jf at*;generalize r_ c bH kv k=Fk at*;generalize xp c bH kv k=jS at*;generalize uF c kv k=eQ at*;obtain⟨Jg,Je⟩:=Je;have jW:=(cz.1 Je).1;have vB:(Jf.map λq=>cu q.1)[j]? =D (cu k):=by rw[fv,Je];rfl
 have aif:=aib (ks:=Jf.map λq=>cu q.1) (us:=us) (by simp[eM]) (by simp[gS]) aie.1 P';have Fl:(d_ kv k a).map (λq=>cu q.1)=Jf.map λq=>cu q.1:=by rw[Fj,zd];exact Pl vB
 have aO:=b'.Pj (c':=eQ) (bs':=Fk) (us:=us.set j (e x)) (kv':=(d_ kv k a).map λq=>(cu q.1,eJ dj (eg q.2))) aM ao (by rw[Fj];simp[eM]) (by rw[kk];show cU g w H ((d_ kv k a).map λq=>eJ dj (eg q.2)) _;rw[Fj,zd];exact iV.set dg);refine .inr (.inl ⟨_,?_,g,aO,.v _⟩);have hp:((fp Fk (Jf.map λq=>cu q.1) us).toArray.modify j λgz=>{gz with val:=e x})=(fp Fk (((d_ kv k a).map λq=>(cu q.1,eJ dj (eg q.2))).map (·.1)) (us.set j (e x))).toArray:=by rw[kk];show _=(fp Fk ((d_ kv k a).map λq=>cu q.1) (us.set j (e x))).toArray;rw[Fl,<-WX (e x) Fk _ us j];simp
 unfold execOp;rw[a1];simp only[Instr.entryStore,aj,a6,s8 ef,asInt,asIntOf,ck,it,ce,List.findIdx?_toArray,aif,xa _ ef,hp]
end
section
variable {Y : gj} {Q : cN -> cO -> bb -> Prop} {l : bY} {H : List aG} {R : Type} {m : Option R} {T : R -> Prop} {K X : Type} {cu : K -> a4} {eg : X -> List P} {dj : Bool} {kv : List (K × X)}
variable {g:b_}{i:Nat}{w:bb}
theorem b'.aig{H:List aG}(h:gm g w H)(ao:H[i]? =D (kX dj cu eg kv)):∃c bH,n3 c bH/\bH.length=kv.length/\b' w g H g w (H.set i (r9 dj cu eg c bH kv)):=by
 obtain⟨c,bH,us,bw,h1,h2,aJ,bp⟩:=h.ec i _ ao;simp only[h6]at h2 aJ;have dN:=(cz.1 ao).1;have ej:∀b,own g H i b↔b=g.β i:=λb=>by unfold own;rw[ao];exact Iff.rfl
 refine⟨c,bH,bw,h2,b'.one h dN rfl rfl rfl (b5 _) (λ_ _ _=>⟨rfl,rfl⟩) (λ_ _ _ _=>rfl) (λ_ _=>b5 _) (λ_ _=>⟨rfl,rfl⟩) (λ_=>⟨trivial,rfl⟩) (λm hm=>by rw[ao]at hm;cases hm) (λb a1=>.inl ((ej b).2 a1)) λdO=>⟨us,?_,by simp[h2],?_⟩⟩
 ·rw[h1,kk,kk];rfl
 ·rw[kk];show cU g w _ (kv.map λq=>eJ dj (eg q.2)) us;have:∀(kv:List (K×X))(us:List a4),us.length=kv.length->(∀(j:Nat)(q:a4×List P)(u:a4),(kv.map λq=>(cu q.1,eg q.2))[j]? =D q->us[j]? =D u->mS g.E w dj q.2 u)->cU g w (H.set i (r9 dj cu eg c bH kv)) (kv.map λq=>eJ dj (eg q.2)) us->True:=λ_ _ _ _ _=>trivial;generalize H.set i (r9 dj cu eg c bH kv)=H2;clear this dO ej h1 h2 ao h;induction kv generalizing us with
  |nil=>cases us with
   |nil=>exact .nil
   |cons _ _=>simp at aJ
  |cons q kv bB=>cases us with
   |nil=>simp at aJ
   |cons u us=>refine .cons (mS.rv (bp 0 (cu q.1,eg q.2) u rfl rfl)) ?_;apply bB us;all_goals first|(simpa using aJ)|(intro j p v hp bg;exact bp (j+1) p v (by simpa using hp) (by simpa using bg))
variable {bH:List Nat}{c:Nat}
theorem b'.aih{H:List aG}(aV:n3 c bH)(h1:∀x,dj=ah\/∃y,eg x=[y])(h:gm g w H)(ao:H[i]? =D (r9 dj cu eg c bH kv)):b' w g H g w (H.set i (kX dj cu eg kv)):=by
 obtain⟨us,dA,e7,gN⟩:=h.ec i _ ao;have dN:=(cz.1 ao).1;have ej:∀b,own g H i b↔b=g.β i:=λb=>by unfold own;rw[ao];exact Iff.rfl
 simp only[h6,kk]at dA e7 gN;have aK:=gN.len;simp only[h6]at aK;refine b'.one h dN rfl rfl rfl (b5 _) (λ_ _ _=>⟨rfl,rfl⟩) (λ_ _ _ _=>rfl) (λ_ _=>b5 _) (λ_ _=>⟨rfl,rfl⟩) (λ_=>⟨trivial,rfl⟩) (λm hm=>by rw[ao]at hm;cases hm) (λb a1=>.inl ((ej b).2 a1)) λdO=>⟨c,bH,us,aV,?_,by simp[e7],by simp[aK],λj q u aE hu=>?_⟩
 ·rw[dA,kk];rfl
 ·rw[fv]at aE;cases hp:kv[j]? with
  |none=>rw[hp]at aE;cases aE
  |some p=>rw[hp]at aE;cases aE;obtain⟨v,ep,fD⟩:=gN.aq (i:=j) (d:=eJ dj (eg p.2)) (by rw[fv,hp];rfl);rw[hu]at ep;cases ep;exact mS.aY fD (h1 _)
theorem co.open{eY:Code}(i:Nat)(ao:H[i]? =D (kX dj cu eg kv))(k:∀c bH,n3 c bH->bH.length=kv.length->co Y eY Q l (H.set i (r9 dj cu eg c bH kv)) m T):co Y eY Q l H m T:=λe g w a aM a9=>by obtain⟨c,bH,h1,h2,s⟩:=b'.aig aM.iR ao;exact k c bH h1 h2 e g w a (aM.then s) (a9.a' s.a')
theorem bZ.Ya{e:cN}(i:Nat)(aV:n3 c bH)(h1:∀x,dj=ah\/∃y,eg x=[y])(ao:H[i]? =D (r9 dj cu eg c bH kv))(k:bZ Y Q e l (H.set i (kX dj cu eg kv)) m T):bZ Y Q e l H m T:=λq g w a aM a9=>by have s:=b'.aih aV h1 aM.iR ao;exact k q g w a (aM.then s) (a9.a' s.a')
end
section
variable {Y : gj} {Q : cN -> cO -> bb -> Prop} {l : bY} {H : List aG} {R : Type} {m : Option R} {T : R -> Prop} {os rest : List bU} {acc : List (List Nat × List Nat)} {ty : b3} {pos : String} {cx : Array ie} {eF : Option (Nat × Bool)} {dst : Option Tmp}
end
abbrev zn(f:gh)(vs:List a4):lE:={target:=.fn (.func f) #[],args:=vs.toArray}
variable {H bS:List aG}{N:Nat}{av:cj}{en:List V}{fM:List lE}{f:gh}{b0:b_}{l:bY}{cn:bb}
theorem eo.Qa{Q:cN->cO->bb->Prop}{ops:Array bU}{rest:List bU}{dst:Option Tmp}{ty:b3}{pos:String}{cx:Array ie}{args:List bM}{tys:Array b3}(q:Nat)(aE:H[q]? =D .bW)(i5:l1 (bO l) args en)(az:kT N dst=ah)
  (k:∀vs,eo ⟨⟨aF,av,N,zn f vs::fM⟩,cn,b0,bS⟩ ops Q rest (gn dst (.p (.v undef)) l) (H.set q (.mq en vs))):
  eo ⟨⟨aF,av,N,fM⟩,cn,b0,bS⟩ ops Q ({dst:=dst,op:=.defer {callee:=.value (.func f),args:=args.toArray,argTypes:=tys},type:=ty,pos:=pos,after:=cx,guard:=aF}::rest) l H:=λg w a aM a9=>by
 simp only[jQ,Region.wanted,if_true,Oper.wpIn];refine⟨λ_ _=>trivial,?_⟩;have h2:cU g w H en (args.map a.eval):=i5.rv λx _ u hu=>a9.bo hu;generalize oN:args.map a.eval=vs at h2;have e:(({dst:=dst,op:=.defer {callee:=.value (.func f),args:=args.toArray,argTypes:=tys},type:=ty,pos:=pos,after:=cx,guard:=aF}:bU).semAt aF a.eval).run av w=.ok (.defer (zn f vs)) w:=by rw[Oper.semAt_none];unfold execOp;have bk:a.eval (.func f)=.func (.func f) #[] #[]:=rfl;simp[resolve,bk,Deferred.ofValue,ck,ce,oN]
 rw[e];show jQ ⟨aF,av,N,fM⟩ ops Q rest (({a with defers:=zn f vs::a.defers}:cO).put dst undef) w;have s:=b'.PD (q:=q) (o:=.mq en vs) aM.iR aE (λb h=>h) λdO=>cU.a' dO h2;have r7:=(a9.a' s.a').put az (.v undef);rw[PX (zn f vs::fM)];refine k vs g w _ (aM.then s) ⟨?_,?_,?_⟩
 ·cases dst<;>(show _::a.defers=_;rw[a9.1])
 ·have:=r7.2.1;cases dst<;>exact this
 ·have:=r7.2.2;cases dst<;>exact this
theorem bI.Qa{av:cj}{N:Nat}{fM:List lE}{cn:bb}{b0:b_}{bS:List aG}{Q:cN->cO->bb->Prop}{l:bY}{H:List aG}{R:Type}{m:Option R}{T:R->Prop}{ops:Array bU}{rest:List bU}{dst:Option Tmp}{ty:b3}{pos:String}{cx:Array ie}{args:List bM}{tys:Array b3}{f:gh}{en:List V}(q:Nat)(aE:H[q]? =D .bW)(i5:l1 (bO l) args en)(az:kT N dst=ah)
  (k:∀vs,bI ⟨⟨aF,av,N,zn f vs::fM⟩,cn,b0,bS⟩ ops Q rest (gn dst (.p (.v undef)) l) (H.set q (.mq en vs)) m T):
  bI ⟨⟨aF,av,N,fM⟩,cn,b0,bS⟩ ops Q ({dst:=dst,op:=.defer {callee:=.value (.func f),args:=args.toArray,argTypes:=tys},type:=ty,pos:=pos,after:=cx,guard:=aF}::rest) l H m T:=λh=>eo.Qa q aE i5 az λvs=>k vs h
theorem bZ.aii{fn:Func}{fN:Ending->bb->Prop}{e:cN}{R:Type}{T:R->Prop}{α:Type}{x:Option α}{Yb:α->Option R} {ds:List V}{vs:List a4}{Hc:List aG}{rr:α->V}{mA H2:α->List aG}(q:Nat)(aU fr:List Nat)(aS:Exit.kf e=ah)(aE:H[q]? =D (.mq en vs))(a8:∀args w,(callFunc f args).run av w=.ok (.enter f args) w)
  (aP:∀z,x=D z->ahJ av f ds Hc (rr z) (mA z) aU fr H (H2 z)) (li:en=gb (bQ aU) ds) (jX:fq H (ek (bQ aU) aU Hc++fr.map λj=>(j,.bW)))
  (k:∀z,bZ ⟨⟨aF,av,N,fM⟩,cn,b0,bS⟩ (bodyPostM (hK aF) 0 av fn fN) e l (H2 z) (Yb z) T):bZ ⟨⟨aF,av,N,zn f vs::fM⟩,cn,b0,bS⟩ (bodyPostM (hK aF) 0 av fn fN) e l H (x.bind Yb) T:=λc9=>by
 obtain⟨z,h1,h2⟩:=c9.bind;intro g w a aM a9;obtain⟨eQ,eE,lL⟩:=aP z h1;have Yc:cU g w H en vs:=aM.ec q _ aE;rw[li]at Yc;have vC:fq H (ek (bQ aU) aU Hc):=λq aE=>jX q (List.mem_append_left _ aE);have aV:=Ij eE.len vC;have Qb:=eQ (g.dc (bQ aU)) w vs .returning (aM.iR.aU aV (List.nodup_append.1 eE.af).1 eE.lo) (rX aV.yW ds vs eE.lt Yc);have az:a.defers=zn f vs::fM:=a9.1;have key:LeavesInM (hK aF) 0 av fn a.tmps fN a.defers .returning w:=by rw[az];refine⟨(by intro e;cases e),.inr ⟨(λe=>by cases e),.func f,#[],f,vs.toArray,rfl,by simp[invoke];exact a8 _ _,(λ_ _=>trivial),CallsDIn.mono Qb ?_⟩⟩;rintro gz oM w' ⟨rfl,v,g',gJ,H',rfl,⟨rfl,rfl⟩,dA,e7⟩;obtain⟨eM,gN,_⟩:=Ot aM.iR aV eE.af (λj ae=>jX (j,.bW) (List.mem_append_right _ (lH.2 ⟨j,ae,rfl⟩))) eE.iE eE.OA dA;rw[lL]at gN;have aJ:=k z h2 eM w' {a with defers:=fM} (aM.then gN) ⟨rfl,(a9.a' gN.a').2.1,(a9.a' gN.a').2.2⟩;show LeavesInM (hK aF) 0 av fn a.tmps fN fM (settle .returning) w';cases e<;>first|exact aJ|(simp[Exit.kf]at aS)
 cases e<;>first|exact key|(simp[Exit.kf]at aS)
theorem Yd{i:Nat}{o:aG}(h:H[i]? =D o):H.set i o=H:=by
 apply mr;intro j;rw[rT];split
 ·next e=>subst e;rw[if_pos (cz.1 h).1,h]
 ·rfl
theorem Jh{ws:List Nat}:∀{cE:List (Nat×aG)}{H:List aG},(cE.map (·.1)).Nodup->(∀q∈cE,ws.contains q.1=ah\/H[q.1]? =D q.2)->dT H cE=dT H (cE.filter λq=>ws.contains q.1)
 |[],_,_,_=>rfl
 |(i,o)::r,H,a_,h=>by
  simp only[gI,oK]at a_;by_cases e:ws.contains i=ah
  ·rw[List.filter_cons_of_pos (by simpa using e),dT,dT];refine Jh a_.2 λq aE=>?_;rcases h q (by simp[aE])with h1|h1
   ·exact .inl h1
   ·refine .inr ?_;rw[jG (λe=>a_.1 (by rw[<-e];exact List.mem_map_of_mem aE))];exact h1
  ·rw[List.filter_cons_of_neg (by simpa using e),dT];rcases h (i,o) (by simp)with h1|h1
   ·exact absurd h1 e
   ·rw[Yd h1];exact Jh a_.2 λq aE=>h q (by simp[aE])
def Ji(ws:List Nat):List (Nat×aG)->List (Nat×aG)->Prop
 |[],_=>True
 |q::cE,[]=>ws.contains q.1=ah/\Ji ws cE []
 |q::cE,p::cV=>(ws.contains q.1=ah\/q=p)/\Ji ws cE cV
theorem Jj{ws:List Nat}{H:List aG}:∀{cE cV:List (Nat×aG)},Ji ws cE cV->fq H cV->∀q∈cE,ws.contains q.1=ah\/H[q.1]? =D q.2
 |[],_,_,_,q,aE=>by cases aE
 |p::cE,[],h,aM,q,aE=>by
  rcases n4.1 aE with rfl|aE
  ·exact .inl h.1
  ·exact Jj h.2 aM q aE
 |p::cE,r'::cV,h,aM,q,aE=>by
  rcases n4.1 aE with rfl|aE
  ·rcases h.1 with e|rfl
   ·exact .inl e
   ·exact .inr (aM q (by simp))
  ·exact Jj h.2 (λx ar=>aM x (by simp[ar])) q aE
variable {ty:b3}
theorem bE.drop{op:Op}{ρ:bM->Option V}{cV cE Ye:List (Nat×aG)}{d:V}(h:bE av op ty ρ cV cE d)(he:∀H,fq H cV->dT H cE=dT H Ye):bE av op ty ρ cV Ye d:=λg w H e o a1 ai aM dY a8=>by
 have:=h g w H e o a1 ai aM dY a8
 rwa[he H dY]at this
section
variable {Y : gj} {Q : cN -> cO -> bb -> Prop} {l : bY} {H : List aG} {R : Type} {m : Option R} {T : R -> Prop} {ops : Array bU} {os rest : List bU} {acc : List (List Nat × List Nat)} {t : Nat} {ty : b3} {pos : String} {cx : Array ie} {eF : Option (Nat × Bool)} {dst : Option Tmp}
end
def zo{α:Type}(xs cX:List α):Option (List α):=if xs.length+cX.length<=2000000 then D (xs++cX)else aF
abbrev gs(n i m:Nat):V:=.gs 1 n i m 0
section
variable {av : cj} {ty : b3} {ρ : bM -> Option V}
variable {i:Nat}
theorem aij {t e:Nat}{z:a4}{parts:Array (Nat×bM)}(ai:∀w,(underlying t).run av w=.ok (.slice e) w)(au:∀w,(sizeOf e).run av w=.ok 1 w)(bj:∀w,(zeroValue e).run av w=.ok z w)(hp:parts.toList=[]):
  bE av (.buildSlice t 0 parts) ty ρ [(i,.bW)] [(i,.hf e 1 1 [])] (gs 0 i 1):=λg w H bo o hE _ aM dY h=>by
 obtain⟨us,h1,h2,aJ⟩:=OI (os:=[]) (ds:=[]) (cs:=[]) (n:=0) ai au bj (by simpa using hp) rfl rfl rfl rfl (by decide) hE h;have ao:=dY.one;have dN:=(cz.1 ao).1;have xf:us=[]:=List.eq_nil_of_length_eq_zero (by simpa using aJ);subst xf;have Fa:=yJ w (.cells ([]:List a4).toArray e);have a1:(w.alloc (.cells ([]:List a4).toArray e)).ownsRow 0 e 1 (.slice (D ⟨w.heap.size,0,aF⟩) 0 0) 0 []:=⟨rfl,.inr ⟨w.heap.size,0,#[],rfl,gx _,yK w ([]:List a4) e,b5 _,gx _,rfl,rfl⟩⟩
 have b2:=b'.agH (k:=1) (T:=e) (n:=0) aM ao Fa a1 rfl h2;refine .inl ⟨_,_,h1,_,b2,.gs rfl (W0 (W1 dN) ⟨w.heap.size,0,0,0,0,?_,rfl,b5 _,b5 _,.inl rfl,λ_=>⟨rfl,rfl⟩⟩)⟩;show dD g.h i _ i=_;rw[fB]
variable {cs:List P}{fL n:Nat}{x:bM}{α:Type}
theorem aik {b1 E:Nat}{dF:Nat} {y:bM}{K:hv}{j:Int}{xs:List α}{z:{q:Nat×α // xs[q.1]? =D q.2}}(cc:∀w,(underlying b1).run av w=.ok (.slice E) w)(aS:∀w,(sizeOf E).run av w=.ok 1 w)(ar:ρ x=D (gs n i fL))(bh:ρ y=D (.p (.v (.int K j))))(bj:fK n xs j=D z):
  bE av (.indexAddr b1 x y) ty ρ [(i,.hf dF 1 fL cs)] [] (.js i fL z.1.1):=by
 have bw:(0<=j/\j<n)/\z.1.1=j.toNat:=by
  unfold fK at bj;split at bj
  ·next h=>
   refine⟨h,?_⟩;split at bj
   ·cases bj;rfl
   ·cases bj
  ·cases bj
 rw[bw.2,show j.toNat=0+j.toNat from(hD _).symm];exact agP cc aS ar bh bw.1.1 bw.1.2
theorem ail {β:Type}(c:α->β)(xs:List α)(i:Nat)(v:α):(xs.map c).set i (c v)=(xs.set i v).map c:=by rw[zd]
inductive uG (ρ:bM->Option V) (i n fL:Nat) (cs:List P):List bM->List V->Prop
 |n:uG ρ i n fL cs [] []
 |c {x:bM} {xs:List bM} {d cQ:V} {ds:List V} (h:ρ x=D d) (w:fY d cQ) (t:uG ρ i n fL cs xs ds):uG ρ i n fL cs (x::xs) (cQ::ds)
 |b {x:bM} {xs:List bM} {ds:List V} (h:ρ x=D (gs n i fL)) (t:uG ρ i n fL cs xs ds):uG ρ i n fL cs (x::xs) (.p (.dI 1 n cs)::ds)
variable {ds:List V}
theorem uG.s{ρ:bM->Option V}{xs:List bM}{d:V}(h:ρ x=D d)(t:uG ρ i n fL cs xs ds):uG ρ i n fL cs (x::xs) (d::ds):=.c h .gp t
variable {T:Nat}
theorem aim{g:b_}{w:bb}{H:List aG}(h:gm g w H)(ao:H[i]? =D (.hf T 1 fL cs)):∃E:Nat->Nat,hx g w H ⟨g.β,E,g.h⟩ w H/\∀v,cD g w H (gs cs.length i fL) v->cD ⟨g.β,E,g.h⟩ w H (.p (.dI 1 cs.length cs)) v:=by
 obtain⟨xk,us,a1,aP,aS⟩:=h.ec i _ ao;refine⟨λb=>if(g.h i).ownBlock=D b then cs.length else g.E b,⟨b5 _,λb _=>?_,λ_ _ _ _=>rfl,λ_ h=>⟨h,rfl⟩,λ_ m h=>⟨m,h,b5 _,λ_=>rfl⟩⟩,λv bg=>?_⟩
 ·show g.E b<=if _ then _ else _
  split
  ·next e=>rw[aS b e];exact gx _
  ·exact b5 _
 ·cases bg with
  |gs h2 qm=>
   obtain⟨fg,fX,jt,h5,mQ,cap,us,aj,a6,dg,fS,ja,iU,ji,kV,kH,my,mz,n',pJ,uy⟩:=IQ h ao qm;obtain⟨rfl,rfl⟩:=iU rfl;simp only[q4,hD]at dg my mz n';have aK:cs.length=us.length:=pJ.1;have BL:w.ownsRow 0 T 1 v cs.length us:=⟨by rw[aK,q4],.inr ⟨fg,cap,h5,a6,gx _,ji,fS,kH,by omega,by rw[q4,aK,n',mz]⟩⟩
   refine .p (ownsRow.dI BL (pJ.a' (b5 _) (λb _=>?_) λ_ _ _ _=>rfl) λb aB=>?_)
   ·show g.E b<=if _ then _ else _
    split
    ·next e=>rw[aS b e];exact gx _
    ·exact b5 _
   ·rw[a6]at aB;cases aB;show(if(g.h i).ownBlock=D fg then cs.length else g.E fg)=_;rw[aj];simp[Value.ownBlock]
theorem bE.Fm{f:gh}{args:List bM}{tys:Array b3} {T:Nat}{u:a4}(aP:y5 av f ds (.p (.v u)))(a8:∀args w,(callFunc f args).run av w=.ok (.enter f args) w)
  (oP:ρ (.func f)=D (.p (.v (.func (.func f) #[] #[])))) (i5:uG ρ i cs.length fL cs args (gb (bQ []) ds)) (cf:le 0 ds=ah):
  bE av (.call {callee:=.value (.func f),args:=args.toArray,argTypes:=tys}) ty ρ [(i,.hf T 1 fL cs)] [] (.p (.v u)):=λg w H e o a1 ai aM dY c1=>by
 have ao:=dY.one;obtain⟨E,hm,bg⟩:=aim aM ao;have mv:=OB (args:=args) (tys:=tys) (w:=w) (c1 _ (by simp[c_,iZ]) _ oP).g4 a1 a8;have oN:cU ⟨g.β,E,g.h⟩ w H (gb (bQ []) ds) (args.map e):=by
  have ar:∀x∈args,∀u,ρ x=D u->cD g w H u (e x):=λx ar=>c1 x (by simp[c_,iZ,ar]);clear mv c1 a1 aP cf;generalize gb (bQ []) ds=pH at i5;induction i5 with
  |n=>exact .nil
  |c h k t bB=>exact .cons ((k _ _ _ _ (ar _ (by simp) _ h)).a' hm) (bB λy bh=>ar y (by simp[bh]))
  |b h t bB=>exact .cons (bg _ (ar _ (by simp) _ h)) (bB λy bh=>ar y (by simp[bh]))
 have rb:gm (b_.dc ⟨g.β,E,g.h⟩ (bQ [])) w []:=⟨aM.mT.a' (g':=b_.dc ⟨g.β,E,g.h⟩ (bQ [])) (H:=[]) (H':=[]) ⟨hm.size,hm.E,hm.cell,λ_ h=>h.elim,λ_ _ h=>(by cases h)⟩,λi o h=>(by cases h),λi j b h _=>h.elim⟩
 have Qc:=rX (Hc:=[]) (k0:=0) (uf.yW (H:=H) (Hc:=[]) (aU:=[]) ⟨rfl,λ_ _ h=>(by cases h)⟩) ds _ cf oN;refine .inr (.inr ⟨_,mv,.aY (Calls.mono (aP _ w _ rb Qc) ?_)⟩);rintro gz w' ⟨v,g',gJ,H',rfl,⟨rfl,rfl⟩,dA,e7⟩;have aB:Below w.heap.size w w':=⟨dA.os,dA.tape,dA.output,dA.a'.size,λb aB=>(dA.iQ b aB λ_ h=>h.elim).1⟩
 exact⟨v,rfl,_,b'.Eh (E:=g.E) aM aB (λ_ _=>rfl),by cases e7 with|p h=>cases h;exact .p .v⟩
end
section
variable {Y : gj} {Q : cN -> cO -> bb -> Prop} {l : bY} {H : List aG} {R : Type} {m : Option R} {T : R -> Prop} {ops : Array bU} {os rest : List bU} {t : Nat} {ty : b3} {pos : String} {cx : Array ie} {dst : Option Tmp}
variable {b1 bA:Nat}{z:a4}
theorem bI.ain{parts:List (Nat×bM)}(i:Nat)(ai:∀w,(underlying b1).run Y.X.P w=.ok (.slice bA) w)(au:∀w,(sizeOf bA).run Y.X.P w=.ok 1 w)(bj:∀w,(zeroValue bA).run Y.X.P w=.ok z w)(hp:parts=[])(ao:H[i]? =D .bW)(az:fV t Y.X.N=ah)(k:bI Y ops Q rest ((t,gs 0 i 1)::l) (H.set i (.hf bA 1 1 [])) m T):
  bI Y ops Q ({dst:=D t,op:=.buildSlice b1 0 parts.toArray,type:=ty,pos:=pos,after:=cx,guard:=aF}::rest) l H m T:=λc9=>by
 subst hp;exact eo.aC (dst:=D t) (aij ai au bj rfl) (da ao) az (k c9)
variable {i fL n:Nat}{x:bM}{α:Type}{xs:List α}
theorem bI.aio {bytes:Nat} {s:bM} {cX:List α}{d:V}{f:List α->Option R}(c:α->P)(ai:Y.X.P.underlying b1=D (.slice bA))(fJ:(Y.X.P.info? bA).map (λi=>(i.zero,i.size,i.bytes))=D (D z,1,bytes))(bj:z.cells.size=1) (aV:bO l s=D (gs n i fL)) (Ei:n=xs.length) (ar:bO l x=D d) (Jk:d.pB=D (1,cX.length,cX.map c)) (a1:∀a,(c a).one=ah) (qc:ev (2000000*bytes) 140737488355328=ah) (a_:fV 0 cX.length=ah) (ao:H[i]? =D (.hf bA 1 fL (xs.map c))) (az:fV t Y.X.N=ah)
  (k:∀e',bI Y ops Q rest ((t,gs e'.length i (fL+1))::l) (H.set i (.hf bA 1 (fL+1) (e'.map c))) (f e') T):
  bI Y ops Q ({dst:=D t,op:=.call {callee:=.builtin .append,args:=#[s,x],argTypes:=#[b1,b1]},type:=ty,pos:=pos,after:=cx,guard:=aF}::rest) l H ((zo xs cX).bind f) T:=λc9=>by
 subst Ei;obtain⟨e',h1,h2⟩:=c9.bind;unfold zo at h1;split at h1
 ·next hle=>
  cases h1;have hn:=agM (ty:=ty) (ρ:=bO l) ai fJ bj aV ar Jk (λc' pM=>by obtain⟨a,_,rfl⟩:=lH.1 pM;exact a1 a) (by simpa[Nat.blt_eq]using a_) hle (jC (oE _ hle) (lI qc)) (cs:=xs.map c);rw[show(xs.map c).take xs.length++cX.map c=(xs++cX).map c by rw[fz (by simp),lk]]at hn;refine eo.aC (dst:=D t) hn (da ao) az ?_;have:=k (xs++cX) h2;rw[ky]at this;exact this
 ·cases h1
variable {dF:Nat}{y:bM}
theorem bI.aip {E:Nat}{cs:List P}{K:hv}{j:Int}(xs:List α){f:{q:Nat×α // xs[q.1]? =D q.2}->Option R}(cc:∀w,(underlying b1).run Y.X.P w=.ok (.slice E) w)(aS:∀w,(sizeOf E).run Y.X.P w=.ok 1 w)(ar:bO l x=D (gs n i fL))(bh:bO l y=D (.p (.v (.int K j))))(ao:H[i]? =D (.hf dF 1 fL cs))(az:fV t Y.X.N=ah)
  (k:∀z:{q:Nat×α // xs[q.1]? =D q.2},bI Y ops Q rest ((t,.js i fL z.1.1)::l) H (f z) T):bI Y ops Q ({dst:=D t,op:=.indexAddr b1 x y,type:=ty,pos:=pos,after:=cx,guard:=aF}::rest) l H ((fK n xs j).bind f) T:=λc9=>by
 obtain⟨z,h1,h2⟩:=c9.bind;exact eo.aC (dst:=D t) (aik cc aS ar bh h1) (da ao) az (k _ h2)
theorem bI.aiq{c:α->P}(v:α)(q:{q:Nat×α // xs[q.1]? =D q.2})(a_:∀w,(sizeOf b1).run Y.X.P w=.ok 1 w)(ar:bO l x=D (.js i fL q.1.1))(bh:bO l y=D (.p (c v)))(h1:(c v).one=ah)(ao:H[i]? =D (.hf dF 1 fL (xs.map c)))
  (k:bI Y ops Q rest l (H.set i (.hf dF 1 fL ((xs.set q.1.1 v).map c))) m T):bI Y ops Q ({dst:=aF,op:=.store b1 x y,type:=ty,pos:=pos,after:=cx,guard:=aF}::rest) l H m T:=λc9=>by
 have aK:q.1.1<(xs.map c).length:=by rw[h6];exact(cz.1 q.2).1
 have hn:=agS (av:=Y.X.P) (ty:=ty) (ρ:=bO l) (dF:=dF) a_ ar bh (c:=c v) rfl rfl (by simpa[V.one]using h1) aK;rw[ail]at hn;exact eo.aC (dst:=aF) hn (da ao) rfl (k c9)
theorem bI.Fm{α β:Type}{g:gh}{args:List bM}{tys:Array b3}{ds:List V}{i dF fL:Nat}{xs:List β}{u:α->a4}{x:Option α}{f:α->Option R}(c:β->P)(jc:β->List P)(aP:∀z,x=D z->y5 Y.X.P g ds (.p (.v (u z))))(a8:∀args w,(callFunc g args).run Y.X.P w=.ok (.enter g args) w)
  (ao:H[i]? =D (.hf dF 1 fL (xs.map c))) (he:xs.map c=xs.flatMap jc) (i5:uG (bO l) i xs.length fL (xs.flatMap jc) args (gb (bQ []) ds)) (cf:le 0 ds=ah) (az:kT Y.X.N dst=ah) (k:∀z,bI Y ops Q rest (gn dst (.p (.v (u z))) l) H (f z) T):
  bI Y ops Q ({dst:=dst,op:=.call {callee:=.value (.func g),args:=args.toArray,argTypes:=tys},type:=ty,pos:=pos,after:=cx,guard:=aF}::rest) l H (x.bind f) T:=λc9=>by
 obtain⟨z,h1,h2⟩:=c9.bind;have aK:xs.length=(xs.map c).length:=by simp
 rw[<-he,aK]at i5;exact eo.aC (bE.Fm (aP z h1) a8 rfl i5 cf) (da ao) az (k z h2)
end
section
variable {Y : gj} {Q : cN -> cO -> bb -> Prop} {l : bY} {H : List aG} {R : Type} {m : Option R} {T : R -> Prop}
variable {g:b_}{i fL:Nat}{w:bb}
theorem b'.Qd{H:List aG} {T:Nat}{cs:List P}{v:a4}(h:gm g w H)(ao:H[i]? =D (.hf T 1 fL cs))(bg:cD g w H (gs cs.length i fL) v):
  ∃g':b_,b' w g H g' w (H.set i (.bl T 1 (fL+1)))/\cD g' w (H.set i (.bl T 1 (fL+1))) (.cT 1 cs.length cs i (fL+1)) v:=by
 have dN:=(cz.1 ao).1;have ej:=Pm (w:=w) ao (g:=g);cases bg with
 |gs h2 qm=>
  obtain⟨fg,fX,jt,h5,mQ,cap,us,aj,a6,dg,fS,ja,iU,ji,kV,kH,my,mz,n',pJ,uy⟩:=IQ h ao qm;obtain⟨rfl,rfl⟩:=iU rfl;simp only[q4,hD]at dg my mz n';have aK:cs.length=us.length:=pJ.1;have pD:∀b,own g H i b↔b=fg:=λb=>by rw[ej,aj];simp[Value.ownBlock,eq_comm]
  have BL:w.ownsRow 0 T 1 v cs.length us:=⟨by rw[aK,q4],.inr ⟨fg,cap,h5,a6,gx _,ji,fS,kH,by omega,by rw[q4,aK,n',mz]⟩⟩
  have b2:b' w g H ⟨g.β,dD g.E fg cs.length,dD g.h i v⟩ w (H.set i (.bl T 1 (fL+1))):=by
   refine b'.one h dN rfl rfl rfl (b5 _) (λb aK ld=>⟨rfl,ki λe=>ld ((pD b).2 e)⟩) (λb o aB cf=>rfl) (λb aB=>?_) (λj ae=>⟨rfl,ki ae⟩) (λaK=>by rw[ao]at aK;exact aK.elim)
    (λmR w7=>by rw[ao]at w7;cases w7;exact⟨_,rfl,Nat.le_succ _,λe=>by omega⟩) (λb aB=>?_) (λdO=>⟨cs.length,us,?_,λb aB=>?_⟩)
   ·rw[(pD b).1 aB,uy];exact gx _
   ·have e:(dD g.h i v i).ownBlock=D b:=aB;rw[fB,a6]at e;cases e;exact .inl ((pD fg).2 rfl)
   ·show w.ownsRow 0 T 1 (dD g.h i v i) cs.length _;rw[fB];exact BL
   ·have e:(dD g.h i v i).ownBlock=D b:=aB;rw[fB,a6]at e;cases e;show dD g.E fg cs.length fg=_;rw[fB];omega
  refine⟨_,b2,.cT (ownsRow.dI BL (pJ.a' b2.a'.size b2.a'.E b2.a'.cell) λb aB=>?_) ⟨fL+1,by unfold eL;rw[jH dN];rfl,b5 _,λ_=>(fB _ _ _).symm⟩⟩;rw[a6]at aB;cases aB;show dD g.E fg cs.length fg=_;rw[fB];omega
variable {X:hY}{a:cO}{d cQ:V}
theorem hM.Yf{H:List aG}{l:bY}{t:Nat}(a9:hM X g w H l a)(ai:cR l t=D d)(bg:∀v,cD g w H d v->cD g w H cQ v):hM X g w H ((t,cQ)::l) a:=⟨a9.1,a9.2.1,λs d2 az=>by
 simp only[cR]at az;by_cases e:t=s
 ·subst e;rw[show d' t t=ah from jp t]at az;simp only[cond_true,hX]at az;subst az;obtain⟨v,h1,h2⟩:=a9.2.2 t _ ai;exact⟨v,h1,bg v h2⟩
 ·rw[show d' t s=aQ from by rw[<-XU];intro q;exact e (kz q)]at az;exact a9.2.2 s d2 az⟩
theorem hM.ij {g':b_} {w':bb}{H H':List aG}{l:bY}(a9:hM X g w H l a)(m:hx g w H g' w' H'):hM X g' w' H' l a:=⟨a9.1,a9.2.1,λs d az=>by obtain⟨v,h1,h2⟩:=a9.2.2 s d az;exact⟨v,h1,h2.a' m⟩⟩
variable {ops:Array bU}{rest:List bU}
theorem bI.Jl {n:Nat}(t kC:Nat)(ai:cR l t=D (gs n i fL))(a_:n=kC)(k:bI Y ops Q rest ((t,gs kC i fL)::l) H m T):bI Y ops Q rest l H m T:=λc9 g w a aM a9=>by subst a_;exact k c9 g w a aM (a9.Yf ai λ_ h=>h)
theorem bI.Yg(t:Nat)(cQ:V)(ai:cR l t=D d)(hw:fY d cQ)(k:bI Y ops Q rest ((t,cQ)::l) H m T):bI Y ops Q rest l H m T:=λc9 g w a aM a9=>k c9 g w a aM (a9.Yf ai λv h=>hw _ _ _ _ h)
theorem co.Qd{c:Code}{α:Type}{i dF fL n:Nat}{cs:List P}(t:Nat)(jc:α->List P)(xs:List α)(ao:H[i]? =D (.hf dF 1 fL cs))(a8:cs=xs.flatMap jc)(ai:cR l t=D (gs n i fL))(a_:n=xs.length)(ld:n=cs.length)(h:co Y c Q ((t,cT 1 jc xs i (fL+1))::l) (H.set i (.bl dF 1 (fL+1))) m T):co Y c Q l H m T:=λc9 g w a aM a9=>by
 subst ld;subst a8;obtain⟨v,a5,bk⟩:=a9.2.2 t _ ai;obtain⟨ef,dA,e7⟩:=b'.Qd aM.iR ao bk;have r7:=a9.ij dA.a';refine h c9 ef w a (aM.then dA) ⟨r7.1,r7.2.1,λs d az=>?_⟩;simp only[cR]at az;by_cases e:t=s
 ·subst e;rw[show d' t t=ah from jp t]at az;simp only[cond_true,hX]at az;subst az;refine⟨v,a5,?_⟩;unfold cT;rw[<-a_];exact e7
 ·rw[show d' t s=aQ from by rw[<-XU];intro q;exact e (kz q)]at az;exact r7.2.2 s d az
theorem b'.zp{H:List aG} {j dF:Nat}{cs:List V}(h:gm g w H)(ao:H[i]? =D (.cells dF cs))(ae:cs[j]? =D d)(hw:fY d cQ):b' w g H g w (H.set i (.cells dF (cs.set j cQ))):=by
 have dN:=(cz.1 ao).1;obtain⟨us,dw,kD,aS⟩:=h.ec i _ ao;have ej:∀b,own g H i b↔b=g.β i:=λb=>by unfold own;rw[ao];exact Iff.rfl
 refine b'.one h dN rfl rfl rfl (b5 _) (λb _ _=>⟨rfl,rfl⟩) (λb o _ _=>rfl) (λb _=>b5 _) (λj _=>⟨rfl,rfl⟩) (λ_=>⟨trivial,rfl⟩) (λm hm=>by rw[ao]at hm;cases hm) (λb a1=>.inl ((ej b).2 a1)) λdO=>?_;obtain⟨u,hu,aM⟩:=kD.aq ae;have y_:=(kD.a' dO).set (i:=j) (hw _ _ _ _ (aM.a' dO));have xf:us.set j u=us:=by
  apply mr;intro q;rw[rT];split
  ·rename_i e;subst e;split
   ·exact hu.symm
   ·rename_i aE;rw[n1 (Nat.le_of_not_lt aE)]
  ·rfl
 rw[xf]at y_;exact⟨us,dw,y_,aS⟩
theorem bZ.zp{e:cN}{dF:Nat}{cs:List V}{d:V}(i j:Nat)(cQ:V)(ao:H[i]? =D (.cells dF cs))(ae:cs[j]? =D d)(hw:fY d cQ)(h:bZ Y Q e l (H.set i (.cells dF (cs.set j cQ))) m T):bZ Y Q e l H m T:=λc9 g w a aM a9=>by have h1:=b'.zp aM.iR ao ae hw;exact h c9 g w a (aM.then h1) (a9.a' h1.a')
theorem co.zp{c:Code}{dF:Nat}{cs:List V}{d:V}(i j:Nat)(cQ:V)(ao:H[i]? =D (.cells dF cs))(ae:cs[j]? =D d)(hw:fY d cQ)(h:co Y c Q l (H.set i (.cells dF (cs.set j cQ))) m T):co Y c Q l H m T:=λc9 g w a aM a9=>by have h1:=b'.zp aM.iR ao ae hw;exact h c9 g w a (aM.then h1) (a9.a' h1.a')
end
structure ax where
 n:Nat
 b8:{bX R:Type}->(bX->Option (bX ⊕ R))->bX->Option R
 ok:∀{bX R:Type}{f:bX->Option (bX ⊕ R)}{s:bX}{r:R},b8 f s=D r->eP f s=D r
noncomputable abbrev aZ(n:Nat):ax:=⟨n,eP,λh=>h⟩
def Jm{bX R:Type}:Nat->(bX->Option (bX ⊕ R))->bX->Option R
 |0,_,_=>aF
 |n+1,f,s=>match f s with
  |none=>aF
  |some (.inl s')=>Jm n f s'
  |some (.inr r)=>D r
theorem Yh{bX R:Type}{f:bX->Option (bX ⊕ R)}{r:R}:∀{n:Nat}{s:bX},Jm n f s=D r->eP f s=D r
 |0,_,h=>by cases h
 |n+1,s,h=>by
  unfold Jm at h;split at h
  ·cases h
  ·next s' e=>rw[eP.on e];exact Yh h
  ·next gJ e=>cases h;exact eP.dk e
def Qe(n:Nat):ax:=⟨n,Jm n,Yh⟩
section
variable {Y : gj} {Q : cN -> cO -> bb -> Prop} {l : bY} {H : List aG} {α bX R : Type} {T : R -> Prop} {body : bX -> Option (bX ⊕ R)}
theorem co.Yi{J:ax}{c:Code}{jv:bX}(j1:α->bX)(dG:α->bY)(G:α->List aG)(er:α)(ar:j1 er=jv)(bw:dM l (dG er))(iD:H=G er)
  (round:∀x n,co Y c (uo Y j1 dG G body T n Q) (dG x) (G x) (body (j1 x)) (um body T n)):co Y (.loop c) Q l H (J.b8 body jv) T:=λ⟨r,h1,h2⟩=>co.loop j1 dG G er ar bw iD round ⟨r,J.ok h1,h2⟩
end
abbrev mE:=Nat×Nat×V
def sa(q:mE)(H:List aG):Prop:=match H[q.1]? with|some (.cells _ cs)=>cs[q.2.1]? =D q.2.2|_=>False
def Jn(q:mE):List (Nat×aG)->Prop
 |[]=>True
 |p::r=>(match d' p.1 q.1 with|true=>(match p.2 with| .cells _ cs=>cs[q.2.1]? =D q.2.2|_=>False)|false=>True)/\Jn q r
def tf(cE:List (Nat×aG)):List mE->Prop
 |[]=>True
 |q::r=>Jn q cE/\tf cE r
def Qf(H:List aG):List mE->Prop
 |[]=>True
 |q::r=>sa q H/\Qf H r
theorem Yj{q:mE}:∀{cE:List (Nat×aG)}{H:List aG},Jn q cE->sa q H->sa q (dT H cE)
 |[],_,_,h=>h
 |(i,o)::r,H,au,h=>by
  rw[dT];refine Yj au.2 ?_;have h1:=au.1;by_cases e:i=q.1
  ·rw[show d' i q.1=ah from by subst e;exact jp _]at h1;have aK:q.1<H.length:=by
    apply Classical.byContradiction;intro a_;unfold sa at h;rw[n1 (by omega)]at h;exact h
   unfold sa;rw[<-e,jH (by rw[e];exact aK)];cases o with
   |cells T cs=>exact h1
   |_=>exact h1.elim
  ·unfold sa at h⊢;rw[jG (λx=>e x.symm)];exact h
theorem Yk{cE:List (Nat×aG)}:∀{dB:List mE}{q:mE},tf cE dB->q∈dB->Jn q cE
 |_::_,q,h,aE=>by
  rcases n4.1 aE with rfl|aE
  ·exact h.1
  ·exact Yk h.2 aE
theorem Fo:∀{dB:List mE},tf [] dB
 |[]=>trivial
 |_::_=>⟨trivial,Fo⟩
theorem Yl{H:List aG}:∀{dB:List mE}{q:mE},Qf H dB->q∈dB->sa q H
 |_::_,q,h,aE=>by
  rcases n4.1 aE with rfl|aE
  ·exact h.1
  ·exact Yl h.2 aE
variable {H:List aG}{d:V}
theorem air{i off:Nat}(h:sa (i,off,d) H):∃T cs,H[i]? =D (.cells T cs)/\cs[off]? =D d:=by
 unfold sa at h;dsimp only at h;cases e:H[i]? with
 |none=>rw[e]at h;exact h.elim
 |some o=>
  rw[e]at h;cases o with
  |cells T cs=>exact⟨T,cs,rfl,h⟩
  |_=>exact h.elim
def Ym(os:List bU)(j:Nat):Bool:=(List.range j).all λi=>A9 os j i
def hZ(dB:List mE)(Y:gj)(Q:cN->cO->bb->Prop)(ed:List bU)(rest:List bU)(l:bY)(H:List aG)(acc:List (List Nat×List Nat)):Prop:=
 ∃ms:List ft,nq Y.X.P ed rest ms l/\uj ms H/\(∀k m,ms[k]? =D m->((m.fa=λ_=>True)\/∃q∈dB,m.fa=sa q)/\(tf m.cE dB\/(m.fa=λ_=>True)/\ms.length=k+1/\Ym ed (acc.length+k)=ah))/\oR ed Y.X.N (acc++ms.map ft.lg) ed (acc++ms.map ft.lg) (pu ed []) 0=ah/\eU Y Q .normal (hy 0 rest ms (λ_=>ah) l) (fQ 0 ms (λ_=>ah) H)
variable {Q:cN->cO->bb->Prop}{Y:gj}{acc:List (List Nat×List Nat)}{l:bY}{ed:List bU}
theorem hZ.nil{dB:List mE}(aP:oR ed Y.X.N acc ed acc (pu ed []) 0=ah)(h:eU Y Q .normal l H):hZ dB Y Q ed [] l H acc:=⟨[],trivial,trivial,λ_ _ h=>(by simp at h),by simpa using aP,h⟩
variable {rest:List bU}
theorem hZ.cons{dB:List mE}{o:bU}{m:ft}(ao:sZ Y.X.P ed o l m)(dY:fq H m.cV)(hp:((m.fa=λ_=>True)\/∃q∈dB,m.fa=sa q)/\tf m.cE dB)(k:hZ dB Y Q ed rest (gn o.dst m.d l) (dT H m.cE) (acc++[m.lg])):hZ dB Y Q ed (o::rest) l H acc:=by
 obtain⟨ms,h1,h2,cy,aJ,bp⟩:=k;refine⟨m::ms,⟨ao,h1⟩,⟨dY,h2⟩,?_,by simpa using aJ,?_⟩
 ·intro k x ar;cases k with
  |zero=>cases ar;exact⟨hp.1,.inl hp.2⟩
  |succ k=>
   obtain⟨ef,eM⟩:=cy k x (by simpa using ar);refine⟨ef,eM.imp id λ⟨ep,fD,iF⟩=>⟨ep,by simp[fD],?_⟩⟩;rw[ky,List.length_singleton]at iF
   rwa[show acc.length+(k+1)=acc.length+1+k by omega]
 ·rw[hy,fQ,OP,OQ];exact bp
variable {dst:Option Tmp}{eF:Option (Nat×Bool)}{op:Op}{cV:List (Nat×aG)}{ty:b3}
theorem hZ.zq{dB:List mE}{pos:String}{cx:Array ie} {cE:List (Nat×aG)}(h:bE Y.X.P op ty (bO l) cV cE d)(ao:fq H cV)(au:tf cE dB)(b2:iY ed l eF)
  (k:hZ dB Y Q ed rest (gn dst d l) (dT H cE) (acc++[(cV.map (·.1),cE.map (·.1))])):hZ dB Y Q ed ({dst:=dst,op:=op,type:=ty,pos:=pos,after:=cx,guard:=eF}::rest) l H acc:=by
 refine hZ.cons (m:=⟨cV,cE,d,λ_=>True⟩) ?_ ao ⟨.inl rfl,au⟩ k;cases b2 with
 |n=>exact .run rfl h.wY
 |y ae aB=>exact .on rfl ae aB h.wY
theorem hZ.mw{dB:List mE}{pos:String}{cx:Array ie}(h:bE Y.X.P op ty (bO l) cV [] d)(ao:fq H cV)(b2:iY ed l eF)
  (k:hZ dB Y Q ed rest (gn dst d l) H (acc++[(cV.map (·.1),[])])):hZ dB Y Q ed ({dst:=dst,op:=op,type:=ty,pos:=pos,after:=cx,guard:=eF}::rest) l H acc:=hZ.zq h ao Fo b2 k
def cW(dB:List mE)(Y:gj)(Q:cN->cO->bb->Prop)(os rest:List bU)(l:bY)(H:List aG)(acc:List (List Nat×List Nat)){R:Type}(m:Option R)(T:R->Prop):Prop:=n8 m T->hZ dB Y Q os rest l H acc
section
variable {dB : List mE} {Y : gj} {Q : cN -> cO -> bb -> Prop} {l : bY} {H : List aG} {R : Type} {m m' : Option R} {T : R -> Prop} {ops : Array bU} {os rest : List bU} {acc : List (List Nat × List Nat)} {t : Nat} {ty : b3} {pos : String} {cx : Array ie} {eF : Option (Nat × Bool)} {dst : Option Tmp}
theorem co.BV{id:Nat}(dB:List mE)(hm:Y.X.P.follows .mixedOrders=ah)(bw:Qf H dB)(h:cW dB Y Q os os l H [] m T):co Y (.region id os.toArray ah) Q l H m T:=λe=>by
 obtain⟨ms,h1,h2,cy,aJ,bp⟩:=h e;have hlen:ms.length=os.length:=by
  have:∀{rest:List bU}{ms:List ft}{l:bY},nq Y.X.P os rest ms l->ms.length=rest.length:=λ{rest}=>by
   induction rest with
   |nil=>intro ms l h;cases ms with|nil=>rfl|cons _ _=>exact h.elim
   |cons o r bB=>intro ms l h;cases ms with|nil=>exact h.elim|cons m ms=>simp[bB h.2]
  exact this h1
 refine dL.Wi hm ms h1 h2 (λi m hm=>?_) aJ bp;have ais:=cy i m hm;rcases ais.1 with e|⟨q,aE,e⟩
 ·rw[e];exact⟨trivial,λj hz ae=>.inr λ_ _=>trivial⟩
 ·refine⟨by rw[e];exact Yl bw aE,λj hz ae=>?_⟩;rcases(cy j hz ae).2 with g|⟨ef,eM,gS⟩
  ·rw[e];exact .inr λH' jZ=>Yj (Yk g aE) jZ
  ·have dN:=(cz.1 hm).1;by_cases r6:i=j
   ·subst r6;rw[hm]at ae;cases ae;rw[ef];exact .inr λ_ _=>trivial
   ·left;have:=kj.1 gS i (List.mem_range.2 (by simp;omega));simpa using this
theorem cW.nil(aP:oR os Y.X.N acc os acc (pu os []) 0=ah)(h:bZ Y Q .normal l H m T):cW dB Y Q os [] l H acc m T:=λe=>hZ.nil aP (h e)
variable {d:V}
theorem cW.Jo{cV cE:List (Nat×aG)}{op:Op}(h:bE Y.X.P op ty (bO l) cV cE d)(dY:fq H cV)(aK:Ym os acc.length=ah)(aP:oR os Y.X.N (acc++[(cV.map (·.1),cE.map (·.1))]) os (acc++[(cV.map (·.1),cE.map (·.1))]) (pu os []) 0=ah)(k:bZ Y Q .normal (gn dst d l) (dT H cE) m T):cW dB Y Q os [{dst:=dst,op:=op,type:=ty,pos:=pos,after:=cx,guard:=aF}] l H acc m T:=λe=>
 ⟨[⟨cV,cE,d,λ_=>True⟩],⟨.run rfl h.wY,trivial⟩,⟨dY,trivial⟩,λk x ar=>by
  cases k with
  |zero=>cases ar;exact⟨.inl rfl,.inr ⟨rfl,rfl,aK⟩⟩
  |succ k=>simp at ar,by simpa[ft.lg]using aP,by
  rw[hy,fQ,OP,OQ];exact k e⟩
variable {b1 i off:Nat}{x:bM}
theorem cW.Fp(k0:Nat)(cc:∀w,(isAgg b1).run Y.X.P w=.ok aQ w)(ar:bO l x=D (.aR i off))(aE:dB[k0]? =D (i,off,d))(k:cW dB Y Q os rest ((t,d)::l) H (acc++[([],[])]) m T):cW dB Y Q os ({dst:=D t,op:=.load b1 x,type:=ty,pos:=pos,after:=cx,guard:=aF}::rest) l H acc m T:=λc9=>by refine hZ.cons (m:=⟨[],[],d,sa (i,off,d)⟩) (.run rfl ?_) e6 ⟨.inr ⟨_,cC aE,rfl⟩,Fo⟩ (k c9);intro g w H e o' a1 ai aM Bu dY a8;obtain⟨dF,cs,dA,e7⟩:=air Bu;exact(Ob (av:=Y.X.P) (ty:=ty) (ρ:=bO l) (T:=b1) (dF:=dF) (x:=x) (i:=i) (off:=off) (d:=d) cc ar e7) g w H e o' a1 ai aM (da dA) a8
theorem cW.ait{α:Type}{g:gh}{args:List bM}{tys:Array b3}{ds:List V}{Hc:List aG}{rr dd:α->V}{mA H2:α->List aG}{x:Option α}{f:α->Option R}(aU fr ws:List Nat)(aP:∀z,x=D z->pI Y.X.P g ds Hc (rr z) (mA z) aU fr H (dd z) (H2 z))(a8:∀args w,(callFunc g args).run Y.X.P w=.ok (.enter g args) w)
  (i5:l1 (bO l) args (gb (bQ aU) ds)) (jX:fq H (ek (bQ aU) aU Hc++fr.map λj=>(j,.bW))) (hu:∀z,Ji ws (ek (bQ (aU++fr)) (aU++fr) (mA z)) (ek (bQ aU) aU Hc++fr.map λj=>(j,.bW))) (hw:∀z,((ek (bQ (aU++fr)) (aU++fr) (mA z)).filter λq=>ws.contains q.1).map (·.1)=ws) (au:∀z,tf ((ek (bQ (aU++fr)) (aU++fr) (mA z)).filter λq=>ws.contains q.1) dB) (b2:iY os l eF) (k:∀z,cW dB Y Q os rest (gn dst (dd z) l) (H2 z) (acc++[((ek (bQ aU) aU Hc++fr.map λj=>(j,aG.bW)).map (·.1),ws)]) (f z) T):
  cW dB Y Q os ({dst:=dst,op:=.call {callee:=.value (.func g),args:=args.toArray,argTypes:=tys},type:=ty,pos:=pos,after:=cx,guard:=eF}::rest) l H acc (x.bind f) T:=λc9=>by
 obtain⟨z,h1,h2⟩:=c9.bind;obtain⟨eQ,jb,ll,lL⟩:=aP z h1;have ao:=bE.WF (ty:=ty) (tys:=tys) eQ a8 rfl i5 jb;have zr:=Oq (bQ (aU++fr)) (aU++fr) (mA z) jb.af;refine hZ.zq (ao.drop λH' aM=>Jh zr (Jj (hu z) aM)) jX (au z) b2 ?_;rw[<-Jh zr (Jj (hu z) jX),ll,lL,hw z];exact k z h2
theorem cW.eJ(h:bO l x=D d)(b2:iY os l eF)(k:cW dB Y Q os rest ((t,d)::l) H (acc++[([],[])]) m T):cW dB Y Q os ({dst:=D t,op:=.move x,type:=ty,pos:=pos,after:=cx,guard:=eF}::rest) l H acc m T:=λc9=>hZ.mw (dst:=D t) (VE h) e6 b2 (k c9)
theorem cW.dz(h:bO l x=D d)(b2:iY os l eF)(k:cW dB Y Q os rest ((t,d)::l) H (acc++[([],[])]) m T):cW dB Y Q os ({dst:=D t,op:=.assign x,type:=ty,pos:=pos,after:=cx,guard:=eF}::rest) l H acc m T:=λc9=>hZ.mw (dst:=D t) (N5 h) e6 b2 (k c9)
theorem cW.cF(ar:bO l x=D (.aR i off))(b2:iY os l eF)(k:cW dB Y Q os rest ((t,.aR i off)::l) H (acc++[([],[])]) m T):cW dB Y Q os ({dst:=D t,op:=.nilCheck x,type:=ty,pos:=pos,after:=cx,guard:=eF}::rest) l H acc m T:=λc9=>hZ.mw (dst:=D t) (H6 ar) e6 b2 (k c9)
variable {dF:Nat}{cs:List V}
theorem cW.aiu(cc:∀w,(isAgg b1).run Y.X.P w=.ok aQ w)(ar:bO l x=D (.aR i off))(ao:H[i]? =D (.cells dF cs))(aP:cs[off]? =D d)(b2:iY os l eF)(k:cW dB Y Q os rest ((t,d)::l) H (acc++[([i],[])]) m T):cW dB Y Q os ({dst:=D t,op:=.load b1 x,type:=ty,pos:=pos,after:=cx,guard:=eF}::rest) l H acc m T:=λc9=>hZ.mw (dst:=D t) (Ob cc ar aP) (da ao) b2 (k c9)
theorem cW.Jp {n:Nat}(cc:∀w,(isAgg b1).run Y.X.P w=.ok ah w)(a_:∀w,(sizeOf b1).run Y.X.P w=.ok n w)(ar:bO l x=D (.aR i off))(ao:H[i]? =D (.cells dF cs))(aK:ev (off+n) cs.length=ah)(b2:iY os l eF)(k:cW dB Y Q os rest ((t,.agg ((cs.drop off).take n))::l) H (acc++[([i],[])]) m T):cW dB Y Q os ({dst:=D t,op:=.load b1 x,type:=ty,pos:=pos,after:=cx,guard:=eF}::rest) l H acc m T:=λc9=>hZ.mw (dst:=D t) (VV cc a_ ar aK) (da ao) b2 (k c9)
theorem cW.aL{α:Type}{b1 E k:Nat}{e:α->List P}{x y:bM}{K:hv}{j:Int}{d:V}{xs:List α}{f:α->Option R}(cc:∀w,(underlying b1).run Y.X.P w=.ok (.slice E) w)(aS:∀w,(sizeOf E).run Y.X.P w=.ok k w)(ar:bO l x=D d)(bh:bO l y=D (.p (.v (.int K j))))(aV:V.lZ k e d xs)(au:∀x,(e x).length=k)(b2:iY os l eF)(k:∀z:α,cW dB Y Q os rest ((t,.bA (e z))::l) H (acc++[([],[])]) (f z) T):cW dB Y Q os ({dst:=D t,op:=.indexAddr b1 x y,type:=ty,pos:=pos,after:=cx,guard:=eF}::rest) l H acc ((aL xs j).bind f) T:=λc9=>by
 obtain⟨z,h1,h2⟩:=c9.bind
 skip
 exact hZ.mw (dst:=D t) (Iy cc aS ar bh aV au (w3 h1).1 (w3 h1).2) e6 b2 (k _ h2)
variable {S:Nat}
theorem cW.aiv {f:Nat}{cs:List P}(a8:∀w a,(El S (.pointer (D a)) f).run Y.X.P w=.ok (.pointer (D (a.add off))) w)(ar:bO l x=D (.bA cs))(aK:ev off cs.length=ah)(b2:iY os l eF)(k:cW dB Y Q os rest ((t,.bA (cs.drop off))::l) H (acc++[([],[])]) m T):cW dB Y Q os ({dst:=D t,op:=.fieldAddr S x f,type:=ty,pos:=pos,after:=cx,guard:=eF}::rest) l H acc m T:=λc9=>hZ.mw (dst:=D t) (VS a8 ar aK) e6 b2 (k c9)
theorem cW.m1 {f o:Nat}(a8:∀w a,(El S (.pointer (D a)) f).run Y.X.P w=.ok (.pointer (D (a.add off))) w)(ar:bO l x=D (.aR i o))(b2:iY os l eF)(k:cW dB Y Q os rest ((t,.aR i (o+off))::l) H (acc++[([],[])]) m T):cW dB Y Q os ({dst:=D t,op:=.fieldAddr S x f,type:=ty,pos:=pos,after:=cx,guard:=eF}::rest) l H acc m T:=λc9=>hZ.mw (dst:=D t) (VR a8 ar) e6 b2 (k c9)
theorem cW.Yn{b1:b3}{cs:List P}{c:P}(cc:∀w,(isAgg b1).run Y.X.P w=.ok aQ w)(ar:bO l x=D (.bA cs))(aP:cs[0]? =D c)(b2:iY os l eF)(k:cW dB Y Q os rest ((t,.p c)::l) H (acc++[([],[])]) m T):cW dB Y Q os ({dst:=D t,op:=.load b1 x,type:=ty,pos:=pos,after:=cx,guard:=eF}::rest) l H acc m T:=λc9=>hZ.mw (dst:=D t) (VT cc ar aP) e6 b2 (k c9)
end
def I{α:Type}(m:Option α)(P:α->Prop):Prop:=∃r,m=D r/\P r
def ln{bX R:Type}(A:bX->Prop)(P:R->Prop):bX ⊕ R->Prop| .inl s=>A s| .inr r=>P r
section
variable {α β bX R bn : Type} {P : α -> Prop} {Q : β -> Prop} {A : bX -> Prop} {T : R -> Prop} {m : Option β} {f : β -> Option α} {a b : Option α}
theorem I.ret{r:α}(h:P r):I (D r) P:=⟨r,rfl,h⟩
theorem I.bind(h:I m Q)(k:∀z,Q z->I (f z) P):I (m.bind f) P:=by obtain⟨r,e,q⟩:=h;rw[e];exact k r q
theorem I.aq{z:β}(h:m=D z)(k:I (f z) P):I (m.bind f) P:=by rw[h];exact k
theorem I.map{g:β->α}(h:I m λz=>P (g z)):I (m.map g) P:=by obtain⟨r,e,q⟩:=h;rw[e];exact⟨_,rfl,q⟩
theorem I.mono{sb:α->Prop}(h:I a P)(k:∀z,P z->sb z):I a sb:=by obtain⟨r,e,q⟩:=h;exact⟨r,e,k r q⟩
theorem I.bC{c:Bool}(h1:c=ah->I a P)(h2:c=aQ->I b P):I (if c=ah then a else b) P:=by
 cases c
 ·exact h2 rfl
 ·exact h1 rfl
theorem I.aC{p:Prop} [Decidable p](h1:p->I a P)(h2:¬p->I b P):I (if decide p=ah then a else b) P:=by
 by_cases h:p
 ·rw[if_pos (by simpa using h)];exact h1 h
 ·rw[if_neg (by simpa using h)];exact h2 h
theorem I.eh{p:Prop} [Decidable p](h1:¬p->I a P)(h2:p->I b P):I (if(!decide p)=ah then a else b) P:=by
 by_cases h:p
 ·rw[if_neg (by simpa using h)];exact h2 h
 ·rw[if_pos (by simpa using h)];exact h1 h
theorem I.aY{r:α}(h:a=D r)(k:P r):I a P:=⟨r,h,k⟩
theorem I.bN{r:α}(h:I a (· =r)):a=D r:=by obtain⟨z,e,rfl⟩:=h;exact e
theorem I.inl{s:bX}(h:A s):I (D (Sum.inl s:bX ⊕ R)) (ln A T):=⟨_,rfl,h⟩
theorem I.inr{r:R}(h:T r):I (D (Sum.inr r:bX ⊕ R)) (ln A T):=⟨_,rfl,h⟩
theorem I.dk{m:Option R}(h:I m T):I (m.map (Sum.inr:R->bX ⊕ R)) (ln A T):=by obtain⟨r,e,q⟩:=h;rw[e];exact⟨_,rfl,q⟩
variable {body : bX -> Option (bX ⊕ R)}
theorem I.b8(dG:bX->Prop)(pv :bX->Nat){s:bX}(h:∀s,dG s->I (body s) (ln (λs'=>dG s'/\ pv s'< pv s) T))(bw:dG s):I (eP body s) T:=by
 generalize a_: pv s=n;induction n using Nat.strongRecOn generalizing s with
 |ind n bB=>
  obtain⟨r,e,q⟩:=h s bw;cases r with
  |inl s'=>rw[eP.on e];exact bB _ (by rw[<-a_];exact q.2) q.1 rfl
  |inr r=>rw[eP.dk e];exact⟨r,rfl,q⟩
theorem I.for(n:Nat)(st:Nat->bn->bX)(dL:Nat->bn->Prop){s:bX}{t0:bn}(e:s=st 0 t0)(bw:dL 0 t0)(h:∀k t,k<n->dL k t->I (body (st k t)) (ln (λs'=>∃rc,s'=st (k+1) rc/\dL (k+1) rc) T))
  (he:∀t,dL n t->I (body (st n t)) (ln (λ_=>False) T)):I (eP body s) T:=by
 have key:∀d k t,k+d=n->dL k t->I (eP body (st k t)) T:=by
  intro d;induction d with
  |zero=>
   intro k t au ae;obtain rfl:k=n:=by omega
   obtain⟨r,e,q⟩:=he t ae;cases r with
   |inl s'=>exact q.elim
   |inr r=>rw[eP.dk e];exact⟨r,rfl,q⟩
  |succ d bB=>
   intro k t au ae;obtain⟨r,e,q⟩:=h k t (by omega) ae;cases r with
   |inl s'=>obtain⟨rc,rfl,jq⟩:=q;rw[eP.on e];exact bB _ _ (by omega) jq
   |inr r=>rw[eP.dk e];exact⟨r,rfl,q⟩
 subst e;exact key n 0 t0 (by omega) bw
theorem eP.congr{Qg:bX->Option (bX ⊕ R)}(dG:bX->Prop)(h:∀s,dG s->body s=Qg s)(bx:∀s s',dG s->body s=D (.inl s')->dG s'){s:bX}(bw:dG s):eP body s=eP Qg s:=by
 have one:∀{jS od:bX->Option (bX ⊕ R)},(∀s,dG s->jS s=od s)->(∀s s',dG s->jS s=D (.inl s')->dG s')->∀{n s r},dG s->n9 jS n s r->eP od s=D r:=by
  intro jS od h bx n s r bw aM;induction aM with
  |dk e=>exact eP.dk (by rw[<-h _ bw];exact e)
  |on e k bB=>rw[eP.on (s':=_) (by rw[<-h _ bw];exact e)];exact bB (bx _ _ bw e)
 cases a5:eP body s with
 |some r=>obtain⟨n,a_⟩:=eP.EI a5;exact(one h bx bw a_).symm
 |none=>
  cases bk:eP Qg s with
  |none=>rfl
  |some r=>obtain⟨n,a_⟩:=eP.EI bk;have:=one (λs aV=>(h s aV).symm) (λs s' aV e=>bx s s' aV (by rw[h s aV];exact e)) bw a_;rw[a5]at this;cases this
end
section
variable {α β : Type} {P : β -> Prop} {xs : List α} {f : α -> Option β}
theorem I.aL{i:Nat}{x:α}(h:xs[i]? =D x)(k:I (f x) P):I ((aL xs (i:Int)).bind f) P:=I.aq (e3 h) k
theorem I.g7{i:Nat}(h:i<xs.length)(k:∀x,xs[i]? =D x->I (f x) P):I ((Dp.aL xs (i:Int)).bind f) P:=I.aq (Xw h) (k _ (cq h))
theorem I.Jq{j:Int}(bw:0<=j)(h:j<xs.length)(k:∀x,xs[j.toNat]? =D x->I (f x) P):I ((Dp.aL xs j).bind f) P:=I.aq (Xx bw (by omega)) (k _ (cq _))
theorem I.gB{s:ByteArray}{g:Int->Option β}{i:Nat}(h:i<s.size)(k:∀b:UInt8,s[i]? =D b->I (g (b.toNat:Int)) P):I ((Dp.gB s (i:Int)).bind g) P:=by have e:s[i]? =D s[i]:=getElem?_pos s i h;refine I.aq (z:=((s[i]).toNat:Int)) ?_ (k _ e);unfold Dp.gB;rw[if_pos (by omega)];simp[e]
end
@[simp] theorem zs{n:Nat}{bX R:Type}(f:bX->Option (bX ⊕ R))(s:bX):(aZ n).b8 f s=eP f s:=rfl
theorem cM{k:Nat}(h:k< 1152921504606846976):aH ((k:Int)+1)=((k+1:Nat):Int):=by rw[c8 (by omega) (by omega)];omega
theorem Qh{k:Nat}(h:k< 1152921504606846976):aH ((k:Int)- 1)=(k:Int)- 1:=by rw[c8 (by omega) (by omega)]
end Go.Dp

/- Numbers below 0 stand in choices alone. -/
import Derived.Test.YtgfggdcbhjhegaaGreatDoorWa
set_option linter.all false
set_option maxRecDepth 100000
namespace Go.Proofs.YtgfggdcbhjhegaaGreatDoor
open Go Go.Mi Go.RowKit Go.Dp
open Bool renaming false_eq_true->fe,true->ah,not_true->MQ,false->aQ,and_eq_true->ea
open Int renaming eq_ofNat_of_zero_le->tB,toNat_natCast->eq,le_refl->me
open List renaming mem_of_getElem?->cC,getElem?_eq_getElem->cq,replicate->dm,getElem?_eq_some_iff->cz,take_of_length_le->fz,mem_append->ig,nodup_cons->oK,mem_singleton->Ak,map_cons->gI,length_append->ky,ext_getElem?->mr,append_assoc->tW,mem_of_find?_eq_some->wa,mem_append_left->xb,getElem?_of_mem->fO,find?_append->qC,find?_some->acj,append_nil->j3,mem_range->ack,range->mn
open Nat renaming zero_le->gx,le_refl->b5
open Option renaming bind_some->cl,some->D,bind->aw,none->aF
section
variable {K X : Type} [DecidableEq K]
theorem acl{kv:List (K×X)}{k cA:K}{x:X}:cA∈(d_ kv k x).map (·.1)↔cA∈kv.map (·.1)\/cA=k:=by
 induction kv with
 |nil=>simp[d_]
 |cons q r bB=>obtain⟨a,y⟩:=q;unfold d_;grind
theorem amg{kv:List (K×X)}{k:K}{x:X}(h:(kv.map (·.1)).Nodup):((d_ kv k x).map (·.1)).Nodup:=by
 induction kv with
 |nil=>simp[d_]
 |cons q r bB=>
  obtain⟨a,y⟩:=q;simp only[gI,oK]at h;unfold d_;by_cases e:a=k
  ·simp_all
  simp_all[if_neg,gI,oK,acl]
theorem acm{kv:List (K×X)}{k cA:K}(h:(kv.map (·.1)).Nodup):cA∈(mB kv k).map (·.1)↔cA∈kv.map (·.1)/\cA≠k:=by
 induction kv with
 |nil=>simp[mB]
 |cons q r bB=>obtain⟨a,y⟩:=q;simp only[gI,oK]at h;unfold mB;grind
theorem amh{kv:List (K×X)}{k:K}(h:(kv.map (·.1)).Nodup):((mB kv k).map (·.1)).Nodup:=by
 induction kv with
 |nil=>simp[mB]
 |cons q r bB=>
  obtain⟨a,y⟩:=q;simp only[gI,oK]at h;unfold mB;by_cases e:a=k
  ·simp_all
  simp_all[if_neg,gI,oK,acm]
end
section
variable {n : Nat} {t : bf}
def Ds(t:bf)(i:Nat):Prop:=∃x,t.nodes[i]? =D x/\x.kind=1/\x.n< 0
def MR(t:bf)(fU:List Int)(q:Int):Prop:=∃k x,k∈fU/\t.nodes[k.toNat]? =D x/\x.kind=40/\q∈x.a3
theorem Ta(ai:c7 t)(aM:∀q∈t.aX,0<=q/\q<t.nodes.length):I (Cy (aZ n) t) λr=>r=ah↔∀i,Ds t i->MR t t.aX i:=by
 have a_:=ai.nodes;have hm:=ai.aX;unfold Cy Z2;refine I.for t.nodes.length (λk (c:List (Int×Bool))=>((k:Int),c)) (λk c=>(c.map (·.1)).Nodup/\∀q,q∈c.map (·.1)↔∃i:Nat,i<k/\q=(i:Int)/\Ds t i) (t0:=[]) rfl ⟨by simp,λq=>by simp⟩ (λk c au bq=>?_) λc bq=>?_
 ·refine I.aC (λ_=>I.g7 au λx ar=>?_) dv;have a5:=cM (k:=k) aa;refine I.bC (λh=>I.inl ⟨_,by rw[a5],amg bq.1,λq=>?_⟩) λh=>I.inl ⟨c,by rw[a5],bq.1,λq=>?_⟩
  ·rw[acl,bq.2];simp only[ea,decide_eq_true_eq]at h;constructor
   ·rintro(⟨i,h1,h2,aJ⟩|rfl)
    ·grind
    ·exact⟨k,aa,rfl,x,ar,h⟩
   grind
  ·rw[bq.2];constructor
   ·grind
   ·rintro⟨i,h1,h2,aJ⟩;by_cases e:i=k
    ·subst e;obtain⟨y,bp,cy,cY⟩:=aJ;grind
    grind
 ·refine I.aC br λ_=>I.dk ?_;have ami:∀q,q∈c.map (·.1)↔∃i:Nat,q=(i:Int)/\Ds t i:=λq=>by
   rw[bq.2];exact⟨λ⟨i,_,h⟩=>⟨i,h⟩,λ⟨i,h1,h2⟩=>⟨i,(cz.1 h2.choose_spec.1).1,h1,h2⟩⟩
  unfold Rp Z0;refine I.for t.aX.length (λk (c:List (Int×Bool))=>((k:Int),c)) (λk c=>(c.map (·.1)).Nodup/\∀q,q∈c.map (·.1)↔(∃i:Nat,q=(i:Int)/\Ds t i)/\¬MR t (t.aX.take k) q) (t0:=c) rfl ⟨bq.1,λq=>by rw[ami];exact⟨λh=>⟨h,λ⟨k,x,h1,_⟩=>by cases h1⟩,λh=>h.1⟩⟩ (λk c au bq=>?_) λc bq=>?_
  ·refine I.aC (λ_=>I.g7 au λq aE=>?_) dv;have MS:=aM q (cC aE);have a5:=cM (k:=k) aa;have cT:=gd aE;refine I.Jq MS.1 MS.2 λx ar=>?_;refine I.eh (λh=>I.inl ⟨c,by rw[a5],bq.1,λv=>?_⟩) λh=>I.Jq MS.1 MS.2 λmu Jk=>?_
   ·rw[bq.2,cT];refine and_congr Iff.rfl (not_congr ⟨λ⟨k,x,h1,h2⟩=>⟨k,x,xb _ h1,h2⟩,λ⟨k,y,h1,h2,aJ,bp⟩=>?_⟩);rcases ig.1 h1 with h1|h1
    ·exact⟨k,y,h1,h2,aJ,bp⟩
    simp_all
   ·rw[ar]at Jk;cases Jk;have m9:=ai.a3 x (cC ar);unfold ZZ;refine I.for x.a3.length (λj (c:List (Int×Bool))=>((j:Int),c)) (λj c=>(c.map (·.1)).Nodup/\∀v,v∈c.map (·.1)↔((∃i:Nat,v=(i:Int)/\Ds t i)/\¬MR t (t.aX.take k) v)/\v ∉ x.a3.take j) (t0:=c) rfl ⟨bq.1,λv=>by simp_all⟩ (λj c ae bq=>?_) λc bq=>?_
    ·refine I.aC (λ_=>I.g7 ae λw hw=>?_) dv;refine I.inl ⟨mB c w,by rw[cM aa],amh bq.1,λv=>?_⟩;rw[acm bq.1,bq.2,gd hw,ig,Ak,not_or,and_assoc]
    ·refine I.aC br λ_=>I.dk (I.inl ⟨c,by rw[a5],bq.1,λv=>?_⟩);rw[bq.2,fz (b5 _),cT,and_assoc];refine and_congr Iff.rfl ⟨λ⟨h1,h2⟩ ⟨cA,y,aJ,bp,cy,cY⟩=>?_,λh1=>⟨λ⟨cA,y,aJ,bp⟩=>h1 ⟨cA,y,xb _ aJ,bp⟩,λaJ=>h1 ⟨q,x,by simp,ar,h,aJ⟩⟩⟩;rcases ig.1 aJ with aJ|aJ
     ·exact h1 ⟨cA,y,aJ,bp,cy,cY⟩
     simp_all
  ·refine I.aC br λ_=>I.inr ?_;have h2:=bq.2;rw[fz (b5 _)]at h2;rw[decide_eq_true_eq];constructor
   ·grind
   ·intro h;have:c.map (·.1)=[]:=List.eq_nil_iff_forall_not_mem.2 λv bg=>by
     grind
    simp_all
end
variable {α:Type}{xs:List α}
theorem k7{n:Nat}{i:Nat}{x:α}(h:xs[i]? =D x)(a_:i<n):fK n xs (i:Int)=D ⟨(i,x),h⟩:=by unfold fK;grind
theorem Tb:gH xs.length xs=D xs:=by unfold gH;rw[if_pos rfl]
section
variable {n : Nat} {t : bf}
def rB(t:bf)(i:Int)(c:List Int):Prop:=c.length=t.nodes.length/\∀v∈c,0<=v/\v<=(t.nodes.length:Int)-i
variable {i:Nat}
theorem acn{xs:List Int}{v w:Int}(h:w∈xs.set i v):w=v\/w∈xs:=by grind
variable {c z:List Int}
theorem amj(ai:c7 t){x:bz}(ar:t.nodes[i]? =D x)(fJ:o9 x i)(bj:z.length=t.nodes.length)(aP:rB t i c):
  I (x2 (aZ n) t (i:Int) z (0,c)) (ln (λs=>s.1=(i:Int)- 1/\rB t ((i:Int)- 1) s.2) λ_:List Int=>False):=by
 have a_:=ai.nodes;have m9:=ai.a3 x (cC ar);have dN:=(cz.1 ar).1;unfold x2;refine I.for x.a3.length (λk (c:List Int)=>((k:Int),c)) (λk c=>rB t ((i:Int)- 1) c/\∀v,c[i]? =D v->v<=(t.nodes.length:Int)-i) (t0:=c) rfl ⟨⟨aP.1,λv bg=>⟨(aP.2 v bg).1,by have:=(aP.2 v bg).2;omega⟩⟩,λv bg=>(aP.2 v (cC bg)).2⟩ (λk c au bq=>?_) λc bq=>?_
 ·refine I.aL ar (I.aC (λ_=>I.aL ar (I.g7 au λq aE=>?_)) dv);obtain⟨fs,rfl⟩:=tB (fJ q (cC aE)).1;have v9:=(fJ _ (cC aE)).2;have aK:=bq.1.1;obtain⟨v,bg⟩:∃v,c[i]? =D v:=⟨_,cq aa⟩
  obtain⟨w,hw⟩:∃w,c[fs]? =D w:=⟨_,cq aa⟩
  have Qc:=bq.2 v bg;have Tc:=(bq.1.2 v (cC bg)).1;refine I.aq (k7 bg aa) (I.aq (k7 hw aa) (I.inl ⟨_,by rw[cM aa],⟨cK,λu hu=>?_⟩,λu hu=>?_⟩))
  ·dsimp only at hu;rw[c8 aa aa]at hu;rcases acn hu with rfl|hu
   ·omega
   ·exact bq.1.2 u hu
  grind
 ·refine I.aL ar (I.aC br λ_=>I.dk (I.ret ?_));show(aH ((i:Int)- 1)=_)/\rB t ((i:Int)- 1) c;grind[c8]
theorem Td{m:Nat}(h:m<=1000000)(x:Int):mk (m:Int) x=D (dm m x):=by unfold mk;grind
theorem aco(ai:c7 t)(fJ:∀(i:Nat) x,t.nodes[i]? =D x->o9 x i)(bj:z.length=t.nodes.length)(ao:i<t.nodes.length)(aP:rB t i c):
  ∃v,∃bg:c[i]? =D v,0<=v/\∀b:List Int,b=c.set i (fR v 1)->rB t i b/\I (x2 (aZ n) t (i:Int) z (0,b)) (ln (λs=>s.1=(i:Int)- 1/\rB t ((i:Int)- 1) s.2) λ_:List Int=>False):=by
 have a_:=ai.nodes;have aK:=aP.1;obtain⟨x,ar⟩:∃x,t.nodes[i]? =D x:=⟨_,cq ao⟩
 obtain⟨v,bg⟩:∃v,c[i]? =D v:=⟨_,cq aa⟩
 have Qc:=aP.2 v (cC bg);grind[rB,acn,fR,amj]
theorem amk(ai:c7 t)(fJ:∀(i:Nat) x,t.nodes[i]? =D x->o9 x i):I (C0 (aZ n) t) λl=>l.length=t.nodes.length/\∀v∈l,0<=v:=by
 have a_:=ai.nodes;unfold C0;refine I.aq (Td aa 0) ?_;unfold Sv;have a5:aH ((t.nodes.length:Int)- 1)=(t.nodes.length:Int)- 1:=c8 aa aa;rw[a5];refine I.b8 (λs:Int×List Int=>∃k:Nat,s.1=(k:Int)- 1/\k<=t.nodes.length/\rB t s.1 s.2) (λs=>(s.1+1).toNat) ?_ ⟨t.nodes.length,rfl,b5 _,by simp,λv bg=>by grind⟩;rintro⟨_,c⟩ ⟨k,rfl,au,aP⟩;refine I.aC (λbw=>?_) λbw=>?_
 ·obtain⟨cA,rfl⟩:∃cA,k=cA+1:=⟨k- 1,aa⟩
  have c0:((cA+1:Nat):Int)- 1=(cA:Int):=by omega
  rw[c0]at aP⊢;obtain⟨v,bg,Tc,aB⟩:=aco (n:=n) ai fJ (z:=dm t.nodes.length 0) fT aa aP;obtain⟨jn,ic⟩:=aB _ rfl;refine I.aq (k7 bg dt) (I.aq (k7 bg dt) ?_);refine ic.mono λs aV=>?_;cases s with
  |inl s=>obtain⟨h1,h2⟩:=aV;refine⟨⟨cA,h1,aa,cK⟩,?_⟩;omega
  |inr r=>exact aV.elim
 ·refine I.dk ?_;rw[List.length_replicate,<-aP.1];refine I.aq Tb (I.ret ⟨rfl,λv bg=>(aP.2 v bg).1⟩)
theorem aml(ai:c7 t)(fJ:∀(i:Nat) x,t.nodes[i]? =D x->o9 x i):FR (aZ n) t=C0 (aZ n) t:=by
 have a_:=ai.nodes;unfold FR C0;rw[Td aa 0,cl,cl];unfold ZG Sv;have a5:aH ((t.nodes.length:Int)- 1)=(t.nodes.length:Int)- 1:=c8 aa aa;rw[a5];have aB:∀s:Int×List Int,(∃k:Nat,s.1=(k:Int)- 1/\k<=t.nodes.length/\rB t s.1 s.2)->0<=s.1->∃i:Nat,s.1=i/\i<t.nodes.length/\∃v,∃bg:s.2[i]? =D v,0<=v/\∀b:List Int,b=s.2.set i (fR v 1)->rB t i b/\I (x2 (aZ n) t (i:Int) (dm t.nodes.length 0) (0,b)) (ln (λs=>s.1=(i:Int)- 1/\rB t ((i:Int)- 1) s.2) λ_:List Int=>False):=by
  rintro⟨_,c⟩ ⟨k,rfl,au,aP⟩ bw;obtain⟨cA,rfl⟩:∃cA,k=cA+1:=⟨k- 1,aa⟩
  have c0:((cA+1:Nat):Int)- 1=(cA:Int):=by omega
  simp only[c0]at aP;exact⟨cA,c0,aa,aco (n:=n) ai fJ (z:=dm t.nodes.length 0) fT aa aP⟩
 have Ar:∀(i:Nat)(c:List Int),i<t.nodes.length->FQ t (i:Int) (aZ n) (dm t.nodes.length 0) c=x2 (aZ n) t (i:Int) (dm t.nodes.length 0) (0,c):=by
  intro i c ao;obtain⟨x,ar⟩:∃x,t.nodes[i]? =D x:=⟨_,cq ao⟩
  unfold FQ;rw[e3 ar,cl];unfold ZF x2;grind[e3]
 refine eP.congr (λs:Int×List Int=>∃k:Nat,s.1=(k:Int)- 1/\k<=t.nodes.length/\rB t s.1 s.2) (λs aV=>?_) (λs s' aV e=>?_) ⟨t.nodes.length,rfl,b5 _,by simp,λv bg=>by grind⟩
 ·by_cases bw:0<=s.1
  ·obtain⟨i,bk,ao,v,bg,Tc,ES⟩:=aB s aV bw;obtain⟨s1,c⟩:=s;dsimp only at bk bg bw⊢;subst bk;rw[if_pos fT,if_pos fT];have aM:=k7 bg (n:=(dm t.nodes.length (0:Int)).length) dt;simp only[aM,cl];rw[<-Ar i _ ao];by_cases bj:v=0
   ·subst bj;rw[if_pos fT];rfl
   ·rw[if_neg cK];have:fR v 1=v:=by unfold fR;rw[if_neg aa]
    rw[this];congr 1;apply mr;grind
  grind
 ·by_cases bw:0<=s.1
  ·obtain⟨i,bk,ao,v,bg,Tc,ES⟩:=aB s aV bw;obtain⟨s1,c⟩:=s;dsimp only at bk bg bw e;subst bk;rw[if_pos fT]at e;have aM:=k7 bg (n:=(dm t.nodes.length (0:Int)).length) dt;simp only[aM,cl]at e;have xo:x2 (aZ n) t (i:Int) (dm t.nodes.length 0) (0,c.set i (fR v 1))=D (.inl s'):=by
    rw[<-Ar i _ ao];by_cases bj:v=0
    ·subst bj;rw[if_pos fT]at e;exact e
    ·rw[if_neg cK]at e;have h1:fR v 1=v:=by unfold fR;rw[if_neg aa]
     have h2:c.set i v=c:=by apply mr;grind
     simp_all
   obtain⟨r,c0,gA⟩:=(ES _ rfl).2;rw[xo]at c0;cases c0;exact⟨i,gA.1,aa,by rw[gA.1];exact gA.2⟩
  simp_all
end
section
variable {n : Nat} {t : bf}
variable {l:List Int}
theorem amm(aK:l.length<=1000)(bw:∀v∈l,0<=v):I (Sw (aZ n) l (0,0)) λr=>(∀v∈l,v<=r)/\(r∈l\/r=0):=by
 unfold Sw;refine I.for l.length (λk (r:Int)=>(r,(k:Int))) (λk r=>0<=r/\(∀v∈l.take k,v<=r)/\(r∈l\/r=0)) (t0:=0) rfl ⟨me _,λv h=>(by cases h),.inr rfl⟩ (λk r au bq=>?_) λr bq=>?_
 ·refine I.aC (λ_=>I.g7 au λv bg=>I.inl ⟨fR r v,by rw[cM aa],?_,λw hw=>?_,?_⟩) dv
  ·unfold fR;split<;>omega
  ·rw[gd bg,ig,Ak]at hw;grind[fR]
  grind[fR,cC]
 simp_all[I.aC,absurd,I.inr,fz,b5]
theorem amn(aK:l.length<=1000)(e5:l≠[]):I (Ki (aZ n) l) λr=>(∀v∈l,v<=r)/\r∈l:=by
 have ob:0<l.length:=List.length_pos_iff.2 e5;unfold Ki;refine I.aC (λh=>by omega) λ_=>I.g7 (i:=0) ob λv bg=>?_;unfold ZH;refine I.b8 (λs:Int×Int=>∃k:Nat,s.2=k/\k<=l.length/\(∀v∈l.take k,v<=s.1)/\s.1∈l) (λs=>l.length-s.2.toNat) ?_ ⟨1,rfl,aa,λw hw=>?_,cC bg⟩
 ·rintro⟨r,_⟩ ⟨k,rfl,au,h1,h2⟩;dsimp only at h1 h2⊢;refine I.aC (λh=>I.g7 aa λw hw=>I.inl ⟨⟨k+1,cM aa,aa,λu hu=>?_,?_⟩,?_⟩) λh=>I.inr ?_
  ·rw[gd hw,ig,Ak]at hu;grind[fR]
  ·grind[fR,cC]
  ·grind[aH,cM]
  grind
 simp_all[gd,Ak,me]
theorem Te(ai:c7 t)(fJ:∀(i:Nat) x,t.nodes[i]? =D x->o9 x i):∃d,zD (aZ n) t=D d/\z3 (aZ n) t=D d:=by
 have a_:=ai.nodes;obtain⟨l,h1,h2,aJ⟩:=amk (n:=n) ai fJ;have bp:FR (aZ n) t=D l:=by rw[aml ai fJ,h1]
 obtain⟨r,cy,cY,gX⟩:=amm (n:=n) (l:=l) aa aJ;unfold z3 zD;rw[h1,cl,cy,bp];by_cases bj:t.nodes=[]
 ·simp_all
 ·have e5:l≠[]:=λe=>bj (List.eq_nil_of_length_eq_zero cK);obtain⟨q,gO,fP,w9⟩:=amn (n:=n) (l:=l) aa e5;refine⟨r,?_,rfl⟩;rw[if_neg cK,cl,gO,cl];have:q=r:=by
   grind
  rw[this]
variable {x:bz}
theorem amo{j k:Int}(h:rz x j k=ah):jo k=aQ:=by
 have dp:qv x j k=D ah:=by rw[MN,h]
 grind[qv,v3,v4,jo,decide]
theorem acp(ai:c7 t){i:Nat}(ar:t.nodes[i]? =D x)(fJ:o9 x i)(a8:hN x)(au:nL t x)(hl:∀(i:Nat) x,t.nodes[i]? =D x->hN x):∃b,xM t x=D b/\rs t (i:Int)=D b:=by
 have a_:=ai.nodes;have dN:=(cz.1 ar).1;have m9:=ai.a3 x (cC ar);have aCe:jB x=D ah:=by rw[S7,a8.zx]
 unfold rs;rw[e3 ar,cl];unfold xM;by_cases hr:x.kind=40
 ·simp only[decide_eq_true hr,if_true];have h2:x.a3.length=2:=by
   grind[jB]
  obtain⟨q,aE⟩:∃q,x.a3[0]? =D q:=⟨_,cq aa⟩
  obtain⟨fs,n_⟩:∃q,x.a3[1]? =D q:=⟨_,cq aa⟩
  have num:∀(j:Nat) q,x.a3[j]? =D q->∃y,aL t.nodes q=D y/\ -9999<=y.n/\y.n<=9999:=by
   intro j q aE;have bw:=fJ q (cC aE);have cf:q.toNat<t.nodes.length:=by omega
   refine⟨t.nodes[q.toNat],Xx bw.1 cf,?_⟩;have bh:=cq cf;have w1:=au j q _ aE bh;have amp:=hl _ _ bh;have Am:(t.nodes[q.toNat]).kind=1:=by
    have:qv x j (t.nodes[q.toNat]).kind=D ah:=by rw[MN,w1]
    simp_all[qv]
   have acd:m8 t.nodes[q.toNat]=D ah:=by rw[GF,amp.num]
   simp_all[m8]
  obtain⟨a,a9,aCf⟩:=num 0 q aE;obtain⟨b,aB,jn⟩:=num 1 fs n_;have de:aL x.a3 (0:Int)=D q:=e3 aE;have a5:aL x.a3 (1:Int)=D fs:=e3 n_;simp only[de,a5,a9,aB,cl,An];have w:aH (aH (b.n-a.n)+1)=b.n-a.n+1:=by rw[c8 (n:=b.n-a.n) aa aa,c8 aa aa]
  rw[w];grind
 ·simp only[decide_eq_false hr,fe,if_false];by_cases j8:x.kind=41
  ·simp_all
  simp only[decide_eq_false j8,fe,if_false];by_cases b9:x.kind=42
  ·simp only[decide_eq_true b9,if_true];exact⟨_,rfl,rfl⟩
  simp only[decide_eq_false b9,fe,if_false];by_cases MT:x.kind=33
  ·simp only[decide_eq_true MT,if_true];exact⟨_,rfl,rfl⟩
  simp only[decide_eq_false MT,fe,if_false];by_cases yc:x.kind=26
  ·simp_all
  simp only[decide_eq_false yc,fe,if_false];by_cases Dt:x.kind=46
  ·simp only[decide_eq_true Dt,if_true];refine⟨_,rfl,?_⟩;congr 1;grind[jB]
  simp_all
theorem acq(ai:c7 t)(a8:∀(i:Nat) x,t.nodes[i]? =D x->∃b,xM t x=D b/\rs t (i:Int)=D b):
  ∃z,xN (aZ n) t=D z/\(0<=z↔∃(i:Nat)(x:bz),t.nodes[i]? =D x/\xM t x=D aQ):=by
 have a_:=ai.nodes;show I (xN (aZ n) t) _;unfold xN;refine I.bind (Q:=λz=>0<=z↔∃(i:Nat)(x:bz),t.nodes[i]? =D x/\xM t x=D aQ) ?_ λz bj=>I.ret bj;unfold Rh ZJ;refine I.for t.nodes.length (λk (_:Unit)=>(k:Int)) (λk _=>∀(j:Nat) x,j<k->t.nodes[j]? =D x->xM t x=D ah) (t0:=()) rfl (λj x h=>by omega) (λk _ au bq=>?_) λ_ bq=>?_
 ·refine I.aC (λ_=>I.g7 au λx ar=>?_) dv;obtain⟨b,aB,_⟩:=a8 k x ar;unfold Rg;rw[aB,cl];refine I.aq rfl (I.bC (λh=>I.dk (I.ret ⟨λ_=>⟨k,x,ar,?_⟩,λ_=>by omega⟩)) λh=>I.inl ⟨(),by rw[cM aa],λj y ae bh=>?_⟩)
  ·simp_all
  grind
 ·refine I.aC br λ_=>I.dk (I.ret ⟨λh=>by omega,λ⟨i,x,h1,h2⟩=>?_⟩);grind
structure hA(t:bf):Prop where
 aX:t.aX.length<=60
 cZ:ik t
 amq:∃d,z3 (aZ 0) t=D d/\d<=30
 acr:∀(i:Nat) x,t.nodes[i]? =D x->rs t (i:Int)=D ah
theorem ik.a3(h:ik t)(i:Nat)(x:bz)(ar:t.nodes[i]? =D x):o9 x i:=λk au=>by obtain⟨a,_,h1⟩:=h.fI.all i (gx _) (cz.1 ar).1;rw[pW ar]at h1;obtain⟨j,rfl,h2,aJ⟩:=h1.eB k au;omega
theorem ik.gM(h:ik t)(j:Nat)(ae:j<t.nodes.length):bE t j↔(j:Int)∈t.aX:=by
 constructor
 ·intro ao;rcases h.fI.tE j (gx _) ae with h1|⟨p,h1,h2,aJ⟩
  ·exact h1
  ·exfalso;obtain⟨y,bh⟩:∃y,t.nodes[p]? =D y:=⟨_,cq h2⟩
   rw[pW bh]at aJ;obtain⟨s,aV⟩:=fO aJ;obtain⟨x,ar,As⟩:=ao;have:=amo ((h.o_ p y bh).2.1 s j x aV cK);simp_all
 ·intro hm;obtain⟨e8,e,h1⟩:=h.aX j hm;grind
theorem Du(ai:c7 t):ik t↔(∀(i:Nat) x,t.nodes[i]? =D x->hN x/\o9 x i/\nL t x)/\(ee (bd t) t.aX 0 t.nodes.length/\∀j,j<t.nodes.length->(bE t j↔(j:Int)∈t.aX))/\∀i,Ds t i->MR t t.aX i:=by
 constructor
 ·intro h;refine⟨λi x ar=>⟨(h.o_ i x ar).1,h.a3 i x ar,(h.o_ i x ar).2.1⟩,⟨h.fI,h.gM⟩,λi ⟨x,ar,h1,h2⟩=>?_⟩;have ao:=(cz.1 ar).1;rcases h.fI.tE i (gx _) ao with aJ|⟨p,aJ,bp,cy⟩
  ·have:=(bE.at ar).1 ((h.gM i ao).2 aJ);rw[h1]at this;cases this
  ·obtain⟨y,bh⟩:∃y,t.nodes[p]? =D y:=⟨_,cq bp⟩
   rw[pW bh]at cy;have hr:=(h.o_ p y bh).2.2 i x cy cK h1 h2;have hp:(p:Int)∈t.aX:=(h.gM p bp).1 ((bE.at bh).2 (by rw[hr];rfl));exact⟨p,y,hp,cK,hr,cy⟩
 ·rintro⟨h1,⟨h2,aJ⟩,bp⟩;have hn:∀k∈t.aX,∃j:Nat,k=j/\bE t j:=λk au=>by
   obtain⟨j,rfl,cy,cY⟩:=h2.eB k au;grind
  refine⟨h2,hn,λi x ar=>⟨(h1 i x ar).1,(h1 i x ar).2.2,λk y au bh Am nM=>?_⟩⟩;have ao:=(cz.1 ar).1;have D':=(h1 i x ar).2.1 k au;obtain⟨j,rfl⟩:=tB D'.1;obtain⟨q,z,cy,cY,gX,gO⟩:=bp j ⟨y,cK,Am,nM⟩;obtain⟨p,rfl,fP,w9⟩:=h2.eB q cy;simp only[eq]at cY;have:i=p:=h2.ach j i p (gx _) ao (gx _) w9 (by rw[pW ar];exact au) (by rw[pW cY];exact gO);simp_all
theorem amr(ai:c7 t)(GJ:1000<=n):∃e,Ku (aZ n) t=D e/\C1 (aZ n) t=D e/\(e=0↔hA t):=by
 have a_:=ai.nodes;have aCg:=ai.aX;unfold Ku C1;have ams:Kg t=D ((decide (800<(t.nodes.length:Int)))||(decide (60<(t.aX.length:Int)))):=rfl;rw[ams,cl];by_cases MU:((decide (800<(t.nodes.length:Int)))||(decide (60<(t.aX.length:Int))))=ah
 ·rw[if_pos MU,if_pos MU];refine⟨5,rfl,rfl,⟨cF,λh=>?_⟩⟩;have:=h.aX;grind
 rw[if_neg MU,if_neg MU];have amt:t.aX.length<=60:=by grind
 obtain⟨wb,amu,Tf⟩:=ame (n:=n) ai;rw[amu,cl];have prog:I (Rq t (aZ n) 0) λe=>(¬ik t/\e=4)\/(ik t/\Cz (aZ n) t ()=D e):=by
  unfold Rq;refine I.for t.nodes.length (λk (_:Unit)=>(k:Int)) (λk _=>∀(j:Nat) x,j<k->t.nodes[j]? =D x->hN x/\o9 x j/\nL t x) (t0:=()) rfl (λj x h=>by omega) (λk _ au bq=>?_) λ_ bq=>?_
  ·refine I.aC (λ_=>?_) dv;obtain⟨x,ar⟩:∃x,t.nodes[k]? =D x:=⟨_,cq au⟩
   refine I.bind (al1 (n:=n) ai ar) λb aB=>I.bC (λh=>I.dk (I.ret (.inl ⟨λa8=>?_,rfl⟩))) λh=>I.inl ⟨(),by rw[cM aa],λj y ae bh=>?_⟩
   ·grind[Du]
   grind
  ·refine I.aC br λ_=>I.dk ?_;have hl:∀(i:Nat) x,t.nodes[i]? =D x->hN x/\o9 x i/\nL t x:=λi x ar=>bq i x (cz.1 ar).1 ar;obtain⟨ec,ui,n5⟩:=aci (n:=n) ai (λi x ar=>(hl i x ar).2.1) GJ;have hm:Cz (aZ n) t ()=aw (Cx (aZ n) t) λad=>if(!ad)then D 4 else(Cy (aZ n) t).bind λaA=>if(!aA)then D 4 else(zD (aZ n) t).bind λaN=>if(decide (30<aN))then D 5 else(xN (aZ n) t).bind λa0=>if(decide (0<=a0))then D 3 else D 0:=rfl
   by_cases pX:ik t
   ·obtain⟨d,GI,_⟩:=Te (n:=n) ai (λi x ar=>(hl i x ar).2.1);have pD:ec=ah:=n5.2 ((Du ai).1 pX).2.1;obtain⟨oF,GL,zg⟩:=Ta (n:=n) ai (λq aE=>by obtain⟨j,rfl,_,h⟩:=pX.fI.eB q aE;omega);have Tg:oF=ah:=zg.2 ((Du ai).1 pX).2.2;obtain⟨z,rC,_⟩:=acq (n:=n) ai (λi x ar=>acp ai ar (hl i x ar).2.1 (hl i x ar).1 (hl i x ar).2.2 λi x ar=>(hl i x ar).1);have:∃e,Cz (aZ n) t ()=D e:=by
     rw[hm,ui,GL,GI,rC,pD,Tg];simp only[cl,MQ,fe,if_false];split
     ·simp
     grind
    obtain⟨e,he⟩:=this;exact⟨e,he,.inr ⟨pX,he⟩⟩
   ·rw[hm,ui,cl];refine I.bC (λ_=>I.ret (.inl ⟨pX,rfl⟩)) λh=>?_;have amv:=n5.1 dt;obtain⟨oF,GL,zg⟩:=Ta (n:=n) ai (λq aE=>by obtain⟨j,rfl,_,h⟩:=amv.1.eB q aE;omega);rw[GL,cl];refine I.bC (λ_=>I.ret (.inl ⟨pX,rfl⟩)) λh=>?_;grind[absurd,Du]
 obtain⟨e,he,rO⟩:=prog;rw[he];rcases rO with⟨amw,rfl⟩|⟨pX,q_⟩
 ·have:wb=aQ:=by
   simp_all
  subst this;exact⟨4,rfl,rfl,⟨cF,λh=>absurd h.cZ amw⟩⟩
 ·have kN:wb=ah:=Tf.2 pX;subst kN;have fJ:=pX.a3;have hl:∀(i:Nat) x,t.nodes[i]? =D x->hN x:=λi x ar=>(pX.o_ i x ar).1;have ff:=λ(i:Nat) x (ar:t.nodes[i]? =D x)=>acp ai ar (fJ i x ar) (hl i x ar) (pX.o_ i x ar).2.1 hl;obtain⟨d,GI,v_⟩:=Te (n:=n) ai fJ;obtain⟨d0,_,ha⟩:=Te (n:=0) ai fJ;have Fu:d=d0:=by
   have:z3 (aZ n) t=z3 (aZ 0) t:=rfl;simp_all
  subst Fu;obtain⟨ec,ui,n5⟩:=aci (n:=n) ai fJ GJ;have pD:ec=ah:=n5.2 ((Du ai).1 pX).2.1;obtain⟨oF,GL,zg⟩:=Ta (n:=n) ai (λq aE=>by obtain⟨j,rfl,_,h⟩:=pX.fI.eB q aE;omega);have Tg:oF=ah:=zg.2 ((Du ai).1 pX).2.2;obtain⟨z,rC,MV⟩:=acq (n:=n) ai ff;have hm:Cz (aZ n) t ()=aw (Cx (aZ n) t) λad=>if(!ad)then D 4 else(Cy (aZ n) t).bind λaA=>if(!aA)then D 4 else(zD (aZ n) t).bind λaN=>if(decide (30<aN))then D 5 else(xN (aZ n) t).bind λa0=>if(decide (0<=a0))then D 3 else D 0:=rfl
  rw[hm,ui,GL,GI,rC,pD,Tg]at q_;simp only[cl,MQ,fe,if_false]at q_;simp only[MQ,fe,if_false];rw[v_,cl];by_cases sy:30<d
  ·rw[if_pos cK]at q_⊢;cases q_;refine⟨5,rfl,rfl,⟨cF,λh=>?_⟩⟩;obtain⟨cQ,h1,h2⟩:=h.amq;grind
  rw[if_neg cK]at q_⊢;have last:I (Sx (aZ n) t 0) λe=>(e=0/\∀(i:Nat) x,t.nodes[i]? =D x->rs t (i:Int)=D ah)\/(e=3/\∃(i:Nat)(x:bz),t.nodes[i]? =D x/\rs t (i:Int)=D aQ):=by
   unfold Sx;refine I.for t.nodes.length (λk (_:Unit)=>(k:Int)) (λk _=>∀(j:Nat) x,j<k->t.nodes[j]? =D x->rs t (j:Int)=D ah) (t0:=()) rfl (λj x h=>by omega) (λk _ au bq=>?_) λ_ bq=>?_
   ·refine I.aC (λ_=>?_) dv;obtain⟨x,ar⟩:∃x,t.nodes[k]? =D x:=⟨_,cq au⟩
    obtain⟨b,_,aB⟩:=ff k x ar;refine I.aq aB (I.bC (λh=>I.dk (I.ret (.inr ⟨rfl,k,x,ar,cK⟩))) λh=>I.inl ⟨(),by rw[cM aa],λj y ae bh=>?_⟩);grind
   ·exact I.aC br λ_=>I.dk (I.ret (.inl ⟨rfl,λi x ar=>bq i x (cz.1 ar).1 ar⟩))
  obtain⟨hd,h1,h2⟩:=last;rw[h1];rcases h2 with⟨rfl,h2⟩|⟨rfl,i,x,ar,h2⟩
  ·have uA:¬ 0<=z:=λh=>by
    grind
   rw[if_neg cK]at q_;cases q_;exact⟨0,rfl,rfl,⟨λ_=>⟨amt,pX,⟨d,ha,aa⟩,h2⟩,λ_=>rfl⟩⟩
  ·have uA:0<=z:=by
    grind
   rw[if_pos cK]at q_;cases q_;refine⟨3,rfl,rfl,⟨cF,λh=>?_⟩⟩;have:=h.acr i x ar;simp_all
end
def hs(t:bf)(j:Nat):Option Nat:=(mn t.nodes.length).find? λi=>decide ((j:Int)∈bd t i)
def GM:Option Nat->Int|some p=>p|none=> -1
def hI(t:bf)(j:Nat):Int:=GM (hs t j)
section
variable {n : Nat} {t : bf}
theorem Th{l:List Int}{a:Int}(aK:l.length< 1000000):z4 (aZ n) l a=D (decide (a∈l)):=by
 have:I (z4 (aZ n) l a) λr=>r=ah↔a∈l:=by
  unfold z4 aa6;refine I.for l.length (λk (_:Unit)=>(k:Int)) (λk _=>∀j x,j<k->l[j]? =D x->x≠a) (t0:=()) rfl (λj x h=>by omega) (λk _ au bq=>?_) λ_ bq=>?_
  ·refine I.aC (λ_=>I.g7 au λx ar=>I.aC (λe=>I.inr ⟨λ_=>e▸cC ar,λ_=>rfl⟩) λe=>I.inl ⟨(),by rw[cM aa],λj y ae bh=>?_⟩) dv;grind
  ·refine I.aC br λ_=>I.inr ⟨cF,λh=>?_⟩;grind[fO,absurd,cz]
 obtain⟨r,e,h⟩:=this;grind
variable {j p:Nat}
theorem ol(ay:ik t)(h:hs t j=D p):p<t.nodes.length/\(j:Int)∈bd t p/\j<p:=by
 have h1:=acj h;have h2:=wa h;have hp:p<t.nodes.length:=ack.1 h2;have hm:(j:Int)∈bd t p:=by simp_all
 obtain⟨x,ar⟩:∃x,t.nodes[p]? =D x:=⟨_,cq hp⟩
 have:=ay.a3 p x ar j (by rw[<-pW ar];exact hm);simp_all
theorem acs(h:hs t j=aF)(hp:p<t.nodes.length):(j:Int) ∉ bd t p:=by have:=List.find?_eq_none.1 h p (ack.2 hp);simp_all
theorem lv(ay:ik t)(hp:p<t.nodes.length)(h:(j:Int)∈bd t p):hs t j=D p:=by
 cases e:hs t j with
 |none=>exact absurd h (acs e hp)
 |some q=>obtain⟨h1,h2,aJ⟩:=ol ay e;rw[ay.fI.ach j q p (gx _) h1 (gx _) hp h2 h]
theorem rD(ay:ik t)(ae:j<t.nodes.length):hs t j=aF↔(j:Int)∈t.aX:=by
 constructor
 ·intro h;rcases ay.fI.tE j (gx _) ae with h1|⟨p,h1,h2,aJ⟩
  ·exact h1
  ·exact absurd aJ (acs h h2)
 ·intro h;cases e:hs t j with
  |none=>rfl
  |some q=>obtain⟨h1,h2,aJ⟩:=ol ay e;exact(ay.fI.y8 j q h (gx _) h1 h2).elim
theorem GN(ai:c7 t)(ay:ik t)(ae:j<t.nodes.length):x3 (aZ n) t (j:Int)=D (hI t j):=by
 have a_:=ai.nodes;refine I.bN ?_;unfold x3 aa7;rw[cM aa];refine I.b8 (λs:Int=>∃k:Nat,s=k/\j<k/\k<=t.nodes.length/\∀i,i<k->(j:Int) ∉ bd t i) (λs=>t.nodes.length-s.toNat) ?_ ⟨j+1,rfl,aa,aa,λi ao hm=>?_⟩
 ·rintro _ ⟨k,rfl,h1,h2,aJ⟩;refine I.aC (λh=>I.g7 aa λx ar=>?_) λh=>I.inr ?_
  ·have m9:=ai.a3 x (cC ar);refine I.aq (Th aa) (I.aC (λhm=>I.dk (I.ret ?_)) λhm=>I.inl ⟨⟨k+1,cM aa,aa,aa,λi ao=>?_⟩,?_⟩)
   ·unfold hI;rw[lv (p:=k) ay aa (by rw[pW ar];exact hm)];rfl
   ·grind[pW]
   grind[cM]
  ·have:hs t j=aF:=by
    grind[hs,ol,absurd]
   unfold hI;rw[this];rfl
 ·obtain⟨x,ar⟩:∃x,t.nodes[i]? =D x:=⟨_,cq aa⟩
  have:=ay.a3 i x ar j (by rw[<-pW ar];exact hm);omega
theorem Ti:∀N:Nat,N<=800->CA (IntKind.u64.wrap 1) (IntKind.u64.wrap (N:Int))=D (0,(N:Int)):=by
 have h:((mn 801).all λN=>decide (CA (IntKind.u64.wrap 1) (IntKind.u64.wrap (N:Int))=D (0,(N:Int))))=ah:=by kernel_rfl
 grind
theorem Tj{α:Type}{x:α}{c:List α}{s:Nat}(aV:s<=c.length):c.take s=dm s x↔∀j,j<s->c[j]? =D x:=by
 constructor
 ·intro h j ae;have:=congrArg (λl=>l[j]?) h;grind
 ·intro h;apply mr;grind
theorem amx{N:Nat}(e0:N<=800)(x:Int):FV (aZ n) [x] (N:Int)=D (N,dm N x):=by
 refine I.bN ?_;unfold FV;refine I.aC br λ_=>?_;have a5:IntKind.u64.wrap (([x]:List Int).length:Int)=IntKind.u64.wrap 1:=rfl;rw[a5];refine I.aq (Ti N e0) ?_;dsimp only;rw[if_neg dt,E4 aa];refine I.aq (Td aa 0) ?_;have jc:mD (dm N (0:Int)) 0 (dm N (0:Int)).length [x]=D ([x].take N++(dm N (0:Int)).drop (min 1 N)):=by simp_all[mD,if_pos]
 refine I.aq jc ?_;have bA:(dm N (0:Int)).length=N:=by simp
 rw[bA];have em:(((min ([x]:List Int).length N:Nat)):Int)=((min 1 N:Nat):Int):=rfl;rw[em];unfold Z4;rw[bA];refine I.b8 (λs:Int×List Int=>∃k:Nat,s.1=k/\k<=N/\(0<N->0<k)/\s.2.length=N/\∀j,j<k->s.2[j]? =D x) (λs=>N-s.1.toNat) ?_ ⟨min 1 N,rfl,aa,aa,dt,λj ae=>?_⟩
 ·rintro⟨_,c⟩ ⟨k,rfl,au,tC,aK,aP⟩;dsimp only at aK aP⊢;simp only[eq];refine I.aC (λh=>?_) λh=>?_
  ·refine I.aq (z:=()) (by unfold xm;rw[if_pos aa]) (I.aq (z:=()) (by unfold xn;rw[if_pos aa]) ?_);have bk:te c (0+k) (N-k) 0 k=D (c.take k++(c.take k).take (N-k)++c.drop (k+min k (N-k))):=by
    simp_all[te,if_pos,mD]
   refine I.aq bk (I.inl ⟨⟨k+min k (N-k),?_,aa,aa,?_,λj ae=>?_⟩,?_⟩)
   ·grind[aH,c8]
   ·grind
   ·grind
   grind[aH,c8]
  ·refine I.inr ?_;have:k=N:=by omega
   subst this;congr 1;have:=(Tj (x:=x) (c:=c) (s:=k) aa).2 aP
   rwa[fz aa]at this
 grind
def qD(t:bf)(c:List Int):Prop:=c.length=t.nodes.length/\∀j,j<t.nodes.length->c[j]? =D (hI t j)
def Dv(o:Option Nat)(P:Nat->Bool):Int:=match o with|some p=>cond (P p) (p:Int) (-1)|none=> -1
theorem amy(ai:c7 t)(ay:ik t):I (Rr (aZ n) t (t.nodes.length,dm t.nodes.length (-1)) (t.nodes.length,dm t.nodes.length (-1)) (0,dm t.nodes.length (-1))) λr=>∃c,qD t c/\r=.inr (0,t.nodes,t.aX,t.nodes.length,t.nodes.length,c,dm t.nodes.length (-1)):=by
 have a_:=ai.nodes;unfold Rr;refine I.for t.nodes.length (λk (c:List Int)=>((k:Int),c)) (λk c=>c.length=t.nodes.length/\∀j,j<t.nodes.length->c[j]? =D (Dv (hs t j) λp=>decide (p<k))) (t0:=dm t.nodes.length (-1)) rfl ⟨by simp,λj ae=>?_⟩ (λk c au bq=>?_) λc bq=>?_
 ·rw[List.getElem?_replicate,if_pos ae];cases hs t j<;>rfl
 ·refine I.aC (λ_=>I.g7 au λx ar=>?_) dv;have m9:=ai.a3 x (cC ar);have fJ:=ay.a3 k x ar;unfold Z5;refine I.for x.a3.length (λs (c:List Int)=>((s:Int),c)) (λs c=>c.length=t.nodes.length/\∀j:Nat,j<t.nodes.length->c[j]? =D (Dv (hs t j) λp=>decide (p<k)||(decide (p=k)&&decide ((j:Int)∈x.a3.take s)))) (t0:=c) rfl ⟨bq.1,λj ae=>?_⟩ (λs c aV bq=>?_) λc bq=>?_
  ·rw[bq.2 j ae];cases hs t j<;>simp[Dv]
  ·refine I.aC (λ_=>I.g7 aV λq aE=>?_) dv;obtain⟨fs,rfl⟩:=tB (fJ q (cC aE)).1;have v9:=(fJ _ (cC aE)).2;have Dw:hs t fs=D k:=lv ay au (by grind[pW,cC]);have jN:=bq.2 fs aa;refine I.aq (k7 jN aa) (I.inl ⟨c.set fs (k:Int),by rw[cM aa],cK,λj ae=>?_⟩);rw[List.getElem?_set];split
   ·simp_all[if_pos,gd,Dv]
   ·next e=>
    rw[bq.2 j ae,gd aE];grind
  ·refine I.aC br λ_=>I.dk (I.ret ⟨c,by rw[cM aa],bq.1,λj ae=>?_⟩);rw[bq.2 j ae,fz (b5 _)];cases e:hs t j with
   |none=>rfl
   |some p=>have Dw:=ol ay e;unfold Dv;dsimp only;congr 2;rw[Bool.eq_iff_iff];simp only[Bool.or_eq_true,ea,decide_eq_true_eq];grind[pW]
 ·refine I.aC br λ_=>I.inr ⟨c,⟨bq.1,λj ae=>?_⟩,rfl⟩;rw[bq.2 j ae];unfold hI;cases e:hs t j with
  |none=>rfl
  |some p=>grind[ol,Dv,GM,decide_eq_true]
end
def af(t:bf)(j:Nat):bz:=match t.nodes[j]? with|some x=>x|none=>⟨0,⟨#[]⟩,0,[],0⟩
variable {j:Nat}{t:bf}
theorem amz{x:bz}(h:t.nodes[j]? =D x):af t j=x:=by unfold af;rw[h]
theorem lS(h:j<t.nodes.length):t.nodes[j]? =D (af t j):=by have:=cq h;rw[this,amz this]
theorem cw(h:j<t.nodes.length):aL t.nodes (j:Int)=D (af t j):=e3 (lS h)
theorem c6(h:j<t.nodes.length):bd t j=(af t j).a3:=pW (lS h)
def Dx(k:Int):Bool:=decide (k=40)||(decide (k=41)||(decide (k=42)||(decide (k=43)||(decide (k=44)||decide (k=20)))))
def gZ(t:bf)(j:Nat):Bool:=Dx (af t j).kind||(decide ((af t j).kind=34)&&(match hs t j with|some p=>decide ((af t p).kind=42)|none=>aQ))
def sz(k:Int):Bool:=decide (k=3)||(decide (k=21)||(decide (k=24)||(decide (k=32)||decide (k=45))))
def ko(a b:Int):Bool:=if decide (a=3)then decide (b=40)||decide (b=43)||decide (b=20)||decide (b=34)else if decide (a=21)then decide (b=42)else if decide (a=45)then decide (b=44)else decide (b=41)
def f_(t:bf)(p j:Nat):List Int:=
 if(bd t p).getLast? =D (j:Int)then(if(af t p).kind=20 then [(p:Int)]else if(af t p).kind=42 then(bd t p).take ((bd t p).length- 2)++[(p:Int)]else [])else []
def u3(t:bf):Nat->Nat->List Int×Nat
 |0,j=>([],j)
 |k+1,j=>match hs t j with
  |none=>([],j)
  |some p=>(f_ t p j++(u3 t k p).1,(u3 t k p).2)
def dz(t:bf)(j:Nat):List Int×Nat:=u3 t t.nodes.length j
section
variable {n j p : Nat} {t : bf}
theorem amA(ay:ik t):∀(k cA j:Nat),t.nodes.length<=j+k->t.nodes.length<=j+cA->j<t.nodes.length->u3 t k j=u3 t cA j:=by
 intro k;induction k with
 |zero=>omega
 |succ k bB=>
  intro cA j h dp ae;cases cA with
  |zero=>omega
  |succ cA=>
   unfold u3;cases e:hs t j with
   |none=>rfl
   |some p=>obtain⟨h1,h2,aJ⟩:=ol ay e;dsimp only;rw[bB cA p aa aa h1]
theorem pa(ae:j<t.nodes.length)(h:hs t j=aF):dz t j=([],j):=by
 unfold dz;cases e:t.nodes.length with
 |zero=>omega
 |succ k=>unfold u3;rw[h]
theorem j9(ay:ik t)(ae:j<t.nodes.length)(h:hs t j=D p):dz t j=(f_ t p j++(dz t p).1,(dz t p).2):=by obtain⟨h1,h2,aJ⟩:=ol ay h;have:dz t j=u3 t (t.nodes.length+1) j:=amA ay _ _ j aa aa ae;rw[this];show(match hs t j with|none=>([],j)|some p=>(f_ t p j++(u3 t t.nodes.length p).1,(u3 t t.nodes.length p).2))=_;rw[h];rfl
theorem Dy(ay:ik t){P:Nat->Prop}(bw:∀j,j<t.nodes.length->hs t j=aF->P j)(h1:∀j p,j<t.nodes.length->p<t.nodes.length->j<p->(j:Int)∈bd t p->hs t j=D p->P p->P j):∀j,j<t.nodes.length->P j:=by
 have key:∀d j,j+d=t.nodes.length->j<t.nodes.length->P j:=by
  intro d;induction d using Nat.strongRecOn with
  |ind d bB=>
   intro j az ae;cases e:hs t j with
   |none=>grind
   |some p=>obtain⟨h2,aJ,bp⟩:=ol ay e;exact h1 j p ae h2 bp aJ e (bB (t.nodes.length-p) aa p aa h2)
 intro j ae;exact key (t.nodes.length-j) j aa ae
theorem GO(ay:ik t){j:Nat}(ae:j<t.nodes.length):∃a,ee (bd t) (bd t j) a j:=by obtain⟨c,_,h⟩:=ay.fI.all j (gx _) ae;grind
theorem At(ay:ik t):∀j,j<t.nodes.length->(dz t j).2<t.nodes.length/\hs t (dz t j).2=aF/\j<=(dz t j).2/\∃a,ee (bd t) (bd t (dz t j).2) a (dz t j).2/\a<=j:=by
 refine Dy ay (λj ae e=>?_) λj p ae hp Au hm e bB=>?_
 ·rw[pa ae e];obtain⟨a,h⟩:=GO ay ae;exact⟨ae,e,b5 _,a,h,h.iE⟩
 ·rw[j9 ay ae e];obtain⟨h1,h2,aJ,a,bp,cy⟩:=bB;refine⟨h1,h2,aa,a,bp,?_⟩;by_cases amB:p=(dz t p).2
  ·rw[<-amB]at bp;obtain⟨e8,a5,cY,gX⟩:=bp.eB j hm;omega
  ·have uE:p<(dz t p).2:=by omega
   obtain⟨c,cY,gX⟩:=bp.all p cy uE;obtain⟨e8,a5,gO,fP⟩:=gX.eB j hm;omega
theorem Tk(ay:ik t){j:Nat}(ae:j<t.nodes.length){i:Int}(ao:i∈t.aX):i<((dz t j).2:Int)↔i<(j:Int):=by
 obtain⟨h1,h2,aJ,a,bp,cy⟩:=At ay j ae;obtain⟨g5,rfl,_,dN⟩:=ay.fI.eB i ao;constructor
 ·intro h;by_cases aP:g5<j
  ·omega
  ·exfalso;have hu:=(rD ay dN).2 ao;rcases bp.tE g5 aa aa with cY|⟨p,cY,gX,gO⟩
   ·have:=lv ay h1 cY;simp_all
   ·have:=lv (p:=p) ay aa gO;simp_all
 omega
end
def tG(t:bf)(j:Nat):List Int:=(dz t j).1++t.aX.filter λi=>decide (i<((dz t j).2:Int))&&gZ t i.toNat
def rE(t:bf)(j:Nat)(s:ByteArray):Option Int:=(tG t j).find? λd=>decide ((af t d.toNat).bi=s)
def eS(t:bf)(j:Nat):Int:=
 if sz (af t j).kind then(match rE t j (af t j).bi with|some d=>if ko (af t j).kind (af t d.toNat).kind then d else-1|none=> -1)else-1
section
variable {n : Nat} {t : bf}
theorem act(b:Bool):(if b=ah then D ah else D aQ)=D b:=by cases b<;>rfl
variable {j:Nat}
theorem acu(ae:j<t.nodes.length):Gk t (j:Int)=D (sz (af t j).kind):=by unfold Gk;rw[cw ae,cl,act];rfl
theorem amC(k:Int):KA k=D (sz k):=by unfold KA;rw[act];rfl
theorem amD(a b:Int):LO a b=D (ko a b):=by unfold LO ko;cases decide (a=3)<;>cases decide (a=21)<;>cases decide (a=45)<;>rfl
theorem acv(ay:ik t)(ae:j<t.nodes.length)(au:jo (af t j).kind=aQ):∃p,hs t j=D p:=by
 cases e:hs t j with
 |some p=>simp
 |none=>have:=(ay.gM j ae).2 ((rD ay ae).1 e);grind[bE.at,lS]
theorem Tl(ai:c7 t)(ay:ik t)(ae:j<t.nodes.length):C2 (aZ n) t (j:Int)=D (gZ t j):=by
 unfold C2;rw[cw ae,cl];unfold gZ;show(if Dx (af t j).kind=ah then D ah else _)=_;cases e:Dx (af t j).kind with
 |true=>rfl
 |false=>
  rw[if_neg fT];by_cases h:(af t j).kind=34
  ·obtain⟨p,hp⟩:=acv ay ae (by rw[h];rfl);have h1:=(ol ay hp).1;rw[if_pos dt,GN ai ay ae,cl];unfold hI;rw[hp];show(aL t.nodes (p:Int)).bind _=_;rw[cw h1];simp[h]
  simp_all
theorem rF(ay:ik t)(ae:j<t.nodes.length):jB (af t j)=D ah:=by rw[S7,((ay.o_ j _ (lS ae)).1).zx]
theorem tH(ay:ik t)(ae:j<t.nodes.length)(h:(af t j).kind=20):(af t j).a3.length=2:=by grind[rF,jB]
theorem pY(ay:ik t)(ae:j<t.nodes.length)(h:(af t j).kind=42):2<=(af t j).a3.length:=by grind[rF,jB]
theorem Tm{l:List Int}(h:0<l.length)(h2:l.length< 1000000):∃y,l.getLast? =D y/\aL l (aH ((l.length:Int)- 1))=D y:=by refine⟨l[l.length- 1],by rw[List.getLast?_eq_getElem?,cq aa],?_⟩;grind[c8,Xw]
theorem c7.af(ai:c7 t){j:Nat}(ae:j<t.nodes.length):(af t j).a3.length<=800:=(ai.a3 _ (cC (lS ae))).1
variable {p:Nat}
theorem acw(ai:c7 t)(hp:p<t.nodes.length):(f_ t p j).length<=801:=by have:=ai.af hp;grind[f_,c6]
theorem amE(ai:c7 t)(ay:ik t)(ae:j<t.nodes.length):LM (aZ n) t (j:Int)=D (tG t j):=by
 have a_:=ai.nodes;have hn:=ai.aX;refine I.bN ?_;unfold LM;refine I.aq (GN ai ay ae) ?_;unfold aa9;refine I.b8 (λs:List Int×Int×Int=>∃k:Nat,s.2.1=k/\s.2.2=hI t k/\k<t.nodes.length/\s.1++(dz t k).1=(dz t j).1/\(dz t k).2=(dz t j).2/\s.1.length<=802*k) (λs=>t.nodes.length-s.2.1.toNat) ?_ ⟨j,rfl,rfl,ae,rfl,rfl,gx _⟩;rintro⟨dk,_,_⟩ ⟨k,rfl,rfl,au,h1,h2,aJ⟩;dsimp only at h1 aJ⊢;cases e:hs t k with
 |none=>
  have nN:hI t k=-1:=by unfold hI;rw[e];rfl
  rw[nN,if_neg eu];rw[pa au e]at h1 h2;simp only[j3]at h1;subst h1;refine I.dk ?_;unfold Sz aa8;refine I.for t.aX.length (λi (o:List Int)=>(o,(i:Int))) (λi o=>o=(dz t j).1++(t.aX.take i).filter λi=>decide (i<((dz t j).2:Int))&&gZ t i.toNat) (t0:=(dz t j).1) rfl fT (λi o ao bq=>?_) λo bq=>?_
  ·subst bq;refine I.aC (λ_=>I.g7 ao λq aE=>?_) dv;obtain⟨fs,rfl,_,om⟩:=ay.fI.eB q (cC aE);have jT:(t.aX.take (i+1)).filter (λi=>decide (i<((dz t j).2:Int))&&gZ t i.toNat)=(t.aX.take i).filter (λi=>decide (i<((dz t j).2:Int))&&gZ t i.toNat)++(if(decide ((fs:Int)<((dz t j).2:Int))&&gZ t fs)=ah then [(fs:Int)]else []):=by
    rw[gd aE,List.filter_append];grind
   have oT:((t.aX.take i).filter λi=>decide (i<((dz t j).2:Int))&&gZ t i.toNat).length<=800:=by grind
   have bk:(k:Int)=((dz t j).2:Int):=by rw[<-h2]
   rw[bk];refine I.aC (λcf=>I.aL aE (I.aq (Tl ai ay om) (I.bC (λaz=>I.aL aE (I.aq (jj dt) (I.inl ⟨_,by rw[cM aa],?_⟩))) λaz=>I.inl ⟨_,by rw[cM aa],?_⟩))) λcf=>I.inl ⟨_,by rw[cM aa],?_⟩
   ·rw[jT,if_pos cK,tW]
   ·rw[jT,if_neg dt,j3]
   simp_all
  ·subst bq;refine I.aC br λ_=>I.inr ?_;rw[fz (b5 _)];rfl
 |some p=>
  obtain⟨hp,hm,aCh⟩:=ol ay e;have nN:hI t k=p:=by unfold hI;rw[e];rfl
  have h3:=ai.af hp;rw[nN,if_pos fT];refine I.aq (cw hp) (I.aq (cw hp) ?_);rw[j9 ay au e]at h1 h2;have ob:0<(af t p).a3.length:=by grind[c6,List.length_pos_of_mem]
  have rG:=acw (j:=k) ai hp;have tail:∀o:List Int,o=dk++f_ t p k->I (C3 (aZ n) t (p:Int) o) (ln (λs':List Int×Int×Int=>(∃k:Nat,s'.2.1=k/\s'.2.2=hI t k/\k<t.nodes.length/\s'.1++(dz t k).1=(dz t j).1/\(dz t k).2=(dz t j).2/\s'.1.length<=802*k)/\t.nodes.length-s'.2.1.toNat<t.nodes.length-((k:Int)).toNat) (· =tG t j)):=by grind[C3,I.aq,GN,I.inl,tW,ky]
  obtain⟨y,Av,Dz⟩:=Tm ob aa;have b2:(bd t p).getLast? =D y:=by rw[c6 hp];exact Av
  refine I.aC (λk8=>?_) λk8=>?_
  ·have jI:=tH ay hp k8;have amF:aL (af t p).a3 1=D y:=by rw[<-Dz,jI];rfl
   refine I.aq amF (I.aC (λbh=>I.aq (jj dt) ?_) λbh=>?_)
   ·unfold z5;refine I.aq (cw hp) (I.aC br λ_=>tail _ ?_);unfold f_;rw[b2,bh,if_pos rfl,if_pos k8]
   ·unfold z5;refine I.aq (cw hp) (I.aC br λ_=>tail _ ?_);unfold f_;simp_all
  ·unfold z5;refine I.aq (cw hp) (I.aC (λb9=>?_) λb9=>tail _ ?_)
   ·have jI:=pY ay hp b9;refine I.aq Dz (I.aC (λbh=>?_) λbh=>tail _ ?_)
    ·have bk:aH (((af t p).a3.length:Int)- 2)=(((af t p).a3.length- 2:Nat):Int):=by grind[c8]
     rw[bk];refine I.aq (yb (i:=0) (gx _) aa) (I.aq (jj dt) (I.aq (jj dt) (tail _ ?_)));simp_all[f_,if_pos,if_neg,c6,tW]
    ·unfold f_;simp_all
   simp_all[f_,if_neg]
variable {d:Int}
theorem amG(ay:ik t)(hp:p<t.nodes.length)(h:d∈f_ t p j):d=p\/d∈bd t p:=by grind[f_,List.mem_of_mem_take]
theorem acx(ay:ik t):∀j,j<t.nodes.length->∀d∈(dz t j).1,∃m:Nat,d=m/\m<t.nodes.length:=by
 refine Dy ay (λj ae e d az=>?_) λj p ae hp Au hm e bB d az=>?_
 ·simp_all[pa]
 ·rw[j9 ay ae e]at az;rcases ig.1 az with az|az
  ·rcases amG ay hp az with rfl|az
   ·grind
   ·have:=ay.a3 p _ (lS hp) d (by rw[<-c6 hp];exact az);exact⟨d.toNat,aa,aa⟩
  grind
theorem acy(ay:ik t)(ae:j<t.nodes.length)(az:d∈tG t j):∃m:Nat,d=m/\m<t.nodes.length:=by
 rcases ig.1 az with az|az
 ·exact acx ay j ae d az
 ·obtain⟨m,h1,_,h2⟩:=ay.fI.eB d (List.mem_filter.1 az).1;grind
theorem amH(ai:c7 t)(ay:ik t):∀j,j<t.nodes.length->(dz t j).1.length<=801*(t.nodes.length-j):=by
 refine Dy ay (λj ae e=>?_) λj p ae hp Au hm e bB=>?_
 ·rw[pa ae e];simp
 ·rw[j9 ay ae e];grind[acw,ky]
theorem amI(ai:c7 t)(ay:ik t)(ae:j<t.nodes.length):(tG t j).length<=700000:=by have h1:=amH ai ay j ae;have h2:=List.length_filter_le (λi=>decide (i<((dz t j).2:Int))&&gZ t i.toNat) t.aX;have aJ:=ai.nodes;have bp:=ai.aX;grind[tG,ky]
def Tn:Option Int->Int|some d=>d|none=> -1
theorem amJ(ai:c7 t)(ay:ik t)(ae:j<t.nodes.length)(s:ByteArray):LN (aZ n) t (j:Int) s=D (Tn (rE t j s)):=by
 have aK:=amI ai ay ae;refine I.bN ?_;unfold LN;refine I.aq (amE ai ay ae) ?_;unfold aba rE;refine I.for (tG t j).length (λi (_:Unit)=>(i:Int)) (λi _=>((tG t j).take i).find? (λd=>decide ((af t d.toNat).bi=s))=aF) (t0:=()) rfl rfl (λi _ ao bq=>?_) λ_ bq=>?_
 ·refine I.aC (λ_=>I.g7 ao λq aE=>?_) dv;obtain⟨fs,rfl,om⟩:=acy ay ae (cC aE);refine I.aq (cw om) (I.aC (λaV=>I.aL aE (I.inr ?_)) λaV=>I.inl ⟨(),by rw[cM aa],?_⟩)
  ·rw[sx aE,qC,bq];simp[aV,Tn]
  simp_all[gd,qC]
 ·refine I.aC br λ_=>I.inr ?_;rw[fz (b5 _)]at bq;rw[bq];rfl
theorem To(ay:ik t)(ae:j<t.nodes.length){s:ByteArray}(h:rE t j s=D d):∃m:Nat,d=m/\m<t.nodes.length/\(af t m).bi=s:=by obtain⟨m,rfl,hm⟩:=acy ay ae (wa h);have:=acj h;grind
theorem Tp(ai:c7 t)(ay:ik t)(ae:j<t.nodes.length):x4 (aZ n) t (j:Int)=D (eS t j):=by
 unfold x4 eS;rw[acu ae,cl];cases e:sz (af t j).kind with
 |false=>rfl
 |true=>
  rw[cw ae,cl,amJ ai ay ae,cl];simp only[MQ,fe,if_false,if_true];cases bk:rE t j (af t j).bi with
  |none=>rfl
  |some d=>obtain⟨m,rfl,hm,_⟩:=To ay ae bk;simp only[Tn,eq];refine I.bN (I.aC br λ_=>I.aq rfl (I.aq (cw hm) (I.aq (amD _ _) ?_)));exact I.bC (λh=>I.ret (by rw[if_neg dt])) λh=>I.ret (by rw[if_pos dt])
end
end Go.Proofs.YtgfggdcbhjhegaaGreatDoor

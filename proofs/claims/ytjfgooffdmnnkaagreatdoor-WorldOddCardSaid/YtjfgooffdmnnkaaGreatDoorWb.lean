/- Numbers below 0 stand in choices alone. -/
import Derived.Test.YtjfgooffdmnnkaaGreatDoorWa
set_option linter.all false
set_option maxRecDepth 100000
namespace Go.Proofs.YtjfgooffdmnnkaaGreatDoor
open Go Go.Mi Go.RowKit Go.Dp
open Bool renaming false_eq_true->ge,true->ad,not_true->RN,false->aS,and_eq_true->dn
open Int renaming eq_ofNat_of_zero_le->w0,toNat_natCast->dA,le_refl->g_
open List renaming mem_of_getElem?->cm,getElem?_eq_getElem->bN,replicate->cC,getElem?_eq_some_iff->cz,take_of_length_le->g4,mem_append->h3,nodup_cons->q3,mem_singleton->ro,map_cons->hH,length_append->hW,ext_getElem?->m3,append_assoc->xw,mem_of_find?_eq_some->zL,mem_append_left->AS,getElem?_of_mem->hf,find?_append->nd,find?_some->agS,append_nil->iZ,mem_range->pY,range->gD
open Nat renaming zero_le->fR,le_refl->bL
open Option renaming bind_some->bE,some->I,bind->au,none->aJ
section
variable {K X : Type} [DecidableEq K]
theorem agT{kv:List (K×X)}{k cV:K}{x:X}:cV∈(fB kv k x).map (·.1)↔cV∈kv.map (·.1)\/cV=k:=by
 induction kv with
 |nil=>simp[fB]
 |cons q r bx=>obtain⟨a,y⟩:=q;unfold fB;grind
def aqw{kv:List (K×X)}{k:K}{x:X}(h:(kv.map (·.1)).Nodup):((fB kv k x).map (·.1)).Nodup:=by
 induction kv with
 |nil=>simp[fB]
 |cons q r bx=>
  obtain⟨a,y⟩:=q;simp only[hH,q3]at h;unfold fB;by_cases e:a=k
  ·simp_all
  simp_all[if_neg,hH,q3,agT]
theorem agU{kv:List (K×X)}{k cV:K}(h:(kv.map (·.1)).Nodup):cV∈(oi kv k).map (·.1)↔cV∈kv.map (·.1)/\cV≠k:=by
 induction kv with
 |nil=>simp[oi]
 |cons q r bx=>obtain⟨a,y⟩:=q;simp only[hH,q3]at h;unfold oi;grind
def aqx{kv:List (K×X)}{k:K}(h:(kv.map (·.1)).Nodup):((oi kv k).map (·.1)).Nodup:=by
 induction kv with
 |nil=>simp[oi]
 |cons q r bx=>
  obtain⟨a,y⟩:=q;simp only[hH,q3]at h;unfold oi;by_cases e:a=k
  ·simp_all
  simp_all[if_neg,hH,q3,agU]
end
section
variable {n : Nat} {t : aZ}
def HR(t:aZ)(i:Nat):Prop:=∃x,t.nodes[i]? =I x/\x.kind=1/\x.n< 0
def RO(t:aZ)(dc:List Int)(q:Int):Prop:=∃k x,k∈dc/\t.nodes[k.toNat]? =I x/\x.kind=40/\q∈x.a8
def XK(aj:cH t)(aO:∀q∈t.aD,0<=q/\q<t.nodes.length):D (G5 (aM n) t) λr=>r=ad↔∀i,HR t i->RO t t.aD i:=by
 have a6:=aj.nodes;have hm:=aj.aD;unfold G5 ae5;refine D.for t.nodes.length (λk (c:List (Int×Bool))=>((k:Int),c)) (λk c=>(c.map (·.1)).Nodup/\∀q,q∈c.map (·.1)↔∃i:Nat,i<k/\q=(i:Int)/\HR t i) (t0:=[]) rfl ⟨by simp,λq=>by simp⟩ (λk c ap a7=>?_) λc a7=>?_
 ·refine D.ar (λ_=>D.hA ap λx ak=>?_) d_;have a2:=bw (k:=k) U;refine D.bK (λh=>D.inl ⟨_,by rw[a2],aqw a7.1,λq=>?_⟩) λh=>D.inl ⟨c,by rw[a2],a7.1,λq=>?_⟩
  ·rw[agT,a7.2];simp only[dn,decide_eq_true_eq]at h;constructor
   ·rintro(⟨i,h1,h2,ay⟩|rfl)
    ·grind
    ·exact⟨k,U,rfl,x,ak,h⟩
   grind
  ·rw[a7.2];constructor
   ·grind
   ·rintro⟨i,h1,h2,ay⟩;by_cases e:i=k
    ·subst e;obtain⟨y,bl,bO,cX⟩:=ay;grind
    grind
 ·refine D.ar bt λ_=>D.bu ?_;have aqy:∀q,q∈c.map (·.1)↔∃i:Nat,q=(i:Int)/\HR t i:=λq=>by
   rw[a7.2];exact⟨λ⟨i,_,h⟩=>⟨i,h⟩,λ⟨i,h1,h2⟩=>⟨i,(cz.1 h2.choose_spec.1).1,h1,h2⟩⟩
  unfold Wh ae3;refine D.for t.aD.length (λk (c:List (Int×Bool))=>((k:Int),c)) (λk c=>(c.map (·.1)).Nodup/\∀q,q∈c.map (·.1)↔(∃i:Nat,q=(i:Int)/\HR t i)/\¬RO t (t.aD.take k) q) (t0:=c) rfl ⟨a7.1,λq=>by rw[aqy];exact⟨λh=>⟨h,λ⟨k,x,h1,_⟩=>by cases h1⟩,λh=>h.1⟩⟩ (λk c ap a7=>?_) λc a7=>?_
  ·refine D.ar (λ_=>D.hA ap λq aB=>?_) d_;have RP:=aO q (cm aB);have a2:=bw (k:=k) U;have cZ:=da aB;refine D.x8 RP.1 RP.2 λx ak=>?_;refine D.dB (λh=>D.inl ⟨c,by rw[a2],a7.1,λv=>?_⟩) λh=>D.x8 RP.1 RP.2 λof wD=>?_
   ·rw[a7.2,cZ];refine and_congr Iff.rfl (not_congr ⟨λ⟨k,x,h1,h2⟩=>⟨k,x,AS _ h1,h2⟩,λ⟨k,y,h1,h2,ay,bl⟩=>?_⟩);rcases h3.1 h1 with h1|h1
    ·exact⟨k,y,h1,h2,ay,bl⟩
    simp_all
   ·rw[ak]at wD;cases wD;have o5:=aj.a8 x (cm ak);unfold ae2;refine D.for x.a8.length (λj (c:List (Int×Bool))=>((j:Int),c)) (λj c=>(c.map (·.1)).Nodup/\∀v,v∈c.map (·.1)↔((∃i:Nat,v=(i:Int)/\HR t i)/\¬RO t (t.aD.take k) v)/\v ∉ x.a8.take j) (t0:=c) rfl ⟨a7.1,λv=>by simp_all⟩ (λj c ag a7=>?_) λc a7=>?_
    ·refine D.ar (λ_=>D.hA ag λw hw=>?_) d_;refine D.inl ⟨oi c w,by rw[bw U],aqx a7.1,λv=>?_⟩;rw[agU a7.1,a7.2,da hw,h3,ro,not_or,and_assoc]
    ·refine D.ar bt λ_=>D.bu (D.inl ⟨c,by rw[a2],a7.1,λv=>?_⟩);rw[a7.2,g4 (bL _),cZ,and_assoc];refine and_congr Iff.rfl ⟨λ⟨h1,h2⟩ ⟨cV,y,ay,bl,bO,cX⟩=>?_,λh1=>⟨λ⟨cV,y,ay,bl⟩=>h1 ⟨cV,y,AS _ ay,bl⟩,λay=>h1 ⟨q,x,by simp,ak,h,ay⟩⟩⟩;rcases h3.1 ay with ay|ay
     ·exact h1 ⟨cV,y,ay,bl,bO,cX⟩
     simp_all
  ·refine D.ar bt λ_=>D.inr ?_;have h2:=a7.2;rw[g4 (bL _)]at h2;rw[decide_eq_true_eq];constructor
   ·grind
   ·intro h;have:c.map (·.1)=[]:=List.eq_nil_iff_forall_not_mem.2 λv bp=>by
     grind
    simp_all
end
variable {α:Type}{xs:List α}
def hN{n:Nat}{i:Nat}{x:α}(h:xs[i]? =I x)(a6:i<n):gz n xs (i:Int)=I ⟨(i,x),h⟩:=by unfold gz;grind
theorem XL:gF xs.length xs=I xs:=by unfold gF;rw[if_pos rfl]
section
variable {n : Nat} {t : aZ}
def uC(t:aZ)(i:Int)(c:List Int):Prop:=c.length=t.nodes.length/\∀v∈c,0<=v/\v<=(t.nodes.length:Int)-i
variable {i:Nat}
theorem agV{xs:List Int}{v w:Int}(h:w∈xs.set i v):w=v\/w∈xs:=by grind
variable {c z:List Int}
theorem aqz(aj:cH t){x:bm}(ak:t.nodes[i]? =I x)(gM:rt x i)(aP:z.length=t.nodes.length)(ax:uC t i c):
  D (Bt (aM n) t (i:Int) z (0,c)) (jv (λs=>s.1=(i:Int)- 1/\uC t ((i:Int)- 1) s.2) λ_:List Int=>False):=by
 have a6:=aj.nodes;have o5:=aj.a8 x (cm ak);have c4:=(cz.1 ak).1;unfold Bt;refine D.for x.a8.length (λk (c:List Int)=>((k:Int),c)) (λk c=>uC t ((i:Int)- 1) c/\∀v,c[i]? =I v->v<=(t.nodes.length:Int)-i) (t0:=c) rfl ⟨⟨ax.1,λv bp=>⟨(ax.2 v bp).1,by have:=(ax.2 v bp).2;omega⟩⟩,λv bp=>(ax.2 v (cm bp)).2⟩ (λk c ap a7=>?_) λc a7=>?_
 ·refine D.aH ak (D.ar (λ_=>D.aH ak (D.hA ap λq aB=>?_)) d_);obtain⟨gn,rfl⟩:=w0 (gM q (cm aB)).1;have zJ:=(gM _ (cm aB)).2;have aC:=a7.1.1;obtain⟨v,bp⟩:∃v,c[i]? =I v:=⟨_,bN U⟩
  obtain⟨w,hw⟩:∃w,c[gn]? =I w:=⟨_,bN U⟩
  have U5:=a7.2 v bp;have XM:=(a7.1.2 v (cm bp)).1;refine D.ae (hN bp U) (D.ae (hN hw U) (D.inl ⟨_,by rw[bw U],⟨dq,λu hu=>?_⟩,λu hu=>?_⟩))
  ·dsimp only at hu;rw[b3 U U]at hu;rcases agV hu with rfl|hu
   ·omega
   ·exact a7.1.2 u hu
  grind
 ·refine D.aH ak (D.ar bt λ_=>D.bu (D.ret ?_));show(az ((i:Int)- 1)=_)/\uC t ((i:Int)- 1) c;grind[b3]
theorem XN{m:Nat}(h:m<=1000000)(x:Int):mk (m:Int) x=I (cC m x):=by unfold mk;grind
def agW(aj:cH t)(gM:∀(i:Nat) x,t.nodes[i]? =I x->rt x i)(aP:z.length=t.nodes.length)(hi:i<t.nodes.length)(ax:uC t i c):
  ∃v,∃bp:c[i]? =I v,0<=v/\∀b:List Int,b=c.set i (gX v 1)->uC t i b/\D (Bt (aM n) t (i:Int) z (0,b)) (jv (λs=>s.1=(i:Int)- 1/\uC t ((i:Int)- 1) s.2) λ_:List Int=>False):=by
 have a6:=aj.nodes;have aC:=ax.1;obtain⟨x,ak⟩:∃x,t.nodes[i]? =I x:=⟨_,bN hi⟩
 obtain⟨v,bp⟩:∃v,c[i]? =I v:=⟨_,bN U⟩
 have U5:=ax.2 v (cm bp);grind[uC,agV,gX,aqz]
def aqA(aj:cH t)(gM:∀(i:Nat) x,t.nodes[i]? =I x->rt x i):D (GJ (aM n) t) λl=>l.length=t.nodes.length/\∀v∈l,0<=v:=by
 have a6:=aj.nodes;unfold GJ;refine D.ae (XN U 0) ?_;unfold VQ;have a2:az ((t.nodes.length:Int)- 1)=(t.nodes.length:Int)- 1:=b3 U U;rw[a2];refine D.b1 (λs:Int×List Int=>∃k:Nat,s.1=(k:Int)- 1/\k<=t.nodes.length/\uC t s.1 s.2) (λs=>(s.1+1).toNat) ?_ ⟨t.nodes.length,rfl,bL _,by simp,λv bp=>by grind⟩;rintro⟨_,c⟩ ⟨k,rfl,ap,ax⟩;refine D.ar (λbh=>?_) λbh=>?_
 ·obtain⟨cV,rfl⟩:∃cV,k=cV+1:=⟨k- 1,U⟩
  have cR:((cV+1:Nat):Int)- 1=(cV:Int):=by omega
  rw[cR]at ax⊢;obtain⟨v,bp,XM,aF⟩:=agW (n:=n) aj gM (z:=cC t.nodes.length 0) cW U ax;obtain⟨lq,ku⟩:=aF _ rfl;refine D.ae (hN bp dZ) (D.ae (hN bp dZ) ?_);refine ku.mono λs aQ=>?_;cases s with
  |inl s=>obtain⟨h1,h2⟩:=aQ;refine⟨⟨cV,h1,U,dq⟩,?_⟩;omega
  |inr r=>exact aQ.elim
 ·refine D.bu ?_;rw[List.length_replicate,<-ax.1];refine D.ae XL (D.ret ⟨rfl,λv bp=>(ax.2 v bp).1⟩)
theorem aqB(aj:cH t)(gM:∀(i:Nat) x,t.nodes[i]? =I x->rt x i):KE (aM n) t=GJ (aM n) t:=by
 have a6:=aj.nodes;unfold KE GJ;rw[XN U 0,bE,bE];unfold ae7 VQ;have a2:az ((t.nodes.length:Int)- 1)=(t.nodes.length:Int)- 1:=b3 U U;rw[a2];have aF:∀s:Int×List Int,(∃k:Nat,s.1=(k:Int)- 1/\k<=t.nodes.length/\uC t s.1 s.2)->0<=s.1->∃i:Nat,s.1=i/\i<t.nodes.length/\∃v,∃bp:s.2[i]? =I v,0<=v/\∀b:List Int,b=s.2.set i (gX v 1)->uC t i b/\D (Bt (aM n) t (i:Int) (cC t.nodes.length 0) (0,b)) (jv (λs=>s.1=(i:Int)- 1/\uC t ((i:Int)- 1) s.2) λ_:List Int=>False):=by
  rintro⟨_,c⟩ ⟨k,rfl,ap,ax⟩ bh;obtain⟨cV,rfl⟩:∃cV,k=cV+1:=⟨k- 1,U⟩
  have cR:((cV+1:Nat):Int)- 1=(cV:Int):=by omega
  simp only[cR]at ax;exact⟨cV,cR,U,agW (n:=n) aj gM (z:=cC t.nodes.length 0) cW U ax⟩
 have Er:∀(i:Nat)(c:List Int),i<t.nodes.length->KD t (i:Int) (aM n) (cC t.nodes.length 0) c=Bt (aM n) t (i:Int) (cC t.nodes.length 0) (0,c):=by
  intro i c hi;obtain⟨x,ak⟩:∃x,t.nodes[i]? =I x:=⟨_,bN hi⟩
  unfold KD;rw[e7 ak,bE];unfold ae6 Bt;grind[e7]
 refine fv.congr (λs:Int×List Int=>∃k:Nat,s.1=(k:Int)- 1/\k<=t.nodes.length/\uC t s.1 s.2) (λs aQ=>?_) (λs s' aQ e=>?_) ⟨t.nodes.length,rfl,bL _,by simp,λv bp=>by grind⟩
 ·by_cases bh:0<=s.1
  ·obtain⟨i,bc,hi,v,bp,XM,Ud⟩:=aF s aQ bh;obtain⟨s1,c⟩:=s;dsimp only at bc bp bh⊢;subst bc;rw[if_pos cW,if_pos cW];have aO:=hN bp (n:=(cC t.nodes.length (0:Int)).length) dZ;simp only[aO,bE];rw[<-Er i _ hi];by_cases aP:v=0
   ·subst aP;rw[if_pos cW];rfl
   ·rw[if_neg dq];have:gX v 1=v:=by unfold gX;rw[if_neg U]
    rw[this];congr 1;apply m3;grind
  grind
 ·by_cases bh:0<=s.1
  ·obtain⟨i,bc,hi,v,bp,XM,Ud⟩:=aF s aQ bh;obtain⟨s1,c⟩:=s;dsimp only at bc bp bh e;subst bc;rw[if_pos cW]at e;have aO:=hN bp (n:=(cC t.nodes.length (0:Int)).length) dZ;simp only[aO,bE]at e;have A3:Bt (aM n) t (i:Int) (cC t.nodes.length 0) (0,c.set i (gX v 1))=I (.inl s'):=by
    rw[<-Er i _ hi];by_cases aP:v=0
    ·subst aP;rw[if_pos cW]at e;exact e
    ·rw[if_neg dq]at e;have h1:gX v 1=v:=by unfold gX;rw[if_neg U]
     have h2:c.set i v=c:=by apply m3;grind
     simp_all
   obtain⟨r,cR,go⟩:=(Ud _ rfl).2;rw[A3]at cR;cases cR;exact⟨i,go.1,U,by rw[go.1];exact go.2⟩
  simp_all
end
section
variable {n : Nat} {t : aZ}
variable {l:List Int}
def aqC(aC:l.length<=1000)(bh:∀v∈l,0<=v):D (VR (aM n) l (0,0)) λr=>(∀v∈l,v<=r)/\(r∈l\/r=0):=by
 unfold VR;refine D.for l.length (λk (r:Int)=>(r,(k:Int))) (λk r=>0<=r/\(∀v∈l.take k,v<=r)/\(r∈l\/r=0)) (t0:=0) rfl ⟨g_ _,λv h=>(by cases h),.inr rfl⟩ (λk r ap a7=>?_) λr a7=>?_
 ·refine D.ar (λ_=>D.hA ap λv bp=>D.inl ⟨gX r v,by rw[bw U],?_,λw hw=>?_,?_⟩) d_
  ·unfold gX;split<;>omega
  ·rw[da bp,h3,ro]at hw;grind[gX]
  grind[gX,cm]
 simp_all[D.ar,absurd,D.inr,g4,bL]
def aqD(aC:l.length<=1000)(fM:l≠[]):D (PO (aM n) l) λr=>(∀v∈l,v<=r)/\r∈l:=by
 have kJ:0<l.length:=List.length_pos_iff.2 fM;unfold PO;refine D.ar (λh=>by omega) λ_=>D.hA (i:=0) kJ λv bp=>?_;unfold ae8;refine D.b1 (λs:Int×Int=>∃k:Nat,s.2=k/\k<=l.length/\(∀v∈l.take k,v<=s.1)/\s.1∈l) (λs=>l.length-s.2.toNat) ?_ ⟨1,rfl,U,λw hw=>?_,cm bp⟩
 ·rintro⟨r,_⟩ ⟨k,rfl,ap,h1,h2⟩;dsimp only at h1 h2⊢;refine D.ar (λh=>D.hA U λw hw=>D.inl ⟨⟨k+1,bw U,U,λu hu=>?_,?_⟩,?_⟩) λh=>D.inr ?_
  ·rw[da hw,h3,ro]at hu;grind[gX]
  ·grind[gX,cm]
  ·grind[az,bw]
  grind
 simp_all[da,ro,g_]
def RQ(aj:cH t)(gM:∀(i:Nat) x,t.nodes[i]? =I x->rt x i):∃d,G6 (aM n) t=I d/\Bu (aM n) t=I d:=by
 have a6:=aj.nodes;obtain⟨l,h1,h2,ay⟩:=aqA (n:=n) aj gM;have bl:KE (aM n) t=I l:=by rw[aqB aj gM,h1]
 obtain⟨r,bO,cX,hq⟩:=aqC (n:=n) (l:=l) U ay;unfold Bu G6;rw[h1,bE,bO,bl];by_cases aP:t.nodes=[]
 ·simp_all
 ·have fM:l≠[]:=λe=>aP (List.eq_nil_of_length_eq_zero dq);obtain⟨q,g8,kg,AP⟩:=aqD (n:=n) (l:=l) U fM;refine⟨r,?_,rfl⟩;rw[if_neg dq,bE,g8,bE];have:q=r:=by
   grind
  rw[this]
variable {x:bm}
def aqE{j k:Int}(h:uA x j k=ad):kT k=aS:=by
 have cr:ta x j k=I ad:=by rw[RM,h]
 grind[ta,zt,zu,kT,decide]
def agX(aj:cH t){i:Nat}(ak:t.nodes[i]? =I x)(gM:rt x i)(bg:iY x)(ap:pX t x)(iO:∀(i:Nat) x,t.nodes[i]? =I x->iY x):∃b,BC t x=I b/\nb t (i:Int)=I b:=by
 have a6:=aj.nodes;have c4:=(cz.1 ak).1;have o5:=aj.a8 x (cm ak);have aIk:k7 x=I ad:=by rw[XE,bg.Dq]
 unfold nb;rw[e7 ak,bE];unfold BC;by_cases dm:x.kind=40
 ·simp only[decide_eq_true dm,if_true];have h2:x.a8.length=2:=by
   grind[k7]
  obtain⟨q,aB⟩:∃q,x.a8[0]? =I q:=⟨_,bN U⟩
  obtain⟨gn,uc⟩:∃q,x.a8[1]? =I q:=⟨_,bN U⟩
  have num:∀(j:Nat) q,x.a8[j]? =I q->∃y,aH t.nodes q=I y/\ -9999<=y.n/\y.n<=9999:=by
   intro j q aB;have bh:=gM q (cm aB);have b':q.toNat<t.nodes.length:=by omega
   refine⟨t.nodes[q.toNat],acg bh.1 b',?_⟩;have a9:=bN b';have AG:=ap j q _ aB a9;have aqF:=iO _ _ a9;have En:(t.nodes[q.toNat]).kind=1:=by
    have:ta x j (t.nodes[q.toNat]).kind=I ad:=by rw[RM,AG]
    simp_all[ta]
   have agM:oZ t.nodes[q.toNat]=I ad:=by rw[Le,aqF.num]
   simp_all[oZ]
  obtain⟨a,a4,aIl⟩:=num 0 q aB;obtain⟨b,aF,lq⟩:=num 1 gn uc;have dg:aH x.a8 (0:Int)=I q:=e7 aB;have a2:aH x.a8 (1:Int)=I gn:=e7 uc;simp only[dg,a2,a4,aF,bE,Eo];have w:az (az (b.n-a.n)+1)=b.n-a.n+1:=by rw[b3 (n:=b.n-a.n) U U,b3 U U]
  rw[w];grind
 ·simp only[decide_eq_false dm,ge,if_false];by_cases lO:x.kind=41
  ·simp_all
  simp only[decide_eq_false lO,ge,if_false];by_cases c7:x.kind=42
  ·simp only[decide_eq_true c7,if_true];exact⟨_,rfl,rfl⟩
  simp only[decide_eq_false c7,ge,if_false];by_cases XO:x.kind=33
  ·simp only[decide_eq_true XO,if_true];exact⟨_,rfl,rfl⟩
  simp only[decide_eq_false XO,ge,if_false];by_cases BY:x.kind=26
  ·simp_all
  simp only[decide_eq_false BY,ge,if_false];by_cases RR:x.kind=46
  ·simp only[decide_eq_true RR,if_true];refine⟨_,rfl,?_⟩;congr 1;grind[k7]
  simp_all
def agY(aj:cH t)(bg:∀(i:Nat) x,t.nodes[i]? =I x->∃b,BC t x=I b/\nb t (i:Int)=I b):
  ∃z,D3 (aM n) t=I z/\(0<=z↔∃(i:Nat)(x:bm),t.nodes[i]? =I x/\BC t x=I aS):=by
 have a6:=aj.nodes;show D (D3 (aM n) t) _;unfold D3;refine D.bind (Q:=λz=>0<=z↔∃(i:Nat)(x:bm),t.nodes[i]? =I x/\BC t x=I aS) ?_ λz aP=>D.ret aP;unfold Wj afa;refine D.for t.nodes.length (λk (_:Unit)=>(k:Int)) (λk _=>∀(j:Nat) x,j<k->t.nodes[j]? =I x->BC t x=I ad) (t0:=()) rfl (λj x h=>by omega) (λk _ ap a7=>?_) λ_ a7=>?_
 ·refine D.ar (λ_=>D.hA ap λx ak=>?_) d_;obtain⟨b,aF,_⟩:=bg k x ak;unfold Wi;rw[aF,bE];refine D.ae rfl (D.bK (λh=>D.bu (D.ret ⟨λ_=>⟨k,x,ak,?_⟩,λ_=>by omega⟩)) λh=>D.inl ⟨(),by rw[bw U],λj y ag a9=>?_⟩)
  ·simp_all
  grind
 ·refine D.ar bt λ_=>D.bu (D.ret ⟨λh=>by omega,λ⟨i,x,h1,h2⟩=>?_⟩);grind
structure fZ(t:aZ):Prop where
 aD:t.aD.length<=60
 dI:dD t
 aqG:∃d,Bu (aM 0) t=I d/\d<=30
 BZ:∀(i:Nat) x,t.nodes[i]? =I x->nb t (i:Int)=I ad
theorem dD.a8(h:dD t)(i:Nat)(x:bm)(ak:t.nodes[i]? =I x):rt x i:=λk ap=>by obtain⟨a,_,h1⟩:=h.ht.all i (fR _) (cz.1 ak).1;rw[sk ak]at h1;obtain⟨j,rfl,h2,ay⟩:=h1.fw k ap;omega
theorem dD.kk(h:dD t)(j:Nat)(ag:j<t.nodes.length):bP t j↔(j:Int)∈t.aD:=by
 constructor
 ·intro hi;rcases h.ht.w2 j (fR _) ag with h1|⟨p,h1,h2,ay⟩
  ·exact h1
  ·exfalso;obtain⟨y,a9⟩:∃y,t.nodes[p]? =I y:=⟨_,bN h2⟩
   rw[sk a9]at ay;obtain⟨s,aQ⟩:=hf ay;obtain⟨x,ak,w4⟩:=hi;have:=aqE ((h.qy p y a9).2.1 s j x aQ dq);simp_all
 ·intro hm;obtain⟨fX,e,h1⟩:=h.aD j hm;grind
theorem HS(aj:cH t):dD t↔(∀(i:Nat) x,t.nodes[i]? =I x->iY x/\rt x i/\pX t x)/\(eT (bn t) t.aD 0 t.nodes.length/\∀j,j<t.nodes.length->(bP t j↔(j:Int)∈t.aD))/\∀i,HR t i->RO t t.aD i:=by
 constructor
 ·intro h;refine⟨λi x ak=>⟨(h.qy i x ak).1,h.a8 i x ak,(h.qy i x ak).2.1⟩,⟨h.ht,h.kk⟩,λi ⟨x,ak,h1,h2⟩=>?_⟩;have hi:=(cz.1 ak).1;rcases h.ht.w2 i (fR _) hi with ay|⟨p,ay,bl,bO⟩
  ·have:=(bP.at ak).1 ((h.kk i hi).2 ay);rw[h1]at this;cases this
  ·obtain⟨y,a9⟩:∃y,t.nodes[p]? =I y:=⟨_,bN bl⟩
   rw[sk a9]at bO;have dm:=(h.qy p y a9).2.2 i x bO dq h1 h2;have hp:(p:Int)∈t.aD:=(h.kk p bl).1 ((bP.at a9).2 (by rw[dm];rfl));exact⟨p,y,hp,dq,dm,bO⟩
 ·rintro⟨h1,⟨h2,ay⟩,bl⟩;have ey:∀k∈t.aD,∃j:Nat,k=j/\bP t j:=λk ap=>by
   obtain⟨j,rfl,bO,cX⟩:=h2.fw k ap;grind
  refine⟨h2,ey,λi x ak=>⟨(h1 i x ak).1,(h1 i x ak).2.2,λk y ap a9 En pZ=>?_⟩⟩;have hi:=(cz.1 ak).1;have MG:=(h1 i x ak).2.1 k ap;obtain⟨j,rfl⟩:=w0 MG.1;obtain⟨q,z,bO,cX,hq,g8⟩:=bl j ⟨y,dq,En,pZ⟩;obtain⟨p,rfl,kg,AP⟩:=h2.fw q bO;simp only[dA]at cX;have:i=p:=h2.agQ j i p (fR _) hi (fR _) AP (by rw[sk ak];exact ap) (by rw[sk cX];exact g8);simp_all
def aqH(aj:cH t)(Li:1000<=n):∃e,PP (aM n) t=I e/\GM (aM n) t=I e/\(e=0↔fZ t):=by
 have a6:=aj.nodes;have aIm:=aj.aD;unfold PP GM;have aqI:V2 t=I ((decide (800<(t.nodes.length:Int)))||(decide (60<(t.aD.length:Int)))):=rfl;rw[aqI,bE];by_cases HT:((decide (800<(t.nodes.length:Int)))||(decide (60<(t.aD.length:Int))))=ad
 ·rw[if_pos HT,if_pos HT];refine⟨5,rfl,rfl,⟨dF,λh=>?_⟩⟩;have:=h.aD;grind
 rw[if_neg HT,if_neg HT];have aqJ:t.aD.length<=60:=by grind
 obtain⟨zM,aqK,aqL⟩:=aqu (n:=n) aj;rw[aqK,bE];have prog:D (Wk t (aM n) 0) λe=>(¬dD t/\e=4)\/(dD t/\G7 (aM n) t ()=I e):=by
  unfold Wk;refine D.for t.nodes.length (λk (_:Unit)=>(k:Int)) (λk _=>∀(j:Nat) x,j<k->t.nodes[j]? =I x->iY x/\rt x j/\pX t x) (t0:=()) rfl (λj x h=>by omega) (λk _ ap a7=>?_) λ_ a7=>?_
  ·refine D.ar (λ_=>?_) d_;obtain⟨x,ak⟩:∃x,t.nodes[k]? =I x:=⟨_,bN ap⟩
   refine D.bind (aqh (n:=n) aj ak) λb aF=>D.bK (λh=>D.bu (D.ret (.inl ⟨λbg=>?_,rfl⟩))) λh=>D.inl ⟨(),by rw[bw U],λj y ag a9=>?_⟩
   ·grind[HS]
   grind
  ·refine D.ar bt λ_=>D.bu ?_;have iO:∀(i:Nat) x,t.nodes[i]? =I x->iY x/\rt x i/\pX t x:=λi x ak=>a7 i x (cz.1 ak).1 ak;obtain⟨eP,xL,qg⟩:=agR (n:=n) aj (λi x ak=>(iO i x ak).2.1) Li;have hm:G7 (aM n) t ()=au (G4 (aM n) t) λai=>if(!ai)then I 4 else(G5 (aM n) t).bind λaE=>if(!aE)then I 4 else(G6 (aM n) t).bind λaW=>if(decide (30<aW))then I 5 else(D3 (aM n) t).bind λa_=>if(decide (0<=a_))then I 3 else I 0:=rfl
   by_cases sm:dD t
   ·obtain⟨d,Lh,_⟩:=RQ (n:=n) aj (λi x ak=>(iO i x ak).2.1);have rW:eP=ad:=qg.2 ((HS aj).1 sm).2.1;obtain⟨qY,Es,oT⟩:=XK (n:=n) aj (λq aB=>by obtain⟨j,rfl,_,h⟩:=sm.ht.fw q aB;omega);have XP:qY=ad:=oT.2 ((HS aj).1 sm).2.2;obtain⟨z,pD,_⟩:=agY (n:=n) aj (λi x ak=>agX aj ak (iO i x ak).2.1 (iO i x ak).1 (iO i x ak).2.2 λi x ak=>(iO i x ak).1);have:∃e,G7 (aM n) t ()=I e:=by
     rw[hm,xL,Es,Lh,pD,rW,XP];simp only[bE,RN,ge,if_false];split
     ·simp
     grind
    obtain⟨e,he⟩:=this;exact⟨e,he,.inr ⟨sm,he⟩⟩
   ·rw[hm,xL,bE];refine D.bK (λ_=>D.ret (.inl ⟨sm,rfl⟩)) λh=>?_;have aqM:=qg.1 dZ;obtain⟨qY,Es,oT⟩:=XK (n:=n) aj (λq aB=>by obtain⟨j,rfl,_,h⟩:=aqM.1.fw q aB;omega);rw[Es,bE];refine D.bK (λ_=>D.ret (.inl ⟨sm,rfl⟩)) λh=>?_;grind[absurd,HS]
 obtain⟨e,he,uZ⟩:=prog;rw[he];rcases uZ with⟨aqN,rfl⟩|⟨sm,uh⟩
 ·have:zM=aS:=by
   simp_all
  subst this;exact⟨4,rfl,rfl,⟨dF,λh=>absurd h.dI aqN⟩⟩
 ·have mr:zM=ad:=aqL.2 sm;subst mr;have gM:=sm.a8;have iO:∀(i:Nat) x,t.nodes[i]? =I x->iY x:=λi x ak=>(sm.qy i x ak).1;have gw:=λ(i:Nat) x (ak:t.nodes[i]? =I x)=>agX aj ak (gM i x ak) (iO i x ak) (sm.qy i x ak).2.1 iO;obtain⟨d,Lh,zK⟩:=RQ (n:=n) aj gM;obtain⟨d0,_,ij⟩:=RQ (n:=0) aj gM;have XQ:d=d0:=by
   have:Bu (aM n) t=Bu (aM 0) t:=rfl;simp_all
  subst XQ;obtain⟨eP,xL,qg⟩:=agR (n:=n) aj gM Li;have rW:eP=ad:=qg.2 ((HS aj).1 sm).2.1;obtain⟨qY,Es,oT⟩:=XK (n:=n) aj (λq aB=>by obtain⟨j,rfl,_,h⟩:=sm.ht.fw q aB;omega);have XP:qY=ad:=oT.2 ((HS aj).1 sm).2.2;obtain⟨z,pD,qz⟩:=agY (n:=n) aj gw;have hm:G7 (aM n) t ()=au (G4 (aM n) t) λai=>if(!ai)then I 4 else(G5 (aM n) t).bind λaE=>if(!aE)then I 4 else(G6 (aM n) t).bind λaW=>if(decide (30<aW))then I 5 else(D3 (aM n) t).bind λa_=>if(decide (0<=a_))then I 3 else I 0:=rfl
  rw[hm,xL,Es,Lh,pD,rW,XP]at uh;simp only[bE,RN,ge,if_false]at uh;simp only[RN,ge,if_false];rw[zK,bE];by_cases w5:30<d
  ·rw[if_pos dq]at uh⊢;cases uh;refine⟨5,rfl,rfl,⟨dF,λh=>?_⟩⟩;obtain⟨db,h1,h2⟩:=h.aqG;grind
  rw[if_neg dq]at uh⊢;have last:D (VT (aM n) t 0) λe=>(e=0/\∀(i:Nat) x,t.nodes[i]? =I x->nb t (i:Int)=I ad)\/(e=3/\∃(i:Nat)(x:bm),t.nodes[i]? =I x/\nb t (i:Int)=I aS):=by
   unfold VT;refine D.for t.nodes.length (λk (_:Unit)=>(k:Int)) (λk _=>∀(j:Nat) x,j<k->t.nodes[j]? =I x->nb t (j:Int)=I ad) (t0:=()) rfl (λj x h=>by omega) (λk _ ap a7=>?_) λ_ a7=>?_
   ·refine D.ar (λ_=>?_) d_;obtain⟨x,ak⟩:∃x,t.nodes[k]? =I x:=⟨_,bN ap⟩
    obtain⟨b,_,aF⟩:=gw k x ak;refine D.ae aF (D.bK (λh=>D.bu (D.ret (.inr ⟨rfl,k,x,ak,dq⟩))) λh=>D.inl ⟨(),by rw[bw U],λj y ag a9=>?_⟩);grind
   ·exact D.ar bt λ_=>D.bu (D.ret (.inl ⟨rfl,λi x ak=>a7 i x (cz.1 ak).1 ak⟩))
  obtain⟨im,h1,h2⟩:=last;rw[h1];rcases h2 with⟨rfl,h2⟩|⟨rfl,i,x,ak,h2⟩
  ·have x0:¬ 0<=z:=λh=>by
    grind
   rw[if_neg dq]at uh;cases uh;exact⟨0,rfl,rfl,⟨λ_=>⟨aqJ,sm,⟨d,ij,U⟩,h2⟩,λ_=>rfl⟩⟩
  ·have x0:0<=z:=by
    grind
   rw[if_pos dq]at uh;cases uh;refine⟨3,rfl,rfl,⟨dF,λh=>?_⟩⟩;have:=h.BZ i x ak;simp_all
end
def iw(t:aZ)(j:Nat):Option Nat:=(gD t.nodes.length).find? λi=>decide ((j:Int)∈bn t i)
def Lk:Option Nat->Int|some p=>p|none=> -1
def iT(t:aZ)(j:Nat):Int:=Lk (iw t j)
section
variable {n : Nat} {t : aZ}
theorem agZ{l:List Int}{a:Int}(aC:l.length< 1000000):GN (aM n) l a=I (decide (a∈l)):=by
 have:D (GN (aM n) l a) λr=>r=ad↔a∈l:=by
  unfold GN aeg;refine D.for l.length (λk (_:Unit)=>(k:Int)) (λk _=>∀j x,j<k->l[j]? =I x->x≠a) (t0:=()) rfl (λj x h=>by omega) (λk _ ap a7=>?_) λ_ a7=>?_
  ·refine D.ar (λ_=>D.hA ap λx ak=>D.ar (λe=>D.inr ⟨λ_=>e▸cm ak,λ_=>rfl⟩) λe=>D.inl ⟨(),by rw[bw U],λj y ag a9=>?_⟩) d_;grind
  ·refine D.ar bt λ_=>D.inr ⟨dF,λh=>?_⟩;grind[hf,absurd,cz]
 obtain⟨r,e,h⟩:=this;grind
variable {j p:Nat}
theorem qA(aI:dD t)(h:iw t j=I p):p<t.nodes.length/\(j:Int)∈bn t p/\j<p:=by
 have h1:=agS h;have h2:=zL h;have hp:p<t.nodes.length:=pY.1 h2;have hm:(j:Int)∈bn t p:=by simp_all
 obtain⟨x,ak⟩:∃x,t.nodes[p]? =I x:=⟨_,bN hp⟩
 have:=aI.a8 p x ak j (by rw[<-sk ak];exact hm);simp_all
def ag0(h:iw t j=aJ)(hp:p<t.nodes.length):(j:Int) ∉ bn t p:=by have:=List.find?_eq_none.1 h p (pY.2 hp);simp_all
theorem ny(aI:dD t)(hp:p<t.nodes.length)(h:(j:Int)∈bn t p):iw t j=I p:=by
 cases e:iw t j with
 |none=>exact absurd h (ag0 e hp)
 |some q=>obtain⟨h1,h2,ay⟩:=qA aI e;rw[aI.ht.agQ j q p (fR _) h1 (fR _) hp h2 h]
theorem vQ(aI:dD t)(ag:j<t.nodes.length):iw t j=aJ↔(j:Int)∈t.aD:=by
 constructor
 ·intro h;rcases aI.ht.w2 j (fR _) ag with h1|⟨p,h1,h2,ay⟩
  ·exact h1
  ·exact absurd ay (ag0 h h2)
 ·intro h;cases e:iw t j with
  |none=>rfl
  |some q=>obtain⟨h1,h2,ay⟩:=qA aI e;exact(aI.ht.ub j q h (fR _) h1 h2).elim
theorem Ll(aj:cH t)(aI:dD t)(ag:j<t.nodes.length):Bv (aM n) t (j:Int)=I (iT t j):=by
 have a6:=aj.nodes;refine D.br ?_;unfold Bv aeh;rw[bw U];refine D.b1 (λs:Int=>∃k:Nat,s=k/\j<k/\k<=t.nodes.length/\∀i,i<k->(j:Int) ∉ bn t i) (λs=>t.nodes.length-s.toNat) ?_ ⟨j+1,rfl,U,U,λi hi hm=>?_⟩
 ·rintro _ ⟨k,rfl,h1,h2,ay⟩;refine D.ar (λh=>D.hA U λx ak=>?_) λh=>D.inr ?_
  ·have o5:=aj.a8 x (cm ak);refine D.ae (agZ U) (D.ar (λhm=>D.bu (D.ret ?_)) λhm=>D.inl ⟨⟨k+1,bw U,U,U,λi hi=>?_⟩,?_⟩)
   ·unfold iT;rw[ny (p:=k) aI U (by rw[sk ak];exact hm)];rfl
   ·grind[sk]
   grind[bw]
  ·have:iw t j=aJ:=by
    grind[iw,qA,absurd]
   unfold iT;rw[this];rfl
 ·obtain⟨x,ak⟩:∃x,t.nodes[i]? =I x:=⟨_,bN U⟩
  have:=aI.a8 i x ak j (by rw[<-sk ak];exact hm);omega
def XR:∀N:Nat,N<=800->G8 (IntKind.u64.wrap 1) (IntKind.u64.wrap (N:Int))=I (0,(N:Int)):=by
 have h:((gD 801).all λN=>decide (G8 (IntKind.u64.wrap 1) (IntKind.u64.wrap (N:Int))=I (0,(N:Int))))=ad:=by kernel_rfl
 grind
def XS{α:Type}{x:α}{c:List α}{s:Nat}(aQ:s<=c.length):c.take s=cC s x↔∀j,j<s->c[j]? =I x:=by
 constructor
 ·intro h j ag;have:=congrArg (λl=>l[j]?) h;grind
 ·intro h;apply m3;grind
theorem aqO{N:Nat}(fz:N<=800)(x:Int):KF (aM n) [x] (N:Int)=I (N,cC N x):=by
 refine D.br ?_;unfold KF;refine D.ar bt λ_=>?_;have a2:IntKind.u64.wrap (([x]:List Int).length:Int)=IntKind.u64.wrap 1:=rfl;rw[a2];refine D.ae (XR N fz) ?_;dsimp only;rw[if_neg dZ,Jy U];refine D.ae (XN U 0) ?_;have j0:om (cC N (0:Int)) 0 (cC N (0:Int)).length [x]=I ([x].take N++(cC N (0:Int)).drop (min 1 N)):=by simp_all[om,if_pos]
 refine D.ae j0 ?_;have bG:(cC N (0:Int)).length=N:=by simp
 rw[bG];have em:(((min ([x]:List Int).length N:Nat)):Int)=((min 1 N:Nat):Int):=rfl;rw[em];unfold afc;rw[bG];refine D.b1 (λs:Int×List Int=>∃k:Nat,s.1=k/\k<=N/\(0<N->0<k)/\s.2.length=N/\∀j,j<k->s.2[j]? =I x) (λs=>N-s.1.toNat) ?_ ⟨min 1 N,rfl,U,U,dZ,λj ag=>?_⟩
 ·rintro⟨_,c⟩ ⟨k,rfl,ap,uy,aC,ax⟩;dsimp only at aC ax⊢;simp only[dA];refine D.ar (λh=>?_) λh=>?_
  ·refine D.ae (z:=()) (by unfold A1;rw[if_pos U]) (D.ae (z:=()) (by unfold A2;rw[if_pos U]) ?_);have bc:wC c (0+k) (N-k) 0 k=I (c.take k++(c.take k).take (N-k)++c.drop (k+min k (N-k))):=by
    simp_all[wC,if_pos,om]
   refine D.ae bc (D.inl ⟨⟨k+min k (N-k),?_,U,U,?_,λj ag=>?_⟩,?_⟩)
   ·grind[az,b3]
   ·grind
   ·grind
   grind[az,b3]
  ·refine D.inr ?_;have:k=N:=by omega
   subst this;congr 1;have:=(XS (x:=x) (c:=c) (s:=k) U).2 ax
   rwa[g4 U]at this
 grind
def tl(t:aZ)(c:List Int):Prop:=c.length=t.nodes.length/\∀j,j<t.nodes.length->c[j]? =I (iT t j)
def HU(o:Option Nat)(P:Nat->Bool):Int:=match o with|some p=>cond (P p) (p:Int) (-1)|none=> -1
def aqP(aj:cH t)(aI:dD t):D (Wl (aM n) t (t.nodes.length,cC t.nodes.length (-1)) (t.nodes.length,cC t.nodes.length (-1)) (0,cC t.nodes.length (-1))) λr=>∃c,tl t c/\r=.inr (0,t.nodes,t.aD,t.nodes.length,t.nodes.length,c,cC t.nodes.length (-1)):=by
 have a6:=aj.nodes;unfold Wl;refine D.for t.nodes.length (λk (c:List Int)=>((k:Int),c)) (λk c=>c.length=t.nodes.length/\∀j,j<t.nodes.length->c[j]? =I (HU (iw t j) λp=>decide (p<k))) (t0:=cC t.nodes.length (-1)) rfl ⟨by simp,λj ag=>?_⟩ (λk c ap a7=>?_) λc a7=>?_
 ·rw[List.getElem?_replicate,if_pos ag];cases iw t j<;>rfl
 ·refine D.ar (λ_=>D.hA ap λx ak=>?_) d_;have o5:=aj.a8 x (cm ak);have gM:=aI.a8 k x ak;unfold afd;refine D.for x.a8.length (λs (c:List Int)=>((s:Int),c)) (λs c=>c.length=t.nodes.length/\∀j:Nat,j<t.nodes.length->c[j]? =I (HU (iw t j) λp=>decide (p<k)||(decide (p=k)&&decide ((j:Int)∈x.a8.take s)))) (t0:=c) rfl ⟨a7.1,λj ag=>?_⟩ (λs c aQ a7=>?_) λc a7=>?_
  ·rw[a7.2 j ag];cases iw t j<;>simp[HU]
  ·refine D.ar (λ_=>D.hA aQ λq aB=>?_) d_;obtain⟨gn,rfl⟩:=w0 (gM q (cm aB)).1;have zJ:=(gM _ (cm aB)).2;have HV:iw t gn=I k:=ny aI ap (by grind[sk,cm]);have lr:=a7.2 gn U;refine D.ae (hN lr U) (D.inl ⟨c.set gn (k:Int),by rw[bw U],dq,λj ag=>?_⟩);rw[List.getElem?_set];split
   ·simp_all[if_pos,da,HU]
   ·next e=>
    rw[a7.2 j ag,da aB];grind
  ·refine D.ar bt λ_=>D.bu (D.ret ⟨c,by rw[bw U],a7.1,λj ag=>?_⟩);rw[a7.2 j ag,g4 (bL _)];cases e:iw t j with
   |none=>rfl
   |some p=>have HV:=qA aI e;unfold HU;dsimp only;congr 2;rw[Bool.eq_iff_iff];simp only[Bool.or_eq_true,dn,decide_eq_true_eq];grind[sk]
 ·refine D.ar bt λ_=>D.inr ⟨c,⟨a7.1,λj ag=>?_⟩,rfl⟩;rw[a7.2 j ag];unfold iT;cases e:iw t j with
  |none=>rfl
  |some p=>grind[qA,HU,Lk,decide_eq_true]
end
def af(t:aZ)(j:Nat):bm:=match t.nodes[j]? with|some x=>x|none=>⟨0,⟨#[]⟩,0,[],0⟩
variable {j:Nat}{t:aZ}
theorem aqQ{x:bm}(h:t.nodes[j]? =I x):af t j=x:=by unfold af;rw[h]
theorem k9(h:j<t.nodes.length):t.nodes[j]? =I (af t j):=by have:=bN h;rw[this,aqQ this]
theorem b8(h:j<t.nodes.length):aH t.nodes (j:Int)=I (af t j):=e7 (k9 h)
theorem dJ(h:j<t.nodes.length):bn t j=(af t j).a8:=sk (k9 h)
def HW(k:Int):Bool:=decide (k=40)||(decide (k=41)||(decide (k=42)||(decide (k=43)||(decide (k=44)||decide (k=20)))))
def h_(t:aZ)(j:Nat):Bool:=HW (af t j).kind||(decide ((af t j).kind=34)&&(match iw t j with|some p=>decide ((af t p).kind=42)|none=>aS))
def vR(k:Int):Bool:=decide (k=3)||(decide (k=21)||(decide (k=24)||(decide (k=32)||decide (k=45))))
def l9(a b:Int):Bool:=if decide (a=3)then decide (b=40)||decide (b=43)||decide (b=20)||decide (b=34)else if decide (a=21)then decide (b=42)else if decide (a=45)then decide (b=44)else decide (b=41)
def hl(t:aZ)(p j:Nat):List Int:=
 if(bn t p).getLast? =I (j:Int)then(if(af t p).kind=20 then [(p:Int)]else if(af t p).kind=42 then(bn t p).take ((bn t p).length- 2)++[(p:Int)]else [])else []
def yE(t:aZ):Nat->Nat->List Int×Nat
 |0,j=>([],j)
 |k+1,j=>match iw t j with
  |none=>([],j)
  |some p=>(hl t p j++(yE t k p).1,(yE t k p).2)
def d'(t:aZ)(j:Nat):List Int×Nat:=yE t t.nodes.length j
section
variable {n j p : Nat} {t : aZ}
def aqR(aI:dD t):∀(k cV j:Nat),t.nodes.length<=j+k->t.nodes.length<=j+cV->j<t.nodes.length->yE t k j=yE t cV j:=by
 intro k;induction k with
 |zero=>omega
 |succ k bx=>
  intro cV j h cr ag;cases cV with
  |zero=>omega
  |succ cV=>
   unfold yE;cases e:iw t j with
   |none=>rfl
   |some p=>obtain⟨h1,h2,ay⟩:=qA aI e;dsimp only;rw[bx cV p U U h1]
theorem sn(ag:j<t.nodes.length)(h:iw t j=aJ):d' t j=([],j):=by
 unfold d';cases e:t.nodes.length with
 |zero=>omega
 |succ k=>unfold yE;rw[h]
theorem l_(aI:dD t)(ag:j<t.nodes.length)(h:iw t j=I p):d' t j=(hl t p j++(d' t p).1,(d' t p).2):=by obtain⟨h1,h2,ay⟩:=qA aI h;have:d' t j=yE t (t.nodes.length+1) j:=aqR aI _ _ j U U ag;rw[this];show(match iw t j with|none=>([],j)|some p=>(hl t p j++(yE t t.nodes.length p).1,(yE t t.nodes.length p).2))=_;rw[h];rfl
def HX(aI:dD t){P:Nat->Prop}(bh:∀j,j<t.nodes.length->iw t j=aJ->P j)(h1:∀j p,j<t.nodes.length->p<t.nodes.length->j<p->(j:Int)∈bn t p->iw t j=I p->P p->P j):∀j,j<t.nodes.length->P j:=by
 have key:∀d j,j+d=t.nodes.length->j<t.nodes.length->P j:=by
  intro d;induction d using Nat.strongRecOn with
  |ind d bx=>
   intro j aG ag;cases e:iw t j with
   |none=>grind
   |some p=>obtain⟨h2,ay,bl⟩:=qA aI e;exact h1 j p ag h2 bl ay e (bx (t.nodes.length-p) U p U h2)
 intro j ag;exact key (t.nodes.length-j) j U ag
def Lm(aI:dD t){j:Nat}(ag:j<t.nodes.length):∃a,eT (bn t) (bn t j) a j:=by obtain⟨c,_,h⟩:=aI.ht.all j (fR _) ag;grind
def Et(aI:dD t):∀j,j<t.nodes.length->(d' t j).2<t.nodes.length/\iw t (d' t j).2=aJ/\j<=(d' t j).2/\∃a,eT (bn t) (bn t (d' t j).2) a (d' t j).2/\a<=j:=by
 refine HX aI (λj ag e=>?_) λj p ag hp Eu hm e bx=>?_
 ·rw[sn ag e];obtain⟨a,h⟩:=Lm aI ag;exact⟨ag,e,bL _,a,h,h.jW⟩
 ·rw[l_ aI ag e];obtain⟨h1,h2,ay,a,bl,bO⟩:=bx;refine⟨h1,h2,U,a,bl,?_⟩;by_cases tn:p=(d' t p).2
  ·rw[<-tn]at bl;obtain⟨fX,a2,cX,hq⟩:=bl.fw j hm;omega
  ·have Dg:p<(d' t p).2:=by omega
   obtain⟨c,cX,hq⟩:=bl.all p bO Dg;obtain⟨fX,a2,g8,kg⟩:=hq.fw j hm;omega
theorem XT(aI:dD t){j:Nat}(ag:j<t.nodes.length){i:Int}(hi:i∈t.aD):i<((d' t j).2:Int)↔i<(j:Int):=by
 obtain⟨h1,h2,ay,a,bl,bO⟩:=Et aI j ag;obtain⟨jH,rfl,_,c4⟩:=aI.ht.fw i hi;constructor
 ·intro h;by_cases ax:jH<j
  ·omega
  ·exfalso;have hu:=(vQ aI c4).2 hi;rcases bl.w2 jH U U with cX|⟨p,cX,hq,g8⟩
   ·have:=ny aI h1 cX;simp_all
   ·have:=ny (p:=p) aI U g8;simp_all
 omega
end
def w6(t:aZ)(j:Nat):List Int:=(d' t j).1++t.aD.filter λi=>decide (i<((d' t j).2:Int))&&h_ t i.toNat
def uD(t:aZ)(j:Nat)(s:ByteArray):Option Int:=(w6 t j).find? λd=>decide ((af t d.toNat).text=s)
def fE(t:aZ)(j:Nat):Int:=
 if vR (af t j).kind then(match uD t j (af t j).text with|some d=>if l9 (af t j).kind (af t d.toNat).kind then d else-1|none=> -1)else-1
section
variable {n : Nat} {t : aZ}
theorem ag1(b:Bool):(if b=ad then I ad else I aS)=I b:=by cases b<;>rfl
variable {j:Nat}
theorem ag2(ag:j<t.nodes.length):Kr t (j:Int)=I (vR (af t j).kind):=by unfold Kr;rw[b8 ag,bE,ag1];rfl
def aqS(k:Int):PV k=I (vR k):=by unfold PV;rw[ag1];rfl
def aqT(a b:Int):Pa a b=I (l9 a b):=by unfold Pa l9;cases decide (a=3)<;>cases decide (a=21)<;>cases decide (a=45)<;>rfl
def ag3(aI:dD t)(ag:j<t.nodes.length)(ap:kT (af t j).kind=aS):∃p,iw t j=I p:=by
 cases e:iw t j with
 |some p=>simp
 |none=>have:=(aI.kk j ag).2 ((vQ aI ag).1 e);grind[bP.at,k9]
def XU(aj:cH t)(aI:dD t)(ag:j<t.nodes.length):GO (aM n) t (j:Int)=I (h_ t j):=by
 unfold GO;rw[b8 ag,bE];unfold h_;show(if HW (af t j).kind=ad then I ad else _)=_;cases e:HW (af t j).kind with
 |true=>rfl
 |false=>
  rw[if_neg cW];by_cases h:(af t j).kind=34
  ·obtain⟨p,hp⟩:=ag3 aI ag (by rw[h];rfl);have h1:=(qA aI hp).1;rw[if_pos dZ,Ll aj aI ag,bE];unfold iT;rw[hp];show(aH t.nodes (p:Int)).bind _=_;rw[b8 h1];simp[h]
  simp_all
theorem uE(aI:dD t)(ag:j<t.nodes.length):k7 (af t j)=I ad:=by rw[XE,((aI.qy j _ (k9 ag)).1).Dq]
theorem w7(aI:dD t)(ag:j<t.nodes.length)(h:(af t j).kind=20):(af t j).a8.length=2:=by grind[uE,k7]
theorem to(aI:dD t)(ag:j<t.nodes.length)(h:(af t j).kind=42):2<=(af t j).a8.length:=by grind[uE,k7]
def XV{l:List Int}(h:0<l.length)(h2:l.length< 1000000):∃y,l.getLast? =I y/\aH l (az ((l.length:Int)- 1))=I y:=by refine⟨l[l.length- 1],by rw[List.getLast?_eq_getElem?,bN U],?_⟩;grind[b3,acf]
theorem cH.af(aj:cH t){j:Nat}(ag:j<t.nodes.length):(af t j).a8.length<=800:=(aj.a8 _ (cm (k9 ag))).1
variable {p:Nat}
theorem ag4(aj:cH t)(hp:p<t.nodes.length):(hl t p j).length<=801:=by have:=aj.af hp;grind[hl,dJ]
def aqU(aj:cH t)(aI:dD t)(ag:j<t.nodes.length):O9 (aM n) t (j:Int)=I (w6 t j):=by
 have a6:=aj.nodes;have ey:=aj.aD;refine D.br ?_;unfold O9;refine D.ae (Ll aj aI ag) ?_;unfold aej;refine D.b1 (λs:List Int×Int×Int=>∃k:Nat,s.2.1=k/\s.2.2=iT t k/\k<t.nodes.length/\s.1++(d' t k).1=(d' t j).1/\(d' t k).2=(d' t j).2/\s.1.length<=802*k) (λs=>t.nodes.length-s.2.1.toNat) ?_ ⟨j,rfl,rfl,ag,rfl,rfl,fR _⟩;rintro⟨bu,_,_⟩ ⟨k,rfl,rfl,ap,h1,h2,ay⟩;dsimp only at h1 ay⊢;cases e:iw t k with
 |none=>
  have p0:iT t k=-1:=by unfold iT;rw[e];rfl
  rw[p0,if_neg ci];rw[sn ap e]at h1 h2;simp only[iZ]at h1;subst h1;refine D.bu ?_;unfold VV aei;refine D.for t.aD.length (λi (o:List Int)=>(o,(i:Int))) (λi o=>o=(d' t j).1++(t.aD.take i).filter λi=>decide (i<((d' t j).2:Int))&&h_ t i.toNat) (t0:=(d' t j).1) rfl cW (λi o hi a7=>?_) λo a7=>?_
  ·subst a7;refine D.ar (λ_=>D.hA hi λq aB=>?_) d_;obtain⟨gn,rfl,_,qB⟩:=aI.ht.fw q (cm aB);have lW:(t.aD.take (i+1)).filter (λi=>decide (i<((d' t j).2:Int))&&h_ t i.toNat)=(t.aD.take i).filter (λi=>decide (i<((d' t j).2:Int))&&h_ t i.toNat)++(if(decide ((gn:Int)<((d' t j).2:Int))&&h_ t gn)=ad then [(gn:Int)]else []):=by
    rw[da aB,List.filter_append];grind
   have q_:((t.aD.take i).filter λi=>decide (i<((d' t j).2:Int))&&h_ t i.toNat).length<=800:=by grind
   have bc:(k:Int)=((d' t j).2:Int):=by rw[<-h2]
   rw[bc];refine D.ar (λb'=>D.aH aB (D.ae (XU aj aI qB) (D.bK (λaG=>D.aH aB (D.ae (eX dZ) (D.inl ⟨_,by rw[bw U],?_⟩))) λaG=>D.inl ⟨_,by rw[bw U],?_⟩))) λb'=>D.inl ⟨_,by rw[bw U],?_⟩
   ·rw[lW,if_pos dq,xw]
   ·rw[lW,if_neg dZ,iZ]
   simp_all
  ·subst a7;refine D.ar bt λ_=>D.inr ?_;rw[g4 (bL _)];rfl
 |some p=>
  obtain⟨hp,hm,zN⟩:=qA aI e;have p0:iT t k=p:=by unfold iT;rw[e];rfl
  have j7:=aj.af hp;rw[p0,if_pos cW];refine D.ae (b8 hp) (D.ae (b8 hp) ?_);rw[l_ aI ap e]at h1 h2;have kJ:0<(af t p).a8.length:=by grind[dJ,List.length_pos_of_mem]
  have p1:=ag4 (j:=k) aj hp;have tail:∀o:List Int,o=bu++hl t p k->D (GP (aM n) t (p:Int) o) (jv (λs':List Int×Int×Int=>(∃k:Nat,s'.2.1=k/\s'.2.2=iT t k/\k<t.nodes.length/\s'.1++(d' t k).1=(d' t j).1/\(d' t k).2=(d' t j).2/\s'.1.length<=802*k)/\t.nodes.length-s'.2.1.toNat<t.nodes.length-((k:Int)).toNat) (· =w6 t j)):=by grind[GP,D.ae,Ll,D.inl,xw,hW]
  obtain⟨y,Ev,n0⟩:=XV kJ U;have b5:(bn t p).getLast? =I y:=by rw[dJ hp];exact Ev
  refine D.ar (λnz=>?_) λnz=>?_
  ·have jj:=w7 aI hp nz;have yF:aH (af t p).a8 1=I y:=by rw[<-n0,jj];rfl
   refine D.ae yF (D.ar (λa9=>D.ae (eX dZ) ?_) λa9=>?_)
   ·unfold DO;refine D.ae (b8 hp) (D.ar bt λ_=>tail _ ?_);unfold hl;rw[b5,a9,if_pos rfl,if_pos nz]
   ·unfold DO;refine D.ae (b8 hp) (D.ar bt λ_=>tail _ ?_);unfold hl;simp_all
  ·unfold DO;refine D.ae (b8 hp) (D.ar (λc7=>?_) λc7=>tail _ ?_)
   ·have jj:=to aI hp c7;refine D.ae n0 (D.ar (λa9=>?_) λa9=>tail _ ?_)
    ·have bc:az (((af t p).a8.length:Int)- 2)=(((af t p).a8.length- 2:Nat):Int):=by grind[b3]
     rw[bc];refine D.ae (uz (i:=0) (fR _) U) (D.ae (eX dZ) (D.ae (eX dZ) (tail _ ?_)));simp_all[hl,if_pos,if_neg,dJ,xw]
    ·unfold hl;simp_all
   simp_all[hl,if_neg]
variable {d:Int}
def aqV(aI:dD t)(hp:p<t.nodes.length)(h:d∈hl t p j):d=p\/d∈bn t p:=by grind[hl,List.mem_of_mem_take]
theorem ag5(aI:dD t):∀j,j<t.nodes.length->∀d∈(d' t j).1,∃m:Nat,d=m/\m<t.nodes.length:=by
 refine HX aI (λj ag e d aG=>?_) λj p ag hp Eu hm e bx d aG=>?_
 ·simp_all[sn]
 ·rw[l_ aI ag e]at aG;rcases h3.1 aG with aG|aG
  ·rcases aqV aI hp aG with rfl|aG
   ·grind
   ·have:=aI.a8 p _ (k9 hp) d (by rw[<-dJ hp];exact aG);exact⟨d.toNat,U,U⟩
  grind
def ag6(aI:dD t)(ag:j<t.nodes.length)(aG:d∈w6 t j):∃m:Nat,d=m/\m<t.nodes.length:=by
 rcases h3.1 aG with aG|aG
 ·exact ag5 aI j ag d aG
 ·obtain⟨m,h1,_,h2⟩:=aI.ht.fw d (List.mem_filter.1 aG).1;grind
def aqW(aj:cH t)(aI:dD t):∀j,j<t.nodes.length->(d' t j).1.length<=801*(t.nodes.length-j):=by
 refine HX aI (λj ag e=>?_) λj p ag hp Eu hm e bx=>?_
 ·rw[sn ag e];simp
 ·rw[l_ aI ag e];grind[ag4,hW]
def aqX(aj:cH t)(aI:dD t)(ag:j<t.nodes.length):(w6 t j).length<=700000:=by have h1:=aqW aj aI j ag;have h2:=List.length_filter_le (λi=>decide (i<((d' t j).2:Int))&&h_ t i.toNat) t.aD;have ay:=aj.nodes;have bl:=aj.aD;grind[w6,hW]
def XW:Option Int->Int|some d=>d|none=> -1
theorem aqY(aj:cH t)(aI:dD t)(ag:j<t.nodes.length)(s:ByteArray):O_ (aM n) t (j:Int) s=I (XW (uD t j s)):=by
 have aC:=aqX aj aI ag;refine D.br ?_;unfold O_;refine D.ae (aqU aj aI ag) ?_;unfold aek uD;refine D.for (w6 t j).length (λi (_:Unit)=>(i:Int)) (λi _=>((w6 t j).take i).find? (λd=>decide ((af t d.toNat).text=s))=aJ) (t0:=()) rfl rfl (λi _ hi a7=>?_) λ_ a7=>?_
 ·refine D.ar (λ_=>D.hA hi λq aB=>?_) d_;obtain⟨gn,rfl,qB⟩:=ag6 aI ag (cm aB);refine D.ae (b8 qB) (D.ar (λaQ=>D.aH aB (D.inr ?_)) λaQ=>D.inl ⟨(),by rw[bw U],?_⟩)
  ·rw[yD aB,nd,a7];simp[aQ,XW]
  simp_all[da,nd]
 ·refine D.ar bt λ_=>D.inr ?_;rw[g4 (bL _)]at a7;rw[a7];rfl
theorem XX(aI:dD t)(ag:j<t.nodes.length){s:ByteArray}(h:uD t j s=I d):∃m:Nat,d=m/\m<t.nodes.length/\(af t m).text=s:=by obtain⟨m,rfl,hm⟩:=ag6 aI ag (zL h);have:=agS h;grind
def XY(aj:cH t)(aI:dD t)(ag:j<t.nodes.length):Bw (aM n) t (j:Int)=I (fE t j):=by
 unfold Bw fE;rw[ag2 ag,bE];cases e:vR (af t j).kind with
 |false=>rfl
 |true=>
  rw[b8 ag,bE,aqY aj aI ag,bE];simp only[RN,ge,if_false,if_true];cases bc:uD t j (af t j).text with
  |none=>rfl
  |some d=>obtain⟨m,rfl,hm,_⟩:=XX aI ag bc;simp only[XW,dA];refine D.br (D.ar bt λ_=>D.ae rfl (D.ae (b8 hm) (D.ae (aqT _ _) ?_)));exact D.bK (λh=>D.ret (by rw[if_neg dZ])) λh=>D.ret (by rw[if_pos dZ])
end
end Go.Proofs.YtjfgooffdmnnkaaGreatDoor

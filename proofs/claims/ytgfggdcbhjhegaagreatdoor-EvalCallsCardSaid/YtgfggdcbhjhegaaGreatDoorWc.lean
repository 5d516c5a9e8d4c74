/- What a name means: the program. -/
import Derived.Test.YtgfggdcbhjhegaaGreatDoorWb
set_option linter.all false
set_option maxRecDepth 100000
namespace Go.Proofs.YtgfggdcbhjhegaaGreatDoor
open Go Go.Mi Go.RowKit Go.Dp
open Bool renaming true->ah,and_eq_true->ea,or_eq_true->hk,false->aQ
open _root_.ByteArray renaming size_append->lT,append_assoc->yd,size_extract->DA,size->acz,getElem_append_left->amK,extract_extract->amL,extract_append_size_add'->MW,extract_append_eq_left->Aw,append_right_inj->amM,append_left_inj->amN,append_inj_left->amO
open Int renaming toNat_natCast->eq
open List renaming mem_of_getElem?->cC,getElem?_of_mem->fO,getElem?_eq_some_iff->cz,range->mn,replicate->dm,mem_filter->Tq,length_pos_of_mem->acA,getElem?_eq_none->n1,getElem?_set->rT,find?_append->qC,ext_getElem?->mr,append_assoc->tW
open Option renaming bind_some->cl,some->D,bind->aw
open Sum renaming inl->Ax,inr->MX
def iy(t:bf)(k:Int)(s:ByteArray)(q:Int)(l:List Int):Int ⊕ Int ⊕ Int:=
 match l.find? λd=>decide ((af t d.toNat).bi=s)with
 |some d=>if ko k (af t d.toNat).kind then .inl d else .inr (.inl q)
 |none=>.inr (.inr q)
def amP:Int ⊕ Int ⊕ Int->Int ⊕ Int ⊕ Int
 |.inl d=>.inr (.inl d)
 |.inr (.inl x)=>.inr (.inr x)
 |.inr (.inr x)=>.inl x
def amQ:Int ⊕ Int ⊕ Int->(Int×Int) ⊕ (Int×Int) ⊕ (Int×Int)->Prop
 |.inl d,r=>∃x,r=.inl (d,x)
 |.inr (.inl y),r=>∃x,r=.inr (.inl (y,x))
 |.inr (.inr y),r=>∃x,r=.inr (.inr (y,x))
section
variable {n : Nat} {t : bf} {k : Int} {s : ByteArray} {q : Int} {c dd : List Int}
variable {l:List Int}
theorem DB(h:l.find? (λd=>decide ((af t d.toNat).bi=s))=none):iy t k s q l=.inr (.inr q):=by unfold iy;rw[h]
variable {a b:List Int}
theorem MY(h:a.find? (λd=>decide ((af t d.toNat).bi=s))=none):iy t k s q (a++b)=iy t k s q b:=by grind[iy]
theorem Tr{d:Int}(h:a.find? (λd=>decide ((af t d.toNat).bi=s))=D d):iy t k s q (a++b)=iy t k s q a:=by simp_all[iy,qC]
theorem MZ{a:Int}(aK:l.length< 1000000):zH (aZ n) l a=D (decide (a∈l)):=by
 have:I (zH (aZ n) l a) λr=>r=ah↔a∈l:=by
  unfold zH Rv Z7;refine I.bind (Q:=λr=>0<=r↔a∈l) ?_ λz bj=>I.ret cK;refine I.for l.length (λk (_:Unit)=>(k:Int)) (λk _=>∀j x,j<k->l[j]? =D x->x≠a) (t0:=()) rfl (λj x h=>by omega) (λk _ au bq=>?_) λ_ bq=>?_
  ·refine I.aC (λ_=>I.g7 au λx ar=>I.aC (λe=>I.inr ⟨λ_=>e▸cC ar,λ_=>by omega⟩) λe=>I.inl ⟨(),by rw[cM aa],λj y ae bh=>?_⟩) dv;grind
  ·refine I.aC br λ_=>I.inr ⟨λh=>by omega,λh=>?_⟩;grind[fO,absurd,cz]
 obtain⟨r,e,h⟩:=this;grind
theorem amR(a b:Int):KB (aZ n) a b=D (ko a b):=by unfold KB ko;rw[MZ eu];grind
variable {m:Nat}
theorem DC:iy t k s q [(m:Int)]=if(af t m).bi=s then(if ko k (af t m).kind then .inl (m:Int)else .inr (.inl q))else .inr (.inr q):=by
 by_cases h:(af t m).bi=s
 ·have e:([(m:Int)]:List Int).find? (λd=>decide ((af t d.toNat).bi=s))=D (m:Int):=by simp[h]
  simp_all[if_pos,iy]
 simp_all[if_neg,DB]
theorem acB(aj:Int)(a6:List Int)(dg:Int)(hm:m<t.nodes.length):FZ (aZ n) (m:Int) q k s aj a6 dg t.nodes t.aX t.nodes.length t.nodes.length c dd=D (iy t k s q [(m:Int)]):=by refine I.bN ?_;unfold FZ;rw[DC];refine I.aq (cw hm) (I.aC (λh=>I.aq (amR _ _) ?_) λh=>I.ret (by rw[if_neg h]));simp_all[if_pos,I.bC,I.ret,if_neg]
theorem Ts(aj:Int)(a6:List Int)(dg:Int)(hm:m<t.nodes.length):CB (aZ n) (m:Int) q k s aj a6 dg t.nodes t.aX t.nodes.length t.nodes.length c dd=D (iy t k s q [(m:Int)]):=by unfold CB;rw[acB aj a6 dg hm,cl];rcases iy t k s q [(m:Int)]with _|_|_<;>rfl
variable {j:Nat}
theorem amS(ai:c7 t)(ay:ik t)(aj:Int)(a6:List Int)(dg:Int) {p:Nat}(hp:p<t.nodes.length)(hm:(j:Int)∈bd t p):KD (aZ n) (p:Int) (j:Int) t.nodes t.aX t.nodes.length t.nodes.length c dd q k s aj a6 dg=D (amP (iy t k s q (f_ t p j))):=by
 have h3:=ai.af hp;have ob:0<(af t p).a3.length:=by grind[c6,acA]
 obtain⟨y,Av,Dz⟩:=Tm ob aa;have b2:(bd t p).getLast? =D y:=by rw[c6 hp];exact Av
 refine I.bN ?_;unfold KD;refine I.aq (cw hp) (I.aC br λ_=>I.aq Dz (I.eh (λbh=>?_) λbh=>I.aC (λk8=>?_) λk8=>I.aC (λb9=>?_) λb9=>?_))
 ·refine I.ret ?_;unfold f_;rw[b2,if_neg (λh=>bh (Option.some.inj h)),DB rfl];rfl
 ·have bA:f_ t p j=[(p:Int)]:=by unfold f_;rw[b2,bh,if_pos rfl,if_pos k8]
  rw[bA];refine I.aq (Ts aj a6 dg hp) ?_;rcases iy t k s q [(p:Int)]with _|_|_<;>exact I.ret rfl
 ·have jI:=pY ay hp b9;have bA:f_ t p j=(af t p).a3.take ((af t p).a3.length- 2)++[(p:Int)]:=by unfold f_;rw[b2,bh,if_pos rfl,if_neg k8,if_pos b9,c6 hp]
  rw[bA];have bk:aH (((af t p).a3.length:Int)- 2)=(((af t p).a3.length- 2:Nat):Int):=by grind[c8]
  rw[bk];refine I.aq (yb (i:=0) (Nat.zero_le _) aa) ?_;have c0:((af t p).a3.drop 0).take ((af t p).a3.length- 2- 0)=(af t p).a3.take ((af t p).a3.length- 2):=rfl;rw[c0];generalize bj:(af t p).a3.take ((af t p).a3.length- 2)=e';have WD:e'.length<=800:=by grind
  have amT:∀d∈e',∃m:Nat,d=m/\m<t.nodes.length:=λd az=>by have:=ay.a3 p _ (lS hp) d (List.mem_of_mem_take (by rw[bj];exact az));exact⟨d.toNat,aa,aa⟩
  unfold Z8;refine I.for e'.length (λi (_:Unit)=>((i:Int),q)) (λi _=>(e'.take i).find? (λd=>decide ((af t d.toNat).bi=s))=none) (t0:=()) rfl rfl (λi _ ao bq=>?_) λ_ bq=>?_
  ·refine I.aC (λ_=>I.g7 ao λx ar=>?_) dv;obtain⟨m,rfl,ge⟩:=amT x (cC ar);refine I.aq (Ts aj a6 dg ge) ?_;have acC:iy t k s q (e'++[(p:Int)])=iy t k s q ([(m:Int)]++(e'.drop (i+1)++[(p:Int)])):=by
    grind[sx,tW,MY]
   by_cases aV:(af t m).bi=s
   ·have fG:([(m:Int)]:List Int).find? (λd=>decide ((af t d.toNat).bi=s))=D (m:Int):=by simp[aV]
    rw[Tr fG]at acC;rw[acC,DC,if_pos aV];cases ko k (af t m).kind<;>exact I.inr rfl
   ·rw[DC,if_neg aV];refine I.inl ⟨(),by rw[cM aa],?_⟩;simp_all[gd,qC]
  ·refine I.aC br λ_=>I.dk ?_;rw[List.take_of_length_le (Nat.le_refl _)]at bq;rw[MY bq];refine I.aq (Ts aj a6 dg hp) ?_;rcases iy t k s q [(p:Int)]with _|_|_<;>exact I.ret rfl
 ·refine I.ret ?_;unfold f_;rw[if_neg k8,if_neg b9];simp;rfl
theorem DD(aP:qD t c)(ae:j<t.nodes.length):fK t.nodes.length c (j:Int)=D ⟨(j,hI t j),aP.2 j ae⟩:=k7 (aP.2 j ae) ae
theorem amU(ai:c7 t)(ay:ik t)(aP:qD t c)(aj:Int)(a6:List Int)(dg:Int)(ae:j<t.nodes.length):I (KE (aZ n) (j:Int) t.nodes t.aX t.nodes.length t.nodes.length c dd q k s aj a6 dg) λr=>amQ (iy t k s q (dz t j).1) r:=by
 unfold KE;refine I.aq (DD aP ae) ?_;unfold Z9;refine I.b8 (λs':Int×Int×Int=>∃(i:Nat)(pre:List Int),s'=(hI t i,(i:Int),q)/\i<t.nodes.length/\(dz t j).1=pre++(dz t i).1/\pre.find? (λd=>decide ((af t d.toNat).bi=s))=none) (λs'=>t.nodes.length-s'.2.1.toNat) ?_ ⟨j,[],rfl,ae,rfl,rfl⟩;rintro _ ⟨i,pre,rfl,ao,aK,a_⟩;dsimp only;cases e:hs t i with
 |none=>
  have nN:hI t i=-1:=by unfold hI;rw[e];rfl
  rw[nN,if_neg eu];refine I.inr ?_;rw[pa ao e,List.append_nil]at aK;rw[aK,DB a_];exact⟨_,rfl⟩
 |some p=>
  obtain⟨hp,hm,amV⟩:=ol ay e;have nN:hI t i=p:=by unfold hI;rw[e];rfl
  rw[nN,if_pos fT];unfold Rw Ru;rw[cl];rw[j9 ay ao e]at aK;dsimp only at aK⊢;rw[amS ai ay aj a6 dg hp hm,cl];cases rA:(f_ t p i).find? (λd=>decide ((af t d.toNat).bi=s))with
  |none=>rw[DB rA];refine I.aq (z:=Ax q) rfl ?_;grind[fK,bind,I.aq,DD,I.inl,f_,tW]
  |some d=>
   have c0:iy t k s q (dz t j).1=iy t k s q (f_ t p i):=by rw[aK,MY a_,Tr rA]
   rw[c0];have:∀x,iy t k s q (f_ t p i)≠ .inr (.inr x):=λx h=>by unfold iy at h;rw[rA]at h;dsimp only at h;split at h<;>cases h
   generalize iy t k s q (f_ t p i)=w at*;rcases w with a|a|a
   ·refine I.aq (z:=MX (Ax a)) rfl ?_;exact I.inr ⟨_,rfl⟩
   ·refine I.aq (z:=MX (MX a)) rfl ?_;exact I.inr ⟨_,rfl⟩
   simp_all
theorem amW(ay:ik t)(aP:qD t c)(ae:j<t.nodes.length):Kw (j:Int) t.nodes t.aX t.nodes.length t.nodes.length c dd=D (decide ((af t j).kind=34)&&(match hs t j with|some p=>decide ((af t p).kind=42)|none=>aQ)):=by
 refine I.bN ?_;unfold Kw;refine I.aq (DD aP ae) (I.aq (cw ae) (I.bC (λh=>?_) λh=>I.ret ?_))
 ·have h:(decide ((af t j).kind=34)&& !decide (hI t j=-1))=ah:=h;rw[ea,decide_eq_true_eq]at h;cases e:hs t j with
  |none=>have:=h.2;unfold hI at this;rw[e]at this;cases this
  |some p=>
   obtain⟨hp,_,_⟩:=ol ay e;have nN:aL t.nodes (hI t j)=D (af t p):=by unfold hI;rw[e];exact cw hp
   simp_all[I.aq,I.ret]
 ·have h:(decide ((af t j).kind=34)&& !decide (hI t j=-1))=aQ:=h;by_cases ia:(af t j).kind=34
  ·rw[decide_eq_true ia,Bool.true_and,Bool.not_eq_false',decide_eq_true_eq]at h;cases e:hs t j with
   |none=>simp
   |some p=>unfold hI at h;rw[e]at h;have:(p:Int)=-1:=h;omega
  grind
theorem Tt(ay:ik t)(aP:qD t c)(ae:j<t.nodes.length):xP (j:Int) t.nodes t.aX t.nodes.length t.nodes.length c dd=D (gZ t j):=by unfold xP;rw[cw ae,cl,amW ay aP ae];unfold gZ;show(if Dx (af t j).kind=ah then D ah else _)=_;cases Dx (af t j).kind<;>rfl
theorem amX(ay:ik t)(aP:qD t c)(ae:j<t.nodes.length):xP (j:Int) t.nodes t.aX t.nodes.length t.nodes.length c dd=D (gZ t j):=Tt (dd:=dd) ay aP ae
theorem amY(ai:c7 t)(ay:ik t)(aP:qD t c)(aj:Int)(a6:List Int)(dg:Int)(ae:j<t.nodes.length)
  (GP:∀a b:Nat,a<j->b<j->(a:Int)∈t.aX->(b:Int)∈t.aX->gZ t a=ah->gZ t b=ah->(af t a).bi=(af t b).bi->a=b):
  KF (aZ n) t.aX (j:Int) t.nodes t.aX t.nodes.length t.nodes.length c dd q k s aj a6 dg=D (iy t k s q (t.aX.filter λi=>decide (i<(j:Int))&&gZ t i.toNat)):=by
 have hn:=ai.aX;refine I.bN ?_;unfold KF Z_;have de:aH ((t.aX.length:Int)- 1)=(t.aX.length:Int)- 1:=c8 aa aa;rw[de];refine I.b8 (λs':Int×Int=>∃i:Nat,s'=((i:Int)- 1,q)/\i<=t.aX.length/\∀x∈t.aX.drop i,x<(j:Int)->gZ t x.toNat=ah->(af t x.toNat).bi≠s) (λs'=>(s'.1+1).toNat) ?_ ⟨t.aX.length,rfl,Nat.le_refl _,λx ar=>by simp at ar⟩;rintro _ ⟨i,rfl,ao,bq⟩;dsimp only;cases i with
 |zero=>simp_all[if_neg,I.inr,DB,List.find?_eq_none,Tq,ea,decide_eq_true_eq]
 |succ i=>
  have a5:((i+1:Nat):Int)- 1=(i:Int):=by omega
  rw[a5,if_pos fT];refine I.g7 aa λx ar=>?_;have m9:=cC ar;obtain⟨m,rfl,_,ge⟩:=ay.fI.eB x m9;have go:((m:Int)<(j:Int)->gZ t m=ah->(af t m).bi≠s)->I (D (Ax (aH ((i:Int)- 1),q):(Int×Int) ⊕ (Int ⊕ Int ⊕ Int))) (ln (λs':Int×Int=>(∃i:Nat,s'=((i:Int)- 1,q)/\i<=t.aX.length/\∀x∈t.aX.drop i,x<(j:Int)->gZ t x.toNat=ah->(af t x.toNat).bi≠s)/\(s'.1+1).toNat<((i:Int)+1).toNat) (· =iy t k s q (t.aX.filter λi=>decide (i<(j:Int))&&gZ t i.toNat))):=by intro As;rw[Qh aa];refine I.inl ⟨⟨i,rfl,aa,λy bh=>?_⟩,aa⟩;rw[Ao ar]at bh;grind
  unfold Rz;by_cases cf:(m:Int)<(j:Int)
  ·rw[if_pos cK,Tt ay aP ge,cl];cases az:gZ t m with
   |false=>simp_all
   |true=>
    rw[if_pos rfl,acB aj a6 dg ge,cl];by_cases aV:(af t m).bi=s
    ·have sA:(t.aX.filter λi=>decide (i<(j:Int))&&gZ t i.toNat).find? (λd=>decide ((af t d.toNat).bi=s))=D (m:Int):=by
      have aCj:(m:Int)∈t.aX.filter λi=>decide (i<(j:Int))&&gZ t i.toNat:=Tq.2 ⟨m9,cK⟩;cases rA:(t.aX.filter λi=>decide (i<(j:Int))&&gZ t i.toNat).find? (λd=>decide ((af t d.toNat).bi=s))with
      |none=>grind
      |some d=>
       have h1:=Tq.1 (List.mem_of_find?_eq_some rA);obtain⟨cQ,rfl,_,_⟩:=ay.fI.eB d h1.1;have h2:=List.find?_some rA;have aJ:=h1.2;rw[ea,decide_eq_true_eq,eq]at aJ;have h2:(af t cQ).bi=s:=by simp_all
       rw[GP cQ m aa aa h1.1 m9 aJ.2 az (by rw[h2,aV])]
     have c0:iy t k s q (t.aX.filter λi=>decide (i<(j:Int))&&gZ t i.toNat)=iy t k s q [(m:Int)]:=by simp_all[DC,if_pos,iy]
     rw[c0,DC,if_pos aV];cases ko k (af t m).kind<;>exact I.inr rfl
    simp_all[DC,if_neg]
  grind
theorem amZ(ai:c7 t)(ay:ik t)(aP:qD t c)(ae:j<t.nodes.length)(au:sz (af t j).kind=ah)
  (GP:∀a b:Nat,a<j->b<j->(a:Int)∈t.aX->(b:Int)∈t.aX->gZ t a=ah->gZ t b=ah->(af t a).bi=(af t b).bi->a=b):
  KG (aZ n) (j:Int) t.nodes t.aX t.nodes.length t.nodes.length c dd=D (eS t j):=by
 refine I.bN ?_;unfold KG Rt RA FY;refine I.aq (cw ae) ?_;rw[cl,cl];have aV:tG t j=(dz t j).1++t.aX.filter λi=>decide (i<(j:Int))&&gZ t i.toNat:=by unfold tG;congr 1;apply List.filter_congr;intro i ao;have:=Tk ay ae ao;rw[decide_eq_decide.2 this]
 have am0:eS t j=match iy t (af t j).kind (af t j).bi 0 (tG t j)with| .inl d=>d|_=> -1:=by unfold eS rE iy;grind
 rw[am0,aV];obtain⟨r,e,aM⟩:=amU (n:=n) (dd:=dd) (k:=(af t j).kind) (s:=(af t j).bi) (q:=0) ai ay aP (af t j).n (af t j).a3 (af t j).dx ae;rw[e,cl];cases rA:(dz t j).1.find? (λd=>decide ((af t d.toNat).bi=(af t j).bi))with
 |none=>rw[DB rA]at aM;obtain⟨x,rfl⟩:=aM;unfold Ry;simp only[Sum.elim_inr,cl];rw[MY rA,amY ai ay aP _ _ _ ae GP,cl];rcases iy t (af t j).kind (af t j).bi 0 (t.aX.filter λi=>decide (i<(j:Int))&&gZ t i.toNat)with a|a|a<;>exact I.ret rfl
 |some d=>
  rw[Tr rA];have:∀x,iy t (af t j).kind (af t j).bi 0 (dz t j).1≠ .inr (.inr x):=λx h=>by unfold iy at h;rw[rA]at h;dsimp only at h;split at h<;>cases h
  generalize iy t (af t j).kind (af t j).bi 0 (dz t j).1=w at*;rcases w with a|a|a
  ·obtain⟨x,rfl⟩:=aM;exact I.ret rfl
  ·obtain⟨x,rfl⟩:=aM;exact I.ret rfl
  simp_all
end
def ei(k:Int):Bool:=decide (1<=k)&&decide (k<=26)&& !decide (k=25)
def k9(k:Int):Bool:=decide (30<=k)&&decide (k<=33)
def m_(x:bz)(a:Nat)(k:Int):Bool:=
 if x.kind=24 then decide (k=25)else if x.kind=41 then decide (k=34)else if x.kind=34\/x.kind=33 then k9 k else if x.kind=40 then decide (k=1)else
 if x.kind=42 then(if(a:Int)=(x.a3.length:Int)- 1 then ei k else if(a:Int)=(x.a3.length:Int)- 2 then k9 k else decide (k=34))else ei k
theorem am1{x:bz}(h:x.a3.length<=800)(a:Nat)(k:Int):qv x a k=D (m_ x a k):=by have jg:aH ((x.a3.length:Int)- 1)=(x.a3.length:Int)- 1:=c8 aa aa;have lb:aH ((x.a3.length:Int)- 2)=(x.a3.length:Int)- 2:=c8 aa aa;have a5:v3 k=D (ei k):=rfl;have bk:v4 k=D (k9 k):=rfl;unfold qv m_;grind
theorem ee.pP{bd:Nat->List Int}{ks:List Int}{a b:Nat}(h:ee bd ks a b):ks.Pairwise (· < ·):=by
 induction h with
 |nil=>simp
 |cons h1 h2 i1 i2=>refine .cons (λy bh=>?_) i2;obtain⟨j,rfl,aJ,_⟩:=h2.eB y bh;omega
theorem ye{l:List Int}(h:l.Pairwise (· < ·)){i j:Nat}{x y:Int}(ar:l[i]? =D x)(bh:l[j]? =D y):x<y↔i<j:=by grind[cz,List.pairwise_iff_getElem,Nat.lt_trichotomy]
inductive nO (t:bf):Nat->Nat->Prop
 |refl (j:Nat):nO t j j
 |y8 {j p d:Nat} (h:hs t j=D p) (k:nO t p d):nO t j d
theorem nO.Tu{t:bf}{j d:Nat}(h:j≠d):nO t j d↔∃p,hs t j=D p/\nO t p d:=by
 constructor
 ·intro k;cases k with
  |refl=>omega
  |y8 h1 h2=>simp_all
 ·rintro⟨p,h1,h2⟩;exact .y8 h1 h2
def yf(t:bf)(j:Nat):Prop:=(j:Int)∈t.aX/\gZ t j=ah/\∃i:Nat,(i:Int)∈t.aX/\i<j/\gZ t i=ah/\(af t i).bi=(af t j).bi
def u4(t:bf)(j:Nat):Prop:=(af t j).kind=34/\∃p i:Nat,hs t j=D p/\(i:Int)∈bd t p/\i<j/\(af t i).kind=34/\(af t i).bi=(af t j).bi
def tJ(t:bf)(j:Nat):Prop:=yf t j\/u4 t j
def aCi(t:bf)(j:Nat):Prop:=(af t j).kind=21/\(af t (eS t j).toNat).n=0/\nO t j (eS t j).toNat
def yg(t:bf)(j:Nat):Prop:=(af t j).kind=45/\∃i:Nat,i<j/\(af t i).kind=45/\eS t i=eS t j
open Classical in
noncomputable def mL(t:bf)(j:Nat):Int:=if sz (af t j).kind=aQ then 0 else if eS t j< 0 then 10 else if aCi t j then 9 else if yg t j then 9 else 0
open Classical in
noncomputable def gv(t:bf)(j:Nat):Int:=if tJ t j then 6 else mL t j
section
variable {n : Nat} {t : bf} {c dd : List Int}
theorem ib(ay:ik t){j:Nat}{i:Int}(ae:j<t.nodes.length)(h:i∈bd t j):∃m:Nat,i=m/\m<j:=by have:=ay.a3 j _ (lS ae) i (by rw[<-c6 ae];exact h);exact⟨i.toNat,aa,aa⟩
theorem pb(ai:c7 t)(ay:ik t){p j a:Nat}(hp:p<t.nodes.length)(h:(af t p).a3[a]? =D (j:Int)):m_ (af t p) a (af t j).kind=ah:=by have au:=(ay.o_ p _ (lS hp)).2.1;have ae:=ay.a3 p _ (lS hp) j (cC h);have h1:=au a j (af t j) h (by grind[eq,lS]);have h2:=MN (af t p) a (af t j).kind;rw[h1,am1 (ai.af hp)]at h2;simp_all
theorem wc(ay:ik t){p:Nat}(hp:p<t.nodes.length):(af t p).a3.Pairwise (· < ·):=by obtain⟨a,h⟩:=GO ay hp;rw[<-c6 hp];exact h.pP
theorem am2(ai:c7 t)(ay:ik t){p i j:Nat}(hp:p<t.nodes.length)(ae:(j:Int)∈bd t p)(ao:(i:Int)∈bd t p)(r6:i<j)(au:(af t j).kind=34):(af t i).kind=34:=by
 rw[c6 hp]at ao ae;obtain⟨a,a9⟩:=fO ae;obtain⟨b,aB⟩:=fO ao;have YE:b<a:=(ye (wc ay hp) aB a9).1 aa;have jO:=(cz.1 a9).1;have h1:=pb ai ay hp a9;have h2:=pb ai ay hp aB;rw[au]at h1;unfold m_ at h1 h2;by_cases a5:(af t p).kind=24
 ·simp_all
 rw[if_neg a5]at h1 h2;by_cases bk:(af t p).kind=41
 ·simp_all
 rw[if_neg bk]at h1 h2;by_cases c0:(af t p).kind=34\/(af t p).kind=33
 ·rw[if_pos c0]at h1;cases h1
 rw[if_neg c0]at h1 h2;by_cases gA:(af t p).kind=40
 ·simp_all
 rw[if_neg gA]at h1 h2;by_cases gT:(af t p).kind=42
 ·rw[if_pos gT]at h1 h2;by_cases ep:(a:Int)=((af t p).a3.length:Int)- 1
  ·rw[if_pos ep]at h1;cases h1
  grind
 ·rw[if_neg gT]at h1;cases h1
theorem am3(ai:c7 t)(ay:ik t){p j:Nat}(hp:p<t.nodes.length)(ae:(j:Int)∈bd t p)(au:1<=(af t j).kind/\(af t j).kind<=26):((1<=(af t p).kind/\(af t p).kind<=26)\/jo (af t p).kind=ah)/\((af t p).kind=42->(bd t p).getLast? =D (j:Int)):=by
 rw[c6 hp]at ae⊢;obtain⟨a,a9⟩:=fO ae;have jO:=(cz.1 a9).1;have h1:=pb ai ay hp a9;have qB:=((ay.o_ p _ (lS hp)).1).kind;unfold qA at qB;unfold jo;simp only[hk,ea,decide_eq_true_eq]at qB⊢;have a_:¬(30<=(af t p).kind/\(af t p).kind<=34):=λh=>by
  by_cases c0:(af t p).kind=34\/(af t p).kind=33
  ·unfold m_ at h1;rw[if_neg aa,if_neg aa,if_pos c0]at h1;unfold k9 at h1;grind
  grind[rF,jB,af]
 refine⟨aa,λb9=>?_⟩;unfold m_ at h1;rw[if_neg aa,if_neg aa,if_neg aa,if_neg aa,if_pos b9]at h1;by_cases ep:(a:Int)=((af t p).a3.length:Int)- 1
 ·grind
 rw[if_neg ep]at h1;by_cases fD:(a:Int)=((af t p).a3.length:Int)- 2
 ·rw[if_pos fD]at h1;unfold k9 at h1;grind
 simp_all
end
section
variable {n : Nat} {t : bf} {c dd : List Int}
variable {j:Nat}
theorem Tv(ay:ik t)(ae:j<t.nodes.length):eS t j=-1\/∃m:Nat,eS t j=m/\m<t.nodes.length/\sz (af t j).kind=ah/\ko (af t j).kind (af t m).kind=ah:=by
 unfold eS;cases au:sz (af t j).kind with
 |false=>simp
 |true=>rw[if_pos rfl];grind[rE,af,To,eq,ko]
theorem am4(ai:c7 t)(ay:ik t)(ae:j<t.nodes.length)(d:Nat):I (LP (aZ n) t (j:Int) (d:Int)) λr=>r=ah↔nO t j d:=by
 unfold LP abb;refine I.b8 (λs:Int=>∃o:Option Nat,s=GM o/\(∀k,o=D k->k<t.nodes.length)/\(nO t j d↔∃k,o=D k/\nO t k d)) (λs=>if s< 0 then 0 else(t.nodes.length-s).toNat) ?_ ⟨D j,rfl,λk h=>by simp_all,⟨λh=>⟨j,rfl,h⟩,λ⟨k,e,h⟩=>by simp_all⟩⟩;rintro _ ⟨o,rfl,a1,bx⟩;cases o with
 |none=>rw[if_neg eu];simp_all[I.inr]
 |some k=>
  have au:=a1 k rfl;show I (if decide (0<=(k:Int))=ah then if decide ((k:Int)=(d:Int))=ah then _ else _ else _) _;rw[if_pos fT];refine I.aC (λe=>I.inr ⟨λ_=>?_,λ_=>rfl⟩) λe=>I.aq (GN ai ay au) (I.inl ⟨⟨hs t k,rfl,λq aE=>(ol ay aE).1,?_⟩,?_⟩)
  ·have:k=d:=Int.ofNat.inj e;subst this;exact bx.2 ⟨k,rfl,.refl k⟩
  ·grind[nO.Tu]
  ·show(if hI t k< 0 then 0 else(t.nodes.length-hI t k).toNat)<if(k:Int)< 0 then 0 else(t.nodes.length-(k:Int)).toNat
   rw[if_neg (show ¬(k:Int)< 0 by omega)];unfold hI;cases bk:hs t k with
   |none=>show(if(-1:Int)< 0 then 0 else _)<_;grind
   |some q=>have:=ol ay bk;show(if(q:Int)< 0 then 0 else(t.nodes.length-(q:Int)).toNat)<_;grind
variable {i:Nat}
theorem am5(ay:ik t)(h:(i:Int)∈t.aX):∃a:Nat,t.aX[a]? =D (i:Int):=fO h
theorem yh(ay:ik t)(ao:i<t.nodes.length)(h:jo (af t i).kind=ah):(i:Int)∈t.aX:=
 (ay.gM i ao).1 ((bE.at (lS ao)).2 h)
open Classical in
theorem am6(ai:c7 t)(ay:ik t)(ae:j<t.nodes.length):C4 t (j:Int) (aZ n) (af t j).kind=D (mL t j):=by
 have hn:=ai.aX;refine I.bN ?_;unfold C4;refine I.aq (acu ae) ?_;unfold mL;cases au:sz (af t j).kind with
 |false=>exact I.ret (by rw[if_pos rfl])
 |true=>
  rw[if_neg (show ¬(ah=aQ) by decide)];refine I.bC cF λ_=>I.aq (Tp ai ay ae) (I.aC (λh=>I.ret (by rw[if_pos h])) λh=>?_);rw[if_neg h];obtain⟨m,hm,ge,_,aV⟩:=(Tv ay ae).resolve_left aa;rw[hm];have Tw:(af t j).kind≠45->¬yg t j:=λh r=>h r.1;refine I.aC (λj_=>?_) λj_=>?_
  ·refine I.aq (cw ge) (I.aC (λbw=>?_) λbw=>?_)
   ·refine I.bind (am4 ai ay ae m) λz bj=>I.bC (λTx=>I.ret ?_) λacD=>I.aC br λ_=>I.ret ?_
    ·rw[if_pos (show aCi t j from⟨j_,cK,cK⟩)]
    simp_all[if_neg,aCi]
   simp_all[I.aC,absurd,I.ret,if_neg,aCi]
  ·have ej:¬aCi t j:=λo=>j_ o.1;rw[if_neg ej];refine I.aC (λoo=>?_) λoo=>I.ret (by rw[if_neg (Tw oo)]);unfold abc;have df:∀i:Nat,(∀(a:Nat) x,a<i->t.aX[a]? =D x->¬(x<(j:Int)/\(af t x.toNat).kind=45/\eS t x.toNat=m))->(∀(a:Nat) x,i<=a->t.aX[a]? =D x->(j:Int)<=x)->¬yg t j:=by
    rintro i h1 h2 ⟨_,b,aB,ic,oJ⟩;obtain⟨a,a9⟩:=am5 ay (yh ay (i:=b) aa (by rw[ic];rfl));by_cases M0:a<i
    ·grind
    grind
   refine I.for t.aX.length (λi (_:Unit)=>(i:Int)) (λi _=>∀(a:Nat) x,a<i->t.aX[a]? =D x->¬(x<(j:Int)/\(af t x.toNat).kind=45/\eS t x.toNat=m)) (t0:=()) rfl (λa x h=>by omega) (λi _ ao bq=>?_) λ_ bq=>?_
   ·refine I.aC (λ_=>I.g7 ao λq aE=>?_) dv;obtain⟨fs,rfl,_,om⟩:=ay.fI.eB q (cC aE);have next:¬((fs:Int)<(j:Int)/\(af t fs).kind=45/\eS t fs=m)->I (D (Ax (aH ((i:Int)+1)):Int ⊕ Int)) (ln (λs'=>∃rc:Unit,s'=((i+1:Nat):Int)/\∀(a:Nat) x,a<i+1->t.aX[a]? =D x->¬(x<(j:Int)/\(af t x.toNat).kind=45/\eS t x.toNat=m)) (· =if yg t j then 9 else 0)):=by
     grind[I.inl,cM]
    refine I.aC (λcf=>I.aL aE (I.aq (cw om) (I.aC (λTy=>I.aL aE (I.aq (Tp ai ay om) (I.aC (λhe=>I.inr ?_) λhe=>next λh=>he h.2.2))) λTy=>next λh=>Ty h.2.1))) λcf=>I.inr ?_
    ·rw[if_pos (show yg t j from⟨oo,fs,aa,Ty,by rw[he,hm]⟩)]
    ·rw[if_neg (df i bq λa x a9 ar=>?_)];by_cases e:a=i
     ·grind
     ·have:=(ye ay.fI.pP aE ar).2 aa;omega
   ·refine I.aC br λ_=>I.inr ?_;rw[if_neg (df _ bq λa x a9 ar=>?_)];grind
theorem am7(ay:ik t)(ae:j<t.nodes.length)(h:(af t j).kind=34):∃p,hs t j=D p:=acv ay ae (by rw[h];rfl)
open Classical in
theorem am8(ai:c7 t)(ay:ik t)(ae:j<t.nodes.length):z8 (aZ n) t (j:Int) (af t j) (af t j).kind=D (if u4 t j then 6 else mL t j):=by
 have h2:=am6 (n:=n) ai ay ae;refine I.bN ?_;unfold z8;refine I.aC (λia=>?_) λia=>I.aY h2 (by rw[if_neg (λh:u4 t j=>ia h.1)]);obtain⟨p,Dw⟩:=am7 ay ae ia;obtain⟨hp,hm,Au⟩:=ol ay Dw;have nN:hI t j=p:=by unfold hI;rw[Dw];rfl
 have h3:=ai.af hp;have am9:=wc ay hp;refine I.aq (GN ai ay ae) ?_;rw[nN];refine I.aq (cw hp) ?_;unfold abd;have df:∀i:Nat,(∀(a:Nat) x,a<i->(af t p).a3[a]? =D x->¬(x<(j:Int)/\(af t x.toNat).kind=34/\(af t x.toNat).bi=(af t j).bi))->(∀(a:Nat) x,i<=a->(af t p).a3[a]? =D x->(j:Int)<=x)->¬u4 t j:=by
  rintro i h1 h2 ⟨_,r',b,Tz,aB,ana,ic,oJ⟩;rw[Dw]at Tz;cases Tz;rw[c6 hp]at aB;obtain⟨a,a9⟩:=fO aB;by_cases M0:a<i
  ·grind
  grind
 refine I.for (af t p).a3.length (λi (_:Unit)=>(i:Int)) (λi _=>∀(a:Nat) x,a<i->(af t p).a3[a]? =D x->¬(x<(j:Int)/\(af t x.toNat).kind=34/\(af t x.toNat).bi=(af t j).bi)) (t0:=()) rfl (λa x h=>by omega) (λi _ ao bq=>?_) λ_ bq=>?_
 ·refine I.aC (λ_=>I.g7 ao λq aE=>?_) dv;have acE:q∈bd t p:=by grind[c6,cC]
  obtain⟨fs,rfl,om⟩:=ib ay hp acE;have om:fs<t.nodes.length:=by omega
  have next:¬((fs:Int)<(j:Int)/\(af t fs).kind=34/\(af t fs).bi=(af t j).bi)->I (D (Ax (aH ((i:Int)+1)):Int ⊕ Int)) (ln (λs'=>∃rc:Unit,s'=((i+1:Nat):Int)/\∀(a:Nat) x,a<i+1->(af t p).a3[a]? =D x->¬(x<(j:Int)/\(af t x.toNat).kind=34/\(af t x.toNat).bi=(af t j).bi)) (· =if u4 t j then 6 else mL t j)):=by grind[I.inl,cM]
  refine I.aC (λcf=>I.aL aE (I.aq (cw om) (I.aC (λau=>I.aL aE (I.aq (cw om) (I.aC (λhe=>I.inr ?_) λhe=>next λh=>he h.2.2))) λau=>next λh=>au h.2.1))) λcf=>I.dk (I.aY h2 ?_)
  ·rw[if_pos (show u4 t j from⟨ia,p,fs,Dw,acE,aa,au,he⟩)]
  ·rw[if_neg (df i bq λa x a9 ar=>?_)];by_cases e:a=i
   ·grind
   ·have:=(ye am9 aE ar).2 aa;omega
 ·refine I.aC br λ_=>I.dk (I.aY h2 ?_);rw[if_neg (df _ bq λa x a9 ar=>?_)];grind
open Classical in
theorem anb(ai:c7 t)(ay:ik t)(ae:j<t.nodes.length):LQ (aZ n) t (j:Int)=D (gv t j):=by
 have h1:=am8 (n:=n) ai ay ae;have hn:=ai.aX;refine I.bN ?_;unfold LQ Sy;refine I.aq (cw ae) ?_;rw[Th aa,cl,cl];have TA:gv t j=if yf t j then 6 else if u4 t j then 6 else mL t j:=by unfold gv tJ;by_cases a:yf t j<;>by_cases b:u4 t j<;>simp[a,b]
 rw[TA];refine I.aC (λao=>?_) λao=>I.aY h1 (by rw[if_neg (λh:yf t j=>ao h.1)]);refine I.aq (Tl ai ay ae) (I.bC (λaz=>?_) λaz=>I.aY h1 (by rw[if_neg (λh:yf t j=>by have:=h.2.1;simp_all)]));unfold abe;have df:∀i:Nat,(∀(a:Nat) x,a<i->t.aX[a]? =D x->¬(x<(j:Int)/\gZ t x.toNat=ah/\(af t x.toNat).bi=(af t j).bi))->(∀(a:Nat) x,i<=a->t.aX[a]? =D x->(j:Int)<=x)->¬yf t j:=by
  rintro i h1 h2 ⟨_,_,b,aB,ana,ic,oJ⟩;obtain⟨a,a9⟩:=fO aB;by_cases M0:a<i
  ·grind
  grind
 refine I.for t.aX.length (λi (_:Unit)=>(i:Int)) (λi _=>∀(a:Nat) x,a<i->t.aX[a]? =D x->¬(x<(j:Int)/\gZ t x.toNat=ah/\(af t x.toNat).bi=(af t j).bi)) (t0:=()) rfl (λa x h=>by omega) (λi _ vk bq=>?_) λ_ bq=>?_
 ·refine I.aC (λ_=>I.g7 vk λq aE=>?_) dv;have v9:=cC aE;obtain⟨fs,rfl,_,om⟩:=ay.fI.eB q v9;have next:¬((fs:Int)<(j:Int)/\gZ t fs=ah/\(af t fs).bi=(af t j).bi)->I (D (Ax (aH ((i:Int)+1)):Int ⊕ Int)) (ln (λs'=>∃rc:Unit,s'=((i+1:Nat):Int)/\∀(a:Nat) x,a<i+1->t.aX[a]? =D x->¬(x<(j:Int)/\gZ t x.toNat=ah/\(af t x.toNat).bi=(af t j).bi)) (· =if yf t j then 6 else if u4 t j then 6 else mL t j)):=by
   grind[I.inl,cM]
  refine I.aC (λcf=>I.aL aE (I.aq (Tl ai ay om) (I.bC (λau=>I.aL aE (I.aq (cw om) (I.aC (λhe=>I.inr ?_) λhe=>next λh=>he h.2.2))) λau=>next λh=>by simp_all))) λcf=>I.dk (I.aY h1 ?_)
  ·rw[if_pos (show yf t j from⟨ao,az,fs,v9,aa,au,he⟩)]
  ·rw[if_neg (df i bq λa x a9 ar=>?_)];by_cases e:a=i
   ·grind
   ·have:=(ye ay.fI.pP aE ar).2 aa;omega
 ·refine I.aC br λ_=>I.dk (I.aY h1 ?_);rw[if_neg (df _ bq λa x a9 ar=>?_)];grind
end
def yi(t:bf)(j:Nat)(dd:List Int):Prop:=dd.length=t.nodes.length/\∀i,i<t.nodes.length->dd[i]? =D (if i<j then eS t i else-1)
section
variable {n : Nat} {t : bf} {c dd : List Int}
variable {j m:Nat}
theorem anc(ay:ik t)(aP:qD t c)(hm:m<t.nodes.length)(ae:j<t.nodes.length):I (Kx (m:Int) (j:Int) t.nodes t.aX t.nodes.length t.nodes.length c dd) λr=>r=ah↔m<j/\(af t m).bi=(af t j).bi/\((af t m).kind=34\/gZ t m=ah):=by unfold Kx;refine I.aq (cw hm) (I.aC (λh1=>I.aq (cw ae) (I.aC (λh2=>I.aC (λaJ=>I.ret ⟨λ_=>⟨aa,h2,.inl aJ⟩,λ_=>rfl⟩) λaJ=>I.aq (Tt ay aP hm) (I.ret ⟨λh=>⟨aa,h2,.inr h⟩,λh=>h.2.2.resolve_left aJ⟩)) λh2=>I.ret ⟨cF,λh=>absurd h.2.1 h2⟩)) λh1=>I.ret ⟨cF,λh=>absurd h.1 aa⟩)
theorem ane(ay:ik t)(aP:qD t c)(ae:j<t.nodes.length){l:List Int}(aK:l.length<=800)(hm:∀x∈l,∃m:Nat,x=m/\m<t.nodes.length):
  I (Ky (aZ n) l (j:Int) t.nodes t.aX t.nodes.length t.nodes.length c dd) λr=>0<=r↔∃m:Nat,(m:Int)∈l/\m<j/\(af t m).bi=(af t j).bi/\((af t m).kind=34\/gZ t m=ah):=by
 unfold Ky Z6;refine I.for l.length (λi (_:Unit)=>(i:Int)) (λi _=>∀(a m:Nat),a<i->l[a]? =D (m:Int)->¬(m<j/\(af t m).bi=(af t j).bi/\((af t m).kind=34\/gZ t m=ah))) (t0:=()) rfl (λa x h=>by omega) (λi _ ao bq=>?_) λ_ bq=>?_
 ·refine I.aC (λ_=>I.g7 ao λq aE=>?_) dv;obtain⟨m,rfl,ge⟩:=hm q (cC aE);refine I.bind (anc ay aP ge ae) λz bj=>I.bC (λh=>I.inr ⟨λ_=>⟨m,cC aE,bj.1 h⟩,λ_=>by omega⟩) λh=>I.inl ⟨(),by rw[cM aa],λa m' a9 ar=>?_⟩;grind[Int.ofNat.inj,Option.some.inj]
 ·refine I.aC br λ_=>I.inr ⟨λh=>by omega,λ⟨m,h1,h2⟩=>?_⟩;grind[fO,absurd,cz]
theorem anf(ai:c7 t)(ay:ik t)(aP:qD t c)(ae:j<t.nodes.length):I (Kz (aZ n) (j:Int) t.nodes t.aX t.nodes.length t.nodes.length c dd) λr=>r.2=(c,dd)/\(r.1=ah↔tJ t j):=by
 have fin:∀l:List Int,l.length<=800->(∀x∈l,∃m:Nat,x=m/\m<t.nodes.length)->((∃m:Nat,(m:Int)∈l/\m<j/\(af t m).bi=(af t j).bi/\((af t m).kind=34\/gZ t m=ah))↔tJ t j)->I (tt (aZ n) (j:Int) t.nodes t.aX t.nodes.length t.nodes.length (l,c,dd)) λr=>r.2=(c,dd)/\(r.1=ah↔tJ t j):=by intro l h1 h2 aJ;unfold tt Rs;refine I.bind (Q:=λz=>z=ah↔tJ t j) (I.bind (ane ay aP ae h1 h2) λz bj=>I.ret ?_) λz bj=>I.ret ⟨rfl,bj⟩;rw[decide_eq_true_eq,bj,aJ]
 unfold Kz;refine I.aq (DD aP ae) ?_;have vh:¬tJ t j->I (tt (aZ n) (j:Int) t.nodes t.aX t.nodes.length t.nodes.length ([],c,dd)) λr=>r.2=(c,dd)/\(r.1=ah↔tJ t j):=λh=>fin [] fT (λx ar=>by cases ar) ⟨λ⟨m,h1,_⟩=>(by cases h1),λh1=>absurd h1 h⟩;cases e:hs t j with
 |some p=>
  obtain⟨hp,hm,Au⟩:=ol ay e;have nN:hI t j=p:=by unfold hI;rw[e];rfl
  have zf:(j:Int) ∉ t.aX:=λh=>by grind[rD]
  have e5:¬hI t j=-1:=by omega
  refine I.eh (λ_=>I.aq (cw ae) (I.aC (λia=>?_) λia=>I.aC (λh=>absurd h e5) λ_=>vh ?_)) λh=>absurd h e5
  ·have ex:aL t.nodes (hI t j)=D (af t p):=by rw[nN];exact cw hp
   refine I.aq ex (fin _ (ai.af hp) (λx ar=>?_) ⟨λ⟨m,h1,h2,aJ,bp⟩=>.inr ⟨ia,p,m,e,by rw[c6 hp];exact h1,h2,am2 ai ay hp hm (by rw[c6 hp];exact h1) h2 ia,aJ⟩,λh=>?_⟩)
   ·grind[ib,c6]
   ·rcases h with h|⟨_,r',i,h1,h2,aJ,bp,cy⟩
    ·exact absurd h.1 zf
    grind[c6]
  ·rintro(h|h)
   ·exact zf h.1
   ·exact ia h.1
 |none=>
  have nN:hI t j=-1:=by unfold hI;rw[e];rfl
  have ao:(j:Int)∈t.aX:=(rD ay ae).1 e;have YF:¬u4 t j:=λh=>by obtain⟨_,p,i,h1,_⟩:=h;simp_all
  refine I.eh (λh=>absurd nN h) λ_=>I.aC (λ_=>I.aq (amX ay aP ae) (I.bC (λaz=>?_) λaz=>vh ?_)) λh=>absurd nN h
  ·refine fin _ ai.aX (λx ar=>?_) ⟨λ⟨m,h1,h2,aJ,bp⟩=>.inl ⟨ao,az,m,h1,h2,?_,aJ⟩,λh=>?_⟩
   ·obtain⟨m,h1,_,h2⟩:=ay.fI.eB x ar;grind
   ·rcases bp with bp|bp
    ·have:=(bE.at (lS (j:=m) aa)).1 ((ay.gM m aa).2 h1);rw[bp]at this;cases this
    ·exact bp
   ·rcases h with⟨_,_,i,h1,h2,aJ,bp⟩|h
    ·grind
    simp_all
  ·rintro(h|h)
   ·have:=h.2.1;simp_all
   grind
theorem ang(ai:c7 t)(ay:ik t)(aP:qD t c) {d:Nat}(ae:j<t.nodes.length)(az:d<t.nodes.length)(j_:(af t j).kind=21)(b9:(af t d).kind=42):I (KH (aZ n) (j:Int) (d:Int) t.nodes t.aX t.nodes.length t.nodes.length c dd) λr=>r=ah↔nO t j d:=by
 unfold KH FY;rw[cl];unfold RC;refine I.bind (Q:=λr=>(∃x b,r=Ax (x,b)/\(b=ah↔nO t j d))\/((∃x,r=MX x)/\¬nO t j d)) (I.aq (DD aP ae) ?_) λz bj=>?_
 ·unfold Z';refine I.b8 (λs':Int×Int×Bool=>∃i:Nat,s'=(hI t i,(i:Int),aQ)/\i<t.nodes.length/\((1<=(af t i).kind/\(af t i).kind<=26)\/jo (af t i).kind=ah)/\(nO t j d↔∃p,hs t i=D p/\nO t p d)) (λs'=>t.nodes.length-s'.2.1.toNat) ?_ ⟨j,rfl,ae,.inl aa,nO.Tu λh=>by simp_all⟩;rintro _ ⟨i,rfl,ao,au,bx⟩;dsimp only;cases e:hs t i with
  |none=>
   have nN:hI t i=-1:=by unfold hI;rw[e];rfl
   simp_all[if_neg,I.inr]
  |some p=>
   obtain⟨hp,hm,amV⟩:=ol ay e;have nN:hI t i=p:=by unfold hI;rw[e];rfl
   have nM:1<=(af t i).kind/\(af t i).kind<=26:=by grind[rD,yh]
   obtain⟨rH,As⟩:=am3 ai ay hp hm nM;rw[nN,if_pos fT];unfold RB;by_cases anh:p=d
   ·subst anh;rw[if_pos fT];have ob:0<(af t p).a3.length:=by grind[c6,acA]
    obtain⟨y,Av,Dz⟩:=Tm ob (by have:=ai.af hp;omega);have bh:y=(i:Int):=by grind[c6,Option.some.inj]
    rw[cw hp,cl,cl,Dz,cl,cl];exact I.inr (.inl ⟨_,_,rfl,⟨λ_=>bx.2 ⟨p,e,.refl p⟩,λ_=>by simp[bh]⟩⟩)
   ·rw[if_neg dt,cl];refine I.aq (DD aP hp) (I.inl ⟨⟨p,rfl,hp,rH,?_⟩,?_⟩)
    ·simp_all[nO.Tu]
    grind
 grind[I.ret,absurd]
theorem ani{N:Nat}(e0:N<=800)(az:dd.length=N)(d:Int):I (CC (aZ n) N d dd) λr=>r=ah↔d∈dd:=by
 unfold CC RD aaa;refine I.bind (Q:=λr=>0<=r↔d∈dd) ?_ λz bj=>I.ret cK;refine I.for N (λi (_:Unit)=>(i:Int)) (λi _=>∀(a:Nat),a<i->dd[a]? ≠D d) (t0:=()) rfl (λa h=>by omega) (λi _ ao bq=>?_) λ_ bq=>?_
 ·refine I.aC (λ_=>?_) dv;have ar:dd[i]? =D (dd[i]'aa):=List.getElem?_eq_getElem _;refine I.aq (k7 ar ao) (I.aC (λe=>I.inr ⟨λ_=>?_,λ_=>by omega⟩) λe=>I.inl ⟨(),by rw[cM aa],λa a9=>?_⟩)
  ·simp_all
  grind
 ·refine I.aC br λ_=>I.inr ⟨λh=>by omega,λh=>?_⟩;grind[fO,absurd,cz]
theorem yi.eB(h:yi t j dd)(ae:j<=t.nodes.length):(m:Int)∈dd↔∃i,i<j/\eS t i=m:=by
 constructor
 ·intro hm;obtain⟨i,ao⟩:=fO hm;have aK:=(cz.1 ao).1;rw[h.2 i (by rw[<-h.1];exact aK)]at ao;grind
 ·rintro⟨i,h1,h2⟩;have:=h.2 i aa;grind
open Classical in
theorem anj(ai:c7 t)(ay:ik t)(aP:qD t c)(ae:j<t.nodes.length)(cc:∀i,i<j->¬tJ t i)(lm:yi t j dd):
  I (KI (aZ n) (j:Int) t.nodes t.aX t.nodes.length t.nodes.length c dd) λr=>∃pL,r=(gv t j,c,pL)/\(gv t j=0->yi t (j+1) pL):=by
 have a_:=ai.nodes;have GP:∀a b:Nat,a<j->b<j->(a:Int)∈t.aX->(b:Int)∈t.aX->gZ t a=ah->gZ t b=ah->(af t a).bi=(af t b).bi->a=b:=by
  intro a b h1 h2 aJ bp cy cY gX;rcases Nat.lt_trichotomy a b with h|h|h
  ·exact absurd (.inl ⟨bp,cY,a,aJ,h,cy,gX⟩) (cc b h2)
  ·exact h
  ·exact absurd (.inl ⟨aJ,cy,b,bp,h,cY,gX.symm⟩) (cc a h1)
 unfold KI;refine I.aq (cw ae) (I.bind (anf ai ay aP ae) λz bj=>?_);obtain⟨b,c',pL⟩:=z;obtain⟨h1,h2⟩:=bj;cases h1;dsimp only at h2⊢;refine I.bC (λaB=>I.ret ?_) λaB=>?_
 ·simp_all[gv,if_pos]
 have ank:¬tJ t j:=λh=>by simp_all
 have TA:gv t j=mL t j:=by unfold gv;rw[if_neg ank]
 rw[TA];refine I.aq (amC _) ?_;have next:∀m:Int,eS t j=m->yi t (j+1) (dd.set j m):=by
  rintro _ rfl;refine⟨by simpa using lm.1,λi ao=>?_⟩;rw[rT];split
  ·next e=>subst e;rw[if_pos (by rw[lm.1];exact ao),if_pos aa]
  ·next e=>
   rw[lm.2 i ao];grind
 cases au:sz (af t j).kind with
 |false=>
  have de:mL t j=0:=by unfold mL;rw[if_pos au]
  have em:eS t j=-1:=by unfold eS;grind
  refine I.ret ⟨dd,by rw[de],λ_=>?_⟩;have aJ:=next (-1) em
  have bp:dd.set j (-1)=dd:=by
   apply mr;intro i;rw[rT];split
   ·next e=>
    subst e;rw[if_pos (by rw[lm.1];exact ae),lm.2 j ae,if_neg aa]
   ·rfl
  rwa[bp]at aJ
 |true=>
  refine I.aq (amZ ai ay aP ae au GP) (I.aC (λh=>I.ret ?_) λh=>?_)
  ·simp_all[mL,if_neg,if_pos]
  obtain⟨m,hm,ge,_,aV⟩:=(Tv ay ae).resolve_left h;have a5:mL t j=if aCi t j then 9 else if yg t j then 9 else 0:=by unfold mL;rw[if_neg dt,if_neg aa]
  rw[hm];have Tw:(af t j).kind≠45->¬yg t j:=λh r=>h r.1;have fin:mL t j=0->I (vT t.nodes.length (j:Int) (m:Int) (c,dd)) λr=>∃pL,r=(mL t j,c,pL)/\(mL t j=0->yi t (j+1) pL):=by intro de;unfold vT;refine I.aq (k7 (lm.2 j ae) ae) (I.ret ⟨_,by rw[de],λ_=>next _ hm⟩)
  have nine:mL t j=9->I (D ((9:Int),c,dd)) λr=>∃pL,r=(mL t j,c,pL)/\(mL t j=0->yi t (j+1) pL):=λpZ=>I.ret ⟨dd,by rw[pZ],λh=>by omega⟩;refine I.aC (λj_=>?_) λj_=>?_
  ·have anl:(af t m).kind=42:=by
    simp_all[ko]
   have anm:(af t j).kind≠45:=by omega
   refine I.aq (cw ge) (I.aC (λbw=>?_) λbw=>?_)
   ·refine I.bind (ang ai ay aP ae ge j_ anl) λz bj=>I.bC (λTx=>nine ?_) λacD=>I.aC (λh=>absurd h anm) λ_=>fin ?_
    ·rw[a5,if_pos (show aCi t j from⟨j_,cK,cK⟩)]
    simp_all[if_neg,aCi]
   simp_all[I.aC,absurd,if_neg,aCi]
  ·have ej:¬aCi t j:=λo=>j_ o.1;rw[if_neg ej]at a5;refine I.aC (λoo=>?_) λoo=>fin (by rw[a5,if_neg (Tw oo)]);have aCk:(af t m).kind=44:=by
    simp_all[ko]
   refine I.bind (ani a_ lm.1 m) λz bj=>I.bC (λTx=>nine ?_) λacD=>fin ?_
   ·obtain⟨i,s_,wJ⟩:=(lm.eB aa).1 (bj.1 Tx);obtain⟨m',td,_,yM,BT⟩:=(Tv ay (j:=i) aa).resolve_left aa;have:m'=m:=by omega
    subst this;have ann:(af t i).kind=45:=by simp_all[ko,sz,hk,decide_eq_true_eq]
    rw[a5,if_pos (show yg t j from⟨oo,i,s_,ann,by rw[wJ,hm]⟩)]
   ·rw[a5,if_neg];rintro⟨_,i,s_,wJ,ano⟩;have:=bj.2 ((lm.eB aa).2 ⟨i,s_,by rw[ano,hm]⟩);simp_all
end
def GQ(t:bf)(r:l5×Int×Int):Prop:=
 (∃j:Nat,j<t.nodes.length/\gv t j≠0/\(∀i,i<j->gv t i=0)/\r=(⟨[]⟩,(j:Int),gv t j))\/((∀i,i<t.nodes.length->gv t i=0)/\r=(⟨(mn t.nodes.length).map (eS t)⟩,0,0))
section
variable {n : Nat} {t : bf} {c dd : List Int}
theorem GQ.yj{r gJ:l5×Int×Int}(h:GQ t r)(dp:GQ t gJ):r=gJ:=by
 rcases h with⟨j,h1,h2,aJ,rfl⟩|⟨h1,rfl⟩
 ·rcases dp with⟨e8,Dr,GH,TB,rfl⟩|⟨Dr,rfl⟩
  ·grind
  simp_all
 ·rcases dp with⟨e8,Dr,GH,TB,rfl⟩|⟨Dr,rfl⟩
  ·simp_all
  ·rfl
theorem TC{i:Nat}(h:gv t i=0):¬tJ t i:=λh2=>by simp_all[gv,if_pos]
theorem anp(ai:c7 t)(ay:ik t):I (SE t (aZ n) (0,[])) (GQ t):=by
 have a_:=ai.nodes;unfold SE;refine I.for t.nodes.length (λi (o:List Int)=>((i:Int),o)) (λi o=>o=(mn i).map (eS t)/\∀k,k<i->gv t k=0) (t0:=[]) rfl ⟨rfl,λk h=>by omega⟩ (λi o ao bq=>?_) λo bq=>?_
 ·obtain⟨rfl,bq⟩:=bq;refine I.aC (λ_=>I.aq (anb ai ay ao) (I.eh (λhe=>I.inr (.inl ⟨i,ao,he,bq,rfl⟩)) λhe=>I.aq (Tp ai ay ao) (I.aq (jj dt) (I.inl ⟨_,by rw[cM aa],?_,λk au=>?_⟩)))) dv
  ·rw[List.range_succ,List.map_append];rfl
  grind
 ·obtain⟨rfl,bq⟩:=bq;exact I.aC br λ_=>I.inr (.inr ⟨bq,rfl⟩)
theorem anq(ai:c7 t)(ay:ik t)(aP:qD t c):I (RE (0,t.nodes,t.aX,t.nodes.length,t.nodes.length,c,dm t.nodes.length (-1)) (aZ n) (0,c,dm t.nodes.length (-1))) λr=>(∃j:Nat,j<t.nodes.length/\gv t j≠0/\(∀i,i<j->gv t i=0)/\r=.inl ((j:Int),gv t j))\/((∀i,i<t.nodes.length->gv t i=0)/\r=.inr (0,0,t.nodes,t.aX,t.nodes.length,t.nodes.length,c,(mn t.nodes.length).map (eS t))):=by
 have a_:=ai.nodes;unfold RE;refine I.for t.nodes.length (λi (o:List Int)=>((i:Int),c,o)) (λi o=>yi t i o/\∀k,k<i->gv t k=0) (t0:=dm t.nodes.length (-1)) rfl ⟨⟨by simp,λi ao=>?_⟩,λk h=>by omega⟩ (λi o ao bq=>?_) λo bq=>?_
 ·rw[List.getElem?_replicate,if_pos ao,if_neg aa]
 ·obtain⟨lm,bq⟩:=bq;refine I.aC (λ_=>I.bind (anj ai ay aP ao (λk au=>TC (bq k au)) lm) λz bj=>?_) λh=>absurd cK h;obtain⟨pL,rfl,anr⟩:=bj;refine I.eh (λhe=>I.inr (.inl ⟨i,ao,he,bq,rfl⟩)) λhe=>I.inl ⟨pL,by rw[cM aa],anr he,λk au=>?_⟩;grind
 ·obtain⟨lm,bq⟩:=bq;refine I.aC (λh=>absurd h fT) λ_=>I.inr (.inr ⟨bq,?_⟩);have:o=(mn t.nodes.length).map (eS t):=by
   apply mr;intro i;by_cases ao:i<t.nodes.length
   ·rw[lm.2 i ao,if_pos ao,List.getElem?_map,List.getElem?_range ao];rfl
   ·rw[n1 (by rw[lm.1];omega),n1 dt]
  rw[this]
theorem ans(ai:c7 t)(GJ:1000<=n):∃r,xR (aZ n) t=D r/\uV (aZ n) t=D r/\((∃e,C1 (aZ n) t=D e/\e≠0/\r=(⟨[]⟩,0,e))\/(hA t/\C1 (aZ n) t=D 0/\GQ t r)):=by
 obtain⟨e,h1,h2,aJ⟩:=amr (n:=n) ai GJ;by_cases he:e=0
 ·subst he;have aO:=aJ.1 rfl;have ay:=aO.cZ;obtain⟨r,aM,bv⟩:=anp (n:=n) ai ay;refine⟨r,?_,?_,.inr ⟨aO,h2,bv⟩⟩
  ·obtain⟨_,a9,c,aP,rfl⟩:=amy (n:=n) ai ay;have e0:=ai.nodes;have aCl:FX (aZ n) t=D (.inr (0,t.nodes,t.aX,t.nodes.length,t.nodes.length,c,dm t.nodes.length (-1))):=by
    simp_all[FX,cl,if_neg,amx]
   obtain⟨z,bj,cL⟩:=anq (n:=n) ai ay aP;have ant:F0 (aZ n) t=D z:=by simp_all[F0,cl]
   unfold xR;rw[ant,cl];rcases cL with⟨j,ag,ak,ap,rfl⟩|⟨ag,rfl⟩
   ·have:r=(⟨[]⟩,(j:Int),gv t j):=bv.yj (.inl ⟨j,ag,ak,ap,rfl⟩);rw[this];show(if(!decide (gv t j=0))=ah then _ else _)=_;rw[if_pos cK]
   ·have:r=(⟨(mn t.nodes.length).map (eS t)⟩,0,0):=bv.yj (.inr ⟨ag,rfl⟩);grind[gH,mn,eS,bind,Tb]
  simp_all[uV,cl,if_neg]
 simp_all[xR,F0,FX,cl,if_pos,Sum.elim_inl,uV]
end
inductive eK|int|bool|hb (s:ByteArray)|gl (bn:eK) (k:Nat)
def e2:ByteArray:=⟨#[105,110,116]⟩
def eO:ByteArray:=⟨#[98,111,111,108]⟩
def g0(k:Nat):ByteArray:=⟨#[UInt8.ofNat (48+k)]⟩
def hU(s:ByteArray)(k:Nat):ByteArray:=(((⟨#[91]⟩++s)++⟨#[59,32]⟩)++g0 k)++⟨#[93]⟩
def eK.bR:eK->ByteArray| .int=>e2| .bool=>eO| .hb s=>s| .gl bn k=>hU bn.bR k
def eK.ok:eK->Prop| .int=>True| .bool=>True| .hb s=>fF s| .gl bn k=>bn.ok/\1<=k/\k<=6
def eK.qE:eK->ByteArray×Int×Bool| .gl bn k=>(bn.bR,k,ah)|_=>(⟨#[]⟩,0,aQ)
variable {a b:ByteArray}
theorem sB(h:a.size+b.size<=1099511627776):nr a b=D (a++b):=by unfold nr;rw[if_pos h]
theorem tK(s:ByteArray)(k:Nat):(hU s k).size=s.size+5:=by unfold hU;simp only[lT];show 1+s.size+2+1+1=_;omega
theorem TD{a b:Nat}(a9:1<=a/\a<=6)(aB:1<=b/\b<=6)(h:g0 a=g0 b):a=b:=by
 have h1:UInt8.ofNat (48+a)=UInt8.ofNat (48+b):=by simp_all[congrArg,g0]
 have h2:=congrArg UInt8.toNat h1;grind[UInt8.toNat_ofNat']
variable {s:ByteArray}
theorem GR {s':ByteArray}{k cA:Nat}(h:hU s k=hU s' cA):s=s'/\g0 k=g0 cA:=by
 have aV:s.size=s'.size:=by have:=congrArg acz h;grind[tK]
 grind[hU,amN,amO,lT,amM]
theorem M1(s:ByteArray)(k:Nat):hU s k=⟨#[91]⟩++(s++(⟨#[59,32]⟩++(g0 k++⟨#[93]⟩))):=by unfold hU;rw[yd,yd,yd]
theorem anu(s:ByteArray)(k:Nat):(hU s k).extract 1 (1+s.size)=s:=by rw[M1,show(1:Nat)=1+0 from rfl,MW (by rfl),Aw aa]
theorem anv{i:Nat}(h:i<a.size):(a++b)[i]? =a[i]? :=by rw[getElem?_pos a i h,getElem?_pos (a++b) i dt,amK h]
theorem p0(s:ByteArray)(k:Nat):(hU s k)[0]? =D 91:=by rw[M1,anv eu];rfl
theorem fF.pos(h:fF s):0<s.size:=by have:=h.1;grind[nJ]
theorem fF.bw(h:fF s):s[0]? ≠D 91:=λe=>by have:=h.1;unfold nJ at this;rw[e]at this;revert this;decide
theorem fF.M2:¬fF e2:=λh=>h.2.2.1 (cC (i:=12) rfl)
theorem fF.M3:¬fF eO:=λh=>h.2.2.1 (cC (i:=3) rfl)
theorem eK.pos{bn:eK}(h:bn.ok):0<bn.bR.size:=by
 cases bn with
 |int=>decide
 |bool=>decide
 |hb s=>exact fF.pos h
 |gl bn k=>show 0<(hU _ _).size;rw[tK];omega
theorem eK.bw{bn:eK}(h:bn.ok):bn.bR[0]? =D 91↔∃bX k,bn=.gl bX k:=by
 cases bn with
 |int=>exact⟨u1,λ⟨_,_,h⟩=>by cases h⟩
 |bool=>exact⟨u1,λ⟨_,_,h⟩=>by cases h⟩
 |hb s=>exact⟨λe=>absurd e (fF.bw h),λ⟨_,_,h⟩=>by cases h⟩
 |gl bn k=>exact⟨λ_=>⟨_,_,rfl⟩,λ_=>p0 _ _⟩
section
variable {n : Nat}
variable {k:Nat}
theorem we(h:1<=k/\k<=6):k=1\/k=2\/k=3\/k=4\/k=5\/k=6:=by omega
theorem anw(a_:1<=n)(h:1<=k/\k<=6):SH (aZ n) (k:Int)=D (g0 k):=by
 obtain⟨m,rfl⟩:∃m,n=m+1:=⟨n- 1,aa⟩
 rcases we h with rfl|rfl|rfl|rfl|rfl|rfl<;>rfl
theorem acF(h:1<=k/\k<=6):KS (aZ n) (k:Int)=D (g0 k):=by rcases we h with rfl|rfl|rfl|rfl|rfl|rfl<;>rfl
variable {s:ByteArray}
theorem GS(a_:1<=n)(aV:s.size<=1000000)(h:1<=k/\k<=6):C7 (aZ n) s (k:Int)=D (hU s k):=by
 have a5:∀a:ByteArray,(⟨#[91]⟩++a:ByteArray).size=1+a.size:=λa=>by rw[lT];rfl
 have bk:∀a:ByteArray,(a++⟨#[59,32]⟩:ByteArray).size=a.size+2:=λa=>by rw[lT];rfl
 have c0:∀a:ByteArray,(a++g0 k:ByteArray).size=a.size+1:=λa=>by rw[lT];rfl
 unfold C7;rw[sB dt,cl,sB dt,cl,anw a_ h,cl,sB dt,cl,sB (by rw[c0,bk,a5];show 1+s.size+2+1+1<=_;omega)];rfl
theorem acG(aV:s.size<=1000000)(h:1<=k/\k<=6):CL (aZ n) s (k:Int)=D (hU s k):=by
 have a5:∀a:ByteArray,(⟨#[91]⟩++a:ByteArray).size=1+a.size:=λa=>by rw[lT];rfl
 have bk:∀a:ByteArray,(a++⟨#[59,32]⟩:ByteArray).size=a.size+2:=λa=>by rw[lT];rfl
 have c0:∀a:ByteArray,(a++g0 k:ByteArray).size=a.size+1:=λa=>by rw[lT];rfl
 unfold CL;rw[sB dt,cl,sB dt,cl,acF h,cl,sB dt,cl,sB (by rw[c0,bk,a5];show 1+s.size+2+1+1<=_;omega)];rfl
theorem anx{b:UInt8}(h:s[0]? =D b):gB s 0=D (b.toNat:Int):=ry (k:=0) h
theorem anz{bn:eK}(h:bn.ok)(aV:bn.bR.size< 1000000){r:ByteArray->Option (ByteArray×Int×Bool)}(aM:r bn.bR=D bn.qE):L0 (aZ n) r bn.bR=D ah:=by
 have hp:=eK.pos h;obtain⟨b,aB⟩:∃b,bn.bR[0]? =D b:=⟨_,getElem?_pos _ 0 hp⟩
 refine I.bN ?_;unfold L0;refine I.aC (λ_=>I.aq (anx aB) (I.aC (λanA=>?_) λanA=>?_)) dv
 ·have:b=91:=by
   have h2:b.toNat=(91:UInt8).toNat:=by grind
   exact UInt8.toNat_inj.1 h2
  subst this;obtain⟨bX,k,rfl⟩:=(eK.bw h).1 aB;exact I.aq aM (I.ret rfl)
 ·refine I.bC (λ_=>I.ret rfl) λh2=>?_;have h2:(decide (bn.bR=e2)||decide (bn.bR=eO))=aQ:=h2;cases bn with
  |int=>cases h2
  |bool=>cases h2
  |gl bn k=>rw[show(eK.gl bn k).bR=hU bn.bR k from rfl,p0]at aB;cases aB;simp_all
  |hb s=>obtain⟨gi,_,aJ,bp⟩:=MM (n:=n) (s:=s) aV;have lG:gi=ah:=bp.2 h;subst lG;unfold LZ SI;exact I.aq (z:=ah) (by show aw (aw (z2 (aZ n) s) _) _=_;grind) (I.ret rfl)
theorem anB(a_:1<=n):∀(f:Nat)(bn:eK),bn.bR.size<f->bn.ok->bn.bR.size< 1000000->Ab (aZ n) f bn.bR=D bn.qE:=by
 intro f;induction f with
 |zero=>omega
 |succ f bB=>
  intro bn a8 au aV;refine I.bN ?_;show I (L1 (aZ n) (Ab (aZ n) f) bn.bR) _;unfold L1 abl;have place:∀i:Nat,0<i->i<=bn.bR.size->(∀k,1<=k->k<=6->hU ((bn.bR.extract 0 i).extract 1 i) k≠bn.bR)->I (C9 bn.bR (i:Int) (aZ n) (Ab (aZ n) f) 1) λr=>r=.inl ((i+1:Nat):Int):=by
   intro i bw ao df;unfold C9;refine I.for 6 (λa (_:Unit)=>((a+1:Nat):Int)) (λ_ _=>True) (t0:=()) rfl trivial (λa _ a9 _=>?_) λ_ _=>?_
   ·have bj:(bn.bR.extract 0 i).size=i:=by simp_all
    refine I.aC (λ_=>I.aq (k6 (i:=0) aa ao) (I.aC (λ_=>?_) dv)) dv;rw[bj];have a5:hg (bn.bR.extract 0 i) 1 (i:Int)=D ((bn.bR.extract 0 i).extract 1 i):=k6 (i:=1) aa aa;refine I.aq a5 (I.aq (GS a_ (by rw[DA];omega) ⟨aa,aa⟩) (I.aC (λh=>absurd h (df _ aa aa)) λ_=>I.inl ⟨(),?_,trivial⟩));rw[cM aa]
   ·refine I.aC br λ_=>I.dk (I.ret ?_);rw[cM aa]
  have zero:I (C9 bn.bR 0 (aZ n) (Ab (aZ n) f) 1) λr=>r=.inl 1:=by
   unfold C9;refine I.for 6 (λa (_:Unit)=>((a+1:Nat):Int)) (λ_ _=>True) (t0:=()) rfl trivial (λa _ a9 _=>?_) λ_ _=>?_
   ·refine I.aC (λ_=>I.aq (k6 (i:=0) (j:=0) aa aa) (I.aC u1 λ_=>I.inl ⟨(),by rw[cM aa],trivial⟩)) dv
   ·exact I.aC br λ_=>I.dk (I.ret rfl)
  by_cases aK:∃bX k,bn=.gl bX k
  ·obtain⟨bX,k,rfl⟩:=aK;have ff:(eK.gl bX k).bR.size=bX.bR.size+5:=tK _ _;refine I.for (bX.bR.size+1) (λi (_:Unit)=>(i:Int)) (λ_ _=>True) (t0:=()) rfl trivial (λi _ ao _=>?_) λ_ _=>?_
   ·refine I.aC (λ_=>?_) dv;by_cases bw:i=0
    ·subst bw;refine I.mono zero λz bj=>?_;rw[bj];exact⟨(),rfl,trivial⟩
    ·refine I.mono (place i aa aa λcA _ _ e=>?_) λz bj=>?_
     ·have:=congrArg acz e;grind[tK,DA]
     ·rw[bj];exact⟨(),rfl,trivial⟩
   ·refine I.aC (λ_=>?_) dv;have DE:1<=k/\k<=6:=au.2;have fJ:((eK.gl bX k).bR.extract 0 (bX.bR.size+1)).extract 1 (bX.bR.size+1)=bX.bR:=by
     rw[amL,show min (0+(bX.bR.size+1)) (bX.bR.size+1)=1+bX.bR.size by omega];exact anu _ _
    have bj:((eK.gl bX k).bR.extract 0 (bX.bR.size+1)).size=bX.bR.size+1:=by simp_all
    have a5:hg ((eK.gl bX k).bR.extract 0 (bX.bR.size+1)) 1 (((bX.bR.size+1:Nat)):Int)=D bX.bR:=by rw[show(1:Int)=((1:Nat):Int)from rfl,k6 aa aa,fJ]
    unfold C9;refine I.for (k- 1) (λa (_:Unit)=>((a+1:Nat):Int)) (λ_ _=>True) (t0:=()) rfl trivial (λa _ a9 _=>?_) λ_ _=>?_
    ·refine I.aC (λ_=>I.aq (k6 (i:=0) aa aa) (I.aC (λ_=>?_) dv)) dv;rw[bj];refine I.aq a5 (I.aq (GS a_ aa ⟨aa,aa⟩) (I.aC (λh=>?_) λ_=>I.inl ⟨(),?_,trivial⟩))
     ·have:=TD ⟨aa,aa⟩ DE (GR h).2;omega
     ·rw[cM aa]
    ·rw[show k- 1+1=k by omega];refine I.aC (λ_=>I.aq (k6 (i:=0) aa aa) (I.aC (λ_=>?_) dv)) dv;rw[bj];refine I.aq a5 (I.aq (GS a_ aa DE) (I.aC (λ_=>?_) λh=>absurd rfl h));refine I.aq a5 (I.aq (anz au.1 aa (bB bX aa au.1 aa)) ?_);exact I.aq a5 (I.dk (I.dk (I.ret rfl)))
  ·have df:∀o k,hU o k≠bn.bR:=λo k e=>aK ((eK.bw au).1 (by rw[<-e];exact p0 _ _));refine I.for bn.bR.size (λi (_:Unit)=>(i:Int)) (λ_ _=>True) (t0:=()) rfl trivial (λi _ ao _=>?_) λ_ _=>?_
   ·refine I.aC (λ_=>?_) dv;by_cases bw:i=0
    ·subst bw;refine I.mono zero λz bj=>?_;rw[bj];exact⟨(),rfl,trivial⟩
    ·refine I.mono (place i aa aa λcA _ _ e=>df _ _ e) λz bj=>?_;rw[bj];exact⟨(),rfl,trivial⟩
   ·refine I.aC br λ_=>I.dk (I.ret ?_);cases bn with
    |gl bX k=>simp_all
    |_=>rfl
end
end Go.Proofs.YtgfggdcbhjhegaaGreatDoor

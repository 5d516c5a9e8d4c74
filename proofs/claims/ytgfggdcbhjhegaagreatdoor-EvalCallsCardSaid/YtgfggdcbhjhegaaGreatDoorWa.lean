/- Names: the program's test and the reference's say the same of every text. -/
import Derived.Test.YtgfggdcbhjhegaaGreatDoorUD
import Derived.Test.YtgfggdcbhjhegaaGreatDoorF
set_option linter.all false
set_option maxRecDepth 100000
namespace Go.Proofs.YtgfggdcbhjhegaaGreatDoor
open Go Go.Mi Go.RowKit Go.Dp
open Bool renaming true->ah,and_eq_true->ea,not_eq_false'->qy,false->aQ,or_eq_false_iff->iM,not_eq_true'->mZ,and_eq_false_iff->abW,or_eq_true->hk
open Classical renaming byContradiction->MI
open Int renaming eq_ofNat_of_zero_le->tB,toNat_natCast->eq
open Int.ofNat renaming inj->ew
open List renaming mem_of_getElem?->cC,getElem?_eq_some_iff->cz,getElem?_of_mem->fO,drop_of_length_le->Do,getElem?_eq_getElem->cq,take_of_length_le->fz,drop_eq_getElem_cons->MJ,take_append_drop->S2,all_eq_true->kj,getElem?_append_right->ud,mem_cons->n4,mem_singleton->Ak,length_drop->qW,mem_append->ig,take_succ->abX
open Nat renaming le_refl->b5,zero_le->gx
open Option renaming bind_some->cl,some->D,bind->aw
theorem aa{p:Prop}(h:p:=by omega):p:=h
theorem fT{p:Prop}(h:p:=by simp):p:=h
theorem eu{p:Prop}(h:p:=by decide):p:=h
variable {p q:Prop}
theorem br(h:¬p:=by omega):p->q:=λa=>absurd a h
theorem dv {q:Prop}(h:p:=by omega):¬p->q:=λa=>absurd h a
theorem cF(h:p->q:=by(intro h;cases h)):p->q:=h
theorem cK{p:Prop}(h:p:=by simp_all):p:=h
theorem dt{p:Prop}(h:p:=by grind):p:=h
theorem u1(h:¬p:=by decide):p->q:=λa=>absurd a h
def nJ(p:Int->Bool)(s:ByteArray)(k:Nat):Bool:=match s[k]? with|some b=>p (b.toNat:Int)|none=>aQ
variable {b:UInt8}{k:Nat}{s:ByteArray}
theorem ss{p:Int->Bool}(h:s[k]? =D b):nJ p s k=p (b.toNat:Int):=by unfold nJ;rw[h]
theorem MK{R:Type}{body:Int->Option (Int ⊕ R)}(p:Int->Bool){T:R->Prop}{k0:Nat}(bw:k0<=s.size)
  (xo:∀(k:Nat)(b:UInt8),k<s.size->s[k]? =D b->p (b.toNat:Int)=ah->body k=D (.inl ((k+1:Nat):Int)))
  (alJ:∀k:Nat,k0<=k->k<=s.size->(∀j,k0<=j->j<k->nJ p s j=ah)->(k<s.size->nJ p s k=aQ)->I (body k) (ln (λ_=>False) T)):I (eP body (k0:Int)) T:=by
 refine I.b8 (λs':Int=>∃k:Nat,s'=k/\k0<=k/\k<=s.size/\∀j,k0<=j->j<k->nJ p s j=ah) (λs'=>s.size-s'.toNat) ?_ ⟨k0,rfl,b5 _,bw,λj a b=>by omega⟩;rintro _ ⟨k,rfl,h1,h2,aJ⟩;by_cases au:k<s.size
 ·have e:s[k]? =D s[k]:=getElem?_pos s k au;cases hp:p ((s[k]).toNat:Int)with
  |true=>rw[xo k _ au e hp];refine I.inl ⟨⟨k+1,rfl,aa,aa,λj a b=>?_⟩,aa⟩;grind[ss]
  |false=>
   obtain⟨r,a5,bk⟩:=alJ k h1 h2 aJ λ_=>by rw[ss e,hp]
   refine⟨r,a5,?_⟩;cases r with
   |inl _=>exact bk.elim
   |inr r=>exact bk
 grind
theorem ry(h:s[k]? =D b):gB s (k:Int)=D (b.toNat:Int):=by simp_all[gB,if_pos]
theorem k6{i j:Nat}(h:i<=j)(h2:j<=s.size):hg s (i:Int) (j:Int)=D (s.extract i j):=by unfold hg;rw[if_pos aa,Wy];simp
def ya(b:Int):Bool:=decide (97<=b)&&decide (b<=122)
def v8(b:Int):Bool:=decide (48<=b)&&decide (b<=57)
def su(b:Int):Bool:=ya b||v8 b
def fF(s:ByteArray):Prop:=nJ ya s 0=ah/\(∀j,j<s.size->nJ su s j=ah)/\s ∉ vP/\s.size<=12
theorem abY(b:Int):J2 b=D (ya b):=rfl
theorem ML(b:Int):FJ b=D (v8 b):=rfl
theorem abZ(b:Int):J3 b=D (su b):=by unfold J3;rw[abY,ML,cl,cl];unfold su;cases ya b<;>rfl
theorem S3(b:Int):LH b=D (ya b):=rfl
theorem GD(b:Int):Gh b=D (v8 b):=rfl
section
variable {n : Nat} {s : ByteArray}
theorem alK(aV:s.size< 1000000):I (J4 (aZ n) s) λr=>∃k:Nat,r=k/\k<=s.size/\(∀j,j<k->nJ su s j=ah)/\(k<s.size->nJ su s k=aQ):=by
 unfold J4 Y6;refine MK (s:=s) su (k0:=0) (gx _) (λk b au aB hp=>?_) λk _ au h1 h2=>?_
 ·rw[if_pos cK,ry aB,cl,abZ,hp,cl,if_pos rfl,cM aa]
 ·by_cases h:k<s.size
  ·have e:s[k]? =D s[k]:=getElem?_pos s k h;rw[if_pos dt,ry e,cl,abZ,cl,<-ss (p:=su) e,h2 h,if_neg fT];grind[I.inr]
  ·rw[if_neg dt];grind[I.inr]
theorem alL(aV:s.size< 1000000):I (J6 (aZ n) s) λr=>∃k:Nat,r=k/\(0<s.size->nJ v8 s 0=ah->0<k)/\k<=s.size:=by
 unfold J6 Zb;refine MK (s:=s) v8 (k0:=0) (gx _) (λk b au aB hp=>?_) λk _ au h1 h2=>?_
 ·rw[if_pos cK,ry aB,cl,ML,hp,cl,if_pos rfl,cM aa]
 ·have ob:0<s.size->nJ v8 s 0=ah->0<k:=λa b=>by
   grind
  by_cases h:k<s.size
  ·have e:s[k]? =D s[k]:=getElem?_pos s k h;rw[if_pos dt,ry e,cl,ML,cl,<-ss (p:=v8) e,h2 h,if_neg fT];grind[I.inr]
  ·rw[if_neg dt];grind[I.inr]
variable {l:List ByteArray}
theorem alM(aK:l.length< 1000000):I (FK (aZ n) l s) λr=>r=ah↔s∈l:=by
 unfold FK;refine I.bind (Q:=λz=>0<=z↔s∈l) ?_ λz bj=>I.ret cK;unfold QU Za;refine I.for l.length (λk (_:Unit)=>(k:Int)) (λk _=>∀j,j<k->l[j]? ≠D s) (t0:=()) rfl (λj ae=>by omega) (λk _ au bq=>?_) λ_ bq=>?_
 ·refine I.aC (λ_=>?_) dv;refine I.g7 au λx ar=>?_;refine I.aC (λe=>I.inr ⟨λ_=>?_,λ_=>by omega⟩) λe=>I.inl ⟨(),by grind[cM],λj ae=>?_⟩
  ·grind
  grind
 ·refine I.aC br λ_=>I.inr ⟨λh=>by omega,λh=>?_⟩;grind[fO,absurd,cz]
theorem alN(aK:l.length< 1000000):I (LI (aZ n) l s) λr=>r=ah↔s∈l:=by
 unfold LI aa0;refine I.for l.length (λk (_:Unit)=>(k:Int)) (λk _=>∀j,j<k->l[j]? ≠D s) (t0:=()) rfl (λj ae=>by omega) (λk _ au bq=>?_) λ_ bq=>?_
 ·refine I.aC (λ_=>?_) dv;refine I.g7 au λx ar=>?_;refine I.aC (λe=>I.inr ⟨λ_=>?_,λ_=>rfl⟩) λe=>I.inl ⟨(),by grind[cM],λj ae=>?_⟩
  ·grind
  grind
 ·refine I.aC br λ_=>I.inr ⟨cF,λh=>?_⟩;grind[fO,absurd,cz]
variable {k:Nat}
theorem S4(h:k<=s.size):(s.extract 0 k).size=k:=by simp_all
theorem fF.nil:¬fF ⟨#[]⟩:=λh=>by have:=h.1;revert this;decide
theorem Dq(h:k<=s.size):s.extract 0 k=s↔k=s.size:=by
 constructor
 ·intro e;have:=congrArg ByteArray.size e;rwa[S4 h]at this
 simp_all
theorem ab0:∀x,x∈vP↔x∈(CX.getD []):=by
 have h1:(vP.all λx=>(CX.getD []).any λy=>decide (x=y))=ah:=by kernel_rfl
 have h2:((CX.getD []).all λx=>vP.any λy=>decide (x=y))=ah:=by kernel_rfl
 grind
theorem alO(aV:s.size< 1000000):I (Ct (aZ n) s) λr=>r=ah↔fF s:=by
 unfold Ct;refine I.bind (Q:=λz:Int×Int=>(z.2=0/\z.1=1)↔fF s) ?_ λz bj=>I.ret cK;unfold J_;have fin:∀{m:Option (Int×ByteArray)},I m (λz=>(z.1=1/\z.2=s)↔fF s)->I (aw m λZ=>if((decide (Z.1=0))||(!decide (Z.2=s)))then D ((0:Int),(4:Int))else D (Z.1,0)) (λz:Int×Int=>(z.2=0/\z.1=1)↔fF s):=by
  intro m hm;refine I.bind hm λz bj=>?_;refine I.bC (λh=>I.ret ?_) λh=>I.ret ?_
  ·grind
  simp_all
 refine fin ?_;unfold J8;refine I.aC (λe=>I.ret ⟨λh=>absurd h.1 eu,λh=>absurd (e▸h) fF.nil⟩) λe5=>?_;have bw:0<s.size:=by apply MI;intro h;have e:s.size=s.data.size:=rfl;exact e5 (ByteArray.ext (Array.eq_empty_of_size_eq_zero aa))
 refine I.gB (i:=0) bw λb aB=>?_;rw[abY,cl];refine I.bC (λg6=>?_) λg6=>?_
 ·have alP:nJ ya s 0=ah:=by rw[ss aB];exact g6
  refine I.bind (alK aV) ?_;rintro _ ⟨k,rfl,h1,h2,aJ⟩;refine I.aq (k6 (i:=0) (gx _) h1) ?_;refine I.aq (z:=vP) rfl ?_;refine I.bind (alM eu) λc aP=>?_;have au:fF s->k=s.size:=λh=>by apply MI;intro e5;have:=aJ aa;rw[h.2.1 k aa]at this;grind
  refine I.bC (λh=>I.ret ⟨λq=>absurd q.1 (show ¬((3:Int)=1) by decide),λq=>?_⟩) λh=>?_
  ·have:=aP.1 h;rw[(Dq h1).2 (au q)]at this;exact absurd this q.2.2.1
  ·have pM:s.extract 0 k ∉ vP:=λq=>by simp_all
   rw[S4 h1];refine I.aC (λo7=>I.ret ⟨λq=>?_,λq=>⟨rfl,(Dq h1).2 (au q)⟩⟩) λo7=>I.ret ⟨λq=>absurd q.1 (show ¬((0:Int)=1) by decide),λq=>?_⟩
   ·have e:=(Dq h1).1 q.2;have fD:s.extract 0 k=s:=q.2;rw[fD]at pM;exact⟨alP,λj ae=>h2 j aa,pM,aa⟩
   ·have:=au q;have:=q.2.2.2;omega
 ·have df:¬fF s:=λq=>by have:=q.1;simp_all[ss]
  refine I.gB (i:=0) bw λgi lG=>?_;have Al:∀{m:Option (Int×ByteArray)},I m (λz=>z.1≠1)->I m (λz=>(z.1=1/\z.2=s)↔fF s):=λh=>h.mono λz bj=>⟨λq=>absurd q.1 bj,λq=>absurd q df⟩
  refine Al ?_;rw[ML,cl];refine I.bC (λlm=>?_) λlm=>?_
  ·refine I.bind (alL aV) ?_;rintro _ ⟨k,rfl,tC,h1⟩;refine I.aq (k6 (i:=0) (gx _) h1) ?_;have Am:0<k:=tC bw (by simp_all[ss]);refine I.bind (Q:=λ_=>True) ?_ λc _=>I.bC (λ_=>I.ret (show(2:Int)≠1 by decide)) λ_=>I.ret (show(0:Int)≠1 by decide);unfold QV;refine I.aC (λ_=>I.aC (λ_=>I.ret trivial) λ_=>?_) λ_=>I.ret trivial;exact I.gB (i:=0) cK λ_ _=>I.ret trivial
  ·refine I.aq (z:=FL) rfl ?_;unfold Ze;refine I.for FL.length (λk (_:Unit)=>(k:Int)) (λk _=>True) (t0:=()) rfl trivial (λk _ au _=>?_) λ_ _=>I.aC br λ_=>I.inr (show(0:Int)≠1 by decide);refine I.aC (λ_=>I.g7 au λx ar=>?_) dv;refine I.bind (Q:=λ_=>True) ?_ λc _=>I.bC (λ_=>I.inr (show(4:Int)≠1 by decide)) λ_=>I.inl ⟨(),by simpa using cM (by have:FL.length=23:=rfl;omega),trivial⟩;unfold QW xJ;refine I.bind (Q:=λ_=>True) ?_ λc _=>I.ret trivial;refine I.aC (λh=>?_) λ_=>I.ret trivial;exact I.aq (k6 (i:=0) (gx _) aa) (I.ret trivial)
theorem alQ(aV:s.size< 1000000)(ab1:nJ ya s 0=ah)(bw:0<s.size):I (Sr (aZ n) s 0 0) λz:eb=>(z.kind=1/\z.bi=s)↔fF s:=by
 unfold Sr;have stop:∀k:Nat,k<=s.size->(∀j,j<k->nJ su s j=ah)->(k<s.size->nJ su s k=aQ)->I (Gi s 0 (aZ n) (k:Int)) λz:eb=>(z.kind=1/\z.bi=s)↔fF s:=by
  intro k h1 h2 aJ;unfold Gi;refine I.aq (k6 (i:=0) (gx _) h1) ?_;refine I.aq (z:=CX.getD []) rfl ?_;refine I.bind (alN eu) λc aP=>?_;have au:fF s->k=s.size:=λh=>by apply MI;intro e5;have:=aJ aa;rw[h.2.1 k aa]at this;grind
  refine I.bC (λh=>I.ret ⟨λq=>absurd q.1 (show ¬((3:Int)=1) by decide),λq=>?_⟩) λh=>?_
  ·have:=aP.1 h;rw[(Dq h1).2 (au q),<-ab0]at this;exact absurd this q.2.2.1
  ·have pM:s.extract 0 k ∉ vP:=λq=>by simp_all[ab0]
   rw[S4 h1];refine I.aC (λo7=>I.ret ⟨λq=>?_,λq=>⟨rfl,(Dq h1).2 (au q)⟩⟩) λo7=>I.ret ⟨λq=>absurd q.1 (show ¬((0:Int)=1) by decide),λq=>?_⟩
   ·have fD:s.extract 0 k=s:=q.2;have e:=(Dq h1).1 fD;rw[fD]at pM;exact⟨ab1,λj ae=>h2 j aa,pM,aa⟩
   ·have:=au q;have:=q.2.2.2;omega
 refine MK (s:=s) su (k0:=0) (gx _) (λk b au aB hp=>?_) λk _ au h1 h2=>?_
 ·rw[if_pos cK,ry aB,cl,S3,cl,cl,GD,cl,cM aa];grind[su,ya]
 ·by_cases h:k<s.size
  ·have e:s[k]? =D s[k]:=getElem?_pos s k h;have a8:=h2 h;rw[ss e]at a8;unfold su at a8;simp only[iM]at a8;rw[if_pos dt,ry e,cl,S3,cl,a8.1,if_neg fT,cl,GD,cl,a8.2,if_neg fT];grind[I.dk]
  ·rw[if_neg dt];grind[I.dk]
theorem alR(aV:s.size< 1000000):I (z2 (aZ n) s) λr=>r=ah↔fF s:=by
 unfold z2;refine I.bind (Q:=λz:Int×Int=>(z.2=0/\z.1=1)↔fF s) ?_ λz bj=>I.ret cK;unfold St;refine I.bind (Q:=λz:eb=>(z.kind=1/\z.bi=s)↔fF s) ?_ λz bj=>?_
 ·have Al:∀{m:Option eb},¬fF s->I m (λz=>z.kind≠1)->I m (λz:eb=>(z.kind=1/\z.bi=s)↔fF s):=λdf h=>h.mono λz bj=>⟨λq=>absurd q.1 bj,λq=>absurd q df⟩
  have fX:(0:Int)≠1:=by decide
  unfold Ss;refine I.aC (λe=>Al (λq=>?_) (I.ret fX)) λbw=>?_
  ·have:=q.1;simp_all[nJ,getElem?_neg]
  ·have bw:0<s.size:=by omega
   refine I.gB (i:=0) bw λb aB=>?_;rw[S3,cl];refine I.bC (λg6=>alQ aV (by rw[ss aB];exact g6) bw) λg6=>?_;refine Al (λq=>by have:=q.1;simp_all[ss]) ?_;refine I.gB (i:=0) bw λgi lG=>?_;rw[GD,cl];refine I.bC (λlm=>?_) λlm=>?_
   ·have stop:∀k:Nat,0<k->k<=s.size->I (Gj s 0 (k:Int)) λz:eb=>z.kind≠1:=by
     intro k au h1;unfold Gj;refine I.aq (k6 (i:=0) (gx _) h1) ?_;refine I.aC (λ_=>I.ret (show(2:Int)≠1 by decide)) λ_=>I.aC (λ_=>?_) λ_=>I.ret fX;exact I.gB (i:=0) cK λ_ _=>I.bC (λ_=>I.ret (show(2:Int)≠1 by decide)) λ_=>I.ret fX
    unfold aa2;refine MK (s:=s) v8 (k0:=0) (gx _) (λk b au aB hp=>?_) λk _ au h1 h2=>?_
    ·rw[if_pos cK,ry aB,cl,GD,hp,cl,if_pos rfl,cM aa]
    ·have ob:0<k:=by
      apply MI;grind[ss]
     by_cases h:k<s.size
     ·have e:s[k]? =D s[k]:=getElem?_pos s k h;simp_all[if_pos,ry,cl,GD,ss,v8,if_neg,I.dk]
     simp_all[if_neg,I.dk]
   ·refine I.aq (z:=z0.getD []) rfl ?_;unfold aa1;have aK:(z0.getD []).length=23:=rfl;have small:∀x∈z0.getD [],x.size< 10:=by
     have h:((z0.getD []).all λx=>decide (x.size< 10))=ah:=by kernel_rfl
     simp_all
    refine I.for (z0.getD []).length (λk (_:Unit)=>(k:Int)) (λk _=>True) (t0:=()) rfl trivial (λk _ au _=>?_) λ_ _=>I.aC br λ_=>I.inr fX;refine I.aC (λ_=>I.g7 au λx ar=>?_) dv;have aB8:=small x (cC ar);have next:I (D (Sum.inl (aH ((k:Int)+1))):Option (Int ⊕ eb)) (ln (λs'=>∃rc:Unit,s'=((k+1:Nat):Int)/\True) λz:eb=>z.kind≠1):=I.inl ⟨(),by grind[cM],trivial⟩
    have lR:aH (0+(x.size:Int))=(x.size:Int):=by rw[Int.zero_add];exact E4 aa
    rw[lR];refine I.aC (λhle=>?_) λ_=>next
    refine I.aq (k6 (i:=0) (gx _) aa) ?_;refine I.g7 au λy bh=>I.aC (λ_=>I.g7 au λy _=>I.dk (I.ret (show(4:Int)≠1 by decide))) λ_=>next
 ·refine I.bC (λh=>I.ret ?_) λh=>I.ret ?_
  ·simp_all
  grind
theorem MM(aV:s.size< 1000000):∃b:Bool,Ct (aZ n) s=D b/\z2 (aZ n) s=D b/\(b=ah↔fF s):=by obtain⟨a,h1,h2⟩:=alO (n:=n) aV;obtain⟨b,aJ,bp⟩:=alR (n:=n) aV;grind
end
noncomputable def sv(i:Nat)(k:Int):Bool:=(Cu i k).getD aQ
theorem alS{i:Nat}(h:1<=i/\i<=5)(k:Int):Cu i k=D (sv i k):=by
 have:i=1\/i=2\/i=3\/i=4\/i=5:=by omega
 have e:∃b,Cu i k=D b:=by
  rcases this with rfl|rfl|rfl|rfl|rfl
  ·exact⟨_,rfl⟩
  ·exact⟨_,rfl⟩
  ·exact⟨_,rfl⟩
  ·exact⟨_,rfl⟩
  ·exact⟨_,rfl⟩
 grind[sv]
theorem An(a b c:Int):uL a b c=D (decide (b<=a)&&decide (a<=c)):=rfl
section
variable {n : Nat}
variable {i:Nat}
theorem alT{xs:List Int}(a b:Int)(ao:1<=i/\i<=5)(aK:xs.length< 1000000):Kl (aZ n) xs a b i=D (!xs.all (sv i)):=by
 have:I (Kk (aZ n) xs a b i) λz=>(0<=z)↔xs.all (sv i)=aQ:=by
  unfold Kk ZS;refine I.for xs.length (λk (_:Unit)=>(k:Int)) (λk _=>∀j x,j<k->xs[j]? =D x->sv i x=ah) (t0:=()) rfl (λj _ ae _=>by omega) (λk _ au bq=>?_) λ_ bq=>?_
  ·refine I.aC (λ_=>I.g7 au λx ar=>?_) dv;unfold Ri;rw[alS ao,cl,cl];refine I.bC (λh=>I.inr ⟨λ_=>?_,λ_=>by omega⟩) λh=>I.inl ⟨(),by grind[cM],λj y ae bh=>?_⟩
   ·grind
   grind
  ·refine I.aC br λ_=>I.inr ⟨λh=>by omega,λh=>?_⟩;grind[List.all_eq_false,fO,absurd,cz]
 obtain⟨z,e,h⟩:=this;grind[Kl,sv]
def mJ:List h9->Int
 |[]=>0
 |p::ps=>p.ke+mJ ps
noncomputable def o8:List h9->List Int->Bool
 |[],ks=>decide ((ks.length:Int)=0)
 |p::ps,ks=>decide (p.ke<=(ks.length:Int)-mJ ps)&&decide ((ks.length:Int)-mJ ps<=p.og)&&(ks.take ((ks.length:Int)-mJ ps).toNat).all (sv p.oh)&&o8 ps (ks.drop ((ks.length:Int)-mJ ps).toNat)
def ab2(ps:List h9):Prop:=ps.length<=10/\∀p∈ps,0<=p.ke/\p.ke<=1000/\1<=p.oh/\p.oh<=5
theorem S5:∀{ps:List h9},(∀p∈ps,0<=p.ke/\p.ke<=1000/\1<=p.oh/\p.oh<=5)->0<=mJ ps/\mJ ps<=1000*ps.length
 |[],_=>by simp[mJ]
 |p::ps,h=>by have h1:=S5 (ps:=ps) λq aE=>h q (by simp[aE]);grind[mJ,List.length_cons]
theorem ab3:∀(a b:List h9),mJ (a++b)=mJ a+mJ b
 |[],b=>by simp[mJ]
 |p::a,b=>by simp only[List.cons_append,mJ,ab3 a b];omega
variable {α:Type}{xs:List α}
theorem yb {j:Nat}(h:i<=j)(h2:j<=xs.length):hG xs (i:Int) (j:Int)=D ((xs.drop i).take (j-i)):=by simp_all[hG,if_pos]
theorem Ao{k:Nat}{x:α}(h:xs[k]? =D x):xs.drop k=x::xs.drop (k+1):=by grind[cz,MJ]
theorem alU{s:ri}{ks:List Int}(hp:ab2 s.parts)(aK:ks.length<=1000):Km (aZ n) s ks=D (o8 s.parts ks):=by
 refine I.bN ?_;unfold Km ZU;refine I.for s.parts.length (λk (t:List Int)=>(t,(k:Int))) (λk t=>t.length<=1000/\o8 (s.parts.drop k) t=o8 s.parts ks) (t0:=ks) rfl ⟨aK,rfl⟩ (λk t au bq=>?_) λt bq=>?_
 ·have pF:=hp.1;refine I.aC (λ_=>I.g7 au λp ab4=>?_) dv;have alV:=hp.2 p (cC ab4);rw[cM aa];refine I.aq (yb aa (b5 _)) ?_;have alW:(s.parts.drop (k+1)).take (s.parts.length-(k+1))=s.parts.drop (k+1):=fz fT;rw[alW];unfold ZT;have ta:∀q∈s.parts.drop (k+1),0<=q.ke/\q.ke<=1000/\1<=q.oh/\q.oh<=5:=λq aE=>hp.2 q (List.mem_of_mem_drop aE);have Ap:=S5 ta;have hlen:(s.parts.drop (k+1)).length<=10:=by grind
  refine I.for (s.parts.drop (k+1)).length (λj (a:Int)=>(a,(j:Int))) (λj a=>a=mJ ((s.parts.drop (k+1)).take j)) (t0:=0) rfl rfl (λj a ae a9=>?_) λa a9=>?_
  ·refine I.aC (λ_=>I.g7 ae λq aE=>?_) dv;have S6:=ta q (cC aE);have a5:=S5 (ps:=(s.parts.drop (k+1)).take j) λq aE=>ta q (List.mem_of_mem_take aE);have bk:((s.parts.drop (k+1)).take j).length<=10:=by grind
   refine I.inl ⟨aH (a+q.ke),by rw[cM aa],?_⟩;subst a9;rw[c8 aa aa,abX,aE];rw[ab3];simp[mJ]
  ·refine I.aC br λ_=>?_;refine I.dk ?_;rw[fz (b5 _)]at a9;subst a9;have tC:=bq.2;rw[Ao ab4]at tC;unfold Rj;rw[An,cl,c8 aa aa];refine I.bC (λh=>I.dk (I.ret ?_)) λh=>?_
   ·grind[o8,mZ,abW,decide_eq_false_iff_not]
   ·simp only[qy,ea,decide_eq_true_eq]at h;have qj:(0:Int)<=(t.length:Int)-mJ (s.parts.drop (k+1)):=by omega
    obtain⟨m,hm⟩:=tB qj;have ab5:m<=t.length:=by omega
    rw[hm];refine I.aq (yb (i:=0) (gx _) ab5) ?_;have de:(t.drop 0).take (m- 0)=t.take m:=by simp
    rw[de];refine I.aq (alT _ _ alV.2.2 dt) ?_;refine I.bC (λa9=>I.dk (I.ret ?_)) λa9=>?_
    ·grind[o8,eq,mZ]
    ·refine I.aq (yb ab5 (b5 _)) (I.inl ⟨(t.drop m).take (t.length-m),by rw[cM aa],?_,?_⟩)
     ·grind
     grind[o8,eq,qy,fz]
 simp_all[I.aC,absurd,I.inr,Do,b5,o8]
end
noncomputable def tD(x:bz):Bool:=(jB x).getD aQ
noncomputable def qz(x:bz):Bool:=(m8 x).getD aQ
noncomputable def rz(x:bz)(j:Int)(k:Int):Bool:=(qv x j k).getD aQ
noncomputable def nK(k:Int):Bool:=(zZ k).getD aQ
def qA(k:Int):Bool:=decide (1<=k/\k<=26)||decide (30<=k/\k<=34)||decide (40<=k/\k<=46)
theorem S7(x:bz):jB x=D (tD x):=by grind[tD,jB]
theorem GF(x:bz):m8 x=D (qz x):=by grind[qz,m8]
theorem MN(x:bz)(j k:Int):qv x j k=D (rz x j k):=by grind[rz,qv,v3,v4]
theorem alX(k:Int):zZ k=D (nK k):=by grind[nK,zZ]
variable {ks:List Int}
theorem ab6:o8 [] ks=decide ((ks.length:Int)=0):=by unfold o8;rfl
theorem ab7{p:h9}:o8 [p] ks=(decide (p.ke<=ks.length)&&decide ((ks.length:Int)<=p.og)&&ks.all (sv p.oh)):=by simp_all[o8,mJ,Int.sub_zero,eq,fz,b5,Do,ab6]
theorem alY{p:Int->Bool}{f:Int->Int->Bool}(h:∀j k,f j k=p k):ks.all p=ah↔∀(j:Nat) k,ks[j]? =D k->f j k=ah:=by grind[kj,cC,fO]
structure sw(x:bz)(ks:List Int)(s:ri):Prop where
 named:s.named=nK x.kind
 parts:ab2 s.parts
 num:((s.low<=x.n/\x.n<=s.high)\/(x.kind=1/\ -9999<=x.n/\x.n<= -1))↔qz x=ah
 h7:o8 s.parts ks=ah↔tD x=ah/\∀(j:Nat) k,ks[j]? =D k->rz x j k=ah
section
variable {x : bz} {ks : List Int} {nm : Bool} {lo ao : Int}
theorem sw.z(h1:nm=nK x.kind)(h2:((lo<=x.n/\x.n<=ao)\/(x.kind=1/\ -9999<=x.n/\x.n<= -1))↔qz x=ah)(aJ:tD x=decide ((ks.length:Int)=0)):sw x ks ⟨nm,lo,ao,[]⟩ where
 named:=h1
 parts:=⟨by simp,λp h=>by cases h⟩
 num:=h2
 h7:=by simp_all[ab6,List.eq_nil_of_length_eq_zero]
theorem sw.o{a b:Int}{i:Nat}(h1:nm=nK x.kind)(h2:((lo<=x.n/\x.n<=ao)\/(x.kind=1/\ -9999<=x.n/\x.n<= -1))↔qz x=ah)(aJ:tD x=ah↔(a<=ks.length/\(ks.length:Int)<=b))(bp:∀j k,rz x j k=sv i k)(cy:0<=a/\a<=1000)(cY:1<=i/\i<=5):sw x ks ⟨nm,lo,ao,[⟨a,b,i⟩]⟩ where
 named:=h1
 parts:=⟨by simp,λp h=>by simp_all⟩
 num:=h2
 h7:=by rw[ab7,aJ,<-alY bp];simp
end
variable {ks:List Int}
theorem alZ{f:Int->Int->Bool}(aK:ks.length<=800)(h:∀j k,f j k=if j=(ks.length:Int)- 1 then sv 1 k else if j=(ks.length:Int)- 2 then sv 3 k else sv 5 k):
  o8 [⟨0,801,5⟩,⟨1,1,3⟩,⟨1,1,1⟩] ks=ah↔2<=(ks.length:Int)/\∀(j:Nat) k,ks[j]? =D k->f j k=ah:=by
 unfold o8;simp only[mJ,ea,decide_eq_true_eq];by_cases h2:2<=ks.length
 ·obtain⟨m,hm⟩:∃m,ks.length=m+2:=⟨ks.length- 2,aa⟩
  have a5:((ks.length:Int)-(1+(1+0))).toNat=m:=by omega
  rw[a5];unfold o8;simp only[mJ,ea,decide_eq_true_eq,qW];have bk:(((ks.length-m:Nat):Int)-(1+0)).toNat=1:=by omega
  rw[bk,ab7];simp only[ea,decide_eq_true_eq,qW,List.drop_drop];have c0:ks.drop m=[ks[m]'aa,ks[m+1]'aa]:=by rw[MJ aa,MJ aa,Do aa]
  have gA:ks.drop (m+1)=[ks[m+1]'aa]:=by rw[MJ aa,Do aa]
  rw[c0,gA];simp only[List.take_succ_cons,List.take_zero,List.all_cons,List.all_nil,Bool.and_true];constructor
  ·rintro⟨⟨_,cy⟩,⟨⟨_,aJ⟩,⟨_,h1⟩⟩⟩;refine⟨aa,λj k au=>?_⟩;rw[h];have ae:=(cz.1 au)
   split
   ·grind
   ·split
    ·grind
    ·next a5 bk=>
     refine kj.1 cy k ?_;refine cC (i:=j) ?_;grind
  ·rintro⟨_,hl⟩;refine⟨⟨⟨cK,dt⟩,kj.2 λk au=>?_⟩,⟨⟨⟨aa,aa⟩,?_⟩,⟨⟨aa,aa⟩,?_⟩⟩⟩
   ·obtain⟨j,ae⟩:=fO au;grind
   ·have:=hl m _ (cq aa);grind
   ·have:=hl (m+1) _ (cq aa);grind
 grind
theorem al0(x:bz)(h:qA x.kind=aQ):∃s,zF x=D (s,aQ):=by
 have dp:∀c,qA c=ah->decide (x.kind=c)=aQ:=λc aP=>decide_eq_false (by rintro rfl;rw[h]at aP;cases aP);have aB9:=dp 23 rfl;have aM:¬(6<=x.kind/\x.kind<=18):=λq=>by unfold qA at h;simp only[iM,decide_eq_false_iff_not]at h;omega
 refine⟨?_,?_⟩;rotate_left
 ·unfold zF;simp only[zE,Cs,cl,dp 1 rfl,dp 2 rfl,dp 3 rfl,dp 4 rfl,dp 5 rfl,dp 19 rfl,dp 20 rfl,dp 21 rfl,dp 22 rfl,dp 23 rfl,dp 24 rfl,dp 25 rfl,dp 26 rfl,dp 30 rfl,dp 31 rfl,dp 32 rfl,dp 33 rfl,dp 34 rfl,dp 40 rfl,dp 41 rfl,dp 42 rfl,dp 43 rfl,dp 44 rfl,dp 45 rfl,dp 46 rfl,Bool.or_self,Bool.false_eq_true,if_false,ite_false];by_cases cY:6<=x.kind
  ·rw[if_pos (by simpa using cY),if_neg (by simp;omega)]
  ·rw[if_neg (by simpa using cY)]
theorem ab8(x:bz)(aK:ks.length<=800)(au:x.a3.length=ks.length)(a_: -9223372036854775808<=x.n/\x.n<=9223372036854775807)(a1:qA x.kind=ah):∃s,zF x=D (s,ah)/\sw x ks s:=by
 obtain⟨kind,bi,n,a3,dx⟩:=x;simp only at a_ au a1;have:(kind=1\/kind=2\/kind=3\/kind=4\/kind=5\/kind=6\/kind=7\/kind=8\/kind=9\/kind=10\/kind=11\/kind=12\/kind=13\/kind=14\/kind=15\/kind=16\/kind=17\/kind=18\/kind=19\/kind=20\/kind=21\/kind=22\/kind=23\/kind=24\/kind=25\/kind=26\/kind=30\/kind=31\/kind=32\/kind=33\/kind=34\/kind=40\/kind=41\/kind=43\/kind=44\/kind=45)\/kind=42\/kind=46:=by unfold qA at a1;simp only[hk,decide_eq_true_eq]at a1;omega
 rcases this with this|rfl|rfl
 ·rcases this with rfl|rfl|rfl|rfl|rfl|rfl|rfl|rfl|rfl|rfl|rfl|rfl|rfl|rfl|rfl|rfl|rfl|rfl|rfl|rfl|rfl|rfl|rfl|rfl|rfl|rfl|rfl|rfl|rfl|rfl|rfl|rfl|rfl|rfl|rfl|rfl
  all_goals
   refine⟨_,rfl,?_⟩;first
   |exact sw.z rfl (by simp[qz,m8]<;>omega) (by rw[<-au];rfl)
   |exact sw.o rfl (by simp[qz,m8]<;>omega) (by simp[tD,jB]<;>omega) (λ_ _=>rfl) eu eu
 ·refine⟨_,rfl,⟨rfl,⟨by decide,by decide⟩,by simp[qz,m8]<;>omega,?_⟩⟩;rw[alZ aK (f:=λj k=>rz ⟨42,bi,n,a3,dx⟩ j k) (λj k=>?_)]
  ·refine and_congr ?_ Iff.rfl;simp[tD,jB];omega
  ·have a5:aH ((a3.length:Int)- 1)=(ks.length:Int)- 1:=by rw[au];exact c8 aa aa
   have bk:aH ((a3.length:Int)- 2)=(ks.length:Int)- 2:=by rw[au];exact c8 aa aa
   show(qv ⟨42,bi,n,a3,dx⟩ j k).getD aQ=_;have:qv ⟨42,bi,n,a3,dx⟩ j k=if(decide (j=(aH ((a3.length:Int)- 1))))then(v3 k).bind λad=>D ad else if(decide (j=(aH ((a3.length:Int)- 2))))then(v4 k).bind λaA=>D aA else D (decide (k=34)):=rfl
   rw[this,a5,bk];by_cases h1:j=(ks.length:Int)- 1
   ·rw[if_pos (by simpa using h1),if_pos h1];rfl
   ·rw[if_neg (by simpa using h1),if_neg h1];by_cases h2:j=(ks.length:Int)- 2
    ·rw[if_pos (by simpa using h2),if_pos h2];rfl
    ·rw[if_neg (by simpa using h2),if_neg h2];rfl
 ·by_cases gX:n=7
  ·subst gX;exact⟨_,rfl,sw.z rfl (by simp[qz,m8]) (by rw[<-au];rfl)⟩
  ·by_cases gO:n=8
   ·subst gO;exact⟨_,rfl,sw.o rfl (by simp[qz,m8]) (by simp[tD,jB]<;>omega) (λ_ _=>rfl) eu eu⟩
   ·have e:FS n=D ⟨aQ,1,8,[⟨1,1,1⟩]⟩:=by
     unfold FS zE;rw[cl,if_neg (by simpa using gX),if_neg (by simpa using gO)]
    have bk:zF ⟨46,bi,n,a3,dx⟩=aw (FS n) λiJ=>D (⟨iJ.named,iJ.low,iJ.high,iJ.parts⟩,ah):=rfl;rw[e]at bk;exact⟨_,bk,sw.o rfl (by simp[qz,m8]) (by simp[tD,jB,gX,gO]<;>omega) (λ_ _=>rfl) eu eu⟩
structure c7(t:bf):Prop where
 nodes:t.nodes.length<=800
 aX:t.aX.length<=800
 a3:∀x∈t.nodes,x.a3.length<=800/\x.bi.size< 1000000/\ -9223372036854775808<=x.n/\x.n<=9223372036854775807/\0<=x.kind/\x.kind<=255
structure hN(x:bz):Prop where
 kind:qA x.kind=ah
 ab9:0<=x.dx
 aca:x.dx<=2000
 name:nK x.kind=ah↔fF x.bi
 br:nK x.kind=aQ->x.bi=⟨#[]⟩
 zx:tD x=ah
 num:qz x=ah
def o9(x:bz)(i:Int):Prop:=∀k∈x.a3,0<=k/\k<i
def nL(t:bf)(x:bz):Prop:=∀(j:Nat) k y,x.a3[j]? =D k->t.nodes[k.toNat]? =D y->rz x j y.kind=ah
def u2(t:bf)(x:bz):Prop:=∀k y,k∈x.a3->t.nodes[k.toNat]? =D y->y.kind=1->y.n< 0->x.kind=40
theorem fF.yQ{s:ByteArray}(h:fF s):s≠⟨#[]⟩:=λe=>fF.nil (e▸h)
section
variable {n : Nat} {t : bf}
variable {i:Nat}{x:bz}
theorem al1(ai:c7 t)(ar:t.nodes[i]? =D x):I (Kp (aZ n) t (i:Int)) λr=>r=ah↔hN x/\o9 x i/\nL t x:=by
 have m9:=ai.a3 x (cC ar);have ao:i<t.nodes.length:=(cz.1 ar).1;have a_:=ai.nodes;unfold Kp;refine I.aL ar ?_;cases qB:qA x.kind with
 |false=>obtain⟨s,aV⟩:=al0 x qB;refine I.aq aV (I.bC (λ_=>I.ret ⟨cF,λh=>?_⟩) cF);have:=h.1.kind;simp_all
 |true=>
  have loop:∀s:ri,zF x=D (s,ah)->(∀ks:List Int,x.a3.length=ks.length->sw x ks s)->((0<=x.dx/\x.dx<=2000)/\(nK x.kind=ah↔fF x.bi)/\(nK x.kind=aQ->x.bi=⟨#[]⟩))->
    I (FU (aZ n) x (i:Int) t (s,ah) ()) λr=>r=ah↔hN x/\o9 x i/\nL t x:=by
   intro s aV S8 aP;unfold FU ZV;refine I.for x.a3.length (λk (a:List Int)=>(a,(k:Int))) (λk a=>a.length=k/\∀(j:Nat),j<k->∃q y,x.a3[j]? =D q/\0<=q/\q<i/\t.nodes[q.toNat]? =D y/\a[j]? =D y.kind) (t0:=[]) rfl ⟨rfl,λj ae=>by omega⟩ (λk a au bq=>?_) λa bq=>?_
   ·refine I.aC (λ_=>I.g7 au λq aE=>?_) dv;rw[An,cl];have lR:aH ((i:Int)- 1)=(i:Int)- 1:=c8 aa aa;rw[lR];refine I.bC (λh=>I.dk (I.ret ⟨cF,λa8=>?_⟩)) λh=>?_
    ·have:=a8.2.1 q (cC aE);grind
    ·simp only[qy,ea,decide_eq_true_eq]at h;grind[I.Jq,I.aq,jj,I.inl,cM,ud,List.getElem?_append_left]
   ·refine I.aC br λ_=>I.dk ?_;have eT:=S8 a (by rw[bq.1]);have fJ:o9 x i:=λq aE=>by
     grind[fO,cz]
    have al2:(∀(j:Nat) k,a[j]? =D k->rz x j k=ah)↔nL t x:=by
     constructor
     ·intro h j q y aE bh;grind
     ·intro h j k au;obtain⟨fs,acb,h1,h2,aJ,bp,cy⟩:=bq.2 j dt;rw[au]at cy;cases cy;exact h j fs acb h1 bp
    unfold Rk;refine I.aq (alU eT.parts aa) ?_;have S9:=eT.h7;rw[al2]at S9;have acd:=eT.num;refine I.bC (λa8=>?_) λa8=>I.ret ⟨cF,λh=>?_⟩
    ·have ace:=S9.1 a8;have fin:∀{b:Bool},(b=ah↔qz x=ah)->(b=ah↔hN x/\o9 x i/\nL t x):=λaB=>by
      rw[aB];exact⟨λh=>⟨⟨qB,aP.1.1,aP.1.2,aP.2.1,aP.2.2,ace.1,h⟩,fJ,ace.2⟩,λh=>h.1.num⟩
     rw[An,cl];refine I.bC (λh=>I.ret (fin ⟨λ_=>acd.1 (.inl dt),λ_=>rfl⟩)) λh=>?_;have Vy:¬(s.low<=x.n/\x.n<=s.high):=λq=>by simp_all
     refine I.aC (λh1=>?_) λh1=>I.ret (fin ⟨cF,λh=>?_⟩)
     ·simp_all[An,cl,I.ret,ea,decide_eq_true_eq,absurd]
     simp_all
    ·have:=S9.2 ⟨h.1.zx,h.2.2⟩;simp_all
  obtain⟨s,aV,al3⟩:=ab8 x (ks:=x.a3) m9.1 rfl ⟨m9.2.2.1,m9.2.2.2.1⟩ qB;have S8:∀ks:List Int,x.a3.length=ks.length->sw x ks s:=λks MO=>by grind[ab8]
  refine I.aq aV (I.bC cF λ_=>?_);rw[An,cl];obtain⟨b,jn,_,ic⟩:=MM (n:=n) m9.2.1;have gu:=al3.named;refine I.bC (λh=>I.ret ⟨cF,λa8=>?_⟩) λh=>?_
  ·simp only[hk,mZ,abW,decide_eq_false_iff_not]at h;rcases h with(h|h)|h
   ·exact absurd a8.1.ab9 h
   ·exact absurd a8.1.aca h
   ·cases e:nK x.kind with
    |true=>rw[gu,e]at h;have:=(a8.1.name.1 e).yQ;simp_all
    |false=>rw[gu,e]at h;have:=a8.1.br e;simp_all
  ·simp only[iM,qy,ea,decide_eq_true_eq]at h;refine I.bC (λh1=>I.aq jn (I.bC (λh2=>I.ret ⟨cF,λa8=>?_⟩) λh2=>?_)) λh1=>?_
   ·have:=ic.2 (a8.1.name.1 cK);simp_all
   ·simp_all
   ·have de:nK x.kind=aQ:=by simp_all
    have acf:x.bi=⟨#[]⟩:=by simp_all
    exact loop s aV S8 ⟨h.1,⟨λq=>cK,λq=>absurd acf q.yQ⟩,λ_=>acf⟩
theorem al4(ai:c7 t)(ar:t.nodes[i]? =D x)(fJ:∀k∈x.a3,0<=k/\k<t.nodes.length):I (LJ (aZ n) t (i:Int)) λr=>r=ah↔hN x/\nL t x/\u2 t x:=by
 have m9:=ai.a3 x (cC ar);have a_:=ai.nodes;have al5:v3 x.kind=D ((decide (1<=x.kind)&&decide (x.kind<=26))&&(!decide (x.kind=25))):=rfl;have aCa:v4 x.kind=D (decide (30<=x.kind)&&decide (x.kind<=33)):=rfl;have aCb:LG x.kind=D (decide (40<=x.kind)&&decide (x.kind<=46)):=rfl;unfold LJ;refine I.aL ar ?_;have a3:hN x->I (CY (aZ n) x t x.kind) λr=>r=ah↔hN x/\nL t x/\u2 t x:=by
  intro a8;unfold CY aa3;refine I.for x.a3.length (λk (_:Unit)=>(k:Int)) (λk _=>∀(j:Nat) q y,j<k->x.a3[j]? =D q->t.nodes[q.toNat]? =D y->rz x j y.kind=ah/\(y.kind=1->y.n< 0->x.kind=40)) (t0:=()) rfl (λj _ _ ae=>by omega) (λk _ au bq=>?_) λ_ bq=>?_
  ·refine I.aC (λ_=>I.g7 au λq aE=>?_) dv;have v9:=fJ q (cC aE);refine I.Jq v9.1 v9.2 λy bh=>?_;have ex:qv ⟨x.kind,x.bi,x.n,x.a3,x.dx⟩ (k:Int) y.kind=D (rz x k y.kind):=MN x k y.kind;refine I.aq ex ?_;have next:(rz x k y.kind=ah/\(y.kind=1->y.n< 0->x.kind=40))->I (D (Sum.inl (aH ((k:Int)+1))):Option (Int ⊕ Bool)) (ln (λs'=>∃rc:Unit,s'=((k+1:Nat):Int)/\∀(j:Nat) q y,j<k+1->x.a3[j]? =D q->t.nodes[q.toNat]? =D y->rz x j y.kind=ah/\(y.kind=1->y.n< 0->x.kind=40)) λr=>r=ah↔hN x/\nL t x/\u2 t x):=λh=>I.inl ⟨(),by rw[cM aa],λj fs acb ae n_ aCc=>by
    grind⟩
   refine I.bC (λh=>I.dk (I.ret ⟨cF,λfG=>?_⟩)) λh=>?_
   ·have:=fG.2.1 k q y aE bh;simp_all
   ·have w1:rz x k y.kind=ah:=by grind
    refine I.aC (λh1=>I.aC (λh2=>I.eh (λaJ=>I.dk (I.ret ⟨cF,λfG=>?_⟩)) λaJ=>next ⟨w1,λ_ _=>aJ⟩) λh2=>next ⟨w1,λ_ q=>absurd q h2⟩) λh1=>next ⟨w1,λq=>absurd q h1⟩
    exact absurd (fG.2.2 q y (cC aE) bh h1 h2) aJ
  ·refine I.aC br λ_=>I.inr ⟨λ_=>⟨a8,λj q y aE bh=>(bq j q y (cz.1 aE).1 aE bh).1,λq y aE bh h1 h2=>?_⟩,λ_=>rfl⟩;grind[fO,cz]
 have body:qA x.kind=ah->I (CZ (aZ n) x t x.kind) λr=>r=ah↔hN x/\nL t x/\u2 t x:=by
  intro qB;obtain⟨b,_,jn,ic⟩:=MM (n:=n) m9.2.1;have al6:jB ⟨x.kind,x.bi,x.n,x.a3,x.dx⟩=D (tD x):=S7 x;have al7:m8 ⟨x.kind,x.bi,x.n,x.a3,x.dx⟩=D (qz x):=GF x;have br:∀{p:Prop},(hN x->p)->¬p->I (D aQ) λr=>r=ah↔hN x/\nL t x/\u2 t x:=λh1 h2=>I.ret ⟨cF,λh=>absurd (h1 h.1) h2⟩;have rest:(nK x.kind=ah↔fF x.bi)->(nK x.kind=aQ->x.bi=⟨#[]⟩)->I (aw (jB ⟨x.kind,x.bi,x.n,x.a3,x.dx⟩) λbJ=>if(!bJ)then D aQ else(m8 ⟨x.kind,x.bi,x.n,x.a3,x.dx⟩).bind λci=>if(!ci)then D aQ else if(decide (x.dx< 0))then D aQ else if(decide (2000<x.dx))then D aQ else CY (aZ n) x t x.kind) λr=>r=ah↔hN x/\nL t x/\u2 t x:=by intro h1 h2;refine I.aq al6 (I.bC (λh=>br (λf=>f.zx) dt) λhm=>I.aq al7 (I.bC (λh=>br (λf=>f.num) dt) λal8=>I.aC (λh=>br (λf=>f.ab9) aa) λaJ=>I.aC (λh=>br (λf=>f.aca) aa) λbp=>a3 ⟨qB,aa,aa,h1,h2,cK,cK⟩))
  unfold CZ;rw[alX,cl];refine I.aq jn ?_;rw[cl];refine I.bC (λh=>br (λf=>f.name) λq=>?_) λh=>?_
  ·grind
  ·have V3:nK x.kind=b:=by grind
   have acg:nK x.kind=ah↔fF x.bi:=by simp_all
   refine I.bC (λh1=>I.eh (λh2=>br (λf=>f.br) λq=>h2 (q cK)) λh2=>rest acg λ_=>h2) λh1=>rest acg λq=>?_;simp_all
 rw[al5,cl];have bad:qA x.kind=aQ->I (D aQ) λr=>r=ah↔hN x/\nL t x/\u2 t x:=λh=>I.ret ⟨cF,λq=>by have:=q.1.kind;simp_all⟩;have cJ:qA x.kind=ah↔((1<=x.kind/\x.kind<=26)\/(30<=x.kind/\x.kind<=34)\/(40<=x.kind/\x.kind<=46)):=by unfold qA;grind
 grind
end
inductive ee (bd:Nat->List Int):List Int->Nat->Nat->Prop
 |nil (a:Nat):ee bd [] a a
 |cons {k:Nat} {ks:List Int} {a b:Nat} (h1:ee bd (bd k) a k) (h2:ee bd ks (k+1) b):ee bd ((k:Int)::ks) a b
section
variable {bd : Nat -> List Int}
variable {a b:Nat}{ks:List Int}
theorem ee.iE(h:ee bd ks a b):a<=b:=by
 induction h with
 |nil=>omega
 |cons h1 h2 i1 i2=>omega
theorem ee.GG {gy:Nat}(h:ee bd ks a b)(dp:ee bd ks gy b):a=gy:=by
 induction h generalizing gy with
 |nil=>cases dp;rfl
 |@cons k ks a b h1 h2 i1 i2=>
  generalize au:((k:Int)::ks)=l at dp;cases dp with
  |nil=>cases au
  |@cons cA al9 _ _ Dr GH=>grind
theorem ee.stop {gi:Nat}(h:ee bd ks a b)(dp:ee bd ks a gi):b=gi:=by
 induction h generalizing gi with
 |nil=>cases dp;rfl
 |@cons k ks a b h1 h2 i1 i2=>
  generalize au:((k:Int)::ks)=l at dp;cases dp with
  |nil=>cases au
  |@cons cA al9 _ _ Dr GH=>grind
theorem ee.split{xs cX:List Int}:ee bd (xs++cX) a b↔∃m,ee bd xs a m/\ee bd cX m b:=by
 induction xs generalizing a with
 |nil=>exact⟨λh=>⟨a,.nil a,h⟩,λ⟨m,h1,h2⟩=>by cases h1;exact h2⟩
 |cons x xs bB=>
  constructor
  ·intro h;generalize aK:x::xs++cX=l at h;cases h with
   |nil=>cases aK
   |cons h1 h2=>
    injection aK with a5 bk
    subst a5;subst bk;obtain⟨m,aJ,bp⟩:=bB.1 h2;exact⟨m,.cons h1 aJ,bp⟩
  ·rintro⟨m,h1,h2⟩;generalize aK:x::xs=l at h1;cases h1 with
   |nil=>cases aK
   |cons h1 aJ=>
    injection aK with a5 bk
    subst a5;subst bk;exact .cons h1 (bB.2 ⟨m,aJ,h2⟩)
variable {k:Int}
theorem ee.one:ee bd [k] a b↔∃j:Nat,k=j/\b=j+1/\ee bd (bd j) a j:=by
 constructor
 ·intro h;generalize aK:[k]=l at h;cases h with
  |nil=>cases aK
  |@cons cA ks _ _ h1 h2=>
   injection aK with a5 bk
   subst bk;cases h2;grind
 ·rintro⟨j,rfl,rfl,h⟩;exact .cons h (.nil _)
theorem ee.Aq:ee bd (k::ks) a b↔∃j:Nat,k=j/\ee bd (bd j) a j/\ee bd ks (j+1) b:=by rw[show k::ks=[k]++ks from rfl,ee.split];grind[ee.one]
theorem ee.all(h:ee bd ks a b):∀j,a<=j->j<b->∃c,a<=c/\ee bd (bd j) c j:=by
 induction h with
 |nil=>omega
 |@cons k ks a b h1 h2 i1 i2=>intro j P' Fj;have a5:=h1.iE;grind
theorem ee.eB(h:ee bd ks a b):∀k∈ks,∃j:Nat,k=j/\a<=j/\j<b:=by
 induction h with
 |nil=>simp
 |@cons k ks a b h1 h2 i1 i2=>intro q aE;have a5:=h1.iE;have bk:=h2.iE;grind
theorem ee.tE(h:ee bd ks a b):∀j:Nat,a<=j->j<b->(j:Int)∈ks\/∃p,j<p/\p<b/\(j:Int)∈bd p:=by
 induction h with
 |nil=>omega
 |@cons k ks a b h1 h2 i1 i2=>intro j P' Fj;have bk:=h2.iE;grind
theorem ee.y8(h:ee bd ks a b):∀j p:Nat,(j:Int)∈ks->a<=p->p<b->(j:Int)∈bd p->False:=by
 induction h with
 |nil=>omega
 |@cons k ks a b h1 h2 i1 i2=>
  intro j p ae S_ uE au;have a5:=h1.iE;by_cases h:p<k
  ·
   obtain⟨c,aJ,bp⟩:=h1.all p S_ h;obtain⟨e8,e,cy,cY⟩:=bp.eB _ au;have e:j=e8:=ew e;subst e;rcases n4.1 ae with e|ae
   ·omega
   ·obtain⟨e8,e,gX,gO⟩:=h2.eB _ ae;omega
  ·by_cases e:p=k
   ·subst e;obtain⟨e8,e,cy,cY⟩:=h1.eB _ au;have e:j=e8:=ew e;subst e;rcases n4.1 ae with e|ae
    ·omega
    ·obtain⟨e8,e,gX,gO⟩:=h2.eB _ ae;omega
   ·obtain⟨c,aJ,bp⟩:=h2.all p aa uE;obtain⟨e8,hd,cy,cY⟩:=bp.eB _ au;grind
theorem ee.ach(h:ee bd ks a b):∀j p q:Nat,a<=p->p<b->a<=q->q<b->(j:Int)∈bd p->(j:Int)∈bd q->p=q:=by
 have key:∀p q j:Nat,p<q->a<=p->q<b->(j:Int)∈bd p->(j:Int)∈bd q->False:=by intro p q j ama hp aE h1 h2;obtain⟨c,mK,MP⟩:=h.all q aa aE;obtain⟨d,GI,v_⟩:=h.all p hp aa;obtain⟨wV,a5,aJ,bp⟩:=MP.eB _ h2;have a5:j=wV:=ew a5;subst a5;obtain⟨v',bk,cy,cY⟩:=v_.eB _ h1;have bk:j=v':=ew bk;subst bk;exact MP.y8 j p h2 aa ama h1
 grind
end
def bd(t:bf)(i:Nat):List Int:=match t.nodes[i]? with|some x=>x.a3|none=>[]
variable {i:Nat}{t:bf}{x:bz}
theorem pW(h:t.nodes[i]? =D x):bd t i=x.a3:=by unfold bd;rw[h]
def jo(k:Int):Bool:=decide (40<=k)&&decide (k<=46)
def bE(t:bf)(i:Nat):Prop:=∃x,t.nodes[i]? =D x/\jo x.kind=ah
theorem bE.at(h:t.nodes[i]? =D x):bE t i↔jo x.kind=ah:=⟨λ⟨y,h1,h2⟩=>by simp_all,λq=>⟨x,h,q⟩⟩
variable {k:Nat}{α:Type}{xs:List α}
theorem gd{x:α}(h:xs[k]? =D x):xs.take (k+1)=xs.take k++[x]:=by rw[abX,h];rfl
theorem sx{x:α}(h:xs[k]? =D x):xs=xs.take k++x::xs.drop (k+1):=by rw[<-Ao h,S2]
section
variable {n : Nat} {t : bf}
theorem amb(ai:c7 t)(fJ:∀(i:Nat)(x:bz),t.nodes[i]? =D x->o9 x i):∀(k i:Nat)(d:Int)(a:Nat),i<k->i<t.nodes.length->1<=d->d+i<=2000->a<=1000->
  I (Cw (aZ n) k (i:Int) d t t (a:Int)) λr=>(r.1=ah↔ee (bd t) (bd t i) a i/\(bE t i↔d=1)/\∀j,a<=j->j<i->¬bE t j)/\(r.1=ah->r.2=((i+1:Nat):Int)):=by
 intro k;induction k with
 |zero=>omega
 |succ k bB=>
  intro i d a aeO dN GI v_ a9;have a_:=ai.nodes;obtain⟨x,ar⟩:∃x,t.nodes[i]? =D x:=⟨_,cq dN⟩
  have m9:=ai.a3 x (cC ar);have fc:=pW ar;show I (Kr (aZ n) (Cw (aZ n) k) (i:Int) d t t (a:Int)) _;unfold Kr;refine I.aL ar ?_;unfold ZX;refine I.for x.a3.length (λs (m:Nat)=>((s:Int),(m:Int))) (λs m=>ee (bd t) (x.a3.take s) a m/\(m<=i\/m<=a)/\∀j,a<=j->j<m->¬bE t j) (t0:=a) rfl ⟨.nil a,.inr (b5 _),λj h1 h2=>by omega⟩ (λs m aV bq=>?_) λm bq=>?_
  ·refine I.aC (λ_=>I.g7 aV λq aE=>?_) dv;have v9:=fJ i x ar q (cC aE);obtain⟨fs,rfl⟩:=tB v9.1;have hle:=bq.1.iE;have amc:aH (d+1)=d+1:=c8 aa aa;rw[amc];refine I.bind (bB fs (d+1) m aa aa aa aa aa) λr aM=>?_;refine I.bC (λh=>I.dk (I.ret ⟨⟨cF,λaP=>?_⟩,cF⟩)) λh=>?_
   ·
    exfalso;have a8:r.1=aQ:=by grind
    have mK:=aP.1;rw[fc,sx aE,ee.split]at mK;obtain⟨m',h1,h2⟩:=mK;have em:m=m':=bq.1.stop h1;subst em;obtain⟨j,e,aJ,bp⟩:=ee.Aq.1 h2;have e:fs=j:=ew e;subst e;have a5:=aJ.iE;grind
   ·have cc:r.1=ah:=by grind
    obtain⟨h1,h2,aJ⟩:=aM.1.1 cc;have a5:=h1.iE;refine I.inl ⟨fs+1,by rw[cM aa,aM.2 cc],?_,aa,λj bp cy=>?_⟩
    ·rw[gd aE,ee.split];grind[ee.one]
    grind
  ·refine I.aC br λ_=>I.dk ?_;have ug:ee (bd t) (bd t i) a m:=by
    simp_all
   unfold Rl;refine I.eh (λe5=>I.ret ⟨⟨cF,λaP=>?_⟩,cF⟩) λe=>?_
   ·have:=ug.stop aP.1;omega
   ·have e:i=m:=by omega
    subst e;refine I.aL ar (I.aq (z:=jo x.kind) rfl (I.ret ⟨?_,λ_=>cM aa⟩));grind[jo,decide,bE,bE.at]
theorem aci(ai:c7 t)(fJ:∀(i:Nat)(x:bz),t.nodes[i]? =D x->o9 x i)(GJ:1000<=n):I (Cx (aZ n) t) λr=>r=ah↔ee (bd t) t.aX 0 t.nodes.length/\∀j,j<t.nodes.length->(bE t j↔(j:Int)∈t.aX):=by
 have a_:=ai.nodes;have hm:=ai.aX;unfold Cx ZY;refine I.for t.aX.length (λs (m:Nat)=>((s:Int),(m:Int))) (λs m=>ee (bd t) (t.aX.take s) 0 m/\m<=t.nodes.length/\∀j,j<m->(bE t j↔(j:Int)∈t.aX.take s)) (t0:=0) rfl ⟨.nil 0,gx _,λj h=>by omega⟩ (λs m aV bq=>?_) λm bq=>?_
 ·refine I.aC (λ_=>I.g7 aV λq aE=>?_) dv;rw[An,cl];have lR:aH ((t.nodes.length:Int)- 1)=(t.nodes.length:Int)- 1:=c8 aa aa;rw[lR];refine I.bC (λh=>I.dk (I.ret ⟨cF,λaP=>?_⟩)) λh=>?_
  ·exfalso;have mK:=aP.1;rw[sx aE,ee.split]at mK;obtain⟨m',h1,h2⟩:=mK;have em:=bq.1.stop h1;subst em;obtain⟨j,e,aJ,bp⟩:=ee.Aq.1 h2;have a5:=aJ.iE;have bk:=bp.iE;grind
  ·simp only[qy,ea,decide_eq_true_eq]at h;obtain⟨fs,rfl⟩:=tB (a:=q) aa;have rA:Rn (aZ n) (fs:Int) 1 t t (m:Int)=Cw (aZ n) n (fs:Int) 1 t t (m:Int):=rfl;rw[rA];refine I.bind (amb (n:=n) ai fJ n fs 1 m aa aa aa aa aa) λr aM=>?_;have hle:=bq.1.iE;have tF:(∀j,j<t.nodes.length->(bE t j↔(j:Int)∈t.aX))->ee (bd t) (fs::t.aX.drop (s+1)) m t.nodes.length->ee (bd t) (bd t fs) m fs->∀j,m<=j->j<fs->¬bE t j:=by
    intro hl aP aB j h1 h2 ao;have bp:=(ee.Aq.1 aP)
    obtain⟨e8,e,cy,cY⟩:=bp;have e:fs=e8:=ew e;subst e;have bk:=cY.iE;have ae:=(hl j aa).1 ao;rw[sx aE]at ae;rcases ig.1 ae with ae|ae
    ·obtain⟨v',c0,gX,gO⟩:=bq.1.eB _ ae;omega
    ·rcases n4.1 ae with c0|ae
     ·omega
     ·obtain⟨v',c0,gX,gO⟩:=cY.eB _ ae;omega
   refine I.bC (λh=>I.dk (I.ret ⟨cF,λaP=>?_⟩)) λh2=>?_
   ·exfalso;have a8:r.1=aQ:=by grind
    have mK:=aP.1;rw[sx aE,ee.split]at mK;obtain⟨m',h1,aJ⟩:=mK;have em:=bq.1.stop h1;grind[ee.Aq,ew,bE,cC]
   ·have cc:r.1=ah:=by simp_all
    obtain⟨h1,aJ,bp⟩:=aM.1.1 cc;have a5:=h1.iE;refine I.inl ⟨fs+1,by rw[cM aa,aM.2 cc],?_,aa,λj cy=>?_⟩
    ·rw[gd aE,ee.split];grind[ee.one]
    ·rw[gd aE,ig,Ak];by_cases aCd:j<m
     ·grind
     ·have df:(j:Int) ∉ t.aX.take s:=λh=>by
       obtain⟨v',c0,gX,gO⟩:=bq.1.eB _ h;omega
      grind
 ·refine I.aC br λ_=>I.dk ?_;have h1:=bq.1;have h2:=bq.2.2;rw[fz (b5 _)]at h1 h2;unfold Ro;refine I.ret ?_;rw[decide_eq_true_eq];constructor
  ·grind
  ·intro aP;have:=h1.stop aP.1;omega
end
theorem GK{α:Type}{xs:List α}{k:Nat}{x:α}(h:xs[k]? =D x):xs.drop k=[x]++xs.drop (k+1):=Ao h
section
variable {n : Nat} {t : bf}
def yI(t:bf)(i:Nat):Prop:=∀j,j<i->∃a,ee (bd t) (bd t j) a j
def S'(t:bf)(i:Nat)(l:List Int):Prop:=l.length=i/\∀j,j<i->∃a,ee (bd t) (bd t j) a j/\l[j]? =D ((j:Int)+1-a)
theorem amd(ai:c7 t):I (LF (aZ n) t) λl=>(S' t t.nodes.length l)\/(l=[]/\¬yI t t.nodes.length):=by
 have a_:=ai.nodes;unfold LF aaZ;refine I.for t.nodes.length (λi (l:List Int)=>(l,(i:Int))) (λi l=>S' t i l) (t0:=[]) rfl ⟨rfl,λj h=>by omega⟩ (λi l ao bq=>?_) λl bq=>I.aC br λ_=>I.inr (.inl bq);refine I.aC (λ_=>I.g7 ao λx ar=>?_) dv;have m9:=ai.a3 x (cC ar);have fc:=pW ar;have a5:aH ((i:Int)- 1)=(i:Int)- 1:=c8 aa aa;have bk:aH ((x.a3.length:Int)- 1)=(x.a3.length:Int)- 1:=c8 aa aa;rw[a5,bk];unfold aaY;refine I.b8 (λs:Int×Int=>∃b k:Nat,s=((b:Int)- 1,(k:Int)- 1)/\k<=x.a3.length/\b<=i/\ee (bd t) (x.a3.drop k) b i) (λs=>(s.2+1).toNat) ?_ ⟨i,x.a3.length,rfl,b5 _,b5 _,by rw[Do (b5 _)];exact .nil i⟩;rintro _ ⟨b,k,rfl,au,aB,ug⟩;refine I.aC (λbw=>?_) λbw=>?_
 ·obtain⟨cA,rfl⟩:∃cA,k=cA+1:=⟨k- 1,aa⟩
  have c0:((cA+1:Nat):Int)- 1=(cA:Int):=by omega
  rw[c0];refine I.g7 aa λq aE=>?_;refine I.bC (λh=>I.dk (I.dk (I.ret (.inr ⟨rfl,λaV=>?_⟩)))) λh=>?_
  ·
   obtain⟨a,a9⟩:=aV i ao;rw[fc,<-S2 cA x.a3,ee.split]at a9;obtain⟨m,h1,h2⟩:=a9;rw[GK aE,ee.split]at h2;obtain⟨m',aJ,bp⟩:=h2;have em:=ug.GG bp;subst em;obtain⟨j,e,gA,cy⟩:=ee.one.1 aJ;grind
  ·simp only[iM,qy,decide_eq_true_eq,decide_eq_false_iff_not]at h;obtain⟨h1,h2⟩:=h;obtain⟨c,rfl⟩:∃c,b=c+1:=⟨b- 1,aa⟩
   have gA:((c+1:Nat):Int)- 1=(c:Int):=by omega
   rw[gA]at h1⊢;obtain⟨a,aJ,bp⟩:=bq.2 c aa;have gT:=aJ.iE;refine I.aL bp (I.inl ⟨⟨a,cA,?_,aa,aa,?_⟩,?_⟩)
   ·grind[c8]
   ·rw[GK aE,ee.split];grind[ee.one]
   grind[aH,c8]
 ·have:k=0:=by omega
  subst this;have ff:aH ((i:Int)-((b:Int)- 1))=(i:Int)+1-b:=by grind[c8]
  rw[ff];refine I.dk (I.aq (jj (by rw[bq.1];grind)) (I.inl ⟨l++[(i:Int)+1-b],by rw[cM aa],by simp[bq.1],λj ae=>?_⟩));by_cases e:j=i
  ·subst e;exact⟨b,cK,by rw[ud (by rw[bq.1];omega),bq.1];simp⟩
  ·obtain⟨a,h1,h2⟩:=bq.2 j aa;grind
structure ik(t:bf):Prop where
 fI:ee (bd t) t.aX 0 t.nodes.length
 aX:∀k∈t.aX,∃j:Nat,k=j/\bE t j
 o_:∀(i:Nat) x,t.nodes[i]? =D x->hN x/\nL t x/\u2 t x
theorem ame(ai:c7 t):I (LK (aZ n) t) λr=>r=ah↔ik t:=by
 have a_:=ai.nodes;have hm:=ai.aX;unfold LK;refine I.bind (amd ai) λl aK=>?_;refine I.eh (λe5=>I.ret ⟨cF,λa8=>?_⟩) λhe=>?_
 ·exfalso;rcases aK with aK|⟨_,aK⟩
  ·exact e5 (by rw[aK.1])
  ·refine aK λj ae=>?_;obtain⟨c,_,h⟩:=a8.fI.all j (gx _) ae;grind
 ·have eT:S' t t.nodes.length l:=by
   rcases aK with aK|⟨h1,h2⟩
   ·exact aK
   ·subst h1;exfalso;refine h2 λj ae=>?_;grind
  have fJ:∀(i:Nat) x,t.nodes[i]? =D x->∀k∈x.a3,0<=k/\k<t.nodes.length:=λi x ar k au=>by have ao:=(cz.1 ar).1;obtain⟨a,h1,_⟩:=eT.2 i ao;rw[pW ar]at h1;obtain⟨j,e,h2,aJ⟩:=h1.eB k au;omega
  unfold aa5;refine I.for t.nodes.length (λi (_:Unit)=>(i:Int)) (λi _=>∀(j:Nat) x,j<i->t.nodes[j]? =D x->hN x/\nL t x/\u2 t x) (t0:=()) rfl (λj x h=>by omega) (λi _ ao bq=>?_) λ_ bq=>?_
  ·refine I.aC (λ_=>?_) dv;obtain⟨x,ar⟩:∃x,t.nodes[i]? =D x:=⟨_,cq ao⟩
   refine I.bind (al4 (n:=n) ai ar (fJ i x ar)) λb aB=>?_;refine I.bC (λh=>I.dk (I.ret ⟨cF,λa8=>?_⟩)) λh=>I.inl ⟨(),by rw[cM aa],λj y ae bh=>?_⟩
   ·have:=aB.2 (a8.o_ i x ar);simp_all
   grind
  ·refine I.aC br λ_=>I.dk ?_;have amf:∀(i:Nat) x,t.nodes[i]? =D x->hN x/\nL t x/\u2 t x:=λi x ar=>bq i x (cz.1 ar).1 ar;unfold Su aa4;have a5:aH ((t.nodes.length:Int)- 1)=(t.nodes.length:Int)- 1:=c8 aa aa;have bk:aH ((t.aX.length:Int)- 1)=(t.aX.length:Int)- 1:=c8 aa aa;rw[a5,bk];refine I.b8 (λs:Int×Int=>∃b k:Nat,s=((b:Int)- 1,(k:Int)- 1)/\k<=t.aX.length/\b<=t.nodes.length/\ee (bd t) (t.aX.drop k) b t.nodes.length/\∀q∈t.aX.drop k,∃j:Nat,q=j/\bE t j) (λs=>(s.2+1).toNat) ?_ ⟨t.nodes.length,t.aX.length,rfl,b5 _,b5 _,by rw[Do (b5 _)];exact .nil _,by simp⟩;rintro _ ⟨b,k,rfl,au,aB,ug,hn⟩;refine I.aC (λbw=>?_) λbw=>?_
   ·obtain⟨cA,rfl⟩:∃cA,k=cA+1:=⟨k- 1,aa⟩
    have c0:((cA+1:Nat):Int)- 1=(cA:Int):=by omega
    rw[c0];have lF:ik t->∀q,t.aX[cA]? =D q->∃c a:Nat,b=c+1/\q=c/\bE t c/\ee (bd t) (bd t c) a c:=by intro a8 q aE;have a9:=a8.fI;rw[<-S2 cA t.aX,ee.split]at a9;obtain⟨m,h1,h2⟩:=a9;rw[GK aE,ee.split]at h2;obtain⟨m',aJ,bp⟩:=h2;have em:=ug.GG bp;subst em;obtain⟨j,e,gA,cy⟩:=ee.one.1 aJ;obtain⟨e8,gT,cY⟩:=a8.aX q (cC aE);grind
    obtain⟨q,aE⟩:∃q,t.aX[cA]? =D q:=⟨_,cq aa⟩
    refine I.aC (λh1=>I.dk (I.ret ⟨cF,λa8=>?_⟩)) λh1=>?_
    ·grind
    ·obtain⟨c,rfl⟩:∃c,b=c+1:=⟨b- 1,aa⟩
     have gA:((c+1:Nat):Int)- 1=(c:Int):=by omega
     rw[gA];refine I.aL aE (I.eh (λh2=>I.dk (I.ret ⟨cF,λa8=>?_⟩)) λh2=>?_)
     ·simp_all
     ·refine I.g7 aa λx ar=>I.aq (z:=jo x.kind) rfl (I.bC (λaJ=>I.dk (I.ret ⟨cF,λa8=>?_⟩)) λaJ=>?_)
      ·simp_all[bE.at]
      ·obtain⟨a,bp,cy⟩:=eT.2 c aa;have gT:=bp.iE;refine I.aL cy (I.inl ⟨⟨a,cA,?_,aa,aa,?_,?_⟩,?_⟩)
       ·grind[c8]
       ·rw[GK aE,ee.split];grind[ee.one]
       ·intro fs n_;rw[GK aE]at n_;grind[Ak,bE.at]
       grind[aH,c8]
   ·have:k=0:=by omega
    subst this;refine I.inr ?_;rw[decide_eq_true_eq];constructor
    ·intro e;have:b=0:=by omega
     subst this;exact⟨ug,hn,amf⟩
    ·intro a8;have:=ug.GG a8.fI;omega
end
end Go.Proofs.YtgfggdcbhjhegaaGreatDoor

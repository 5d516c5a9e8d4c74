/- Names: the program's test and the reference's say the same of every text. -/
import Derived.Test.YtjfgooffdmnnkaaGreatDoorUD
import Derived.Test.YtjfgooffdmnnkaaGreatDoorF
set_option linter.all false
set_option maxRecDepth 100000
namespace Go.Proofs.YtjfgooffdmnnkaaGreatDoor
open Go Go.Mi Go.RowKit Go.Dp
open Bool renaming true->ad,and_eq_true->dn,not_eq_false'->yz,false->aS,or_eq_false_iff->jy,not_eq_true'->oQ,and_eq_false_iff->agu,or_eq_true->jq
open Classical renaming byContradiction->RJ
open Int renaming eq_ofNat_of_zero_le->w0,toNat_natCast->dA
open Int.ofNat renaming inj->fC
open List renaming mem_of_getElem?->cm,getElem?_eq_some_iff->cz,getElem?_of_mem->hf,drop_of_length_le->HK,getElem?_eq_getElem->bN,take_of_length_le->g4,drop_eq_getElem_cons->l8,take_append_drop->kn,all_eq_true->kX,getElem?_append_right->q2,mem_cons->qf,mem_singleton->ro,length_drop->tQ,mem_append->h3,take_succ->agv
open Nat renaming le_refl->bL,zero_le->fR
open Option renaming bind_some->bE,some->I,bind->au
theorem U{p:Prop}(h:p:=by omega):p:=h
theorem cW{p:Prop}(h:p:=by simp):p:=h
theorem ci{p:Prop}(h:p:=by decide):p:=h
variable {p q:Prop}
theorem bt(h:¬p:=by omega):p->q:=λa=>absurd a h
def d_ {q:Prop}(h:p:=by omega):¬p->q:=λa=>absurd h a
def dF(h:p->q:=by(intro h;cases h)):p->q:=h
theorem dq{p:Prop}(h:p:=by simp_all):p:=h
theorem dZ{p:Prop}(h:p:=by grind):p:=h
def lp(h:¬p:=by decide):p->q:=λa=>absurd a h
def pW(p:Int->Bool)(s:ByteArray)(k:Nat):Bool:=match s[k]? with|some b=>p (b.toNat:Int)|none=>aS
variable {b:UInt8}{k:Nat}{s:ByteArray}
theorem rp{p:Int->Bool}(h:s[k]? =I b):pW p s k=p (b.toNat:Int):=by unfold pW;rw[h]
def HL{R:Type}{body:Int->Option (Int ⊕ R)}(p:Int->Bool){T:R->Prop}{k0:Nat}(bh:k0<=s.size)
  (A3:∀(k:Nat)(b:UInt8),k<s.size->s[k]? =I b->p (b.toNat:Int)=ad->body k=I (.inl ((k+1:Nat):Int)))
  (ap0:∀k:Nat,k0<=k->k<=s.size->(∀j,k0<=j->j<k->pW p s j=ad)->(k<s.size->pW p s k=aS)->D (body k) (jv (λ_=>False) T)):D (fv body (k0:Int)) T:=by
 refine D.b1 (λs':Int=>∃k:Nat,s'=k/\k0<=k/\k<=s.size/\∀j,k0<=j->j<k->pW p s j=ad) (λs'=>s.size-s'.toNat) ?_ ⟨k0,rfl,bL _,bh,λj a b=>by omega⟩;rintro _ ⟨k,rfl,h1,h2,ay⟩;by_cases ap:k<s.size
 ·have e:s[k]? =I s[k]:=getElem?_pos s k ap;cases hp:p ((s[k]).toNat:Int)with
  |true=>rw[A3 k _ ap e hp];refine D.inl ⟨⟨k+1,rfl,U,U,λj a b=>?_⟩,U⟩;grind[rp]
  |false=>
   obtain⟨r,a2,bc⟩:=ap0 k h1 h2 ay λ_=>by rw[rp e,hp]
   refine⟨r,a2,?_⟩;cases r with
   |inl _=>exact bc.elim
   |inr r=>exact bc
 grind
theorem lM(h:s[k]? =I b):gW s (k:Int)=I (b.toNat:Int):=by simp_all[gW,if_pos]
theorem lN{i j:Nat}(h:i<=j)(h2:j<=s.size):iP s (i:Int) (j:Int)=I (s.extract i j):=by unfold iP;rw[if_pos U,aba];simp
def zH(b:Int):Bool:=decide (97<=b)&&decide (b<=122)
def yA(b:Int):Bool:=decide (48<=b)&&decide (b<=57)
def rq(b:Int):Bool:=zH b||yA b
def gP(s:ByteArray):Prop:=pW zH s 0=ad/\(∀j,j<s.size->pW rq s j=ad)/\s ∉ zw/\s.size<=12
theorem agw(b:Int):Px b=I (zH b):=rfl
theorem RK(b:Int):Kz b=I (yA b):=rfl
theorem agx(b:Int):Py b=I (rq b):=by unfold Py;rw[agw,RK,bE,bE];unfold rq;cases zH b<;>rfl
theorem HM(b:Int):OD b=I (zH b):=rfl
theorem yB(b:Int):Kc b=I (yA b):=rfl
section
variable {n : Nat} {s : ByteArray}
def ap1(aQ:s.size< 9223372036854775808):D (Pz (aM n) s) λr=>∃k:Nat,r=k/\k<=s.size/\(∀j,j<k->pW rq s j=ad)/\(k<s.size->pW rq s k=aS):=by
 unfold Pz aeF;refine HL (s:=s) rq (k0:=0) (fR _) (λk b ap aF hp=>?_) λk _ ap h1 h2=>?_
 ·rw[if_pos dq,lM aF,bE,agx,hp,bE,if_pos rfl,bw U]
 ·by_cases h:k<s.size
  ·have e:s[k]? =I s[k]:=getElem?_pos s k h;rw[if_pos dZ,lM e,bE,agx,bE,<-rp (p:=rq) e,h2 h,if_neg cW];grind[D.inr]
  ·rw[if_neg dZ];grind[D.inr]
def ap2(aQ:s.size< 9223372036854775808):D (PC (aM n) s) λr=>∃k:Nat,r=k/\(0<s.size->pW yA s 0=ad->0<k)/\k<=s.size:=by
 unfold PC aeM;refine HL (s:=s) yA (k0:=0) (fR _) (λk b ap aF hp=>?_) λk _ ap h1 h2=>?_
 ·rw[if_pos dq,lM aF,bE,RK,hp,bE,if_pos rfl,bw U]
 ·have kJ:0<s.size->pW yA s 0=ad->0<k:=λa b=>by
   grind
  by_cases h:k<s.size
  ·have e:s[k]? =I s[k]:=getElem?_pos s k h;rw[if_pos dZ,lM e,bE,RK,bE,<-rp (p:=yA) e,h2 h,if_neg cW];grind[D.inr]
  ·rw[if_neg dZ];grind[D.inr]
variable {l:List ByteArray}
def ap3(aC:l.length< 1000000):D (PB (aM n) l s) λr=>r=ad↔s∈l:=by
 unfold PB;refine D.bind (Q:=λz=>0<=z↔s∈l) ?_ λz aP=>D.ret dq;unfold V7 aeL;refine D.for l.length (λk (_:Unit)=>(k:Int)) (λk _=>∀j,j<k->l[j]? ≠I s) (t0:=()) rfl (λj ag=>by omega) (λk _ ap a7=>?_) λ_ a7=>?_
 ·refine D.ar (λ_=>?_) d_;refine D.hA ap λx ak=>?_;refine D.ar (λe=>D.inr ⟨λ_=>?_,λ_=>by omega⟩) λe=>D.inl ⟨(),by grind[bw],λj ag=>?_⟩
  ·grind
  grind
 ·refine D.ar bt λ_=>D.inr ⟨λh=>by omega,λh=>?_⟩;grind[hf,absurd,cz]
def agy(aC:l.length< 1000000):D (OE (aM n) l s) λr=>r=ad↔s∈l:=by
 unfold OE adT;refine D.for l.length (λk (_:Unit)=>(k:Int)) (λk _=>∀j,j<k->l[j]? ≠I s) (t0:=()) rfl (λj ag=>by omega) (λk _ ap a7=>?_) λ_ a7=>?_
 ·refine D.ar (λ_=>?_) d_;refine D.hA ap λx ak=>?_;refine D.ar (λe=>D.inr ⟨λ_=>?_,λ_=>rfl⟩) λe=>D.inl ⟨(),by grind[bw],λj ag=>?_⟩
  ·grind
  grind
 ·refine D.ar bt λ_=>D.inr ⟨dF,λh=>?_⟩;grind[hf,absurd,cz]
variable {k:Nat}
theorem XB(h:k<=s.size):(s.extract 0 k).size=k:=by simp_all
def gP.nil:¬gP ⟨#[]⟩:=λh=>by have:=h.1;revert this;decide
theorem HN(h:k<=s.size):s.extract 0 k=s↔k=s.size:=by
 constructor
 ·intro e;have:=congrArg ByteArray.size e;rwa[XB h]at this
 simp_all
theorem agz:∀x,x∈zw↔x∈(Dz.getD []):=by
 have h1:(zw.all λx=>(Dz.getD []).any λy=>decide (x=y))=ad:=by kernel_rfl
 have h2:((Dz.getD []).all λx=>zw.any λy=>decide (x=y))=ad:=by kernel_rfl
 grind
def ap4(aQ:s.size< 9223372036854775808):D (G0 (aM n) s) λr=>r=ad↔gP s:=by
 unfold G0;refine D.bind (Q:=λz:Int×Int=>(z.2=0/\z.1=1)↔gP s) ?_ λz aP=>D.ret dq;unfold V';have fi:∀{m:Option (Int×ByteArray)},D m (λz=>(z.1=1/\z.2=s)↔gP s)->D (au m λaa=>if((decide (aa.1=0))||(!decide (aa.2=s)))then I ((0:Int),(4:Int))else I (aa.1,0)) (λz:Int×Int=>(z.2=0/\z.1=1)↔gP s):=by
  intro m hm;refine D.bind hm λz aP=>?_;refine D.bK (λh=>D.ret ?_) λh=>D.ret ?_
  ·grind
  simp_all
 refine fi ?_;unfold V_;refine D.ar (λe=>D.ret ⟨λh=>absurd h.1 ci,λh=>absurd (e▸h) gP.nil⟩) λfM=>?_;have bh:0<s.size:=by apply RJ;intro h;have e:s.size=s.data.size:=rfl;exact fM (ByteArray.ext (Array.eq_empty_of_size_eq_zero U))
 refine D.gW (i:=0) bh λb aF=>?_;rw[agw,bE];refine D.bK (λeK=>?_) λeK=>?_
 ·have ap5:pW zH s 0=ad:=by rw[rp aF];exact eK
  refine D.bind (ap1 aQ) ?_;rintro _ ⟨k,rfl,h1,h2,ay⟩;refine D.ae (lN (i:=0) (fR _) h1) ?_;refine D.ae (z:=zw) rfl ?_;refine D.bind (ap3 ci) λc ax=>?_;have ap:gP s->k=s.size:=λh=>by apply RJ;intro fM;have:=ay U;rw[h.2.1 k U]at this;grind
  refine D.bK (λh=>D.ret ⟨λq=>absurd q.1 (show ¬((3:Int)=1) by decide),λq=>?_⟩) λh=>?_
  ·have:=ax.1 h;rw[(HN h1).2 (ap q)]at this;exact absurd this q.2.2.1
  ·have lI:s.extract 0 k ∉ zw:=λq=>by simp_all
   rw[XB h1];refine D.ar (λHO=>D.ret ⟨λq=>?_,λq=>⟨rfl,(HN h1).2 (ap q)⟩⟩) λHO=>D.ret ⟨λq=>absurd q.1 (show ¬((0:Int)=1) by decide),λq=>?_⟩
   ·have e:=(HN h1).1 q.2;have fN:s.extract 0 k=s:=q.2;rw[fN]at lI;exact⟨ap5,λj ag=>h2 j U,lI,U⟩
   ·have:=ap q;have:=q.2.2.2;omega
 ·have dL:¬gP s:=λq=>by have:=q.1;simp_all[rp]
  refine D.gW (i:=0) bh λg5 mF=>?_;have zI:∀{m:Option (Int×ByteArray)},D m (λz=>z.1≠1)->D m (λz=>(z.1=1/\z.2=s)↔gP s):=λh=>h.mono λz aP=>⟨λq=>absurd q.1 aP,λq=>absurd q dL⟩
  refine zI ?_;rw[RK,bE];refine D.bK (λl3=>?_) λl3=>?_
  ·refine D.bind (ap2 aQ) ?_;rintro _ ⟨k,rfl,uy,h1⟩;refine D.ae (lN (i:=0) (fR _) h1) ?_;have En:0<k:=uy bh (by simp_all[rp]);refine D.bind (Q:=λ_=>True) ?_ λc _=>D.bK (λ_=>D.ret (show(2:Int)≠1 by decide)) λ_=>D.ret (show(0:Int)≠1 by decide);unfold V8;refine D.ar (λ_=>D.ar (λ_=>D.ret trivial) λ_=>?_) λ_=>D.ret trivial;exact D.gW (i:=0) dq λ_ _=>D.ret trivial
  ·refine D.ae (z:=KA) rfl ?_;unfold aeP;refine D.for KA.length (λk (_:Unit)=>(k:Int)) (λk _=>True) (t0:=()) rfl trivial (λk _ ap _=>?_) λ_ _=>D.ar bt λ_=>D.inr (show(0:Int)≠1 by decide);refine D.ar (λ_=>D.hA ap λx ak=>?_) d_;refine D.bind (Q:=λ_=>True) ?_ λc _=>D.bK (λ_=>D.inr (show(4:Int)≠1 by decide)) λ_=>D.inl ⟨(),by simpa using bw (by have:KA.length=23:=rfl;omega),trivial⟩;unfold V9 BB;refine D.bind (Q:=λ_=>True) ?_ λc _=>D.ret trivial;refine D.ar (λh=>?_) λ_=>D.ret trivial;exact D.ae (lN (i:=0) (fR _) U) (D.ret trivial)
def ap6(aQ:s.size< 9223372036854775808)(agA:pW zH s 0=ad)(bh:0<s.size):D (OF (aM n) s 0 0) λz:e'=>(z.kind=1/\z.text=s)↔gP s:=by
 unfold OF;have stop:∀k:Nat,k<=s.size->(∀j,j<k->pW rq s j=ad)->(k<s.size->pW rq s k=aS)->D (DA s 0 (aM n) (k:Int)) λz:e'=>(z.kind=1/\z.text=s)↔gP s:=by
  intro k h1 h2 ay;unfold DA;refine D.ae (lN (i:=0) (fR _) h1) ?_;refine D.ae (z:=Dz.getD []) rfl ?_;refine D.bind (agy ci) λc ax=>?_;have ap:gP s->k=s.size:=λh=>by apply RJ;intro fM;have:=ay U;rw[h.2.1 k U]at this;grind
  refine D.bK (λh=>D.ret ⟨λq=>absurd q.1 (show ¬((3:Int)=1) by decide),λq=>?_⟩) λh=>?_
  ·have:=ax.1 h;rw[(HN h1).2 (ap q),<-agz]at this;exact absurd this q.2.2.1
  ·have lI:s.extract 0 k ∉ zw:=λq=>by simp_all[agz]
   rw[XB h1];refine D.ar (λHO=>D.ret ⟨λq=>?_,λq=>⟨rfl,(HN h1).2 (ap q)⟩⟩) λHO=>D.ret ⟨λq=>absurd q.1 (show ¬((0:Int)=1) by decide),λq=>?_⟩
   ·have fN:s.extract 0 k=s:=q.2;have e:=(HN h1).1 fN;rw[fN]at lI;exact⟨agA,λj ag=>h2 j U,lI,U⟩
   ·have:=ap q;have:=q.2.2.2;omega
 refine HL (s:=s) rq (k0:=0) (fR _) (λk b ap aF hp=>?_) λk _ ap h1 h2=>?_
 ·rw[if_pos dq,lM aF,bE,HM,bE,bE,yB,bE,bw U];grind[rq,zH]
 ·by_cases h:k<s.size
  ·have e:s[k]? =I s[k]:=getElem?_pos s k h;have bg:=h2 h;rw[rp e]at bg;unfold rq at bg;simp only[jy]at bg;rw[if_pos dZ,lM e,bE,HM,bE,bg.1,if_neg cW,bE,yB,bE,bg.2,if_neg cW];grind[D.bu]
  ·rw[if_neg dZ];grind[D.bu]
def ap7(aQ:s.size< 9223372036854775808):D (DN (aM n) s) λr=>r=ad↔gP s:=by
 unfold DN;refine D.bind (Q:=λz:Int×Int=>(z.2=0/\z.1=1)↔gP s) ?_ λz aP=>D.ret dq;unfold Kd;refine D.bind (Q:=λz:e'=>(z.kind=1/\z.text=s)↔gP s) ?_ λz aP=>?_
 ·have zI:∀{m:Option e'},¬gP s->D m (λz=>z.kind≠1)->D m (λz:e'=>(z.kind=1/\z.text=s)↔gP s):=λdL h=>h.mono λz aP=>⟨λq=>absurd q.1 aP,λq=>absurd q dL⟩
  have el:(0:Int)≠1:=by decide
  unfold Gz;refine D.ar (λe=>zI (λq=>?_) (D.ret el)) λbh=>?_
  ·have:=q.1;simp_all[pW,getElem?_neg]
  ·have bh:0<s.size:=by omega
   refine D.gW (i:=0) bh λb aF=>?_;rw[HM,bE];refine D.bK (λeK=>ap6 aQ (by rw[rp aF];exact eK) bh) λeK=>?_;refine zI (λq=>by have:=q.1;simp_all[rp]) ?_;refine D.gW (i:=0) bh λg5 mF=>?_;rw[yB,bE];refine D.bK (λl3=>?_) λl3=>?_
   ·have stop:∀k:Nat,0<k->k<=s.size->D (DB s 0 (k:Int)) λz:e'=>z.kind≠1:=by
     intro k ap h1;unfold DB;refine D.ae (lN (i:=0) (fR _) h1) ?_;refine D.ar (λ_=>D.ret (show(2:Int)≠1 by decide)) λ_=>D.ar (λ_=>?_) λ_=>D.ret el;exact D.gW (i:=0) dq λ_ _=>D.bK (λ_=>D.ret (show(2:Int)≠1 by decide)) λ_=>D.ret el
    unfold VE;refine HL (s:=s) yA (k0:=0) (fR _) (λk b ap aF hp=>?_) λk _ ap h1 h2=>?_
    ·rw[if_pos dq,lM aF,bE,yB,hp,bE,if_pos rfl,bw U]
    ·have kJ:0<k:=by
      apply RJ;grind[rp]
     by_cases h:k<s.size
     ·have e:s[k]? =I s[k]:=getElem?_pos s k h;simp_all[if_pos,lM,bE,yB,rp,yA,if_neg,D.bu]
     simp_all[if_neg,D.bu]
   ·refine D.ae (z:=vr.getD []) rfl ?_;unfold VD;have aC:(vr.getD []).length=23:=rfl;have small:∀x∈vr.getD [],x.size< 10:=by
     have h:((vr.getD []).all λx=>decide (x.size< 10))=ad:=by kernel_rfl
     simp_all
    refine D.for (vr.getD []).length (λk (_:Unit)=>(k:Int)) (λk _=>True) (t0:=()) rfl trivial (λk _ ap _=>?_) λ_ _=>D.ar bt λ_=>D.inr el;refine D.ar (λ_=>D.hA ap λx ak=>?_) d_;have agB:=small x (cm ak);have next:D (I (Sum.inl (az ((k:Int)+1))):Option (Int ⊕ e')) (jv (λs'=>∃hs:Unit,s'=((k+1:Nat):Int)/\True) λz:e'=>z.kind≠1):=D.inl ⟨(),by grind[bw],trivial⟩
    have nZ:az (0+(x.size:Int))=(x.size:Int):=by rw[Int.zero_add];exact Jy U
    rw[nZ];refine D.ar (λhle=>?_) λ_=>next
    refine D.ae (lN (i:=0) (fR _) U) ?_;refine D.hA ap λy a9=>D.ar (λ_=>D.hA ap λy _=>D.bu (D.ret (show(4:Int)≠1 by decide))) λ_=>next
 ·refine D.bK (λh=>D.ret ?_) λh=>D.ret ?_
  ·simp_all
  grind
def RL(aQ:s.size< 9223372036854775808):∃b:Bool,G0 (aM n) s=I b/\DN (aM n) s=I b/\(b=ad↔gP s):=by obtain⟨a,h1,h2⟩:=ap4 (n:=n) aQ;obtain⟨b,ay,bl⟩:=ap7 (n:=n) aQ;grind
end
noncomputable def vO(i:Nat)(k:Int):Bool:=(G1 i k).getD aS
theorem ap8{i:Nat}(h:1<=i/\i<=5)(k:Int):G1 i k=I (vO i k):=by
 have:i=1\/i=2\/i=3\/i=4\/i=5:=by omega
 have e:∃b,G1 i k=I b:=by
  rcases this with rfl|rfl|rfl|rfl|rfl
  ·exact⟨_,rfl⟩
  ·exact⟨_,rfl⟩
  ·exact⟨_,rfl⟩
  ·exact⟨_,rfl⟩
  ·exact⟨_,rfl⟩
 grind[vO]
theorem Eo(a b c:Int):ym a b c=I (decide (b<=a)&&decide (a<=c)):=rfl
section
variable {n : Nat}
variable {i:Nat}
def ap9{xs:List Int}(a b:Int)(hi:1<=i/\i<=5)(aC:xs.length< 1000000):PF (aM n) xs a b i=I (!xs.all (vO i)):=by
 have:D (PE (aM n) xs a b i) λz=>(0<=z)↔xs.all (vO i)=aS:=by
  unfold PE aeV;refine D.for xs.length (λk (_:Unit)=>(k:Int)) (λk _=>∀j x,j<k->xs[j]? =I x->vO i x=ad) (t0:=()) rfl (λj _ ag _=>by omega) (λk _ ap a7=>?_) λ_ a7=>?_
  ·refine D.ar (λ_=>D.hA ap λx ak=>?_) d_;unfold Wa;rw[ap8 hi,bE,bE];refine D.bK (λh=>D.inr ⟨λ_=>?_,λ_=>by omega⟩) λh=>D.inl ⟨(),by grind[bw],λj y ag a9=>?_⟩
   ·grind
   grind
  ·refine D.ar bt λ_=>D.inr ⟨λh=>by omega,λh=>?_⟩;grind[List.all_eq_false,hf,absurd,cz]
 obtain⟨z,e,h⟩:=this;grind[PF,vO]
def ow:List lJ->Int
 |[]=>0
 |p::ps=>p.lU+ow ps
noncomputable def rs:List lJ->List Int->Bool
 |[],ks=>decide ((ks.length:Int)=0)
 |p::ps,ks=>decide (p.lU<=(ks.length:Int)-ow ps)&&decide ((ks.length:Int)-ow ps<=p.qs)&&(ks.take ((ks.length:Int)-ow ps).toNat).all (vO p.jK)&&rs ps (ks.drop ((ks.length:Int)-ow ps).toNat)
def agC(ps:List lJ):Prop:=ps.length<=10/\∀p∈ps,0<=p.lU/\p.lU<=1000/\1<=p.jK/\p.jK<=5
def XC:∀{ps:List lJ},(∀p∈ps,0<=p.lU/\p.lU<=1000/\1<=p.jK/\p.jK<=5)->0<=ow ps/\ow ps<=1000*ps.length
 |[],_=>by simp[ow]
 |p::ps,h=>by have h1:=XC (ps:=ps) λq aB=>h q (by simp[aB]);grind[ow,List.length_cons]
theorem agD:∀(a b:List lJ),ow (a++b)=ow a+ow b
 |[],b=>by simp[ow]
 |p::a,b=>by simp only[List.cons_append,ow,agD a b];omega
variable {α:Type}{xs:List α}
theorem uz {j:Nat}(h:i<=j)(h2:j<=xs.length):iC xs (i:Int) (j:Int)=I ((xs.drop i).take (j-i)):=by simp_all[iC,if_pos]
theorem HP{k:Nat}{x:α}(h:xs[k]? =I x):xs.drop k=x::xs.drop (k+1):=by grind[cz,l8]
def aqa{s:uk}{ks:List Int}(hp:agC s.parts)(aC:ks.length<=1000):PG (aM n) s ks=I (rs s.parts ks):=by
 refine D.br ?_;unfold PG aeX;refine D.for s.parts.length (λk (t:List Int)=>(t,(k:Int))) (λk t=>t.length<=1000/\rs (s.parts.drop k) t=rs s.parts ks) (t0:=ks) rfl ⟨aC,rfl⟩ (λk t ap a7=>?_) λt a7=>?_
 ·have sP:=hp.1;refine D.ar (λ_=>D.hA ap λp agE=>?_) d_;have aqb:=hp.2 p (cm agE);rw[bw U];refine D.ae (uz U (bL _)) ?_;have aqc:(s.parts.drop (k+1)).take (s.parts.length-(k+1))=s.parts.drop (k+1):=g4 cW;rw[aqc];unfold aeW;have wy:∀q∈s.parts.drop (k+1),0<=q.lU/\q.lU<=1000/\1<=q.jK/\q.jK<=5:=λq aB=>hp.2 q (List.mem_of_mem_drop aB);have HQ:=XC wy;have hlen:(s.parts.drop (k+1)).length<=10:=by grind
  refine D.for (s.parts.drop (k+1)).length (λj (a:Int)=>(a,(j:Int))) (λj a=>a=ow ((s.parts.drop (k+1)).take j)) (t0:=0) rfl rfl (λj a ag a4=>?_) λa a4=>?_
  ·refine D.ar (λ_=>D.hA ag λq aB=>?_) d_;have XD:=wy q (cm aB);have a2:=XC (ps:=(s.parts.drop (k+1)).take j) λq aB=>wy q (List.mem_of_mem_take aB);have bc:((s.parts.drop (k+1)).take j).length<=10:=by grind
   refine D.inl ⟨az (a+q.lU),by rw[bw U],?_⟩;subst a4;rw[b3 U U,agv,aB];rw[agD];simp[ow]
  ·refine D.ar bt λ_=>?_;refine D.bu ?_;rw[g4 (bL _)]at a4;subst a4;have uy:=a7.2;rw[HP agE]at uy;unfold Wb;rw[Eo,bE,b3 U U];refine D.bK (λh=>D.bu (D.ret ?_)) λh=>?_
   ·grind[rs,oQ,agu,decide_eq_false_iff_not]
   ·simp only[yz,dn,decide_eq_true_eq]at h;have sW:(0:Int)<=(t.length:Int)-ow (s.parts.drop (k+1)):=by omega
    obtain⟨m,hm⟩:=w0 sW;have agF:m<=t.length:=by omega
    rw[hm];refine D.ae (uz (i:=0) (fR _) agF) ?_;have dg:(t.drop 0).take (m- 0)=t.take m:=by simp
    rw[dg];refine D.ae (ap9 _ _ aqb.2.2 dZ) ?_;refine D.bK (λa4=>D.bu (D.ret ?_)) λa4=>?_
    ·grind[rs,dA,oQ]
    ·refine D.ae (uz agF (bL _)) (D.inl ⟨(t.drop m).take (t.length-m),by rw[bw U],?_,?_⟩)
     ·grind
     grind[rs,dA,yz,g4]
 simp_all[D.ar,absurd,D.inr,HK,bL,rs]
end
noncomputable def w1(x:bm):Bool:=(k7 x).getD aS
noncomputable def ti(x:bm):Bool:=(oZ x).getD aS
noncomputable def uA(x:bm)(j:Int)(k:Int):Bool:=(ta x j k).getD aS
noncomputable def o4(k:Int):Bool:=(DM k).getD aS
def tj(k:Int):Bool:=decide (1<=k/\k<=26)||decide (30<=k/\k<=34)||decide (40<=k/\k<=46)
theorem XE(x:bm):k7 x=I (w1 x):=by grind[w1,k7]
theorem Le(x:bm):oZ x=I (ti x):=by grind[ti,oZ]
theorem RM(x:bm)(j k:Int):ta x j k=I (uA x j k):=by grind[uA,ta,zt,zu]
theorem aqd(k:Int):DM k=I (o4 k):=by grind[o4,DM]
variable {ks:List Int}
theorem agG:rs [] ks=decide ((ks.length:Int)=0):=by unfold rs;rfl
theorem agH{p:lJ}:rs [p] ks=(decide (p.lU<=ks.length)&&decide ((ks.length:Int)<=p.qs)&&ks.all (vO p.jK)):=by simp_all[rs,ow,Int.sub_zero,dA,g4,bL,HK,agG]
theorem aqe{p:Int->Bool}{f:Int->Int->Bool}(h:∀j k,f j k=p k):ks.all p=ad↔∀(j:Nat) k,ks[j]? =I k->f j k=ad:=by grind[kX,cm,hf]
structure vP(x:bm)(ks:List Int)(s:uk):Prop where
 named:s.named=o4 x.kind
 parts:agC s.parts
 num:((s.low<=x.n/\x.n<=s.high)\/(x.kind=1/\ -9999<=x.n/\x.n<= -1))↔ti x=ad
 jX:rs s.parts ks=ad↔w1 x=ad/\∀(j:Nat) k,ks[j]? =I k->uA x j k=ad
section
variable {x : bm} {ks : List Int} {eJ : Bool} {lo hi : Int}
theorem vP.z(h1:eJ=o4 x.kind)(h2:((lo<=x.n/\x.n<=hi)\/(x.kind=1/\ -9999<=x.n/\x.n<= -1))↔ti x=ad)(ay:w1 x=decide ((ks.length:Int)=0)):vP x ks ⟨eJ,lo,hi,[]⟩ where
 named:=h1
 parts:=⟨by simp,λp h=>by cases h⟩
 num:=h2
 jX:=by simp_all[agG,List.eq_nil_of_length_eq_zero]
theorem vP.o{a b:Int}{i:Nat}(h1:eJ=o4 x.kind)(h2:((lo<=x.n/\x.n<=hi)\/(x.kind=1/\ -9999<=x.n/\x.n<= -1))↔ti x=ad)(ay:w1 x=ad↔(a<=ks.length/\(ks.length:Int)<=b))(bl:∀j k,uA x j k=vO i k)(bO:0<=a/\a<=1000)(cX:1<=i/\i<=5):vP x ks ⟨eJ,lo,hi,[⟨a,b,i⟩]⟩ where
 named:=h1
 parts:=⟨by simp,λp h=>by simp_all⟩
 num:=h2
 jX:=by rw[agH,ay,<-aqe bl];simp
end
variable {ks:List Int}
theorem aqf{f:Int->Int->Bool}(aC:ks.length<=800)(h:∀j k,f j k=if j=(ks.length:Int)- 1 then vO 1 k else if j=(ks.length:Int)- 2 then vO 3 k else vO 5 k):
  rs [⟨0,801,5⟩,⟨1,1,3⟩,⟨1,1,1⟩] ks=ad↔2<=(ks.length:Int)/\∀(j:Nat) k,ks[j]? =I k->f j k=ad:=by
 unfold rs;simp only[ow,dn,decide_eq_true_eq];by_cases h2:2<=ks.length
 ·obtain⟨m,hm⟩:∃m,ks.length=m+2:=⟨ks.length- 2,U⟩
  have a2:((ks.length:Int)-(1+(1+0))).toNat=m:=by omega
  rw[a2];unfold rs;simp only[ow,dn,decide_eq_true_eq,tQ];have bc:(((ks.length-m:Nat):Int)-(1+0)).toNat=1:=by omega
  rw[bc,agH];simp only[dn,decide_eq_true_eq,tQ,List.drop_drop];have cR:ks.drop m=[ks[m]'U,ks[m+1]'U]:=by rw[l8 U,l8 U,HK U]
  have go:ks.drop (m+1)=[ks[m+1]'U]:=by rw[l8 U,HK U]
  rw[cR,go];simp only[List.take_succ_cons,List.take_zero,List.all_cons,List.all_nil,Bool.and_true];constructor
  ·rintro⟨⟨_,bO⟩,⟨⟨_,ay⟩,⟨_,h1⟩⟩⟩;refine⟨U,λj k ap=>?_⟩;rw[h];have ag:=(cz.1 ap)
   split
   ·grind
   ·split
    ·grind
    ·next a2 bc=>
     refine kX.1 bO k ?_;refine cm (i:=j) ?_;grind
  ·rintro⟨_,iO⟩;refine⟨⟨⟨dq,dZ⟩,kX.2 λk ap=>?_⟩,⟨⟨⟨U,U⟩,?_⟩,⟨⟨U,U⟩,?_⟩⟩⟩
   ·obtain⟨j,ag⟩:=hf ap;grind
   ·have:=iO m _ (bN U);grind
   ·have:=iO (m+1) _ (bN U);grind
 grind
def aqg(x:bm)(h:tj x.kind=aS):∃s,D1 x=I (s,aS):=by
 have cr:∀c,tj c=ad->decide (x.kind=c)=aS:=λc ax=>decide_eq_false (by rintro rfl;rw[h]at ax;cases ax);have aIf:=cr 23 rfl;have aO:¬(6<=x.kind/\x.kind<=18):=λq=>by unfold tj at h;simp only[jy,decide_eq_false_iff_not]at h;omega
 refine⟨?_,?_⟩;rotate_left
 ·unfold D1;simp only[D0,GY,bE,cr 1 rfl,cr 2 rfl,cr 3 rfl,cr 4 rfl,cr 5 rfl,cr 19 rfl,cr 20 rfl,cr 21 rfl,cr 22 rfl,cr 23 rfl,cr 24 rfl,cr 25 rfl,cr 26 rfl,cr 30 rfl,cr 31 rfl,cr 32 rfl,cr 33 rfl,cr 34 rfl,cr 40 rfl,cr 41 rfl,cr 42 rfl,cr 43 rfl,cr 44 rfl,cr 45 rfl,cr 46 rfl,Bool.or_self,Bool.false_eq_true,if_false,ite_false];by_cases cX:6<=x.kind
  ·rw[if_pos (by simpa using cX),if_neg (by simp;omega)]
  ·rw[if_neg (by simpa using cX)]
theorem agI(x:bm)(aC:ks.length<=800)(ap:x.a8.length=ks.length)(a6: -9223372036854775808<=x.n/\x.n<=9223372036854775807)(aU:tj x.kind=ad):∃s,D1 x=I (s,ad)/\vP x ks s:=by
 obtain⟨kind,text,n,a8,at_⟩:=x;simp only at a6 ap aU;have:(kind=1\/kind=2\/kind=3\/kind=4\/kind=5\/kind=6\/kind=7\/kind=8\/kind=9\/kind=10\/kind=11\/kind=12\/kind=13\/kind=14\/kind=15\/kind=16\/kind=17\/kind=18\/kind=19\/kind=20\/kind=21\/kind=22\/kind=23\/kind=24\/kind=25\/kind=26\/kind=30\/kind=31\/kind=32\/kind=33\/kind=34\/kind=40\/kind=41\/kind=43\/kind=44\/kind=45)\/kind=42\/kind=46:=by unfold tj at aU;simp only[jq,decide_eq_true_eq]at aU;omega
 rcases this with this|rfl|rfl
 ·rcases this with rfl|rfl|rfl|rfl|rfl|rfl|rfl|rfl|rfl|rfl|rfl|rfl|rfl|rfl|rfl|rfl|rfl|rfl|rfl|rfl|rfl|rfl|rfl|rfl|rfl|rfl|rfl|rfl|rfl|rfl|rfl|rfl|rfl|rfl|rfl|rfl
  all_goals
   refine⟨_,rfl,?_⟩;first
   |exact vP.z rfl (by simp[ti,oZ]<;>omega) (by rw[<-ap];rfl)
   |exact vP.o rfl (by simp[ti,oZ]<;>omega) (by simp[w1,k7]<;>omega) (λ_ _=>rfl) ci ci
 ·refine⟨_,rfl,⟨rfl,⟨by decide,by decide⟩,by simp[ti,oZ]<;>omega,?_⟩⟩;rw[aqf aC (f:=λj k=>uA ⟨42,text,n,a8,at_⟩ j k) (λj k=>?_)]
  ·refine and_congr ?_ Iff.rfl;simp[w1,k7];omega
  ·have a2:az ((a8.length:Int)- 1)=(ks.length:Int)- 1:=by rw[ap];exact b3 U U
   have bc:az ((a8.length:Int)- 2)=(ks.length:Int)- 2:=by rw[ap];exact b3 U U
   show(ta ⟨42,text,n,a8,at_⟩ j k).getD aS=_;have:ta ⟨42,text,n,a8,at_⟩ j k=if(decide (j=(az ((a8.length:Int)- 1))))then(zt k).bind λai=>I ai else if(decide (j=(az ((a8.length:Int)- 2))))then(zu k).bind λaE=>I aE else I (decide (k=34)):=rfl
   rw[this,a2,bc];by_cases h1:j=(ks.length:Int)- 1
   ·rw[if_pos (by simpa using h1),if_pos h1];rfl
   ·rw[if_neg (by simpa using h1),if_neg h1];by_cases h2:j=(ks.length:Int)- 2
    ·rw[if_pos (by simpa using h2),if_pos h2];rfl
    ·rw[if_neg (by simpa using h2),if_neg h2];rfl
 ·by_cases hq:n=7
  ·subst hq;exact⟨_,rfl,vP.z rfl (by simp[ti,oZ]) (by rw[<-ap];rfl)⟩
  ·by_cases g8:n=8
   ·subst g8;exact⟨_,rfl,vP.o rfl (by simp[ti,oZ]) (by simp[w1,k7]<;>omega) (λ_ _=>rfl) ci ci⟩
   ·have e:Ky n=I ⟨aS,1,8,[⟨1,1,1⟩]⟩:=by
     unfold Ky D0;rw[bE,if_neg (by simpa using hq),if_neg (by simpa using g8)]
    have bc:D1 ⟨46,text,n,a8,at_⟩=au (Ky n) λi9=>I (⟨i9.named,i9.low,i9.high,i9.parts⟩,ad):=rfl;rw[e]at bc;exact⟨_,bc,vP.o rfl (by simp[ti,oZ]) (by simp[w1,k7,hq,g8]<;>omega) (λ_ _=>rfl) ci ci⟩
structure cH(t:aZ):Prop where
 nodes:t.nodes.length<=800
 aD:t.aD.length<=800
 a8:∀x∈t.nodes,x.a8.length<=800/\x.text.size< 9223372036854775808/\ -9223372036854775808<=x.n/\x.n<=9223372036854775807/\0<=x.kind/\x.kind<=255
structure iY(x:bm):Prop where
 kind:tj x.kind=ad
 agJ:0<=x.at_
 agK:x.at_<=2000
 name:o4 x.kind=ad↔gP x.text
 bt:o4 x.kind=aS->x.text=⟨#[]⟩
 Dq:w1 x=ad
 num:ti x=ad
def rt(x:bm)(i:Int):Prop:=∀k∈x.a8,0<=k/\k<i
def pX(t:aZ)(x:bm):Prop:=∀(j:Nat) k y,x.a8[j]? =I k->t.nodes[k.toNat]? =I y->uA x j y.kind=ad
def yC(t:aZ)(x:bm):Prop:=∀k y,k∈x.a8->t.nodes[k.toNat]? =I y->y.kind=1->y.n< 0->x.kind=40
theorem gP.CI{s:ByteArray}(h:gP s):s≠⟨#[]⟩:=λe=>gP.nil (e▸h)
section
variable {n : Nat} {t : aZ}
variable {i:Nat}{x:bm}
def aqh(aj:cH t)(ak:t.nodes[i]? =I x):D (PJ (aM n) t (i:Int)) λr=>r=ad↔iY x/\rt x i/\pX t x:=by
 have o5:=aj.a8 x (cm ak);have hi:i<t.nodes.length:=(cz.1 ak).1;have a6:=aj.nodes;unfold PJ;refine D.aH ak ?_;cases tk:tj x.kind with
 |false=>obtain⟨s,aQ⟩:=aqg x tk;refine D.ae aQ (D.bK (λ_=>D.ret ⟨dF,λh=>?_⟩) dF);have:=h.1.kind;simp_all
 |true=>
  have loop:∀s:uk,D1 x=I (s,ad)->(∀ks:List Int,x.a8.length=ks.length->vP x ks s)->((0<=x.at_/\x.at_<=2000)/\(o4 x.kind=ad↔gP x.text)/\(o4 x.kind=aS->x.text=⟨#[]⟩))->
    D (KC (aM n) x (i:Int) t (s,ad) ()) λr=>r=ad↔iY x/\rt x i/\pX t x:=by
   intro s aQ XF ax;unfold KC aeY;refine D.for x.a8.length (λk (a:List Int)=>(a,(k:Int))) (λk a=>a.length=k/\∀(j:Nat),j<k->∃q y,x.a8[j]? =I q/\0<=q/\q<i/\t.nodes[q.toNat]? =I y/\a[j]? =I y.kind) (t0:=[]) rfl ⟨rfl,λj ag=>by omega⟩ (λk a ap a7=>?_) λa a7=>?_
   ·refine D.ar (λ_=>D.hA ap λq aB=>?_) d_;rw[Eo,bE];have nZ:az ((i:Int)- 1)=(i:Int)- 1:=b3 U U;rw[nZ];refine D.bK (λh=>D.bu (D.ret ⟨dF,λbg=>?_⟩)) λh=>?_
    ·have:=bg.2.1 q (cm aB);grind
    ·simp only[yz,dn,decide_eq_true_eq]at h;grind[D.x8,D.ae,eX,D.inl,bw,q2,List.getElem?_append_left]
   ·refine D.ar bt λ_=>D.bu ?_;have fG:=XF a (by rw[a7.1]);have gM:rt x i:=λq aB=>by
     grind[hf,cz]
    have aqi:(∀(j:Nat) k,a[j]? =I k->uA x j k=ad)↔pX t x:=by
     constructor
     ·intro h j q y aB a9;grind
     ·intro h j k ap;obtain⟨gn,agL,h1,h2,ay,bl,bO⟩:=a7.2 j dZ;rw[ap]at bO;cases bO;exact h j gn agL h1 bl
    unfold Wc;refine D.ae (aqa fG.parts U) ?_;have XG:=fG.jX;rw[aqi]at XG;have agM:=fG.num;refine D.bK (λbg=>?_) λbg=>D.ret ⟨dF,λh=>?_⟩
    ·have agN:=XG.1 bg;have fi:∀{b:Bool},(b=ad↔ti x=ad)->(b=ad↔iY x/\rt x i/\pX t x):=λaF=>by
      rw[aF];exact⟨λh=>⟨⟨tk,ax.1.1,ax.1.2,ax.2.1,ax.2.2,agN.1,h⟩,gM,agN.2⟩,λh=>h.1.num⟩
     rw[Eo,bE];refine D.bK (λh=>D.ret (fi ⟨λ_=>agM.1 (.inl dZ),λ_=>rfl⟩)) λh=>?_;have aae:¬(s.low<=x.n/\x.n<=s.high):=λq=>by simp_all
     refine D.ar (λh1=>?_) λh1=>D.ret (fi ⟨dF,λh=>?_⟩)
     ·simp_all[Eo,bE,D.ret,dn,decide_eq_true_eq,absurd]
     simp_all
    ·have:=XG.2 ⟨h.1.Dq,h.2.2⟩;simp_all
  obtain⟨s,aQ,aqj⟩:=agI x (ks:=x.a8) o5.1 rfl ⟨o5.2.2.1,o5.2.2.2.1⟩ tk;have XF:∀ks:List Int,x.a8.length=ks.length->vP x ks s:=λks kG=>by grind[agI]
  refine D.ae aQ (D.bK dF λ_=>?_);rw[Eo,bE];obtain⟨b,lq,_,ku⟩:=RL (n:=n) o5.2.1;have i_:=aqj.named;refine D.bK (λh=>D.ret ⟨dF,λbg=>?_⟩) λh=>?_
  ·simp only[jq,oQ,agu,decide_eq_false_iff_not]at h;rcases h with(h|h)|h
   ·exact absurd bg.1.agJ h
   ·exact absurd bg.1.agK h
   ·cases e:o4 x.kind with
    |true=>rw[i_,e]at h;have:=(bg.1.name.1 e).CI;simp_all
    |false=>rw[i_,e]at h;have:=bg.1.bt e;simp_all
  ·simp only[jy,yz,dn,decide_eq_true_eq]at h;refine D.bK (λh1=>D.ae lq (D.bK (λh2=>D.ret ⟨dF,λbg=>?_⟩) λh2=>?_)) λh1=>?_
   ·have:=ku.2 (bg.1.name.1 dq);simp_all
   ·simp_all
   ·have dg:o4 x.kind=aS:=by simp_all
    have agO:x.text=⟨#[]⟩:=by simp_all
    exact loop s aQ XF ⟨h.1,⟨λq=>dq,λq=>absurd agO q.CI⟩,λ_=>agO⟩
def aqk(aj:cH t)(ak:t.nodes[i]? =I x)(gM:∀k∈x.a8,0<=k/\k<t.nodes.length):D (O6 (aM n) t (i:Int)) λr=>r=ad↔iY x/\pX t x/\yC t x:=by
 have o5:=aj.a8 x (cm ak);have a6:=aj.nodes;have aql:zt x.kind=I ((decide (1<=x.kind)&&decide (x.kind<=26))&&(!decide (x.kind=25))):=rfl;have aIg:zu x.kind=I (decide (30<=x.kind)&&decide (x.kind<=33)):=rfl;have aIh:O5 x.kind=I (decide (40<=x.kind)&&decide (x.kind<=46)):=rfl;unfold O6;refine D.aH ak ?_;have a8:iY x->D (GK (aM n) x t x.kind) λr=>r=ad↔iY x/\pX t x/\yC t x:=by
  intro bg;unfold GK aed;refine D.for x.a8.length (λk (_:Unit)=>(k:Int)) (λk _=>∀(j:Nat) q y,j<k->x.a8[j]? =I q->t.nodes[q.toNat]? =I y->uA x j y.kind=ad/\(y.kind=1->y.n< 0->x.kind=40)) (t0:=()) rfl (λj _ _ ag=>by omega) (λk _ ap a7=>?_) λ_ a7=>?_
  ·refine D.ar (λ_=>D.hA ap λq aB=>?_) d_;have zJ:=gM q (cm aB);refine D.x8 zJ.1 zJ.2 λy a9=>?_;have ex:ta ⟨x.kind,x.text,x.n,x.a8,x.at_⟩ (k:Int) y.kind=I (uA x k y.kind):=RM x k y.kind;refine D.ae ex ?_;have next:(uA x k y.kind=ad/\(y.kind=1->y.n< 0->x.kind=40))->D (I (Sum.inl (az ((k:Int)+1))):Option (Int ⊕ Bool)) (jv (λs'=>∃hs:Unit,s'=((k+1:Nat):Int)/\∀(j:Nat) q y,j<k+1->x.a8[j]? =I q->t.nodes[q.toNat]? =I y->uA x j y.kind=ad/\(y.kind=1->y.n< 0->x.kind=40)) λr=>r=ad↔iY x/\pX t x/\yC t x):=λh=>D.inl ⟨(),by rw[bw U],λj gn agL ag uc aIi=>by
    grind⟩
   refine D.bK (λh=>D.bu (D.ret ⟨dF,λgf=>?_⟩)) λh=>?_
   ·have:=gf.2.1 k q y aB a9;simp_all
   ·have AG:uA x k y.kind=ad:=by grind
    refine D.ar (λh1=>D.ar (λh2=>D.dB (λay=>D.bu (D.ret ⟨dF,λgf=>?_⟩)) λay=>next ⟨AG,λ_ _=>ay⟩) λh2=>next ⟨AG,λ_ q=>absurd q h2⟩) λh1=>next ⟨AG,λq=>absurd q h1⟩
    exact absurd (gf.2.2 q y (cm aB) a9 h1 h2) ay
  ·refine D.ar bt λ_=>D.inr ⟨λ_=>⟨bg,λj q y aB a9=>(a7 j q y (cz.1 aB).1 aB a9).1,λq y aB a9 h1 h2=>?_⟩,λ_=>rfl⟩;grind[hf,cz]
 have body:tj x.kind=ad->D (GL (aM n) x t x.kind) λr=>r=ad↔iY x/\pX t x/\yC t x:=by
  intro tk;obtain⟨b,_,lq,ku⟩:=RL (n:=n) o5.2.1;have aqm:k7 ⟨x.kind,x.text,x.n,x.a8,x.at_⟩=I (w1 x):=XE x;have aqn:oZ ⟨x.kind,x.text,x.n,x.a8,x.at_⟩=I (ti x):=Le x;have bt:∀{p:Prop},(iY x->p)->¬p->D (I aS) λr=>r=ad↔iY x/\pX t x/\yC t x:=λh1 h2=>D.ret ⟨dF,λh=>absurd (h1 h.1) h2⟩;have rest:(o4 x.kind=ad↔gP x.text)->(o4 x.kind=aS->x.text=⟨#[]⟩)->D (au (k7 ⟨x.kind,x.text,x.n,x.a8,x.at_⟩) λbJ=>if(!bJ)then I aS else(oZ ⟨x.kind,x.text,x.n,x.a8,x.at_⟩).bind λcG=>if(!cG)then I aS else if(decide (x.at_< 0))then I aS else if(decide (2000<x.at_))then I aS else GK (aM n) x t x.kind) λr=>r=ad↔iY x/\pX t x/\yC t x:=by intro h1 h2;refine D.ae aqm (D.bK (λh=>bt (λf=>f.Dq) dZ) λhm=>D.ae aqn (D.bK (λh=>bt (λf=>f.num) dZ) λaqo=>D.ar (λh=>bt (λf=>f.agJ) U) λay=>D.ar (λh=>bt (λf=>f.agK) U) λbl=>a8 ⟨tk,U,U,h1,h2,dq,dq⟩))
  unfold GL;rw[aqd,bE];refine D.ae lq ?_;rw[bE];refine D.bK (λh=>bt (λf=>f.name) λq=>?_) λh=>?_
  ·grind
  ·have aaG:o4 x.kind=b:=by grind
   have agP:o4 x.kind=ad↔gP x.text:=by simp_all
   refine D.bK (λh1=>D.dB (λh2=>bt (λf=>f.bt) λq=>h2 (q dq)) λh2=>rest agP λ_=>h2) λh1=>rest agP λq=>?_;simp_all
 rw[aql,bE];have bad:tj x.kind=aS->D (I aS) λr=>r=ad↔iY x/\pX t x/\yC t x:=λh=>D.ret ⟨dF,λq=>by have:=q.1.kind;simp_all⟩;have cI:tj x.kind=ad↔((1<=x.kind/\x.kind<=26)\/(30<=x.kind/\x.kind<=34)\/(40<=x.kind/\x.kind<=46)):=by unfold tj;grind
 grind
end
inductive eT (bn:Nat->List Int):List Int->Nat->Nat->Prop
 |nil (a:Nat):eT bn [] a a
 |cons {k:Nat} {ks:List Int} {a b:Nat} (h1:eT bn (bn k) a k) (h2:eT bn ks (k+1) b):eT bn ((k:Int)::ks) a b
section
variable {bn : Nat -> List Int}
variable {a b:Nat}{ks:List Int}
theorem eT.jW(h:eT bn ks a b):a<=b:=by
 induction h with
 |nil=>omega
 |cons h1 h2 i1 i2=>omega
def eT.Lf {fo:Nat}(h:eT bn ks a b)(cr:eT bn ks fo b):a=fo:=by
 induction h generalizing fo with
 |nil=>cases cr;rfl
 |@cons k ks a b h1 h2 i1 i2=>
  generalize ap:((k:Int)::ks)=l at cr;cases cr with
  |nil=>cases ap
  |@cons cV aqp _ _ Lg XH=>grind
def eT.stop {g5:Nat}(h:eT bn ks a b)(cr:eT bn ks a g5):b=g5:=by
 induction h generalizing g5 with
 |nil=>cases cr;rfl
 |@cons k ks a b h1 h2 i1 i2=>
  generalize ap:((k:Int)::ks)=l at cr;cases cr with
  |nil=>cases ap
  |@cons cV aqp _ _ Lg XH=>grind
theorem eT.split{xs cO:List Int}:eT bn (xs++cO) a b↔∃m,eT bn xs a m/\eT bn cO m b:=by
 induction xs generalizing a with
 |nil=>exact⟨λh=>⟨a,.nil a,h⟩,λ⟨m,h1,h2⟩=>by cases h1;exact h2⟩
 |cons x xs bx=>
  constructor
  ·intro h;generalize aC:x::xs++cO=l at h;cases h with
   |nil=>cases aC
   |cons h1 h2=>
    injection aC with a2 bc
    subst a2;subst bc;obtain⟨m,ay,bl⟩:=bx.1 h2;exact⟨m,.cons h1 ay,bl⟩
  ·rintro⟨m,h1,h2⟩;generalize aC:x::xs=l at h1;cases h1 with
   |nil=>cases aC
   |cons h1 ay=>
    injection aC with a2 bc
    subst a2;subst bc;exact .cons h1 (bx.2 ⟨m,ay,h2⟩)
variable {k:Int}
theorem eT.one:eT bn [k] a b↔∃j:Nat,k=j/\b=j+1/\eT bn (bn j) a j:=by
 constructor
 ·intro h;generalize aC:[k]=l at h;cases h with
  |nil=>cases aC
  |@cons cV ks _ _ h1 h2=>
   injection aC with a2 bc
   subst bc;cases h2;grind
 ·rintro⟨j,rfl,rfl,h⟩;exact .cons h (.nil _)
theorem eT.Ep:eT bn (k::ks) a b↔∃j:Nat,k=j/\eT bn (bn j) a j/\eT bn ks (j+1) b:=by rw[show k::ks=[k]++ks from rfl,eT.split];grind[eT.one]
def eT.all(h:eT bn ks a b):∀j,a<=j->j<b->∃c,a<=c/\eT bn (bn j) c j:=by
 induction h with
 |nil=>omega
 |@cons k ks a b h1 h2 i1 i2=>intro j U3 m_;have a2:=h1.jW;grind
theorem eT.fw(h:eT bn ks a b):∀k∈ks,∃j:Nat,k=j/\a<=j/\j<b:=by
 induction h with
 |nil=>simp
 |@cons k ks a b h1 h2 i1 i2=>intro q aB;have a2:=h1.jW;have bc:=h2.jW;grind
def eT.w2(h:eT bn ks a b):∀j:Nat,a<=j->j<b->(j:Int)∈ks\/∃p,j<p/\p<b/\(j:Int)∈bn p:=by
 induction h with
 |nil=>omega
 |@cons k ks a b h1 h2 i1 i2=>intro j U3 m_;have bc:=h2.jW;grind
def eT.ub(h:eT bn ks a b):∀j p:Nat,(j:Int)∈ks->a<=p->p<b->(j:Int)∈bn p->False:=by
 induction h with
 |nil=>omega
 |@cons k ks a b h1 h2 i1 i2=>
  intro j p ag XI Dg ap;have a2:=h1.jW;by_cases h:p<k
  ·
   obtain⟨c,ay,bl⟩:=h1.all p XI h;obtain⟨fX,e,bO,cX⟩:=bl.fw _ ap;have e:j=fX:=fC e;subst e;rcases qf.1 ag with e|ag
   ·omega
   ·obtain⟨fX,e,hq,g8⟩:=h2.fw _ ag;omega
  ·by_cases e:p=k
   ·subst e;obtain⟨fX,e,bO,cX⟩:=h1.fw _ ap;have e:j=fX:=fC e;subst e;rcases qf.1 ag with e|ag
    ·omega
    ·obtain⟨fX,e,hq,g8⟩:=h2.fw _ ag;omega
   ·obtain⟨c,ay,bl⟩:=h2.all p U Dg;obtain⟨fX,im,bO,cX⟩:=bl.fw _ ap;grind
theorem eT.agQ(h:eT bn ks a b):∀j p q:Nat,a<=p->p<b->a<=q->q<b->(j:Int)∈bn p->(j:Int)∈bn q->p=q:=by
 have key:∀p q j:Nat,p<q->a<=p->q<b->(j:Int)∈bn p->(j:Int)∈bn q->False:=by intro p q j aqq hp aB h1 h2;obtain⟨c,ox,BW⟩:=h.all q U aB;obtain⟨d,Lh,zK⟩:=h.all p hp U;obtain⟨xJ,a2,ay,bl⟩:=BW.fw _ h2;have a2:j=xJ:=fC a2;subst a2;obtain⟨BX,bc,bO,cX⟩:=zK.fw _ h1;have bc:j=BX:=fC bc;subst bc;exact BW.ub j p h2 U aqq h1
 grind
end
def bn(t:aZ)(i:Nat):List Int:=match t.nodes[i]? with|some x=>x.a8|none=>[]
variable {i:Nat}{t:aZ}{x:bm}
theorem sk(h:t.nodes[i]? =I x):bn t i=x.a8:=by unfold bn;rw[h]
def kT(k:Int):Bool:=decide (40<=k)&&decide (k<=46)
def bP(t:aZ)(i:Nat):Prop:=∃x,t.nodes[i]? =I x/\kT x.kind=ad
theorem bP.at(h:t.nodes[i]? =I x):bP t i↔kT x.kind=ad:=⟨λ⟨y,h1,h2⟩=>by simp_all,λq=>⟨x,h,q⟩⟩
variable {k:Nat}{α:Type}{xs:List α}
theorem da{x:α}(h:xs[k]? =I x):xs.take (k+1)=xs.take k++[x]:=by rw[agv,h];rfl
theorem yD{x:α}(h:xs[k]? =I x):xs=xs.take k++x::xs.drop (k+1):=by rw[<-HP h,kn]
section
variable {n : Nat} {t : aZ}
def aqr(aj:cH t)(gM:∀(i:Nat)(x:bm),t.nodes[i]? =I x->rt x i):∀(k i:Nat)(d:Int)(a:Nat),i<k->i<t.nodes.length->1<=d->d+i<=2000->a<=1000->
  D (G3 (aM n) k (i:Int) d t t (a:Int)) λr=>(r.1=ad↔eT (bn t) (bn t i) a i/\(bP t i↔d=1)/\∀j,a<=j->j<i->¬bP t j)/\(r.1=ad->r.2=((i+1:Nat):Int)):=by
 intro k;induction k with
 |zero=>omega
 |succ k bx=>
  intro i d a ai5 c4 Lh zK a4;have a6:=aj.nodes;obtain⟨x,ak⟩:∃x,t.nodes[i]? =I x:=⟨_,bN c4⟩
  have o5:=aj.a8 x (cm ak);have gL:=sk ak;show D (PK (aM n) (G3 (aM n) k) (i:Int) d t t (a:Int)) _;unfold PK;refine D.aH ak ?_;unfold ae0;refine D.for x.a8.length (λs (m:Nat)=>((s:Int),(m:Int))) (λs m=>eT (bn t) (x.a8.take s) a m/\(m<=i\/m<=a)/\∀j,a<=j->j<m->¬bP t j) (t0:=a) rfl ⟨.nil a,.inr (bL _),λj h1 h2=>by omega⟩ (λs m aQ a7=>?_) λm a7=>?_
  ·refine D.ar (λ_=>D.hA aQ λq aB=>?_) d_;have zJ:=gM i x ak q (cm aB);obtain⟨gn,rfl⟩:=w0 zJ.1;have hle:=a7.1.jW;have aqs:az (d+1)=d+1:=b3 U U;rw[aqs];refine D.bind (bx gn (d+1) m U U U U U) λr aO=>?_;refine D.bK (λh=>D.bu (D.ret ⟨⟨dF,λax=>?_⟩,dF⟩)) λh=>?_
   ·
    exfalso;have bg:r.1=aS:=by grind
    have ox:=ax.1;rw[gL,yD aB,eT.split]at ox;obtain⟨m',h1,h2⟩:=ox;have em:m=m':=a7.1.stop h1;subst em;obtain⟨j,e,ay,bl⟩:=eT.Ep.1 h2;have e:gn=j:=fC e;subst e;have a2:=ay.jW;grind
   ·have cw:r.1=ad:=by grind
    obtain⟨h1,h2,ay⟩:=aO.1.1 cw;have a2:=h1.jW;refine D.inl ⟨gn+1,by rw[bw U,aO.2 cw],?_,U,λj bl bO=>?_⟩
    ·rw[da aB,eT.split];grind[eT.one]
    grind
  ·refine D.ar bt λ_=>D.bu ?_;have xI:eT (bn t) (bn t i) a m:=by
    simp_all
   unfold Wd;refine D.dB (λfM=>D.ret ⟨⟨dF,λax=>?_⟩,dF⟩) λe=>?_
   ·have:=xI.stop ax.1;omega
   ·have e:i=m:=by omega
    subst e;refine D.aH ak (D.ae (z:=kT x.kind) rfl (D.ret ⟨?_,λ_=>bw U⟩));grind[kT,decide,bP,bP.at]
def agR(aj:cH t)(gM:∀(i:Nat)(x:bm),t.nodes[i]? =I x->rt x i)(Li:1000<=n):D (G4 (aM n) t) λr=>r=ad↔eT (bn t) t.aD 0 t.nodes.length/\∀j,j<t.nodes.length->(bP t j↔(j:Int)∈t.aD):=by
 have a6:=aj.nodes;have hm:=aj.aD;unfold G4 ae1;refine D.for t.aD.length (λs (m:Nat)=>((s:Int),(m:Int))) (λs m=>eT (bn t) (t.aD.take s) 0 m/\m<=t.nodes.length/\∀j,j<m->(bP t j↔(j:Int)∈t.aD.take s)) (t0:=0) rfl ⟨.nil 0,fR _,λj h=>by omega⟩ (λs m aQ a7=>?_) λm a7=>?_
 ·refine D.ar (λ_=>D.hA aQ λq aB=>?_) d_;rw[Eo,bE];have nZ:az ((t.nodes.length:Int)- 1)=(t.nodes.length:Int)- 1:=b3 U U;rw[nZ];refine D.bK (λh=>D.bu (D.ret ⟨dF,λax=>?_⟩)) λh=>?_
  ·exfalso;have ox:=ax.1;rw[yD aB,eT.split]at ox;obtain⟨m',h1,h2⟩:=ox;have em:=a7.1.stop h1;subst em;obtain⟨j,e,ay,bl⟩:=eT.Ep.1 h2;have a2:=ay.jW;have bc:=bl.jW;grind
  ·simp only[yz,dn,decide_eq_true_eq]at h;obtain⟨gn,rfl⟩:=w0 (a:=q) U;have uB:Wf (aM n) (gn:Int) 1 t t (m:Int)=G3 (aM n) n (gn:Int) 1 t t (m:Int):=rfl;rw[uB];refine D.bind (aqr (n:=n) aj gM n gn 1 m U U U U U) λr aO=>?_;have hle:=a7.1.jW;have w3:(∀j,j<t.nodes.length->(bP t j↔(j:Int)∈t.aD))->eT (bn t) (gn::t.aD.drop (s+1)) m t.nodes.length->eT (bn t) (bn t gn) m gn->∀j,m<=j->j<gn->¬bP t j:=by
    intro iO ax aF j h1 h2 hi;have bl:=(eT.Ep.1 ax)
    obtain⟨fX,e,bO,cX⟩:=bl;have e:gn=fX:=fC e;subst e;have bc:=cX.jW;have ag:=(iO j U).1 hi;rw[yD aB]at ag;rcases h3.1 ag with ag|ag
    ·obtain⟨BX,cR,hq,g8⟩:=a7.1.fw _ ag;omega
    ·rcases qf.1 ag with cR|ag
     ·omega
     ·obtain⟨BX,cR,hq,g8⟩:=cX.fw _ ag;omega
   refine D.bK (λh=>D.bu (D.ret ⟨dF,λax=>?_⟩)) λh2=>?_
   ·exfalso;have bg:r.1=aS:=by grind
    have ox:=ax.1;rw[yD aB,eT.split]at ox;obtain⟨m',h1,ay⟩:=ox;have em:=a7.1.stop h1;grind[eT.Ep,fC,bP,cm]
   ·have cw:r.1=ad:=by simp_all
    obtain⟨h1,ay,bl⟩:=aO.1.1 cw;have a2:=h1.jW;refine D.inl ⟨gn+1,by rw[bw U,aO.2 cw],?_,U,λj bO=>?_⟩
    ·rw[da aB,eT.split];grind[eT.one]
    ·rw[da aB,h3,ro];by_cases aIj:j<m
     ·grind
     ·have dL:(j:Int) ∉ t.aD.take s:=λh=>by
       obtain⟨BX,cR,hq,g8⟩:=a7.1.fw _ h;omega
      grind
 ·refine D.ar bt λ_=>D.bu ?_;have h1:=a7.1;have h2:=a7.2.2;rw[g4 (bL _)]at h1 h2;unfold Wg;refine D.ret ?_;rw[decide_eq_true_eq];constructor
  ·grind
  ·intro ax;have:=h1.stop ax.1;omega
end
theorem Lj{α:Type}{xs:List α}{k:Nat}{x:α}(h:xs[k]? =I x):xs.drop k=[x]++xs.drop (k+1):=HP h
section
variable {n : Nat} {t : aZ}
def CA(t:aZ)(i:Nat):Prop:=∀j,j<i->∃a,eT (bn t) (bn t j) a j
def XJ(t:aZ)(i:Nat)(l:List Int):Prop:=l.length=i/\∀j,j<i->∃a,eT (bn t) (bn t j) a j/\l[j]? =I ((j:Int)+1-a)
def aqt(aj:cH t):D (O4 (aM n) t) λl=>(XJ t t.nodes.length l)\/(l=[]/\¬CA t t.nodes.length):=by
 have a6:=aj.nodes;unfold O4 aec;refine D.for t.nodes.length (λi (l:List Int)=>(l,(i:Int))) (λi l=>XJ t i l) (t0:=[]) rfl ⟨rfl,λj h=>by omega⟩ (λi l hi a7=>?_) λl a7=>D.ar bt λ_=>D.inr (.inl a7);refine D.ar (λ_=>D.hA hi λx ak=>?_) d_;have o5:=aj.a8 x (cm ak);have gL:=sk ak;have a2:az ((i:Int)- 1)=(i:Int)- 1:=b3 U U;have bc:az ((x.a8.length:Int)- 1)=(x.a8.length:Int)- 1:=b3 U U;rw[a2,bc];unfold aeb;refine D.b1 (λs:Int×Int=>∃b k:Nat,s=((b:Int)- 1,(k:Int)- 1)/\k<=x.a8.length/\b<=i/\eT (bn t) (x.a8.drop k) b i) (λs=>(s.2+1).toNat) ?_ ⟨i,x.a8.length,rfl,bL _,bL _,by rw[HK (bL _)];exact .nil i⟩;rintro _ ⟨b,k,rfl,ap,aF,xI⟩;refine D.ar (λbh=>?_) λbh=>?_
 ·obtain⟨cV,rfl⟩:∃cV,k=cV+1:=⟨k- 1,U⟩
  have cR:((cV+1:Nat):Int)- 1=(cV:Int):=by omega
  rw[cR];refine D.hA U λq aB=>?_;refine D.bK (λh=>D.bu (D.bu (D.ret (.inr ⟨rfl,λaQ=>?_⟩)))) λh=>?_
  ·
   obtain⟨a,a4⟩:=aQ i hi;rw[gL,<-kn cV x.a8,eT.split]at a4;obtain⟨m,h1,h2⟩:=a4;rw[Lj aB,eT.split]at h2;obtain⟨m',ay,bl⟩:=h2;have em:=xI.Lf bl;subst em;obtain⟨j,e,go,bO⟩:=eT.one.1 ay;grind
  ·simp only[jy,yz,decide_eq_true_eq,decide_eq_false_iff_not]at h;obtain⟨h1,h2⟩:=h;obtain⟨c,rfl⟩:∃c,b=c+1:=⟨b- 1,U⟩
   have go:((c+1:Nat):Int)- 1=(c:Int):=by omega
   rw[go]at h1⊢;obtain⟨a,ay,bl⟩:=a7.2 c U;have gN:=ay.jW;refine D.aH bl (D.inl ⟨⟨a,cV,?_,U,U,?_⟩,?_⟩)
   ·grind[b3]
   ·rw[Lj aB,eT.split];grind[eT.one]
   grind[az,b3]
 ·have:k=0:=by omega
  subst this;have gw:az ((i:Int)-((b:Int)- 1))=(i:Int)+1-b:=by grind[b3]
  rw[gw];refine D.bu (D.ae (eX (by rw[a7.1];grind)) (D.inl ⟨l++[(i:Int)+1-b],by rw[bw U],by simp[a7.1],λj ag=>?_⟩));by_cases e:j=i
  ·subst e;exact⟨b,dq,by rw[q2 (by rw[a7.1];omega),a7.1];simp⟩
  ·obtain⟨a,h1,h2⟩:=a7.2 j U;grind
structure dD(t:aZ):Prop where
 ht:eT (bn t) t.aD 0 t.nodes.length
 aD:∀k∈t.aD,∃j:Nat,k=j/\bP t j
 qy:∀(i:Nat) x,t.nodes[i]? =I x->iY x/\pX t x/\yC t x
def aqu(aj:cH t):D (O7 (aM n) t) λr=>r=ad↔dD t:=by
 have a6:=aj.nodes;have hm:=aj.aD;unfold O7;refine D.bind (aqt aj) λl aC=>?_;refine D.dB (λfM=>D.ret ⟨dF,λbg=>?_⟩) λhe=>?_
 ·exfalso;rcases aC with aC|⟨_,aC⟩
  ·exact fM (by rw[aC.1])
  ·refine aC λj ag=>?_;obtain⟨c,_,h⟩:=bg.ht.all j (fR _) ag;grind
 ·have fG:XJ t t.nodes.length l:=by
   rcases aC with aC|⟨h1,h2⟩
   ·exact aC
   ·subst h1;exfalso;refine h2 λj ag=>?_;grind
  have gM:∀(i:Nat) x,t.nodes[i]? =I x->∀k∈x.a8,0<=k/\k<t.nodes.length:=λi x ak k ap=>by have hi:=(cz.1 ak).1;obtain⟨a,h1,_⟩:=fG.2 i hi;rw[sk ak]at h1;obtain⟨j,e,h2,ay⟩:=h1.fw k ap;omega
  unfold aef;refine D.for t.nodes.length (λi (_:Unit)=>(i:Int)) (λi _=>∀(j:Nat) x,j<i->t.nodes[j]? =I x->iY x/\pX t x/\yC t x) (t0:=()) rfl (λj x h=>by omega) (λi _ hi a7=>?_) λ_ a7=>?_
  ·refine D.ar (λ_=>?_) d_;obtain⟨x,ak⟩:∃x,t.nodes[i]? =I x:=⟨_,bN hi⟩
   refine D.bind (aqk (n:=n) aj ak (gM i x ak)) λb aF=>?_;refine D.bK (λh=>D.bu (D.ret ⟨dF,λbg=>?_⟩)) λh=>D.inl ⟨(),by rw[bw U],λj y ag a9=>?_⟩
   ·have:=aF.2 (bg.qy i x ak);simp_all
   grind
  ·refine D.ar bt λ_=>D.bu ?_;have aqv:∀(i:Nat) x,t.nodes[i]? =I x->iY x/\pX t x/\yC t x:=λi x ak=>a7 i x (cz.1 ak).1 ak;unfold VS aee;have a2:az ((t.nodes.length:Int)- 1)=(t.nodes.length:Int)- 1:=b3 U U;have bc:az ((t.aD.length:Int)- 1)=(t.aD.length:Int)- 1:=b3 U U;rw[a2,bc];refine D.b1 (λs:Int×Int=>∃b k:Nat,s=((b:Int)- 1,(k:Int)- 1)/\k<=t.aD.length/\b<=t.nodes.length/\eT (bn t) (t.aD.drop k) b t.nodes.length/\∀q∈t.aD.drop k,∃j:Nat,q=j/\bP t j) (λs=>(s.2+1).toNat) ?_ ⟨t.nodes.length,t.aD.length,rfl,bL _,bL _,by rw[HK (bL _)];exact .nil _,by simp⟩;rintro _ ⟨b,k,rfl,ap,aF,xI,ey⟩;refine D.ar (λbh=>?_) λbh=>?_
   ·obtain⟨cV,rfl⟩:∃cV,k=cV+1:=⟨k- 1,U⟩
    have cR:((cV+1:Nat):Int)- 1=(cV:Int):=by omega
    rw[cR];have sJ:dD t->∀q,t.aD[cV]? =I q->∃c a:Nat,b=c+1/\q=c/\bP t c/\eT (bn t) (bn t c) a c:=by intro bg q aB;have a4:=bg.ht;rw[<-kn cV t.aD,eT.split]at a4;obtain⟨m,h1,h2⟩:=a4;rw[Lj aB,eT.split]at h2;obtain⟨m',ay,bl⟩:=h2;have em:=xI.Lf bl;subst em;obtain⟨j,e,go,bO⟩:=eT.one.1 ay;obtain⟨fX,gN,cX⟩:=bg.aD q (cm aB);grind
    obtain⟨q,aB⟩:∃q,t.aD[cV]? =I q:=⟨_,bN U⟩
    refine D.ar (λh1=>D.bu (D.ret ⟨dF,λbg=>?_⟩)) λh1=>?_
    ·grind
    ·obtain⟨c,rfl⟩:∃c,b=c+1:=⟨b- 1,U⟩
     have go:((c+1:Nat):Int)- 1=(c:Int):=by omega
     rw[go];refine D.aH aB (D.dB (λh2=>D.bu (D.ret ⟨dF,λbg=>?_⟩)) λh2=>?_)
     ·simp_all
     ·refine D.hA U λx ak=>D.ae (z:=kT x.kind) rfl (D.bK (λay=>D.bu (D.ret ⟨dF,λbg=>?_⟩)) λay=>?_)
      ·simp_all[bP.at]
      ·obtain⟨a,bl,bO⟩:=fG.2 c U;have gN:=bl.jW;refine D.aH bO (D.inl ⟨⟨a,cV,?_,U,U,?_,?_⟩,?_⟩)
       ·grind[b3]
       ·rw[Lj aB,eT.split];grind[eT.one]
       ·intro gn uc;rw[Lj aB]at uc;grind[ro,bP.at]
       grind[az,b3]
   ·have:k=0:=by omega
    subst this;refine D.inr ?_;rw[decide_eq_true_eq];constructor
    ·intro e;have:b=0:=by omega
     subst this;exact⟨xI,ey,aqv⟩
    ·intro bg;have:=xI.Lf bg.ht;omega
end
end Go.Proofs.YtjfgooffdmnnkaaGreatDoor

/- Types of nodes, side by side: simple expressions. -/
import Derived.Test.YtgfggdcbhjhegaaGreatDoorWd
set_option linter.all false
set_option maxRecDepth 100000
namespace Go.Proofs.YtgfggdcbhjhegaaGreatDoor
open Go Go.Mi Go.RowKit Go.Dp
open Bool renaming false_eq_true->fe,false_and->hV,and_false->iz,true_and->hJ,false_or->im,and_true->io,or_false->iA,true_or->ip,or_true->iq,true->ah,and_eq_true->ea,or_eq_true->hk,eq_iff_iff->ac3,and_self->ac4,false->aQ
open Int renaming reduceEq->hW,reduceLE->iB
open List renaming getElem?_eq_getElem->cq,map_congr_left->sE,mem_of_getElem?->cC,getElem?_set->rT,ext_getElem?->mr,eq_nil_of_length_eq_zero->nl,length_map->h6,take_of_length_le->fz,dropLast_eq_take->ac5,getElem?_of_mem->fO,find?_append->qC,all_eq_true->kj,map_append->lk
open Option renaming bind_some->cl,some->D
def nf(t:bf)(O:Nat->ByteArray)(j:Nat)(s:ByteArray):Prop:=
 (∃bn:eK,s=bn.bR/\bn.ok/\bn.bR.size<=5*j+20/\∃c,1<=c/\gw t j (2*j+2) bn=D c/\((af t j).kind≠26->c<=8))/\AE t (p1 O j s) j
def pf(n:Nat)(t:bf)(O:Nat->ByteArray)(j:Nat)(M:List (ByteArray×Int))(P:List ByteArray):Prop:=
 ∃s,md (aZ n) ⟨c2 t⟩ (j:Int) t (eN t O j++[fd]) (af t j) (dC t O j,(af t j).kind)=D s/\nG (aZ n) (j:Int) t.nodes t.aX (c2 t) t.nodes.length M P=D (s,P)/\(s=fd\/nf t O j s)
section
variable {n : Nat} {t : bf} {O : Nat -> ByteArray} {j : Nat} {M : List (ByteArray × Int)} {P : List ByteArray}
theorem nf.aY{bn:eK}(h:kp t j bn)(aM:AE t (p1 O j bn.bR) j):nf t O j bn.bR:=by obtain⟨h1,h2,c,aJ,bp,cy⟩:=h;exact⟨⟨bn,rfl,h1,h2,c,aJ,cy,λ_=>bp⟩,aM⟩
theorem ng(s:ByteArray):p1 O j s j=s:=by unfold p1;rw[if_pos rfl]
theorem GZ{s:ByteArray}{m:Nat}(h:m<j):p1 O j s m=O m:=by unfold p1;rw[if_neg aa]
theorem tM(ay:ik t)(ae:j<t.nodes.length)(s:ByteArray):dC t (p1 O j s) j=dC t O j:=by grind[dC,sE,ib,GZ]
theorem qF(ai:c7 t)(ay:ik t)(cL:j' t O j P)(ae:j<t.nodes.length):CD (aZ n) (af t j).a3 t.nodes t.aX (c2 t) t.nodes.length M P=D (dC t O j):=by have:=ai.af ae;rw[ac2 (n:=n) (M:=M) cL aa (ks:=(af t j).a3) aa λq aE=>ib ay ae (by rw[c6 ae];exact aE)];unfold dC;rw[c6 ae]
theorem wr(ay:ik t)(ae:j<t.nodes.length)(h:(6<=(af t j).kind/\(af t j).kind<=18)\/(af t j).kind=20\/(af t j).kind=23):(af t j).a3.length=2:=by
 have hm:=rF ay ae;have:(af t j).kind=6\/(af t j).kind=7\/(af t j).kind=8\/(af t j).kind=9\/(af t j).kind=10\/(af t j).kind=11\/(af t j).kind=12\/(af t j).kind=13\/(af t j).kind=14\/(af t j).kind=15\/(af t j).kind=16\/(af t j).kind=17\/(af t j).kind=18\/(af t j).kind=20\/(af t j).kind=23:=by omega
 unfold jB at hm;rcases this with h|h|h|h|h|h|h|h|h|h|h|h|h|h|h<;> · grind
theorem sF(ae:j<t.nodes.length):(dC t O j).length=(af t j).a3.length:=by unfold dC;rw[h6,c6 ae]
variable {α:Type}{l:List α}
theorem G0(h:l.length=2):∃a b,l=[a,b]:=by
 match l,h with
 |[a,b],_=>simp
theorem G1(h:l.length=1):∃a,l=[a]:=by
 match l,h with
 |[a],_=>simp
theorem anY(h:l.length=3):∃a b c,l=[a,b,c]:=by
 match l,h with
 |[a,b,c],_=>simp
theorem TV(k a b:ByteArray):decide ([k,k]=[a,b])=h4 k [a,b]:=by rw[ac3,decide_eq_true_eq];unfold h4;simp only[List.all_cons,List.all_nil,io,ea,decide_eq_true_eq,List.cons.injEq,and_true];constructor<;>rintro⟨h1,h2⟩<;>exact⟨h1.symm,h2.symm⟩
theorem ac6(k a:ByteArray):decide ([k]=[a])=h4 k [a]:=by rw[ac3,decide_eq_true_eq];unfold h4;grind
theorem DN(ay:ik t)(ae:j<t.nodes.length)(h:(6<=(af t j).kind/\(af t j).kind<=18)\/(af t j).kind=20\/(af t j).kind=23):∃a b,dC t O j=[a,b]:=G0 (by rw[sF ae,wr ay ae h])
theorem DO(s:ByteArray)(b:Bool)(k:Int):rp (s,b,P,k)=D (if b=ah then s else fd,P):=by cases b<;>rfl
variable (ai : c7 t) (ay : ik t) (cL : j' t O j P) (ae : j < t.nodes.length)
include ai ay cL ae
theorem anZ(h:(af t j).kind=1):pf n t O j M P:=by
 have lh:dC t O j=[]:=nl (by grind[sF,rF,jB]);refine⟨e2,?_,I.bN ?_,.inr (nf.aY (bn:=.int) (kp.int j) (.num h (ng _)))⟩
 ·rw[lh];unfold md nH;simp only[h,hW,decide_true,decide_false,fe,if_false,if_true,cl];rw[tL fT];rfl
 ·unfold nG;refine I.aq (cw ae) (I.aq (qF ai ay cL ae) ?_);simp only[h,hW,decide_true,decide_false,fe,if_false,if_true];exact I.ret rfl
theorem an0(h:(af t j).kind=2):pf n t O j M P:=by
 have lh:dC t O j=[]:=nl (by grind[sF,rF,jB]);refine⟨eO,?_,I.bN ?_,.inr (nf.aY (bn:=.bool) (kp.bool j) (.bool h (ng _)))⟩
 ·rw[lh];unfold md nH;simp only[h,hW,decide_true,decide_false,fe,if_false,if_true,cl];rw[tL fT];rfl
 ·unfold nG;refine I.aq (cw ae) (I.aq (qF ai ay cL ae) ?_);simp only[h,hW,decide_true,decide_false,fe,if_false,if_true];exact I.ret rfl
end
section
variable {n : Nat} {t : bf} {O : Nat -> ByteArray} {j : Nat} {M : List (ByteArray × Int)} {P : List ByteArray}
theorem AG(ai:c7 t)(ae:j<t.nodes.length):(dC t O j).length<=1000000:=by rw[sF ae];have:=ai.af ae;omega
theorem one(ay:ik t)(ae:j<t.nodes.length)(h:(af t j).kind=4\/(af t j).kind=5\/(af t j).kind=22):∃a,dC t O j=[a]:=G1 (by rw[sF ae,mf ay ae aa])
variable (ai : c7 t) (ay : ik t) (cL : j' t O j P) (ae : j < t.nodes.length)
include ai ay cL ae
theorem an1(h:(af t j).kind=4\/(af t j).kind=6\/(af t j).kind=7\/(af t j).kind=8\/(af t j).kind=9\/(af t j).kind=10):pf n t O j M P:=by
 have hle:=AG (O:=O) ai ae;refine⟨if h4 e2 (dC t O j)=ah then e2 else fd,?_,I.bN ?_,?_⟩
 ·rcases h with h|h|h|h|h|h
  ·obtain⟨a,aK⟩:=one (O:=O) ay ae (.inl h);rw[aK];unfold md nH;simp only[h,hW,iB,decide_true,decide_false,fe,if_false,if_true,ip,iq,im,iA,hJ,io,hV,iz];rw[cl];simp only[if_true];rw[tL fT,cl,show(⟨#[105,110,116]⟩:ByteArray)=e2 from rfl,ac6];cases h4 e2 [a]<;>rfl
  all_goals
   obtain⟨a,b,aK⟩:=DN (O:=O) ay ae (.inl aa);rw[aK];unfold md nH;simp only[h,hW,iB,decide_true,decide_false,fe,if_false,if_true,ip,iq,im,iA,hJ,io,hV,iz];rw[cl];simp only[if_true];rw[tL fT,cl,show(⟨#[105,110,116]⟩:ByteArray)=e2 from rfl,TV];cases h4 e2 [a,b]<;>rfl
 ·unfold nG;refine I.aq (cw ae) (I.aq (qF ai ay cL ae) ?_);rcases h with h|h|h|h|h|h
  all_goals
   simp only[h,hW,iB,decide_true,decide_false,fe,if_false,if_true,ip,iq,im,iA,hJ,io,hV,iz];refine I.aq (ym _ hle) ?_;rw[DO];exact I.ret rfl
 ·cases aB:h4 e2 (dC t O j)with
  |false=>simp
  |true=>exact .inr (nf.aY (bn:=.int) (kp.int j) (.wm h (by rw[tM ay ae];exact aB) (ng _)))
theorem an2(h:(af t j).kind=5\/(af t j).kind=17\/(af t j).kind=18):pf n t O j M P:=by
 have hle:=AG (O:=O) ai ae;refine⟨if h4 eO (dC t O j)=ah then eO else fd,?_,I.bN ?_,?_⟩
 ·rcases h with h|h|h
  ·obtain⟨a,aK⟩:=one (O:=O) ay ae (.inr (.inl h));rw[aK];unfold md nH;simp only[h,hW,iB,decide_true,decide_false,fe,if_false,if_true,ip,iq,im,iA,hJ,io,hV,iz];rw[cl];simp only[if_true];rw[tL fT,cl,show(⟨#[98,111,111,108]⟩:ByteArray)=eO from rfl,ac6];cases h4 eO [a]<;>rfl
  all_goals
   obtain⟨a,b,aK⟩:=DN (O:=O) ay ae (.inl aa);rw[aK];unfold md nH;simp only[h,hW,iB,decide_true,decide_false,fe,if_false,if_true,ip,iq,im,iA,hJ,io,hV,iz];rw[cl];simp only[if_true];rw[tL fT,cl,show(⟨#[98,111,111,108]⟩:ByteArray)=eO from rfl,TV];cases h4 eO [a,b]<;>rfl
 ·unfold nG;refine I.aq (cw ae) (I.aq (qF ai ay cL ae) ?_);rcases h with h|h|h
  all_goals
   simp only[h,hW,iB,decide_true,decide_false,fe,if_false,if_true,ip,iq,im,iA,hJ,io,hV,iz];refine I.aq (ym _ hle) ?_;rw[DO];exact I.ret rfl
 ·cases aB:h4 eO (dC t O j)with
  |false=>simp
  |true=>exact .inr (nf.aY (bn:=.bool) (kp.bool j) (.wn h (by rw[tM ay ae];exact aB) (ng _)))
theorem an3(h:(af t j).kind=13\/(af t j).kind=14\/(af t j).kind=15\/(af t j).kind=16):pf n t O j M P:=by
 have hle:=AG (O:=O) ai ae;refine⟨if h4 e2 (dC t O j)=ah then eO else fd,?_,I.bN ?_,?_⟩
 ·rcases h with h|h|h|h
  all_goals
   obtain⟨a,b,aK⟩:=DN (O:=O) ay ae (.inl aa);rw[aK];unfold md nH;simp only[h,hW,iB,decide_true,decide_false,fe,if_false,if_true,ip,iq,im,iA,hJ,io,hV,iz];rw[cl];simp only[if_true];rw[tL fT,cl,show(⟨#[105,110,116]⟩:ByteArray)=e2 from rfl,TV];cases h4 e2 [a,b]<;>rfl
 ·unfold nG;refine I.aq (cw ae) (I.aq (qF ai ay cL ae) ?_);rcases h with h|h|h|h
  all_goals
   simp only[h,hW,iB,decide_true,decide_false,fe,if_false,if_true,ip,iq,im,iA,hJ,io,hV,iz];refine I.aq (ym _ hle) ?_;rw[DO];exact I.ret rfl
 ·cases aB:h4 e2 (dC t O j)with
  |false=>simp
  |true=>exact .inr (nf.aY (bn:=.bool) (kp.bool j) (.wo h (by rw[tM ay ae];exact aB) (ng _)))
theorem an4(h:(af t j).kind=11\/(af t j).kind=12):pf n t O j M P:=by
 have hle:=AG (O:=O) ai ae;obtain⟨a,b,aK⟩:=DN (O:=O) ay ae (.inl aa);have TW:h4 e2 [a,b]=(decide (a=e2)&&decide (b=e2)):=by unfold h4;simp
 have vA:h4 eO [a,b]=(decide (a=eO)&&decide (b=eO)):=by unfold h4;simp
 have fin:∀gi:Bool,gi=(h4 e2 [a,b]||h4 eO [a,b])->(if gi=ah then eO else fd)=fd\/nf t O j (if gi=ah then eO else fd):=by
  intro gi aB;cases gi with
  |false=>simp
  |true=>refine .inr (nf.aY (bn:=.bool) (kp.bool j) (.bN h ?_ (ng _)));simp_all[tM,hk]
 refine⟨if(h4 e2 [a,b]||h4 eO [a,b])=ah then eO else fd,?_,I.bN ?_,fin _ rfl⟩
 ·rw[aK];rcases h with h|h
  all_goals
   refine I.bN ?_;unfold md nH;simp only[h,hW,iB,decide_true,decide_false,fe,if_false,if_true,ip,iq,im,iA,hJ,io,hV,iz];rw[cl];simp only[fe,if_false];refine I.aq (z:=a) rfl (I.aq (z:=b) rfl (I.aC (λe=>?_) λe=>I.ret ?_))
   ·subst e;refine I.aq (z:=a) rfl (I.aC (λa5=>I.ret ?_) λa5=>I.aq (z:=a) rfl (I.aC (λbk=>I.ret ?_) λbk=>I.ret ?_))
    ·rw[TW,show a=e2 from a5];simp only[decide_true,ac4,ip,if_true];rfl
    ·simp_all[eO,decide_true,ac4,iq,if_true]
    ·rw[TW,vA,decide_eq_false (show ¬a=e2 from a5),decide_eq_false (show ¬a=eO from bk)];rfl
   ·have h1:(decide (a=e2)&&decide (b=e2))=aQ:=by
     grind
    have h2:(decide (a=eO)&&decide (b=eO))=aQ:=by grind
    rw[TW,vA,h1,h2];rfl
 ·unfold nG;refine I.aq (cw ae) (I.aq (qF ai ay cL ae) ?_);rcases h with h|h
  all_goals
   simp only[h,hW,iB,decide_true,decide_false,fe,if_false,if_true,ip,iq,im,iA,hJ,io,hV,iz];refine I.aq (ym _ hle) ?_;rw[aK,show(⟨#[105,110,116]⟩:ByteArray)=e2 from rfl];cases h4 e2 [a,b]with
   |true=>exact I.ret rfl
   |false=>simp only[fe,if_false,im];refine I.aq (ym _ fT) ?_;rw[DO];exact I.ret rfl
end
section
variable {n : Nat} {t : bf} {O : Nat -> ByteArray} {j : Nat} {M : List (ByteArray × Int)} {P : List ByteArray}
variable (ai : c7 t) (ay : ik t) (cL : j' t O j P) (ae : j < t.nodes.length) (bx : kO t O j)
include ai ay cL ae bx
theorem Na(au:ei (af t j).kind=ah){x:ByteArray}(ar:x∈dC t O j):∃bn,x=bn.bR/\kp t j bn:=by unfold dC at ar;obtain⟨q,aE,rfl⟩:=List.mem_map.1 ar;obtain⟨m,rfl,hm,bn,h1,h2⟩:=ac1 ai ay bx ae au aE;exact⟨bn,h1,h2.mono aa⟩
theorem an5(h:(af t j).kind=19):pf n t O j M P:=by
 have hm:=rF ay ae;unfold jB at hm;have au:ei (af t j).kind=ah:=by rw[h];rfl
 obtain⟨a,b,c,aK⟩:=anY (l:=dC t O j) (by grind[sF]);obtain⟨bn,aB,hB⟩:=Na ai ay cL ae bx au (show b∈dC t O j by grind);refine⟨if a=eO/\b=c then b else fd,?_,I.bN ?_,?_⟩
 ·rw[aK];refine I.bN ?_;unfold md nH;simp only[h,hW,iB,decide_true,decide_false,fe,if_false,if_true,ip,iq,im,iA,hJ,io,hV,iz];rw[cl];simp only[fe,if_false];refine I.aq (z:=a) rfl (I.aC (λe=>I.aq (z:=b) rfl (I.aq (z:=c) rfl (I.aC (λbk=>I.aq (z:=b) rfl (I.ret ?_)) λbk=>I.ret ?_))) λe=>I.ret ?_)
  ·rw[if_pos ⟨e,bk⟩]
  ·rw[if_neg (λq=>bk q.2)];rfl
  ·rw[if_neg (λq=>e q.1)];rfl
 ·unfold nG;refine I.aq (cw ae) (I.aq (qF ai ay cL ae) ?_);simp only[h,hW,iB,decide_true,decide_false,fe,if_false,if_true,ip,iq,im,iA,hJ,io,hV,iz];rw[aK];refine I.aq (z:=b) rfl (I.aq (z:=a) rfl (I.aC (λe=>I.aq (z:=b) rfl (I.aq (z:=c) rfl ?_)) λe=>?_))
  ·rw[DO];have c0:(if decide (b=c)=ah then b else fd)=(if a=eO/\b=c then b else fd):=by
    simp_all[eO,decide_eq_true_eq,true_and]
   exact I.ret (by rw[c0])
  simp_all[DO,eO,fd,if_neg,I.ret]
 ·by_cases aP:a=eO/\b=c
  ·rw[if_pos aP];refine .inr ?_;rw[aB];refine nf.aY hB (.bC h ?_);rw[tM ay ae,aK,ng,aP.1,<-aP.2,aB]
  simp_all
theorem an6(h:(af t j).kind=20):pf n t O j M P:=by
 have au:ei (af t j).kind=ah:=by rw[h];rfl
 obtain⟨a,b,aK⟩:=DN (O:=O) ay ae (.inr (.inl h));obtain⟨bn,aB,hB⟩:=Na ai ay cL ae bx au (show b∈dC t O j by grind);refine⟨b,?_,I.bN ?_,.inr ?_⟩
 ·rw[aK];refine I.bN ?_;unfold md nH;simp only[h,hW,iB,decide_true,decide_false,fe,if_false,if_true,ip,iq,im,iA,hJ,io,hV,iz];rw[cl];simp only[fe,if_false];exact I.aq (z:=b) rfl (I.ret rfl)
 ·unfold nG;refine I.aq (cw ae) (I.aq (qF ai ay cL ae) ?_);simp only[h,hW,iB,decide_true,decide_false,fe,if_false,if_true,ip,iq,im,iA,hJ,io,hV,iz];rw[aK];refine I.aq (z:=b) rfl ?_;exact I.ret rfl
 ·rw[aB];refine nf.aY hB (.lt h a ?_);rw[tM ay ae,aK,ng,aB]
end
section
variable {n : Nat} {t : bf} {O : Nat -> ByteArray} {j : Nat} {M : List (ByteArray × Int)} {P : List ByteArray}
variable (ai : c7 t) (aO : hA t) (cL : j' t O j P) (ae : j < t.nodes.length) (bx : kO t O j) (a_ : 1000000 <= n) (aS : ∀ i, i < t.nodes.length -> gv t i = 0)
include ai aO cL ae bx a_ aS
theorem an7(h:(af t j).kind=3):pf n t O j M P:=by
 have ay:=aO.cZ;obtain⟨d,az,fj⟩:=wi ai ay ae (aS j ae) (by rw[h];rfl);have aV:=fj.AD;unfold ko at aV;rw[h]at aV;simp only[decide_true,if_true,hk,decide_eq_true_eq]at aV;have nQ:aL (c2 t) (j:Int)=D (d:Int):=by rw[wq ae,az]
 have eI:=fj.lt;have A:∀s,C8 (aZ n) t (eN t O j++[fd]) (d:Int)=D s->md (aZ n) ⟨c2 t⟩ (j:Int) t (eN t O j++[fd]) (af t j) (dC t O j,(af t j).kind)=D s:=by intro s aV;refine I.bN ?_;unfold md nH;simp only[h,hW,iB,decide_true,decide_false,fe,if_false,if_true,ip,iq,im,iA,hJ,io,hV,iz];simp_all[cl,fe,if_false,I.aq,I.ret]
 have B:∀s,CE (j:Int) t.nodes t.aX (c2 t) t.nodes.length M P=D s->nG (aZ n) (j:Int) t.nodes t.aX (c2 t) t.nodes.length M P=D (s,P):=by intro s aV;refine I.bN ?_;unfold nG;refine I.aq (cw ae) (I.aq (qF ai ay cL ae) ?_);simp only[h,hW,iB,decide_true,decide_false,fe,if_false,if_true,ip,iq,im,iA,hJ,io,hV,iz];refine I.aq aV ?_;exact I.ret rfl
 have K:((af t d).kind=43\/(af t d).kind=20)->pf n t O j M P:=by
  intro au;have aK:0<(af t d).a3.length:=by grind[mf,tH]
  obtain⟨r,aM,cf⟩:=na ay eI aK;have ar:(af t d).a3[0]? =D (dR t d:Int):=by rw[<-c6 eI,aM];rfl
  have nh:=pb ai ay eI ar;unfold m_ at nh;rw[if_neg aa,if_neg aa,if_neg aa,if_neg aa,if_neg aa]at nh;have mV:dR t d<j:=by
   rcases au with au|au
   ·have:=(fj.gM ay aa).2;omega
   ·have:=(fj.anS ay au).2 (dR t d:Int) (by
     have h2:=tH ay eI au;rw[<-c6 eI,aM]at h2;obtain⟨y,bh⟩:=G1 (l:=r) cK;simp_all)
    omega
  obtain⟨bn,h1,h2⟩:=bx.ex _ mV nh;refine⟨O (dR t d),A _ ?_,B _ ?_,.inr ?_⟩
  ·refine I.bN ?_;unfold C8;refine I.aq (cw eI) (I.aC br λ_=>I.aC br λ_=>I.aL ar (I.aq (TU mV nh) (I.ret rfl)))
  ·refine I.bN ?_;unfold CE;refine I.aq nQ (I.aq (cw eI) (I.bC (λ_=>I.aL ar (I.aq (cL.at mV aa) (I.ret rfl))) λe=>?_));rcases au with au|au<;>simp[au]at e
  ·rw[h1];refine nf.aY (h2.mono aa) (.wl h d az au mV ?_);rw[ng,GZ mV,h1]
 rcases aV with((au|au)|au)|au
 ·refine⟨e2,A _ ?_,B _ ?_,.inr (nf.aY (bn:=.int) (kp.int j) (.wj h d az au (ng _)))⟩
  ·refine I.bN ?_;unfold C8;exact I.aq (cw eI) (I.aC (λ_=>I.ret rfl) λe=>absurd au e)
  ·refine I.bN ?_;unfold CE;refine I.aq nQ (I.aq (cw eI) (I.bC (λe=>?_) λ_=>I.aC br λ_=>I.ret rfl));grind
 ·simp_all
 ·simp_all
 ·have mV:=fj.ot ay au;obtain⟨_,h1,h2⟩:=pc ai ay eI (.inr au);have pG:=(bx.ty _ aa h2).2;refine⟨(dn t d).bR,A _ ?_,B _ ?_,.inr (nf.aY (pG.mono aa) (.wk h d az au (ng _)))⟩
  ·refine I.bN ?_;unfold C8;exact I.aq (cw eI) (I.aC br λ_=>I.aC (λ_=>I.aq (GV ai ay eI (.inr au)) (I.aq (TJ ai aO aa eI au) (I.ret rfl))) λe=>absurd au e)
  ·refine I.bN ?_;unfold CE;refine I.aq nQ (I.aq (cw eI) (I.bC (λe=>?_) λ_=>I.aC (λ_=>I.aq (cL.at mV aa) (I.ret (bx.ot d mV au))) λe=>absurd au e));grind
theorem an8(h:(af t j).kind=21):∃d:Nat,eS t j=d/\d<t.nodes.length/\(af t d).kind=42/\(∀x∈(bd t d).dropLast,x<(j:Int))/\((d:Int)∈t.aX/\d<j\/j<d):=by
 have ay:=aO.cZ;obtain⟨d,az,fj⟩:=wi ai ay ae (aS j ae) (by rw[h];rfl);have aV:=fj.AD;unfold ko at aV;rw[h]at aV;have au:(af t d).kind=42:=by simp_all
 refine⟨d,az,fj.lt,au,λx ar=>?_,?_⟩
 ·rcases fj.pos with h1|h1|h1
  ·obtain⟨m,rfl,hm⟩:=ib ay fj.lt (List.mem_of_mem_take (by rw[ac5]at ar;exact ar));omega
  ·omega
  simp_all
 ·rcases fj.pos with h1|h1|h1
  ·simp_all
  ·omega
  omega
theorem an9(h:(af t j).kind=21):pf n t O j M P:=by
 have ay:=aO.cZ;obtain⟨d,az,eI,b9,cf,_⟩:=an8 ai aO cL ae bx a_ aS h;have nQ:aL (c2 t) (j:Int)=D (d:Int):=by rw[wq ae,az]
 have no:=pY ay eI b9;have h3:=ai.af eI;have fc:=c6 eI;obtain⟨rb,mU,TX⟩:=M7 ai ay eI b9;have dY:(k_ t d:Int)∈(bd t d).dropLast:=by rw[ac5];exact cC (i:=(bd t d).length- 2) dt
 have Nb:k_ t d<j:=by grind
 obtain⟨aoa,aob⟩:=bx.ty _ Nb TX;have aoc:∀q∈dh t d,∃m:Nat,q=m/\m<j/\(af t m).kind=34:=by intro q aE;obtain⟨a,a9⟩:=fO aE;obtain⟨m,rfl,hm,au,_,_⟩:=pe ai ay eI b9 a9;exact⟨m,rfl,by have:=cf _ (acW aE);omega,au⟩
 have qm:(dh t d).map (λq=>O q.toNat)=lw t d:=by unfold lw;apply sE;intro q aE;obtain⟨m,rfl,hm,au⟩:=aoc q aE;exact bx.ot m hm au
 have pF:(dh t d).length=(af t d).a3.length- 2:=by simp_all[dh,List.length_take]
 have vC:(lw t d).length<=1000000:=by grind
 refine⟨if lw t d=dC t O j then(gf t (k_ t d)).bR else fd,I.bN ?_,I.bN ?_,?_⟩
 ·unfold md nH;simp only[h,hW,iB,decide_true,decide_false,fe,if_false,if_true,ip,iq,im,iA,hJ,io,hV,iz];rw[cl];simp only[fe,if_false];refine I.aq nQ (I.aq (M8 ai aO aa eI b9) (I.aq (tL vC) (I.aC (λe=>I.ret (by rw[if_pos e])) λe=>I.ret (by rw[if_neg e];rfl))))
 ·have aod:KK (aZ n) (d:Int) t.nodes t.aX (c2 t) t.nodes.length M P=D (lw t d,(gf t (k_ t d)).bR):=by
   refine I.bN ?_;unfold KK;have lR:aH (((af t d).a3.length:Int)- 2)=(((af t d).a3.length- 2:Nat):Int):=by grind[c8]
   have a5:((af t d).a3.drop 0).take ((af t d).a3.length- 2- 0)=dh t d:=by unfold dh;grind
   refine I.aq (cw eI) ?_;rw[lR];refine I.aq (yb (i:=0) (Nat.zero_le _) aa) ?_;rw[a5];refine I.aq (ac2 cL aa aa λq aE=>by grind) ?_;rw[qm];rw[fc]at rb;exact I.aL rb (I.aq (cL.at Nb aa) (I.ret (by dsimp only;rw[aoa])))
  unfold nG;refine I.aq (cw ae) (I.aq (qF ai ay cL ae) ?_);simp only[h,hW,iB,decide_true,decide_false,fe,if_false,if_true,ip,iq,im,iA,hJ,io,hV,iz];unfold zJ;refine I.aq (z:=if lw t d=dC t O j then(gf t (k_ t d)).bR else fd) (I.bN ?_) (I.ret rfl);refine I.aq (cw ae) ?_;simp only[h,hW,iB,decide_true,decide_false,fe,if_false,if_true,ip,iq,im,iA,hJ,io,hV,iz];exact I.aq nQ (I.aq aod (I.aq (anV vC) (I.aC (λe=>I.ret (by rw[if_pos e])) λe=>I.ret (by rw[if_neg e];rfl))))
 ·by_cases e:lw t d=dC t O j
  ·rw[if_pos e];exact .inr (nf.aY (aob.mono aa) (.call h d az b9 (by simp_all[tM]) (ng _)))
  simp_all
theorem ac7{bn:eK}(hB:kp t j bn){i:Nat}(aM:iN t bn.bR=D i):bn=.hb (af t i).bi/\i<j:=by
 have ay:=aO.cZ;obtain⟨h1,h2,aJ,bp⟩:=oq ay aM;have gu:fF bn.bR:=by grind[Az,AA]
 cases bn with
 |int=>exact absurd gu fF.M2
 |bool=>exact absurd gu fF.M3
 |gl bX k=>exact absurd (p0 _ _) (fF.bw gu)
 |hb s=>obtain⟨c,_,_,cy⟩:=hB.q2;obtain⟨g5,_,cY,gX,_⟩:=DK cy;have bp:(af t i).bi=s:=bp;grind
theorem aoe(eZ:ne t j M)(h:(af t j).kind=22):pf n t O j M P:=by
 have ay:=aO.cZ;have au:ei (af t j).kind=ah:=by rw[h];rfl
 obtain⟨a,aK⟩:=one (O:=O) ay ae (.inr (.inr h));obtain⟨bn,a9,hB⟩:=Na ai ay cL ae bx au (show a∈dC t O j by grind);refine⟨DJ t a (af t j).bi,I.bN ?_,I.bN ?_,?_⟩
 ·rw[aK];unfold md nH;simp only[h,hW,iB,decide_true,decide_false,fe,if_false,if_true,ip,iq,im,iA,hJ,io,hV,iz];rw[cl];simp only[fe,if_false];refine I.aq (I.bN ?_) (I.ret rfl);unfold C_;simp only[h,hW,iB,decide_true,decide_false,fe,if_false,if_true,ip,iq,im,iA,hJ,io,hV,iz];exact I.aq (z:=a) rfl (I.aq (anM ai aO aa _ _) (I.ret rfl))
 ·unfold nG;refine I.aq (cw ae) (I.aq (qF ai ay cL ae) ?_);simp only[h,hW,iB,decide_true,decide_false,fe,if_false,if_true,ip,iq,im,iA,hJ,io,hV,iz];unfold zJ;refine I.aq (z:=DJ t a (af t j).bi) (I.bN ?_) (I.ret rfl);refine I.aq (cw ae) ?_;simp only[h,hW,iB,decide_true,decide_false,fe,if_false,if_true,ip,iq,im,iA,hJ,io,hV,iz];rw[aK];refine I.aq (z:=a) rfl (I.aq (I.bN ?_) (I.ret rfl));unfold RJ;have b2:=eZ a;unfold u7 at b2;unfold DJ;cases qG:iN t a with
  |none=>rw[qG]at b2;dsimp only at b2⊢;rw[b2];exact I.ret rfl
  |some i=>
   rw[a9]at qG;obtain⟨_,r6⟩:=ac7 ai aO cL ae bx a_ aS hB qG;rw[<-a9]at qG;obtain⟨h1,h2,aJ,bp⟩:=oq ay qG;have h3:=ai.af h1;have fc:=c6 h1;rw[qG]at b2;dsimp only at b2⊢;rw[if_pos r6]at b2;rw[b2];refine I.bC cF λ_=>?_;show I ((aL t.nodes (i:Int)).bind _) _;refine I.aq (cw h1) ?_;unfold aae;rw[fc];refine I.for (af t i).a3.length (λa (_:Unit)=>(a:Int)) (λa _=>((af t i).a3.take a).find? (λq=>decide ((af t q.toNat).bi=(af t j).bi))=none) (t0:=()) rfl rfl (λa _ a9 bq=>?_) λ_ bq=>?_
   ·obtain⟨q,aE⟩:∃q,(af t i).a3[a]? =D q:=⟨_,cq a9⟩
    obtain⟨m,rfl,hm,nd⟩:=sC ai ay h1 aJ (show q∈bd t i by grind);have ge:m<t.nodes.length:=by omega
    refine I.aC (λ_=>I.aL aE (I.aq (cw ge) (I.aC (λaV=>I.aq (cL.at (show m<j by omega) aa) (I.inr ?_)) λaV=>I.inl ⟨(),by rw[cM aa],?_⟩))) dv
    ·have:(af t i).a3.find? (λq=>decide ((af t q.toNat).bi=(af t j).bi))=D (m:Int):=by
      rw[sx aE,qC,bq];simp[aV]
     rw[this];exact bx.ot m aa nd
    ·rw[gd aE,qC,bq];simp[aV]
   ·refine I.aC br λ_=>I.inr ?_;rw[fz (Nat.le_refl _)]at bq;rw[bq];rfl
 ·unfold DJ;cases qG:iN t a with
  |none=>simp
  |some i=>
   dsimp only;cases bN:(bd t i).find? λq=>decide ((af t q.toNat).bi=(af t j).bi)with
   |none=>simp
   |some q=>dsimp only;rw[a9]at qG;obtain⟨_,r6⟩:=ac7 ai aO cL ae bx a_ aS hB qG;rw[<-a9]at qG;obtain⟨h1,h2,aJ,bp⟩:=oq ay qG;obtain⟨m,rfl,hm,nd⟩:=sC ai ay h1 aJ (List.mem_of_find?_eq_some bN);obtain⟨_,cy,cY⟩:=pc ai ay (j:=m) aa (.inr nd);have pG:=(bx.ty _ (show dR t m<j by omega) cY).2;exact .inr (nf.aY (bn:=dn t m) (pG.mono aa) (.field h a i (by rw[tM ay ae];exact aK) qG (m:Int) bN (ng _)))
theorem aof(h:(af t j).kind=23):pf n t O j M P:=by
 have ay:=aO.cZ;have e0:=ai.nodes;have au:ei (af t j).kind=ah:=by rw[h];rfl
 obtain⟨a,b,aK⟩:=DN (O:=O) ay ae (.inr (.inr h));obtain⟨bn,a9,hB⟩:=Na ai ay cL ae bx au (show a∈dC t O j by grind);have ff:=hB.size;have aog:Gn (aZ n) a=D bn.qE:=by rw[a9];exact acU a_ hB.ok aa
 have aoh:xS (aZ n) a=D bn.qE:=by rw[a9];exact TN a_ hB.ok aa
 refine⟨if bn.qE.2.2=ah/\b=e2 then bn.qE.1 else fd,I.bN ?_,I.bN ?_,?_⟩
 ·rw[aK];unfold md nH;simp only[h,hW,iB,decide_true,decide_false,fe,if_false,if_true,ip,iq,im,iA,hJ,io,hV,iz];rw[cl];simp only[fe,if_false];refine I.aq (I.bN ?_) (I.ret rfl);unfold C_;simp only[h,hW,iB,decide_true,decide_false,fe,if_false,if_true,ip,iq,im,iA,hJ,io,hV,iz];refine I.aq (z:=a) rfl (I.aq aog (I.bC (λe=>I.aq (z:=b) rfl (I.aC (λbk=>I.ret (by rw[if_pos ⟨e,bk⟩])) λbk=>I.ret (by rw[if_neg (λq=>bk q.2)];rfl))) λe=>I.ret (by rw[if_neg (λq=>by simp_all)];rfl)))
 ·unfold nG;refine I.aq (cw ae) (I.aq (qF ai ay cL ae) ?_);simp only[h,hW,iB,decide_true,decide_false,fe,if_false,if_true,ip,iq,im,iA,hJ,io,hV,iz];unfold zJ;refine I.aq (z:=if bn.qE.2.2=ah/\b=e2 then bn.qE.1 else fd) (I.bN ?_) (I.ret rfl);refine I.aq (cw ae) ?_;simp only[h,hW,iB,decide_true,decide_false,fe,if_false,if_true,ip,iq,im,iA,hJ,io,hV,iz];rw[aK];refine I.aq (z:=a) rfl (I.aq aoh (I.bC (λe=>I.aq (z:=b) rfl (I.aC (λbk=>I.ret (by rw[if_pos ⟨e,bk⟩])) λbk=>I.ret (by rw[if_neg (λq=>bk q.2)];rfl))) λe=>I.ret (by rw[if_neg (λq=>by simp_all)];rfl)))
 ·by_cases e:bn.qE.2.2=ah/\b=e2
  ·rw[if_pos e];cases bn with
   |gl bX k=>
    refine .inr ?_;obtain⟨c,mK,yo,aP⟩:=hB.q2;obtain⟨c',h1,h2,rfl⟩:=DL (d:=2*j+1) aP;have cY:=hB.ok.2;have aCo:(eK.gl bX k).bR.size=bX.bR.size+5:=tK _ _;have u9:kp t j bX:=⟨hB.ok.1,aa,c',by grind,h2,wg h1 aa (Nat.le_refl _)⟩
    refine nf.aY u9 (.index h bX k ?_ (ng _));rw[tM ay ae,aK,a9,e.2]
   |int=>cases e.1
   |bool=>cases e.1
   |hb s=>cases e.1
  simp_all
end
section
variable {n : Nat} {t : bf} {O : Nat -> ByteArray} {j : Nat} {M : List (ByteArray × Int)} {P : List ByteArray}
variable (ai : c7 t) (aO : hA t) (cL : j' t O j P) (ae : j < t.nodes.length) (bx : kO t O j) (a_ : 1000000 <= n) (aS : ∀ i, i < t.nodes.length -> gv t i = 0)
include ai aO cL ae bx a_ aS
theorem aoi(h:(af t j).kind=24):pf n t O j M P:=by
 have ay:=aO.cZ;have hle:=AG (O:=O) ai ae;have vB:=ai.af ae;have aCp:=c6 ae;obtain⟨r,az,fj⟩:=wi ai ay ae (aS j ae) (by rw[h];rfl);have aV:=fj.AD;unfold ko at aV;rw[h]at aV;have j8:(af t r).kind=41:=by simp_all
 have Nb:=(fj.gM ay aa).2;have aM:iN t (af t j).bi=D r:=by rw[<-fj.bi];grind[TR]
 have nh:=ai.af fj.lt;have aCq:=c6 fj.lt;have nQ:aL (c2 t) (j:Int)=D (r:Int):=by rw[wq ae,az]
 have oT:nc t r=(bd t r).map λq=>O q.toNat:=by unfold nc;apply sE;intro q aE;obtain⟨m,rfl,hm,au⟩:=sC ai ay fj.lt j8 aE;exact(bx.ot m aa au).symm
 refine⟨if nb t r=(bd t j).map (λq=>(af t q.toNat).bi)/\nc t r=dC t O j then(af t j).bi else fd,I.bN ?_,I.bN ?_,?_⟩
 ·unfold md nH;simp only[h,hW,iB,decide_true,decide_false,fe,if_false,if_true,ip,iq,im,iA,hJ,io,hV,iz];rw[cl];simp only[fe,if_false];refine I.aq (I.bN ?_) (I.ret rfl);unfold C_;simp only[h,hW,iB,decide_true,decide_false,fe,if_false,if_true,ip,iq,im,iA,hJ,io,hV,iz];refine I.aq (M6 ai aO aa _) ?_;rw[aM];dsimp only;unfold abn;refine I.for (af t j).a3.length (λa (o:List ByteArray)=>(o,(a:Int))) (λa o=>o=((bd t j).take a).map λq=>(af t q.toNat).bi) (t0:=[]) rfl rfl (λa o a9 bq=>?_) λo bq=>?_
  ·subst bq;obtain⟨q,aE⟩:∃q,(af t j).a3[a]? =D q:=⟨_,cq a9⟩
   obtain⟨m,rfl,hm⟩:=ib ay ae (show q∈bd t j by grind);refine I.aC (λ_=>I.aL aE (I.aq (cw (show m<t.nodes.length by omega)) (I.aq (jj dt) (I.inl ⟨_,by rw[cM aa],?_⟩)))) λh=>absurd cK h;simp_all[gd,lk]
  ·subst bq;refine I.aC (λh=>absurd h fT) λ_=>I.dk ?_;rw[fz cK];unfold SK L2;refine I.aq (tL (by grind[nb,h6])) (I.aC (λa5=>I.aq (tL dt) (I.aC (λbk=>I.ret ?_) λbk=>I.ret ?_)) λa5=>I.ret ?_)
   ·rw[if_pos ⟨a5,bk⟩]
   ·rw[if_neg (λq=>bk q.2)];rfl
   ·rw[if_neg (λq=>a5 q.1)];rfl
 ·have aoj:I (KU (aZ n) (af t j).a3 (af t r).a3 t.nodes t.aX (c2 t) t.nodes.length M P) λb=>b=ah↔(nb t r=(bd t j).map (λq=>(af t q.toNat).bi)/\nc t r=dC t O j):=by
   unfold KU;refine I.eh (λaK=>I.ret ⟨cF,λq=>?_⟩) λaK=>?_
   ·have:=congrArg List.length q.2;grind[nc,dC,h6]
   unfold aam;have aK:(af t j).a3.length=(af t r).a3.length:=by omega
   refine I.for (af t j).a3.length (λi (_:Unit)=>(i:Int)) (λi _=>∀(a:Nat)(p q:Int),a<i->(af t j).a3[a]? =D p->(af t r).a3[a]? =D q->(af t p.toNat).bi=(af t q.toNat).bi/\O p.toNat=O q.toNat) (t0:=()) rfl (λa p q h=>by omega) (λi _ ao bq=>?_) λ_ bq=>?_
   ·obtain⟨p,hp⟩:∃q,(af t j).a3[i]? =D q:=⟨_,cq ao⟩
    obtain⟨q,aE⟩:∃q,(af t r).a3[i]? =D q:=⟨_,cq aa⟩
    obtain⟨r',rfl,Tz⟩:=ib ay ae (show p∈bd t j by grind);obtain⟨fs,rfl,n_⟩:=ib ay fj.lt (show q∈bd t r by grind);have pF:r'<t.nodes.length:=by omega
    have om:fs<t.nodes.length:=by omega
    have br:¬((af t r').bi=(af t fs).bi/\O r'=O fs)->¬(nb t r=(bd t j).map (λq=>(af t q.toNat).bi)/\nc t r=dC t O j):=by
     intro df jN;refine df ⟨?_,?_⟩
     ·have:=congrArg (λl=>l[i]?) jN.1;grind[nb,Option.some.inj]
     ·have:=congrArg (λl=>l[i]?) jN.2;grind[dC,Option.some.inj]
    refine I.aC (λ_=>I.aL hp (I.aL aE (I.bind (Q:=λb=>b=ah↔(af t r').bi=(af t fs).bi/\O r'=O fs) ?_ λb aB=>I.bC (λe=>I.inr ⟨cF,λq=>?_⟩) λe=>I.inl ⟨(),by rw[cM aa],λa x y a9 ar bh=>?_⟩))) dv
    ·unfold RN;refine I.aq (cw pF) (I.aq (cw om) (I.aC (λe=>I.aq (cL.at (show r'<j by omega) aa) (I.aq (cL.at (show fs<j by omega) aa) (I.ret ?_))) λe=>I.ret ⟨cF,λq=>absurd q.1 e⟩));simp_all
    ·simp_all
    grind
   ·refine I.aC br λ_=>I.inr ⟨λ_=>⟨?_,?_⟩,λ_=>rfl⟩
    ·unfold nb;apply mr;grind
    ·rw[oT];unfold dC;apply mr;grind
  unfold nG;refine I.aq (cw ae) (I.aq (qF ai ay cL ae) ?_);simp only[h,hW,iB,decide_true,decide_false,fe,if_false,if_true,ip,iq,im,iA,hJ,io,hV,iz];unfold zJ;refine I.aq (I.bN ?_) (I.ret rfl);refine I.aq (cw ae) ?_;simp only[h,hW,iB,decide_true,decide_false,fe,if_false,if_true,ip,iq,im,iA,hJ,io,hV,iz];refine I.aq nQ (I.aq (cw fj.lt) (I.bind aoj λb aB=>I.bC (λe=>I.ret ?_) λe=>I.ret ?_))
  ·rw[if_pos (aB.1 e)]
  ·rw[if_neg (λq=>by simp_all)];rfl
 ·by_cases e:nb t r=(bd t j).map (λq=>(af t q.toNat).bi)/\nc t r=dC t O j
  ·rw[if_pos e];have gu:=Az ay ae (AA _ aa);obtain⟨c,h1,h2,aJ⟩:=bx.hb r Nb j8;rw[fj.bi]at aJ;have hB:kp t j (.hb (af t j).bi):=⟨gu,by have:=gu.2.2.2;show(af t j).bi.size<=_;omega,c,h1,h2,wg aJ aa aa⟩
   exact .inr (nf.aY hB (.wp h r az aM e.1.symm (by simp_all[tM]) (ng _)))
  simp_all
theorem aok(h:(af t j).kind=26):pf n t O j M P:=by
 have ay:=aO.cZ;have e0:=ai.nodes;have hle:=AG (O:=O) ai ae;have au:ei (af t j).kind=ah:=by rw[h];rfl
 obtain⟨Am,DE⟩:=acP aO ae h;have rG:=sF (O:=O) ae;obtain⟨x,ar⟩:∃x,(dC t O j)[0]? =D x:=⟨_,cq aa⟩
 obtain⟨q,aE⟩:∃q,(bd t j)[0]? =D q:=⟨_,cq (by rw[c6 ae];omega)⟩
 obtain⟨m,rfl,hm,bn,h1,hB⟩:=ac1 ai ay bx ae au (cC aE);have m9:x=O m:=by grind[dC,Option.some.inj]
 have aol:x=bn.bR:=by rw[m9,h1]
 have ff:=hB.size;have q8:aL (dC t O j) 0=D x:=e3 (i:=0) ar;have hlen:((dC t O j).length:Int)=(((af t j).a3.length:Nat):Int):=by rw[rG]
 refine⟨if h4 x (dC t O j)=ah then hU x (af t j).a3.length else fd,I.bN ?_,I.bN ?_,?_⟩
 ·unfold md nH;simp only[h,hW,iB,decide_true,decide_false,fe,if_false,if_true,ip,iq,im,iA,hJ,io,hV,iz];rw[cl];simp only[fe,if_false];refine I.aq (I.bN ?_) (I.ret rfl);unfold C_;simp only[h,hW,iB,decide_true,decide_false,fe,if_false,if_true,ip,iq,im,iA,hJ,io,hV,iz];unfold abm;refine I.for ((dC t O j).length- 1) (λi (_:Unit)=>((i+1:Nat):Int)) (λi _=>∀a y,a<i+1->(dC t O j)[a]? =D y->y=x) (t0:=()) rfl (λa y a9 bh=>?_) (λi _ ao bq=>?_) λ_ bq=>?_
  ·simp_all
  ·obtain⟨y,bh⟩:∃y,(dC t O j)[i+1]? =D y:=⟨_,cq aa⟩
   refine I.aC (λ_=>I.aq (e3 bh) (I.aq q8 (I.eh (λe=>I.inr ?_) λe=>I.inl ⟨(),by rw[cM aa],λa z a9 bj=>?_⟩))) dv
   ·rw[if_neg];rfl;intro q;exact e (of_decide_eq_true (kj.1 q y (cC bh)))
   grind
  ·refine I.aC br λ_=>I.dk (I.aq q8 ?_);rw[hlen];refine I.aq (GS aa dt ⟨Am,DE⟩) (I.ret ?_);rw[if_pos];refine kj.2 λy bh=>decide_eq_true ?_;grind[fO,List.getElem?_eq_some_iff]
 ·unfold nG;refine I.aq (cw ae) (I.aq (qF ai ay cL ae) ?_);simp only[h,hW,iB,decide_true,decide_false,fe,if_false,if_true,ip,iq,im,iA,hJ,io,hV,iz];unfold zJ;refine I.aq (I.bN ?_) (I.ret rfl);refine I.aq (cw ae) ?_;simp only[h,hW,iB,decide_true,decide_false,fe,if_false,if_true,ip,iq,im,iA,hJ,io,hV,iz];refine I.aq q8 (I.aq (ym x hle) (I.bC (λe=>I.aq q8 ?_) λe=>I.ret ?_))
  ·rw[hlen];exact I.aq (acG dt ⟨Am,DE⟩) (I.ret (by rw[if_pos e]))
  ·rw[if_neg dt];rfl
 ·by_cases e:h4 x (dC t O j)=ah
  ·rw[if_pos e];refine .inr ⟨⟨.gl bn (af t j).a3.length,by rw[aol];rfl,⟨hB.ok,Am,DE⟩,?_,?_⟩,.gl h x (by rw[tM ay ae];exact e) (by rw[ng,c6 ae])⟩
   ·show(hU _ _).size<=_;rw[tK];omega
   ·obtain⟨c,mK,yo,aP⟩:=hB.q2;refine⟨(af t j).a3.length*c,Nat.mul_pos aa aa,?_,λdp=>absurd h dp⟩;show gw t j (2*j+1+1) _=_;unfold gw;rw[wg aP (show 2*m+2<=2*j+1 by omega) (show m<=j by omega)];dsimp only;rw[if_pos yo]
  simp_all
theorem aom(eZ:ne t j M)(au:ei (af t j).kind=ah):pf n t O j M P:=by
 have ay:=aO.cZ;have nM:=au;unfold ei at nM;simp only[ea,decide_eq_true_eq,Bool.not_eq_true',decide_eq_false_iff_not]at nM;have:(af t j).kind=1\/(af t j).kind=2\/(af t j).kind=3\/((af t j).kind=4\/(af t j).kind=6\/(af t j).kind=7\/(af t j).kind=8\/(af t j).kind=9\/(af t j).kind=10)\/((af t j).kind=5\/(af t j).kind=17\/(af t j).kind=18)\/((af t j).kind=11\/(af t j).kind=12)\/((af t j).kind=13\/(af t j).kind=14\/(af t j).kind=15\/(af t j).kind=16)\/(af t j).kind=19\/(af t j).kind=20\/(af t j).kind=21\/(af t j).kind=22\/(af t j).kind=23\/(af t j).kind=24\/(af t j).kind=26:=by omega
 rcases this with h|h|h|h|h|h|h|h|h|h|h|h|h|h
 ·exact anZ ai ay cL ae h
 ·exact an0 ai ay cL ae h
 ·simp_all[an7]
 ·exact an1 ai ay cL ae h
 ·exact an2 ai ay cL ae h
 ·exact an4 ai ay cL ae h
 ·exact an3 ai ay cL ae h
 ·exact an5 ai ay cL ae bx h
 ·exact an6 ai ay cL ae bx h
 ·simp_all[an9]
 ·simp_all[aoe]
 ·simp_all[aof]
 ·simp_all[aoi]
 simp_all[aok]
end
structure G2(t:bf)(O:Nat->ByteArray)(j:Nat)(v:ByteArray):Prop where
 ex:ei (af t j).kind=ah->(∃bn,v=bn.bR/\kp t j bn)/\AE t (p1 O j v) j
 ty:k9 (af t j).kind=ah->v=(gf t j).bR/\kp t j (gf t j)
 ot:(af t j).kind=34->v=(dn t j).bR
 put:(af t j).kind=25->v=O (dR t j)
 TS:jo (af t j).kind=ah->v=fd
 hb:(af t j).kind=41->∃c,1<=c/\c<=8/\gw t (j+1) (2*j+1) (.hb (af t j).bi)=D c
 fn:(af t j).kind=42->O (ey t j)=(gf t (k_ t j)).bR
section
variable {n : Nat} {t : bf} {O O' : Nat -> ByteArray} {j : Nat} {M : List (ByteArray × Int)} {P : List ByteArray}
variable {i:Nat}
theorem aon(ay:ik t)(ao:i<t.nodes.length)(h:∀m,m<i->O m=O' m):dC t O i=dC t O' i:=by grind[dC,sE,ib]
theorem AE.congr(ay:ik t)(ao:i<t.nodes.length)(h:∀m,m<=i->O m=O' m)(aM:AE t O i):AE t O' i:=by
 have aK:=aon (O:=O) (O':=O') ay ao λm hm=>h m aa;have vk:=h i (Nat.le_refl _);cases aM with
 |num h1 e=>exact .num h1 cK
 |bool h1 e=>exact .bool h1 cK
 |wj h1 d h2 aJ e=>exact .wj h1 d h2 aJ cK
 |wk h1 d h2 aJ e=>exact .wk h1 d h2 aJ cK
 |wl h1 d h2 aJ lt e=>exact .wl h1 d h2 aJ lt dt
 |wm h1 h2 e=>exact .wm h1 cK cK
 |wn h1 h2 e=>exact .wn h1 cK cK
 |bN h1 h2 e=>exact .bN h1 cK cK
 |wo h1 h2 e=>exact .wo h1 cK cK
 |bC h1 h2=>exact .bC h1 cK
 |lt h1 x h2=>exact .lt h1 x cK
 |call h1 d h2 aJ bp e=>exact .call h1 d h2 aJ cK cK
 |field h1 s r h2 aJ q bp e=>exact .field h1 s r cK aJ q bp cK
 |index h1 bX k h2 e=>exact .index h1 bX k cK cK
 |wp h1 r h2 aJ bp cy e=>exact .wp h1 r h2 aJ bp cK cK
 |gl h1 x h2 e=>exact .gl h1 x cK cK
theorem aoo(ay:ik t)(ao:i<t.nodes.length)(h:(af t i).kind=25):dR t i<i:=by obtain⟨_,_,h⟩:=na ay ao (by simp_all[mf]);exact h
theorem kO.ij(ai:c7 t)(ay:ik t)(ae:j<t.nodes.length)(bx:kO t O j){v:ByteArray}(ii:G2 t O j v):kO t (p1 O j v) (j+1):=by
 have hu:∀m,m<j->p1 O j v m=O m:=λm hm=>GZ hm;have aV:=ng (O:=O) (j:=j) v;constructor
 ·intro i ao au;by_cases e:i=j
  ·subst e;rw[aV];exact(ii.ex au).1
  ·rw[hu i aa];exact bx.ex i aa au
 ·intro i ao au;by_cases e:i=j
  ·subst e;rw[aV];exact ii.ty au
  ·rw[hu i aa];exact bx.ty i aa au
 ·intro i ao au;by_cases e:i=j
  ·subst e;rw[aV];exact ii.ot au
  ·rw[hu i aa];exact bx.ot i aa au
 ·intro i ao au;have cf:=aoo ay (i:=i) aa au;rw[hu _ (show dR t i<j by omega)];by_cases e:i=j
  ·subst e;rw[aV];exact ii.put au
  ·rw[hu i aa];exact bx.put i aa au
 ·intro i ao au;by_cases e:i=j
  ·subst e;rw[aV];exact ii.TS au
  ·rw[hu i aa];exact bx.TS i aa au
 ·intro i ao au;by_cases e:i=j
  ·subst e;exact ii.hb au
  ·exact bx.hb i aa au
 ·intro i ao au;by_cases e:i=j
  ·subst e;exact(ii.ex au).2
  ·exact(bx.AF i aa au).congr ay aa λm hm=>(hu m aa).symm
 ·intro i ao au;have cf:=(nP ai ay (show i<t.nodes.length by omega) au).2.1;rw[hu _ (show ey t i<j by omega)];by_cases e:i=j
  ·subst e;exact ii.fn au
  ·exact bx.fn i aa au
theorem j'.ij(ae:j<t.nodes.length)(cL:j' t O j P)(v:ByteArray):j' t (p1 O j v) (j+1) (P.set j v):=by
 refine⟨by simpa using cL.1,λi ao=>?_⟩;rw[rT];split
 ·next e=>subst e;rw[if_pos (by rw[cL.1];exact ao),if_pos aa,ng]
 ·next e=>
  rw[cL.2 i ao];by_cases h:i<j
  ·rw[if_pos h,if_pos aa,GZ h]
  grind
theorem j'.G3(ae:j<t.nodes.length)(cL:j' t O j P):j' t (p1 O j fd) (j+1) P:=by
 have:=cL.ij ae fd;have h2:P.set j fd=P:=by
  apply mr;intro i;rw[rT];split
  ·next e=>subst e;rw[if_pos (by rw[cL.1];exact ae),cL.2 _ ae,if_neg aa]
  ·rfl
 rwa[h2]at this
theorem ne.ij(ay:ik t)(ae:j<t.nodes.length)(eZ:ne t j M)(au:(af t j).kind≠41):ne t (j+1) M:=by
 intro s;rw[eZ s];unfold u7;cases e:iN t s with
 |none=>rfl
 |some i=>dsimp only;obtain⟨_,_,j8,_⟩:=oq ay e;grind
theorem ne.aop(aS:∀i,i<t.nodes.length->gv t i=0)(ay:ik t)(ae:j<t.nodes.length)(eZ:ne t j M)(au:(af t j).kind=41):ne t (j+1) (d_ M (af t j).bi (j:Int)):=by
 intro s;rw[u6];have aM:=TR aS ay ae au;by_cases e:(af t j).bi=s
 ·subst e;rw[if_pos rfl];unfold u7;rw[aM];dsimp only;rw[if_pos aa]
 ·rw[if_neg e,eZ s];unfold u7;cases bk:iN t s with
  |none=>rfl
  |some i=>dsimp only;obtain⟨_,_,_,bp⟩:=oq ay bk;grind
theorem aoq(v:ByteArray):eN t (p1 O j v) (j+1)=eN t O j++[if ei (af t j).kind=ah then v else fd]:=by unfold eN;simp_all[List.range_succ,lk,sE,GZ,List.mem_range,List.map_cons,List.map_nil,ng]
theorem G4:(eN t O j).length=j:=by unfold eN;simp
theorem ne.aq(eZ:ne t j M):∀s i,iN t s=D i->i<j->dP M s=D (i:Int):=by intro s i h ao;rw[eZ s];unfold u7;rw[h];dsimp only;rw[if_pos ao]
theorem j'.ot(ai:c7 t)(ay:ik t)(bx:kO t O j)(ae:j<=t.nodes.length)(cL:j' t O j P):∀m,m<j->(af t m).kind=34->P[m]? =D (dn t m).bR:=by intro m hm au;rw[cL.2 m aa,if_pos hm,bx.ot m hm au]
theorem TY(ai:c7 t)(aO:hA t)(a_:1000000<=n){bn:eK}{c d:Nat}{eu:List Int}(eZ:∀s i,iN t s=D i->i<j->dP M s=D (i:Int))(cL:∀m,m<j->(af t m).kind=34->P[m]? =D (dn t m).bR)(h:gw t j d bn=D c)(az:d<=n)(au:bn.ok)(aV:bn.bR.size< 100000):uQ (aZ n) bn.bR t.nodes t.aX eu t.nodes.length M P=D (decide (8<c)):=by refine I.bN ?_;unfold uQ;refine I.aq (TP ai aO a_ eZ cL d n bn c h az au aV) (I.ret ?_);grind
end
def u_(n:Nat)(t:bf)(O:Nat->ByteArray)(j:Nat)(M:List (ByteArray×Int))(P:List ByteArray):Prop:=
 ∃(e:Int)(v:ByteArray)(yp:List (ByteArray×Int))(sb:List ByteArray),sm (aZ n) (j:Int) t.nodes t.aX (c2 t) t.nodes.length M P=D (e,yp,sb)/\
  (ei (af t j).kind=ah->C' (aZ n) t ⟨c2 t⟩ (eN t O j++[fd]) (j:Int)=D v)/\ru (aZ n) t (eN t O j++[if ei (af t j).kind=ah then v else fd]) (j:Int)=D e/\
  (e=0->G2 t O j v/\ne t (j+1) yp/\j' t (p1 O j v) (j+1) sb)
section
variable {n : Nat} {t : bf} {O : Nat -> ByteArray} {j : Nat} {M : List (ByteArray × Int)} {P : List ByteArray}
variable (ai : c7 t) (aO : hA t) (cL : j' t O j P) (eZ : ne t j M) (ae : j < t.nodes.length) (bx : kO t O j) (a_ : 1000000 <= n) (aS : ∀ i, i < t.nodes.length -> gv t i = 0)
theorem G5(ae:j<t.nodes.length):C6 t (j:Int)=D (ei (af t j).kind):=by unfold C6;rw[cw ae];rfl
variable {v:ByteArray}
theorem TZ{m:Nat}(h:m<j)(au:ei (af t m).kind=ah):aL (eN t O j++[v]) (m:Int)=D (O m):=by simp_all[e3,List.getElem?_append_left,G4,eN,List.getElem?_map,List.getElem?_range,Option.map_some,if_pos]
theorem Nc:aL (eN t O j++[v]) (j:Int)=D v:=by simp_all[e3,List.getElem?_append_right,G4,Nat.le_refl]
theorem ac8{α:Type}{xs:List α}{i:Nat}{x:α}(h:i<xs.length):(xs.set i x)[i]? =D x:=by simp[h]
include ai aO cL eZ ae bx a_ aS
theorem aor(au:ei (af t j).kind=ah):u_ n t O j M P:=by
 have ay:=aO.cZ;have e0:=ai.nodes;obtain⟨s,ii,dw,iD⟩:=aom ai aO cL ae bx a_ aS eZ au;have T0:=anX (n:=n) ai ay bx ae au ii;have wt:=GY (n:=n) (M:=M) cL (show j<=t.nodes.length by omega) (ks:=(af t j).a3) (by have:=ai.af ae;omega) (λq aE=>ib ay ae (by rw[c6 ae];exact aE)) (eu:=c2 t);have wu:j<P.length:=by rw[cL.1];exact ae
 have mY:P[j]? =D (P[j]):=cq wu;have rH:(P.set j s)[j]? =D s:=ac8 wu;have p2:qs (af t j).kind=D ah:=by simp_all[qs,ei,ea,decide_eq_true_eq,decide_eq_true,congrArg,hJ]
 have T1:(if ei (af t j).kind=ah then s else fd)=s:=if_pos au;have j8:(af t j).kind≠41:=λe=>by rw[e]at au;cases au
 have prog:∀e:Int,(∀z:List ByteArray×Nat,I (if decide (s=(⟨#[]⟩:ByteArray))=ah then D ((11:Int),M,P.set j s)else if decide ((af t j).kind=26)=ah then(fK t.nodes.length (P.set j s) (j:Int)).bind λbJ=>Option.bind (uQ (aZ n) bJ.1.2 t.nodes t.aX (c2 t) t.nodes.length M (P.set j s)) λci=>if ci=ah then D (5,M,P.set j s)else D (0,M,P.set j s)else D (0,M,P.set j s)) (· =(e,M,P.set j s)))->sm (aZ n) (j:Int) t.nodes t.aX (c2 t) t.nodes.length M P=D (e,M,P.set j s):=by
  intro e fG;refine I.bN ?_;unfold sm;refine I.aq (cw ae) (I.bind wt λz _=>I.aq p2 ?_);refine I.bC (λ_=>I.aq dw (I.aq (k7 mY ae) (I.aq (k7 rH ae) ?_))) λe=>by cases e
  exact fG z
 have Nd:=cL.ij ae s;have AH:=eZ.ij ay ae j8;by_cases aV:s=fd
 ·refine⟨11,s,M,P.set j s,prog 11 λz=>?_,λ_=>T0,I.bN ?_,cF⟩
  ·exact I.aC (λ_=>I.ret rfl) λe=>absurd aV e
  ·rw[T1];unfold ru;exact I.aq (cw ae) (I.aq (G5 ae) (I.bC (λ_=>I.aq Nc (I.aC (λ_=>I.ret rfl) λe=>absurd aV e)) λe=>by simp_all))
 ·obtain⟨⟨bn,hB,jh,ff,c,mK,aP,yo⟩,aM⟩:=iD.resolve_left aV;by_cases yc:(af t j).kind=26
  ·have G6:uQ (aZ n) s t.nodes t.aX (c2 t) t.nodes.length M (P.set j s)=D (decide (8<c)):=by
    rw[hB];refine TY ai aO a_ eZ.aq (λm hm nd=>?_) aP aa jh aa;rw[rT,if_neg aa];exact cL.ot ai ay bx aa m hm nd
   have wv:Ad (aZ n) t s=D (if 8<c then 5 else 0):=by grind[TO]
   refine⟨if 8<c then 5 else 0,s,M,P.set j s,prog _ λz=>?_,λ_=>T0,I.bN ?_,λh=>⟨?_,AH,Nd⟩⟩
   ·refine I.aC (λe=>absurd e aV) λ_=>I.aC (λ_=>I.aq (k7 rH ae) (I.aq G6 (I.aC (λe=>I.ret (by rw[if_pos e])) λe=>I.ret (by rw[if_neg e])))) λe=>absurd yc e
   ·rw[T1];unfold ru;refine I.aq (cw ae) (I.aq (G5 ae) (I.bC (λ_=>I.aq Nc (I.aC (λe=>absurd e aV) λ_=>?_)) λe=>by simp_all));simp_all[so,I.aC,I.aq,Nc,I.ret,absurd]
   ·have T2:c<=8:=by
     omega
    refine⟨λ_=>⟨⟨bn,hB,jh,ff,c,mK,T2,aP⟩,aM⟩,λh=>?_,λh=>?_,λh=>?_,λh=>?_,λh=>?_,λh=>?_⟩<;>(rw[yc]at h;cases h)
  ·have T2:=yo yc;refine⟨0,s,M,P.set j s,prog _ λz=>?_,λ_=>T0,I.bN ?_,λ_=>⟨?_,AH,Nd⟩⟩
   ·exact I.aC (λe=>absurd e aV) λ_=>I.aC (λe=>absurd e yc) λ_=>I.ret rfl
   ·rw[T1];unfold ru;refine I.aq (cw ae) (I.aq (G5 ae) (I.bC (λ_=>I.aq Nc (I.aC (λe=>absurd e aV) λ_=>?_)) λe=>by simp_all));have nM:=au;unfold ei at nM;simp only[ea,decide_eq_true_eq]at nM;unfold so;exact I.aC (λe=>absurd e yc) λ_=>I.aC br λ_=>I.aC br λ_=>I.aC br λ_=>I.aC br λ_=>I.aC br λ_=>I.ret rfl
   ·refine⟨λ_=>⟨⟨bn,hB,jh,ff,c,mK,T2,aP⟩,aM⟩,λh=>?_,λh=>?_,λh=>?_,λh=>?_,λh=>?_,λh=>by rw[h]at au;(cases au)⟩
    ·unfold ei at au;unfold k9 at h;grind
    ·rw[h]at au;cases au
    ·rw[h]at au;cases au
    ·unfold ei at au;unfold jo at h;grind
    omega
omit cL eZ bx aS in
theorem DP(au:ei (af t j).kind=aQ){e:Int}(h:I (so (eN t O j++[fd]) (j:Int) (aZ n) t (af t j) (af t j).kind) (· =e)):ru (aZ n) t (eN t O j++[if ei (af t j).kind=ah then v else fd]) (j:Int)=D e:=by rw[au,if_neg fT];refine I.bN ?_;simp_all[ru,I.aq,cw,G5,I.bC]
omit cL eZ bx aS in
theorem T3(au:ei (af t j).kind=aQ)(yc:(af t j).kind≠26)(MT:(af t j).kind≠33)(j8:(af t j).kind≠41)(b9:(af t j).kind≠42)(qH:(af t j).kind≠44)(Dt:(af t j).kind≠46):ru (aZ n) t (eN t O j++[if ei (af t j).kind=ah then v else fd]) (j:Int)=D 0:=by refine DP ai aO ae a_ au ?_;simp_all[so,I.aC,absurd,I.ret]
omit cL eZ bx aS in
theorem Nf(z:List ByteArray×Nat)(sb:List ByteArray)(j8:(af t j).kind≠41)(b9:(af t j).kind≠42)(qH:(af t j).kind≠44)(Dt:(af t j).kind≠46):qt (aZ n) (j:Int) z t.nodes t.aX (c2 t) t.nodes.length M (sb,(af t j).kind)=D (0,M,sb):=by refine I.bN ?_;unfold qt;refine I.aq (z:=(0,M,sb)) (I.bN ?_) (I.ret rfl);unfold zM;refine I.aq (cw ae) (I.aC (λe=>absurd e j8) λ_=>I.aC (λe=>absurd e b9) λ_=>I.aC (λe=>absurd e qH) λ_=>I.aC (λe=>absurd e Dt) λ_=>?_);exact I.ret rfl
end
end Go.Proofs.YtgfggdcbhjhegaaGreatDoor

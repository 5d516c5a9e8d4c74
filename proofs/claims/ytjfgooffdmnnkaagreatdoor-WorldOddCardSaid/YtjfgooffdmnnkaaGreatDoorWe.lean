/- Types of nodes, side by side: simple expressions. -/
import Derived.Test.YtjfgooffdmnnkaaGreatDoorWd
set_option linter.all false
set_option maxRecDepth 100000
namespace Go.Proofs.YtjfgooffdmnnkaaGreatDoor
open Go Go.Mi Go.RowKit Go.Dp
open Bool renaming false_eq_true->ge,false_and->ja,and_false->iF,true_and->fm,false_or->hQ,and_true->jB,or_false->jQ,true_or->jC,or_true->jD,true->ad,and_eq_true->dn,or_eq_true->jq,eq_iff_iff->ahD,and_self->JY,false->aS
open _root_.ByteArray renaming mk->bk
open Int renaming reduceEq->jb,reduceLE->jR
open List renaming getElem?_eq_getElem->bN,map_congr_left->vW,mem_of_getElem?->cm,getElem?_set->u4,ext_getElem?->m3,eq_nil_of_length_eq_zero->pr,length_map->hI,take_of_length_le->g4,dropLast_eq_take->ahE,getElem?_of_mem->hf,find?_append->nd,all_eq_true->kX,map_append->hT
open Option renaming bind_some->bE,some->I
def pb(t:aZ)(O:Nat->ByteArray)(j:Nat)(s:ByteArray):Prop:=
 (∃bv:ft,s=bv.b9/\bv.ok/\bv.b9.size<=5*j+20/\∃c,1<=c/\hP t j (2*j+2) bv=I c/\((af t j).kind≠26->c<=8))/\EF t (su O j s) j
def ry(n:Nat)(t:aZ)(O:Nat->ByteArray)(j:Nat)(M:List (ByteArray×Int))(P:List ByteArray):Prop:=
 ∃s,nV (aM n) ⟨c_ t⟩ (j:Int) t (fQ t O j++[gd]) (af t j) (ec t O j,(af t j).kind)=I s/\pT (aM n) (j:Int) t.nodes t.aD (c_ t) t.nodes.length M P=I (s,P)/\(s=gd\/pb t O j s)
section
variable {n : Nat} {t : aZ} {O : Nat -> ByteArray} {j : Nat} {M : List (ByteArray × Int)} {P : List ByteArray}
theorem pb.aX{bv:ft}(h:ma t j bv)(aO:EF t (su O j bv.b9) j):pb t O j bv.b9:=by obtain⟨h1,h2,c,ay,bl,bO⟩:=h;exact⟨⟨bv,rfl,h1,h2,c,ay,bO,λ_=>bl⟩,aO⟩
theorem pc(s:ByteArray):su O j s j=s:=by unfold su;rw[if_pos rfl]
theorem Lx{s:ByteArray}{m:Nat}(h:m<j):su O j s m=O m:=by unfold su;rw[if_neg U]
theorem xc(aI:dD t)(ag:j<t.nodes.length)(s:ByteArray):ec t (su O j s) j=ec t O j:=by grind[ec,vW,jz,Lx]
def tr(aj:cH t)(aI:dD t)(c5:lP t O j P)(ag:j<t.nodes.length):G' (aM n) (af t j).a8 t.nodes t.aD (c_ t) t.nodes.length M P=I (ec t O j):=by have:=aj.af ag;rw[ahC (n:=n) (M:=M) c5 U (ks:=(af t j).a8) U λq aB=>jz aI ag (by rw[dJ ag];exact aB)];unfold ec;rw[dJ ag]
theorem z0(aI:dD t)(ag:j<t.nodes.length)(h:(6<=(af t j).kind/\(af t j).kind<=18)\/(af t j).kind=20\/(af t j).kind=23):(af t j).a8.length=2:=by
 have hm:=uE aI ag;have:(af t j).kind=6\/(af t j).kind=7\/(af t j).kind=8\/(af t j).kind=9\/(af t j).kind=10\/(af t j).kind=11\/(af t j).kind=12\/(af t j).kind=13\/(af t j).kind=14\/(af t j).kind=15\/(af t j).kind=16\/(af t j).kind=17\/(af t j).kind=18\/(af t j).kind=20\/(af t j).kind=23:=by omega
 unfold k7 at hm;rcases this with h|h|h|h|h|h|h|h|h|h|h|h|h|h|h<;> · grind
theorem vX(ag:j<t.nodes.length):(ec t O j).length=(af t j).a8.length:=by unfold ec;rw[hI,dJ ag]
variable {α:Type}{l:List α}
def Ly(h:l.length=2):∃a b,l=[a,b]:=by
 match l,h with
 |[a,b],_=>simp
def Lz(h:l.length=1):∃a,l=[a]:=by
 match l,h with
 |[a],_=>simp
def asd(h:l.length=3):∃a b c,l=[a,b,c]:=by
 match l,h with
 |[a,b,c],_=>simp
theorem Yt(k a b:ByteArray):decide ([k,k]=[a,b])=jg k [a,b]:=by rw[ahD,decide_eq_true_eq];unfold jg;simp only[List.all_cons,List.all_nil,jB,dn,decide_eq_true_eq,List.cons.injEq,and_true];constructor<;>rintro⟨h1,h2⟩<;>exact⟨h1.symm,h2.symm⟩
theorem ahF(k a:ByteArray):decide ([k]=[a])=jg k [a]:=by rw[ahD,decide_eq_true_eq];unfold jg;grind
def ts(aI:dD t)(ag:j<t.nodes.length)(h:(6<=(af t j).kind/\(af t j).kind<=18)\/(af t j).kind=20\/(af t j).kind=23):∃a b,ec t O j=[a,b]:=Ly (by rw[vX ag,z0 aI ag h])
theorem Ia(s:ByteArray)(b:Bool)(k:Int):uu (s,b,P,k)=I (if b=ad then s else gd,P):=by cases b<;>rfl
variable (aj : cH t) (aI : dD t) (c5 : lP t O j P) (ag : j < t.nodes.length)
include aj aI c5 ag
theorem ase(h:(af t j).kind=1):ry n t O j M P:=by
 have mn:ec t O j=[]:=pr (by grind[vX,uE,k7]);refine⟨fP,?_,D.br ?_,.inr (pb.aX (bv:=.int) (ma.int j) (.num h (pc _)))⟩
 ·rw[mn];unfold nV pQ;simp only[h,jb,decide_true,decide_false,ge,if_false,if_true,bE];rw[xb cW];rfl
 ·unfold pT;refine D.ae (b8 ag) (D.ae (tr aj aI c5 ag) ?_);simp only[h,jb,decide_true,decide_false,ge,if_false,if_true];exact D.ret rfl
theorem asf(h:(af t j).kind=2):ry n t O j M P:=by
 have mn:ec t O j=[]:=pr (by grind[vX,uE,k7]);refine⟨fx,?_,D.br ?_,.inr (pb.aX (bv:=.bool) (ma.bool j) (.bool h (pc _)))⟩
 ·rw[mn];unfold nV pQ;simp only[h,jb,decide_true,decide_false,ge,if_false,if_true,bE];rw[xb cW];rfl
 ·unfold pT;refine D.ae (b8 ag) (D.ae (tr aj aI c5 ag) ?_);simp only[h,jb,decide_true,decide_false,ge,if_false,if_true];exact D.ret rfl
end
section
variable {n : Nat} {t : aZ} {O : Nat -> ByteArray} {j : Nat} {M : List (ByteArray × Int)} {P : List ByteArray}
def EH(aj:cH t)(ag:j<t.nodes.length):(ec t O j).length<=1000000:=by rw[vX ag];have:=aj.af ag;omega
theorem one(aI:dD t)(ag:j<t.nodes.length)(h:(af t j).kind=4\/(af t j).kind=5\/(af t j).kind=22):∃a,ec t O j=[a]:=Lz (by rw[vX ag,n2 aI ag U])
variable (aj : cH t) (aI : dD t) (c5 : lP t O j P) (ag : j < t.nodes.length)
include aj aI c5 ag
theorem asg(h:(af t j).kind=4\/(af t j).kind=6\/(af t j).kind=7\/(af t j).kind=8\/(af t j).kind=9\/(af t j).kind=10):ry n t O j M P:=by
 have hle:=EH (O:=O) aj ag;refine⟨if jg fP (ec t O j)=ad then fP else gd,?_,D.br ?_,?_⟩
 ·rcases h with h|h|h|h|h|h
  ·obtain⟨a,aC⟩:=one (O:=O) aI ag (.inl h);rw[aC];unfold nV pQ;simp only[h,jb,jR,decide_true,decide_false,ge,if_false,if_true,jC,jD,hQ,jQ,fm,jB,ja,iF];rw[bE];simp only[if_true];rw[xb cW,bE,show(bk #[105,110,116])=fP from rfl,ahF];cases jg fP [a]<;>rfl
  all_goals
   obtain⟨a,b,aC⟩:=ts (O:=O) aI ag (.inl U);rw[aC];unfold nV pQ;simp only[h,jb,jR,decide_true,decide_false,ge,if_false,if_true,jC,jD,hQ,jQ,fm,jB,ja,iF];rw[bE];simp only[if_true];rw[xb cW,bE,show(bk #[105,110,116])=fP from rfl,Yt];cases jg fP [a,b]<;>rfl
 ·unfold pT;refine D.ae (b8 ag) (D.ae (tr aj aI c5 ag) ?_);rcases h with h|h|h|h|h|h
  all_goals
   simp only[h,jb,jR,decide_true,decide_false,ge,if_false,if_true,jC,jD,hQ,jQ,fm,jB,ja,iF];refine D.ae (B_ _ hle) ?_;rw[Ia];exact D.ret rfl
 ·cases aF:jg fP (ec t O j)with
  |false=>simp
  |true=>exact .inr (pb.aX (bv:=.int) (ma.int j) (.zV h (by rw[xc aI ag];exact aF) (pc _)))
theorem ash(h:(af t j).kind=5\/(af t j).kind=17\/(af t j).kind=18):ry n t O j M P:=by
 have hle:=EH (O:=O) aj ag;refine⟨if jg fx (ec t O j)=ad then fx else gd,?_,D.br ?_,?_⟩
 ·rcases h with h|h|h
  ·obtain⟨a,aC⟩:=one (O:=O) aI ag (.inr (.inl h));rw[aC];unfold nV pQ;simp only[h,jb,jR,decide_true,decide_false,ge,if_false,if_true,jC,jD,hQ,jQ,fm,jB,ja,iF];rw[bE];simp only[if_true];rw[xb cW,bE,show(bk #[98,111,111,108])=fx from rfl,ahF];cases jg fx [a]<;>rfl
  all_goals
   obtain⟨a,b,aC⟩:=ts (O:=O) aI ag (.inl U);rw[aC];unfold nV pQ;simp only[h,jb,jR,decide_true,decide_false,ge,if_false,if_true,jC,jD,hQ,jQ,fm,jB,ja,iF];rw[bE];simp only[if_true];rw[xb cW,bE,show(bk #[98,111,111,108])=fx from rfl,Yt];cases jg fx [a,b]<;>rfl
 ·unfold pT;refine D.ae (b8 ag) (D.ae (tr aj aI c5 ag) ?_);rcases h with h|h|h
  all_goals
   simp only[h,jb,jR,decide_true,decide_false,ge,if_false,if_true,jC,jD,hQ,jQ,fm,jB,ja,iF];refine D.ae (B_ _ hle) ?_;rw[Ia];exact D.ret rfl
 ·cases aF:jg fx (ec t O j)with
  |false=>simp
  |true=>exact .inr (pb.aX (bv:=.bool) (ma.bool j) (.zW h (by rw[xc aI ag];exact aF) (pc _)))
theorem asi(h:(af t j).kind=13\/(af t j).kind=14\/(af t j).kind=15\/(af t j).kind=16):ry n t O j M P:=by
 have hle:=EH (O:=O) aj ag;refine⟨if jg fP (ec t O j)=ad then fx else gd,?_,D.br ?_,?_⟩
 ·rcases h with h|h|h|h
  all_goals
   obtain⟨a,b,aC⟩:=ts (O:=O) aI ag (.inl U);rw[aC];unfold nV pQ;simp only[h,jb,jR,decide_true,decide_false,ge,if_false,if_true,jC,jD,hQ,jQ,fm,jB,ja,iF];rw[bE];simp only[if_true];rw[xb cW,bE,show(bk #[105,110,116])=fP from rfl,Yt];cases jg fP [a,b]<;>rfl
 ·unfold pT;refine D.ae (b8 ag) (D.ae (tr aj aI c5 ag) ?_);rcases h with h|h|h|h
  all_goals
   simp only[h,jb,jR,decide_true,decide_false,ge,if_false,if_true,jC,jD,hQ,jQ,fm,jB,ja,iF];refine D.ae (B_ _ hle) ?_;rw[Ia];exact D.ret rfl
 ·cases aF:jg fP (ec t O j)with
  |false=>simp
  |true=>exact .inr (pb.aX (bv:=.bool) (ma.bool j) (.zX h (by rw[xc aI ag];exact aF) (pc _)))
theorem asj(h:(af t j).kind=11\/(af t j).kind=12):ry n t O j M P:=by
 have hle:=EH (O:=O) aj ag;obtain⟨a,b,aC⟩:=ts (O:=O) aI ag (.inl U);have Yu:jg fP [a,b]=(decide (a=fP)&&decide (b=fP)):=by unfold jg;simp
 have zc:jg fx [a,b]=(decide (a=fx)&&decide (b=fx)):=by unfold jg;simp
 have fi:∀g5:Bool,g5=(jg fP [a,b]||jg fx [a,b])->(if g5=ad then fx else gd)=gd\/pb t O j (if g5=ad then fx else gd):=by
  intro g5 aF;cases g5 with
  |false=>simp
  |true=>refine .inr (pb.aX (bv:=.bool) (ma.bool j) (.br h ?_ (pc _)));simp_all[xc,jq]
 refine⟨if(jg fP [a,b]||jg fx [a,b])=ad then fx else gd,?_,D.br ?_,fi _ rfl⟩
 ·rw[aC];rcases h with h|h
  all_goals
   refine D.br ?_;unfold nV pQ;simp only[h,jb,jR,decide_true,decide_false,ge,if_false,if_true,jC,jD,hQ,jQ,fm,jB,ja,iF];rw[bE];simp only[ge,if_false];refine D.ae (z:=a) rfl (D.ae (z:=b) rfl (D.ar (λe=>?_) λe=>D.ret ?_))
   ·subst e;refine D.ae (z:=a) rfl (D.ar (λa2=>D.ret ?_) λa2=>D.ae (z:=a) rfl (D.ar (λbc=>D.ret ?_) λbc=>D.ret ?_))
    ·rw[Yu,show a=fP from a2];simp only[decide_true,JY,jC,if_true];rfl
    ·simp_all[fx,decide_true,JY,jD,if_true]
    ·rw[Yu,zc,decide_eq_false (show ¬a=fP from a2),decide_eq_false (show ¬a=fx from bc)];rfl
   ·have h1:(decide (a=fP)&&decide (b=fP))=aS:=by
     grind
    have h2:(decide (a=fx)&&decide (b=fx))=aS:=by grind
    rw[Yu,zc,h1,h2];rfl
 ·unfold pT;refine D.ae (b8 ag) (D.ae (tr aj aI c5 ag) ?_);rcases h with h|h
  all_goals
   simp only[h,jb,jR,decide_true,decide_false,ge,if_false,if_true,jC,jD,hQ,jQ,fm,jB,ja,iF];refine D.ae (B_ _ hle) ?_;rw[aC,show(bk #[105,110,116])=fP from rfl];cases jg fP [a,b]with
   |true=>exact D.ret rfl
   |false=>simp only[ge,if_false,hQ];refine D.ae (B_ _ cW) ?_;rw[Ia];exact D.ret rfl
end
section
variable {n : Nat} {t : aZ} {O : Nat -> ByteArray} {j : Nat} {M : List (ByteArray × Int)} {P : List ByteArray}
variable (aj : cH t) (aI : dD t) (c5 : lP t O j P) (ag : j < t.nodes.length) (bH : mv t O j)
include aj aI c5 ag bH
theorem R6(ap:eV (af t j).kind=ad){x:ByteArray}(ak:x∈ec t O j):∃bv,x=bv.b9/\ma t j bv:=by unfold ec at ak;obtain⟨q,aB,rfl⟩:=List.mem_map.1 ak;obtain⟨m,rfl,hm,bv,h1,h2⟩:=ahB aj aI bH ag ap aB;exact⟨bv,h1,h2.mono U⟩
theorem asl(h:(af t j).kind=19):ry n t O j M P:=by
 have hm:=uE aI ag;unfold k7 at hm;have ap:eV (af t j).kind=ad:=by rw[h];rfl
 obtain⟨a,b,c,aC⟩:=asd (l:=ec t O j) (by grind[vX]);obtain⟨bv,aF,iG⟩:=R6 aj aI c5 ag bH ap (show b∈ec t O j by grind);refine⟨if a=fx/\b=c then b else gd,?_,D.br ?_,?_⟩
 ·rw[aC];refine D.br ?_;unfold nV pQ;simp only[h,jb,jR,decide_true,decide_false,ge,if_false,if_true,jC,jD,hQ,jQ,fm,jB,ja,iF];rw[bE];simp only[ge,if_false];refine D.ae (z:=a) rfl (D.ar (λe=>D.ae (z:=b) rfl (D.ae (z:=c) rfl (D.ar (λbc=>D.ae (z:=b) rfl (D.ret ?_)) λbc=>D.ret ?_))) λe=>D.ret ?_)
  ·rw[if_pos ⟨e,bc⟩]
  ·rw[if_neg (λq=>bc q.2)];rfl
  ·rw[if_neg (λq=>e q.1)];rfl
 ·unfold pT;refine D.ae (b8 ag) (D.ae (tr aj aI c5 ag) ?_);simp only[h,jb,jR,decide_true,decide_false,ge,if_false,if_true,jC,jD,hQ,jQ,fm,jB,ja,iF];rw[aC];refine D.ae (z:=b) rfl (D.ae (z:=a) rfl (D.ar (λe=>D.ae (z:=b) rfl (D.ae (z:=c) rfl ?_)) λe=>?_))
  ·rw[Ia];have cR:(if decide (b=c)=ad then b else gd)=(if a=fx/\b=c then b else gd):=by
    simp_all[fx,decide_eq_true_eq,true_and]
   exact D.ret (by rw[cR])
  simp_all[Ia,fx,gd,if_neg,D.ret]
 ·by_cases ax:a=fx/\b=c
  ·rw[if_pos ax];refine .inr ?_;rw[aF];refine pb.aX iG (.bK h ?_);rw[xc aI ag,aC,pc,ax.1,<-ax.2,aF]
  simp_all
theorem asm(h:(af t j).kind=20):ry n t O j M P:=by
 have ap:eV (af t j).kind=ad:=by rw[h];rfl
 obtain⟨a,b,aC⟩:=ts (O:=O) aI ag (.inr (.inl h));obtain⟨bv,aF,iG⟩:=R6 aj aI c5 ag bH ap (show b∈ec t O j by grind);refine⟨b,?_,D.br ?_,.inr ?_⟩
 ·rw[aC];refine D.br ?_;unfold nV pQ;simp only[h,jb,jR,decide_true,decide_false,ge,if_false,if_true,jC,jD,hQ,jQ,fm,jB,ja,iF];rw[bE];simp only[ge,if_false];exact D.ae (z:=b) rfl (D.ret rfl)
 ·unfold pT;refine D.ae (b8 ag) (D.ae (tr aj aI c5 ag) ?_);simp only[h,jb,jR,decide_true,decide_false,ge,if_false,if_true,jC,jD,hQ,jQ,fm,jB,ja,iF];rw[aC];refine D.ae (z:=b) rfl ?_;exact D.ret rfl
 ·rw[aF];refine pb.aX iG (.lt h a ?_);rw[xc aI ag,aC,pc,aF]
end
section
variable {n : Nat} {t : aZ} {O : Nat -> ByteArray} {j : Nat} {M : List (ByteArray × Int)} {P : List ByteArray}
variable (aj : cH t) (aR : fZ t) (c5 : lP t O j P) (ag : j < t.nodes.length) (bH : mv t O j) (a6 : 1000000 <= n) (aY : ∀ i, i < t.nodes.length -> gS t i = 0)
include aj aR c5 ag bH a6 aY
theorem asn(h:(af t j).kind=3):ry n t O j M P:=by
 have aI:=aR.dI;obtain⟨d,aG,gu⟩:=zR aj aI ag (aY j ag) (by rw[h];rfl);have aQ:=gu.EE;unfold l9 at aQ;rw[h]at aQ;simp only[decide_true,if_true,jq,decide_eq_true_eq]at aQ;have p4:aH (c_ t) (j:Int)=I (d:Int):=by rw[zZ ag,aG]
 have fh:=gu.lt;have A:∀s,GU (aM n) t (fQ t O j++[gd]) (d:Int)=I s->nV (aM n) ⟨c_ t⟩ (j:Int) t (fQ t O j++[gd]) (af t j) (ec t O j,(af t j).kind)=I s:=by intro s aQ;refine D.br ?_;unfold nV pQ;simp only[h,jb,jR,decide_true,decide_false,ge,if_false,if_true,jC,jD,hQ,jQ,fm,jB,ja,iF];simp_all[bE,ge,if_false,D.ae,D.ret]
 have B:∀s,Ha (j:Int) t.nodes t.aD (c_ t) t.nodes.length M P=I s->pT (aM n) (j:Int) t.nodes t.aD (c_ t) t.nodes.length M P=I (s,P):=by intro s aQ;refine D.br ?_;unfold pT;refine D.ae (b8 ag) (D.ae (tr aj aI c5 ag) ?_);simp only[h,jb,jR,decide_true,decide_false,ge,if_false,if_true,jC,jD,hQ,jQ,fm,jB,ja,iF];refine D.ae aQ ?_;exact D.ret rfl
 have K:((af t d).kind=43\/(af t d).kind=20)->ry n t O j M P:=by
  intro ap;have aC:0<(af t d).a8.length:=by grind[n2,w7]
  obtain⟨r,aO,b'⟩:=o7 aI fh aC;have ak:(af t d).a8[0]? =I (eL t d:Int):=by rw[<-dJ fh,aO];rfl
  have pd:=ru aj aI fh ak;unfold o6 at pd;rw[if_neg U,if_neg U,if_neg U,if_neg U,if_neg U]at pd;have oN:eL t d<j:=by
   rcases ap with ap|ap
   ·have:=(gu.kk aI U).2;omega
   ·have:=(gu.ar7 aI ap).2 (eL t d:Int) (by
     have h2:=w7 aI fh ap;rw[<-dJ fh,aO]at h2;obtain⟨y,a9⟩:=Lz (l:=r) dq;simp_all)
    omega
  obtain⟨bv,h1,h2⟩:=bH.ex _ oN pd;refine⟨O (eL t d),A _ ?_,B _ ?_,.inr ?_⟩
  ·refine D.br ?_;unfold GU;refine D.ae (b8 fh) (D.ar bt λ_=>D.ar bt λ_=>D.aH ak (D.ae (Ys oN pd) (D.ret rfl)))
  ·refine D.br ?_;unfold Ha;refine D.ae p4 (D.ae (b8 fh) (D.bK (λ_=>D.aH ak (D.ae (c5.at oN U) (D.ret rfl))) λe=>?_));rcases ap with ap|ap<;>simp[ap]at e
  ·rw[h1];refine pb.aX (h2.mono U) (.zU h d aG ap oN ?_);rw[pc,Lx oN,h1]
 rcases aQ with((ap|ap)|ap)|ap
 ·refine⟨fP,A _ ?_,B _ ?_,.inr (pb.aX (bv:=.int) (ma.int j) (.zS h d aG ap (pc _)))⟩
  ·refine D.br ?_;unfold GU;exact D.ae (b8 fh) (D.ar (λ_=>D.ret rfl) λe=>absurd ap e)
  ·refine D.br ?_;unfold Ha;refine D.ae p4 (D.ae (b8 fh) (D.bK (λe=>?_) λ_=>D.ar bt λ_=>D.ret rfl));grind
 ·simp_all
 ·simp_all
 ·have oN:=gu.qE aI ap;obtain⟨_,h1,h2⟩:=tq aj aI fh (.inr ap);have rY:=(bH.ty _ U h2).2;refine⟨(e9 t d).b9,A _ ?_,B _ ?_,.inr (pb.aX (rY.mono U) (.zT h d aG ap (pc _)))⟩
  ·refine D.br ?_;unfold GU;exact D.ae (b8 fh) (D.ar bt λ_=>D.ar (λ_=>D.ae (R2 aj aI fh (.inr ap)) (D.ae (Yf aj aR U fh ap) (D.ret rfl))) λe=>absurd ap e)
  ·refine D.br ?_;unfold Ha;refine D.ae p4 (D.ae (b8 fh) (D.bK (λe=>?_) λ_=>D.ar (λ_=>D.ae (c5.at oN U) (D.ret (bH.qE d oN ap))) λe=>absurd ap e));grind
theorem aso(h:(af t j).kind=21):∃d:Nat,fE t j=d/\d<t.nodes.length/\(af t d).kind=42/\(∀x∈(bn t d).dropLast,x<(j:Int))/\((d:Int)∈t.aD/\d<j\/j<d):=by
 have aI:=aR.dI;obtain⟨d,aG,gu⟩:=zR aj aI ag (aY j ag) (by rw[h];rfl);have aQ:=gu.EE;unfold l9 at aQ;rw[h]at aQ;have ap:(af t d).kind=42:=by simp_all
 refine⟨d,aG,gu.lt,ap,λx ak=>?_,?_⟩
 ·rcases gu.pos with h1|h1|h1
  ·obtain⟨m,rfl,hm⟩:=jz aI gu.lt (List.mem_of_mem_take (by rw[ahE]at ak;exact ak));omega
  ·omega
  simp_all
 ·rcases gu.pos with h1|h1|h1
  ·simp_all
  ·omega
  omega
theorem asp(h:(af t j).kind=21):ry n t O j M P:=by
 have aI:=aR.dI;obtain⟨d,aG,fh,c7,b',_⟩:=aso aj aR c5 ag bH a6 aY h;have p4:aH (c_ t) (j:Int)=I (d:Int):=by rw[zZ ag,aG]
 have kR:=to aI fh c7;have j7:=aj.af fh;have gL:=dJ fh;obtain⟨JQ,At,Yv⟩:=Yg aj aI fh c7;have ev:(p3 t d:Int)∈(bn t d).dropLast:=by rw[ahE];exact cm (i:=(bn t d).length- 2) dZ
 have R7:p3 t d<j:=by grind
 obtain⟨asq,asr⟩:=bH.ty _ R7 Yv;have ass:∀q∈eY t d,∃m:Nat,q=m/\m<j/\(af t m).kind=34:=by intro q aB;obtain⟨a,a4⟩:=hf aB;obtain⟨m,rfl,hm,ap,_,_⟩:=xa aj aI fh c7 a4;exact⟨m,rfl,by have:=b' _ (ahw aB);omega,ap⟩
 have nM:(eY t d).map (λq=>O q.toNat)=vU t d:=by unfold vU;apply vW;intro q aB;obtain⟨m,rfl,hm,ap⟩:=ass q aB;exact bH.qE m hm ap
 have sP:(eY t d).length=(af t d).a8.length- 2:=by simp_all[eY,List.length_take]
 have ra:(vU t d).length<=1000000:=by grind
 refine⟨if vU t d=ec t O j then(hU t (p3 t d)).b9 else gd,D.br ?_,D.br ?_,?_⟩
 ·unfold nV pQ;simp only[h,jb,jR,decide_true,decide_false,ge,if_false,if_true,jC,jD,hQ,jQ,fm,jB,ja,iF];rw[bE];simp only[ge,if_false];refine D.ae p4 (D.ae (ahp aj aR U fh c7) (D.ae (xb ra) (D.ar (λe=>D.ret (by rw[if_pos e])) λe=>D.ret (by rw[if_neg e];rfl))))
 ·have ast:P5 (aM n) (d:Int) t.nodes t.aD (c_ t) t.nodes.length M P=I (vU t d,(hU t (p3 t d)).b9):=by
   refine D.br ?_;unfold P5;have nZ:az (((af t d).a8.length:Int)- 2)=(((af t d).a8.length- 2:Nat):Int):=by grind[b3]
   have a2:((af t d).a8.drop 0).take ((af t d).a8.length- 2- 0)=eY t d:=by unfold eY;grind
   refine D.ae (b8 fh) ?_;rw[nZ];refine D.ae (uz (i:=0) (Nat.zero_le _) U) ?_;rw[a2];refine D.ae (ahC c5 U U λq aB=>by grind) ?_;rw[nM];rw[gL]at JQ;exact D.aH JQ (D.ae (c5.at R7 U) (D.ret (by dsimp only;rw[asq])))
  unfold pT;refine D.ae (b8 ag) (D.ae (tr aj aI c5 ag) ?_);simp only[h,jb,jR,decide_true,decide_false,ge,if_false,if_true,jC,jD,hQ,jQ,fm,jB,ja,iF];unfold D7;refine D.ae (z:=if vU t d=ec t O j then(hU t (p3 t d)).b9 else gd) (D.br ?_) (D.ret rfl);refine D.ae (b8 ag) ?_;simp only[h,jb,jR,decide_true,decide_false,ge,if_false,if_true,jC,jD,hQ,jQ,fm,jB,ja,iF];exact D.ae p4 (D.ae ast (D.ae (asa ra) (D.ar (λe=>D.ret (by rw[if_pos e])) λe=>D.ret (by rw[if_neg e];rfl))))
 ·by_cases e:vU t d=ec t O j
  ·rw[if_pos e];exact .inr (pb.aX (asr.mono U) (.call h d aG c7 (by simp_all[xc]) (pc _)))
  simp_all
theorem ahG{bv:ft}(iG:ma t j bv){i:Nat}(aO:j9 t bv.b9=I i):bv=.ik (af t i).text/\i<j:=by
 have aI:=aR.dI;obtain⟨h1,h2,ay,bl⟩:=qD aI aO;have i_:gP bv.b9:=by grind[EA,EB]
 cases bv with
 |int=>exact absurd i_ gP.RY
 |bool=>exact absurd i_ gP.RZ
 |hn cd k=>exact absurd (sq _ _) (gP.bh i_)
 |ik s=>obtain⟨c,_,_,bO⟩:=iG.tZ;obtain⟨jH,_,cX,hq,_⟩:=H9 bO;have bl:(af t i).text=s:=bl;grind
theorem asu(dz:pa t j M)(h:(af t j).kind=22):ry n t O j M P:=by
 have aI:=aR.dI;have ap:eV (af t j).kind=ad:=by rw[h];rfl
 obtain⟨a,aC⟩:=one (O:=O) aI ag (.inr (.inr h));obtain⟨bv,a4,iG⟩:=R6 aj aI c5 ag bH ap (show a∈ec t O j by grind);refine⟨H8 t a (af t j).text,D.br ?_,D.br ?_,?_⟩
 ·rw[aC];unfold nV pQ;simp only[h,jb,jR,decide_true,decide_false,ge,if_false,if_true,jC,jD,hQ,jQ,fm,jB,ja,iF];rw[bE];simp only[ge,if_false];refine D.ae (D.br ?_) (D.ret rfl);unfold GW;simp only[h,jb,jR,decide_true,decide_false,ge,if_false,if_true,jC,jD,hQ,jQ,fm,jB,ja,iF];exact D.ae (z:=a) rfl (D.ae (arZ aj aR U _ _) (D.ret rfl))
 ·unfold pT;refine D.ae (b8 ag) (D.ae (tr aj aI c5 ag) ?_);simp only[h,jb,jR,decide_true,decide_false,ge,if_false,if_true,jC,jD,hQ,jQ,fm,jB,ja,iF];unfold D7;refine D.ae (z:=H8 t a (af t j).text) (D.br ?_) (D.ret rfl);refine D.ae (b8 ag) ?_;simp only[h,jb,jR,decide_true,decide_false,ge,if_false,if_true,jC,jD,hQ,jQ,fm,jB,ja,iF];rw[aC];refine D.ae (z:=a) rfl (D.ae (D.br ?_) (D.ret rfl));unfold WD;have b5:=dz a;unfold yI at b5;unfold H8;cases tt:j9 t a with
  |none=>rw[tt]at b5;dsimp only at b5⊢;rw[b5];exact D.ret rfl
  |some i=>
   rw[a4]at tt;obtain⟨_,vc⟩:=ahG aj aR c5 ag bH a6 aY iG tt;rw[<-a4]at tt;obtain⟨h1,h2,ay,bl⟩:=qD aI tt;have j7:=aj.af h1;have gL:=dJ h1;rw[tt]at b5;dsimp only at b5⊢;rw[if_pos vc]at b5;rw[b5];refine D.bK dF λ_=>?_;show D ((aH t.nodes (i:Int)).bind _) _;refine D.ae (b8 h1) ?_;unfold afo;rw[gL];refine D.for (af t i).a8.length (λa (_:Unit)=>(a:Int)) (λa _=>((af t i).a8.take a).find? (λq=>decide ((af t q.toNat).text=(af t j).text))=none) (t0:=()) rfl rfl (λa _ a4 a7=>?_) λ_ a7=>?_
   ·obtain⟨q,aB⟩:∃q,(af t i).a8[a]? =I q:=⟨_,bN a4⟩
    obtain⟨m,rfl,hm,o_⟩:=vV aj aI h1 ay (show q∈bn t i by grind);have hO:m<t.nodes.length:=by omega
    refine D.ar (λ_=>D.aH aB (D.ae (b8 hO) (D.ar (λaQ=>D.ae (c5.at (show m<j by omega) U) (D.inr ?_)) λaQ=>D.inl ⟨(),by rw[bw U],?_⟩))) d_
    ·have:(af t i).a8.find? (λq=>decide ((af t q.toNat).text=(af t j).text))=I (m:Int):=by
      rw[yD aB,nd,a7];simp[aQ]
     rw[this];exact bH.qE m U o_
    ·rw[da aB,nd,a7];simp[aQ]
   ·refine D.ar bt λ_=>D.inr ?_;rw[g4 (Nat.le_refl _)]at a7;rw[a7];rfl
 ·unfold H8;cases tt:j9 t a with
  |none=>simp
  |some i=>
   dsimp only;cases br:(bn t i).find? λq=>decide ((af t q.toNat).text=(af t j).text)with
   |none=>simp
   |some q=>dsimp only;rw[a4]at tt;obtain⟨_,vc⟩:=ahG aj aR c5 ag bH a6 aY iG tt;rw[<-a4]at tt;obtain⟨h1,h2,ay,bl⟩:=qD aI tt;obtain⟨m,rfl,hm,o_⟩:=vV aj aI h1 ay (List.mem_of_find?_eq_some br);obtain⟨_,bO,cX⟩:=tq aj aI (j:=m) U (.inr o_);have rY:=(bH.ty _ (show eL t m<j by omega) cX).2;exact .inr (pb.aX (bv:=e9 t m) (rY.mono U) (.field h a i (by rw[xc aI ag];exact aC) tt (m:Int) br (pc _)))
theorem asv(h:(af t j).kind=23):ry n t O j M P:=by
 have aI:=aR.dI;have fz:=aj.nodes;have ap:eV (af t j).kind=ad:=by rw[h];rfl
 obtain⟨a,b,aC⟩:=ts (O:=O) aI ag (.inr (.inr h));obtain⟨bv,a4,iG⟩:=R6 aj aI c5 ag bH ap (show a∈ec t O j by grind);have gw:=iG.size;have asw:Ku (aM n) a=I bv.tp:=by rw[a4];exact ahu a6 iG.ok U
 have asx:BH (aM n) a=I bv.tp:=by rw[a4];exact Yk a6 iG.ok U
 refine⟨if bv.tp.2.2=ad/\b=fP then bv.tp.1 else gd,D.br ?_,D.br ?_,?_⟩
 ·rw[aC];unfold nV pQ;simp only[h,jb,jR,decide_true,decide_false,ge,if_false,if_true,jC,jD,hQ,jQ,fm,jB,ja,iF];rw[bE];simp only[ge,if_false];refine D.ae (D.br ?_) (D.ret rfl);unfold GW;simp only[h,jb,jR,decide_true,decide_false,ge,if_false,if_true,jC,jD,hQ,jQ,fm,jB,ja,iF];refine D.ae (z:=a) rfl (D.ae asw (D.bK (λe=>D.ae (z:=b) rfl (D.ar (λbc=>D.ret (by rw[if_pos ⟨e,bc⟩])) λbc=>D.ret (by rw[if_neg (λq=>bc q.2)];rfl))) λe=>D.ret (by rw[if_neg (λq=>by simp_all)];rfl)))
 ·unfold pT;refine D.ae (b8 ag) (D.ae (tr aj aI c5 ag) ?_);simp only[h,jb,jR,decide_true,decide_false,ge,if_false,if_true,jC,jD,hQ,jQ,fm,jB,ja,iF];unfold D7;refine D.ae (z:=if bv.tp.2.2=ad/\b=fP then bv.tp.1 else gd) (D.br ?_) (D.ret rfl);refine D.ae (b8 ag) ?_;simp only[h,jb,jR,decide_true,decide_false,ge,if_false,if_true,jC,jD,hQ,jQ,fm,jB,ja,iF];rw[aC];refine D.ae (z:=a) rfl (D.ae asx (D.bK (λe=>D.ae (z:=b) rfl (D.ar (λbc=>D.ret (by rw[if_pos ⟨e,bc⟩])) λbc=>D.ret (by rw[if_neg (λq=>bc q.2)];rfl))) λe=>D.ret (by rw[if_neg (λq=>by simp_all)];rfl)))
 ·by_cases e:bv.tp.2.2=ad/\b=fP
  ·rw[if_pos e];cases bv with
   |hn cd k=>
    refine .inr ?_;obtain⟨c,ox,B',ax⟩:=iG.tZ;obtain⟨c',h1,h2,rfl⟩:=H_ (d:=2*j+1) ax;have cX:=iG.ok.2;have aIt:(ft.hn cd k).b9.size=cd.b9.size+5:=w9 _ _;have yJ:ma t j cd:=⟨iG.ok.1,U,c',by grind,h2,zQ h1 U (Nat.le_refl _)⟩
    refine pb.aX yJ (.index h cd k ?_ (pc _));rw[xc aI ag,aC,a4,e.2]
   |int=>cases e.1
   |bool=>cases e.1
   |ik s=>cases e.1
  simp_all
end
section
variable {n : Nat} {t : aZ} {O : Nat -> ByteArray} {j : Nat} {M : List (ByteArray × Int)} {P : List ByteArray}
variable (aj : cH t) (aR : fZ t) (c5 : lP t O j P) (ag : j < t.nodes.length) (bH : mv t O j) (a6 : 1000000 <= n) (aY : ∀ i, i < t.nodes.length -> gS t i = 0)
include aj aR c5 ag bH a6 aY
theorem asy(h:(af t j).kind=24):ry n t O j M P:=by
 have aI:=aR.dI;have hle:=EH (O:=O) aj ag;have zd:=aj.af ag;have aIu:=dJ ag;obtain⟨r,aG,gu⟩:=zR aj aI ag (aY j ag) (by rw[h];rfl);have aQ:=gu.EE;unfold l9 at aQ;rw[h]at aQ;have lO:(af t r).kind=41:=by simp_all
 have R7:=(gu.kk aI U).2;have aO:j9 t (af t j).text=I r:=by rw[<-gu.text];grind[Yp]
 have pd:=aj.af gu.lt;have aIv:=dJ gu.lt;have p4:aH (c_ t) (j:Int)=I (r:Int):=by rw[zZ ag,aG]
 have q_:o9 t r=(bn t r).map λq=>O q.toNat:=by unfold o9;apply vW;intro q aB;obtain⟨m,rfl,hm,ap⟩:=vV aj aI gu.lt lO aB;exact(bH.qE m U ap).symm
 refine⟨if o8 t r=(bn t j).map (λq=>(af t q.toNat).text)/\o9 t r=ec t O j then(af t j).text else gd,D.br ?_,D.br ?_,?_⟩
 ·unfold nV pQ;simp only[h,jb,jR,decide_true,decide_false,ge,if_false,if_true,jC,jD,hQ,jQ,fm,jB,ja,iF];rw[bE];simp only[ge,if_false];refine D.ae (D.br ?_) (D.ret rfl);unfold GW;simp only[h,jb,jR,decide_true,decide_false,ge,if_false,if_true,jC,jD,hQ,jQ,fm,jB,ja,iF];refine D.ae (R3 aj aR U _) ?_;rw[aO];dsimp only;unfold aex;refine D.for (af t j).a8.length (λa (o:List ByteArray)=>(o,(a:Int))) (λa o=>o=((bn t j).take a).map λq=>(af t q.toNat).text) (t0:=[]) rfl rfl (λa o a4 a7=>?_) λo a7=>?_
  ·subst a7;obtain⟨q,aB⟩:∃q,(af t j).a8[a]? =I q:=⟨_,bN a4⟩
   obtain⟨m,rfl,hm⟩:=jz aI ag (show q∈bn t j by grind);refine D.ar (λ_=>D.aH aB (D.ae (b8 (show m<t.nodes.length by omega)) (D.ae (eX dZ) (D.inl ⟨_,by rw[bw U],?_⟩)))) λh=>absurd dq h;simp_all[da,hT]
  ·subst a7;refine D.ar (λh=>absurd h cW) λ_=>D.bu ?_;rw[g4 dq];unfold V1 Pm;refine D.ae (xb (by grind[o8,hI])) (D.ar (λa2=>D.ae (xb dZ) (D.ar (λbc=>D.ret ?_) λbc=>D.ret ?_)) λa2=>D.ret ?_)
   ·rw[if_pos ⟨a2,bc⟩]
   ·rw[if_neg (λq=>bc q.2)];rfl
   ·rw[if_neg (λq=>a2 q.1)];rfl
 ·have asz:D (Qh (aM n) (af t j).a8 (af t r).a8 t.nodes t.aD (c_ t) t.nodes.length M P) λb=>b=ad↔(o8 t r=(bn t j).map (λq=>(af t q.toNat).text)/\o9 t r=ec t O j):=by
   unfold Qh;refine D.dB (λaC=>D.ret ⟨dF,λq=>?_⟩) λaC=>?_
   ·have:=congrArg List.length q.2;grind[o9,ec,hI]
   unfold afx;have aC:(af t j).a8.length=(af t r).a8.length:=by omega
   refine D.for (af t j).a8.length (λi (_:Unit)=>(i:Int)) (λi _=>∀(a:Nat)(p q:Int),a<i->(af t j).a8[a]? =I p->(af t r).a8[a]? =I q->(af t p.toNat).text=(af t q.toNat).text/\O p.toNat=O q.toNat) (t0:=()) rfl (λa p q h=>by omega) (λi _ hi a7=>?_) λ_ a7=>?_
   ·obtain⟨p,hp⟩:∃q,(af t j).a8[i]? =I q:=⟨_,bN hi⟩
    obtain⟨q,aB⟩:∃q,(af t r).a8[i]? =I q:=⟨_,bN U⟩
    obtain⟨vg,rfl,X8⟩:=jz aI ag (show p∈bn t j by grind);obtain⟨gn,rfl,uc⟩:=jz aI gu.lt (show q∈bn t r by grind);have sP:vg<t.nodes.length:=by omega
    have qB:gn<t.nodes.length:=by omega
    have bt:¬((af t vg).text=(af t gn).text/\O vg=O gn)->¬(o8 t r=(bn t j).map (λq=>(af t q.toNat).text)/\o9 t r=ec t O j):=by
     intro dL lr;refine dL ⟨?_,?_⟩
     ·have:=congrArg (λl=>l[i]?) lr.1;grind[o8,Option.some.inj]
     ·have:=congrArg (λl=>l[i]?) lr.2;grind[ec,Option.some.inj]
    refine D.ar (λ_=>D.aH hp (D.aH aB (D.bind (Q:=λb=>b=ad↔(af t vg).text=(af t gn).text/\O vg=O gn) ?_ λb aF=>D.bK (λe=>D.inr ⟨dF,λq=>?_⟩) λe=>D.inl ⟨(),by rw[bw U],λa x y a4 ak a9=>?_⟩))) d_
    ·unfold WJ;refine D.ae (b8 sP) (D.ae (b8 qB) (D.ar (λe=>D.ae (c5.at (show vg<j by omega) U) (D.ae (c5.at (show gn<j by omega) U) (D.ret ?_))) λe=>D.ret ⟨dF,λq=>absurd q.1 e⟩));simp_all
    ·simp_all
    grind
   ·refine D.ar bt λ_=>D.inr ⟨λ_=>⟨?_,?_⟩,λ_=>rfl⟩
    ·unfold o8;apply m3;grind
    ·rw[q_];unfold ec;apply m3;grind
  unfold pT;refine D.ae (b8 ag) (D.ae (tr aj aI c5 ag) ?_);simp only[h,jb,jR,decide_true,decide_false,ge,if_false,if_true,jC,jD,hQ,jQ,fm,jB,ja,iF];unfold D7;refine D.ae (D.br ?_) (D.ret rfl);refine D.ae (b8 ag) ?_;simp only[h,jb,jR,decide_true,decide_false,ge,if_false,if_true,jC,jD,hQ,jQ,fm,jB,ja,iF];refine D.ae p4 (D.ae (b8 gu.lt) (D.bind asz λb aF=>D.bK (λe=>D.ret ?_) λe=>D.ret ?_))
  ·rw[if_pos (aF.1 e)]
  ·rw[if_neg (λq=>by simp_all)];rfl
 ·by_cases e:o8 t r=(bn t j).map (λq=>(af t q.toNat).text)/\o9 t r=ec t O j
  ·rw[if_pos e];have i_:=EA aI ag (EB _ U);obtain⟨c,h1,h2,ay⟩:=bH.ik r R7 lO;rw[gu.text]at ay;have iG:ma t j (.ik (af t j).text):=⟨i_,by have:=i_.2.2.2;show(af t j).text.size<=_;omega,c,h1,h2,zQ ay U U⟩
   exact .inr (pb.aX iG (.zY h r aG aO e.1.symm (by simp_all[xc]) (pc _)))
  simp_all
theorem asA(h:(af t j).kind=26):ry n t O j M P:=by
 have aI:=aR.dI;have fz:=aj.nodes;have hle:=EH (O:=O) aj ag;have ap:eV (af t j).kind=ad:=by rw[h];rfl
 obtain⟨En,H4⟩:=aho aR ag h;have p1:=vX (O:=O) ag;obtain⟨x,ak⟩:∃x,(ec t O j)[0]? =I x:=⟨_,bN U⟩
 obtain⟨q,aB⟩:∃q,(bn t j)[0]? =I q:=⟨_,bN (by rw[dJ ag];omega)⟩
 obtain⟨m,rfl,hm,bv,h1,iG⟩:=ahB aj aI bH ag ap (cm aB);have o5:x=O m:=by grind[ec,Option.some.inj]
 have asB:x=bv.b9:=by rw[o5,h1]
 have gw:=iG.size;have wv:aH (ec t O j) 0=I x:=e7 (i:=0) ak;have hlen:((ec t O j).length:Int)=(((af t j).a8.length:Nat):Int):=by rw[p1]
 refine⟨if jg x (ec t O j)=ad then i' x (af t j).a8.length else gd,D.br ?_,D.br ?_,?_⟩
 ·unfold nV pQ;simp only[h,jb,jR,decide_true,decide_false,ge,if_false,if_true,jC,jD,hQ,jQ,fm,jB,ja,iF];rw[bE];simp only[ge,if_false];refine D.ae (D.br ?_) (D.ret rfl);unfold GW;simp only[h,jb,jR,decide_true,decide_false,ge,if_false,if_true,jC,jD,hQ,jQ,fm,jB,ja,iF];unfold aew;refine D.for ((ec t O j).length- 1) (λi (_:Unit)=>((i+1:Nat):Int)) (λi _=>∀a y,a<i+1->(ec t O j)[a]? =I y->y=x) (t0:=()) rfl (λa y a4 a9=>?_) (λi _ hi a7=>?_) λ_ a7=>?_
  ·simp_all
  ·obtain⟨y,a9⟩:∃y,(ec t O j)[i+1]? =I y:=⟨_,bN U⟩
   refine D.ar (λ_=>D.ae (e7 a9) (D.ae wv (D.dB (λe=>D.inr ?_) λe=>D.inl ⟨(),by rw[bw U],λa z a4 aP=>?_⟩))) d_
   ·rw[if_neg];rfl;intro q;exact e (of_decide_eq_true (kX.1 q y (cm a9)))
   grind
  ·refine D.ar bt λ_=>D.bu (D.ae wv ?_);rw[hlen];refine D.ae (Lq U dZ ⟨En,H4⟩) (D.ret ?_);rw[if_pos];refine kX.2 λy a9=>decide_eq_true ?_;grind[hf,List.getElem?_eq_some_iff]
 ·unfold pT;refine D.ae (b8 ag) (D.ae (tr aj aI c5 ag) ?_);simp only[h,jb,jR,decide_true,decide_false,ge,if_false,if_true,jC,jD,hQ,jQ,fm,jB,ja,iF];unfold D7;refine D.ae (D.br ?_) (D.ret rfl);refine D.ae (b8 ag) ?_;simp only[h,jb,jR,decide_true,decide_false,ge,if_false,if_true,jC,jD,hQ,jQ,fm,jB,ja,iF];refine D.ae wv (D.ae (B_ x hle) (D.bK (λe=>D.ae wv ?_) λe=>D.ret ?_))
  ·rw[hlen];exact D.ae (ahf dZ ⟨En,H4⟩) (D.ret (by rw[if_pos e]))
  ·rw[if_neg dZ];rfl
 ·by_cases e:jg x (ec t O j)=ad
  ·rw[if_pos e];refine .inr ⟨⟨.hn bv (af t j).a8.length,by rw[asB];rfl,⟨iG.ok,En,H4⟩,?_,?_⟩,.hn h x (by rw[xc aI ag];exact e) (by rw[pc,dJ ag])⟩
   ·show(i' _ _).size<=_;rw[w9];omega
   ·obtain⟨c,ox,B',ax⟩:=iG.tZ;refine⟨(af t j).a8.length*c,Nat.mul_pos U U,?_,λcr=>absurd h cr⟩;show hP t j (2*j+1+1) _=_;unfold hP;rw[zQ ax (show 2*m+2<=2*j+1 by omega) (show m<=j by omega)];dsimp only;rw[if_pos B']
  simp_all
theorem asC(dz:pa t j M)(ap:eV (af t j).kind=ad):ry n t O j M P:=by
 have aI:=aR.dI;have pZ:=ap;unfold eV at pZ;simp only[dn,decide_eq_true_eq,Bool.not_eq_true',decide_eq_false_iff_not]at pZ;have:(af t j).kind=1\/(af t j).kind=2\/(af t j).kind=3\/((af t j).kind=4\/(af t j).kind=6\/(af t j).kind=7\/(af t j).kind=8\/(af t j).kind=9\/(af t j).kind=10)\/((af t j).kind=5\/(af t j).kind=17\/(af t j).kind=18)\/((af t j).kind=11\/(af t j).kind=12)\/((af t j).kind=13\/(af t j).kind=14\/(af t j).kind=15\/(af t j).kind=16)\/(af t j).kind=19\/(af t j).kind=20\/(af t j).kind=21\/(af t j).kind=22\/(af t j).kind=23\/(af t j).kind=24\/(af t j).kind=26:=by omega
 rcases this with h|h|h|h|h|h|h|h|h|h|h|h|h|h
 ·exact ase aj aI c5 ag h
 ·exact asf aj aI c5 ag h
 ·simp_all[asn]
 ·exact asg aj aI c5 ag h
 ·exact ash aj aI c5 ag h
 ·exact asj aj aI c5 ag h
 ·exact asi aj aI c5 ag h
 ·exact asl aj aI c5 ag bH h
 ·exact asm aj aI c5 ag bH h
 ·simp_all[asp]
 ·simp_all[asu]
 ·simp_all[asv]
 ·simp_all[asy]
 simp_all[asA]
end
structure LA(t:aZ)(O:Nat->ByteArray)(j:Nat)(v:ByteArray):Prop where
 ex:eV (af t j).kind=ad->(∃bv,v=bv.b9/\ma t j bv)/\EF t (su O j v) j
 ty:mW (af t j).kind=ad->v=(hU t j).b9/\ma t j (hU t j)
 qE:(af t j).kind=34->v=(e9 t j).b9
 put:(af t j).kind=25->v=O (eL t j)
 Yq:kT (af t j).kind=ad->v=gd
 ik:(af t j).kind=41->∃c,1<=c/\c<=8/\hP t (j+1) (2*j+1) (.ik (af t j).text)=I c
 fn:(af t j).kind=42->O (fD t j)=(hU t (p3 t j)).b9
section
variable {n : Nat} {t : aZ} {O O' : Nat -> ByteArray} {j : Nat} {M : List (ByteArray × Int)} {P : List ByteArray}
variable {i:Nat}
def asD(aI:dD t)(hi:i<t.nodes.length)(h:∀m,m<i->O m=O' m):ec t O i=ec t O' i:=by grind[ec,vW,jz]
def EF.congr(aI:dD t)(hi:i<t.nodes.length)(h:∀m,m<=i->O m=O' m)(aO:EF t O i):EF t O' i:=by
 have aC:=asD (O:=O) (O':=O') aI hi λm hm=>h m U;have tY:=h i (Nat.le_refl _);cases aO with
 |num h1 e=>exact .num h1 dq
 |bool h1 e=>exact .bool h1 dq
 |zS h1 d h2 ay e=>exact .zS h1 d h2 ay dq
 |zT h1 d h2 ay e=>exact .zT h1 d h2 ay dq
 |zU h1 d h2 ay lt e=>exact .zU h1 d h2 ay lt dZ
 |zV h1 h2 e=>exact .zV h1 dq dq
 |zW h1 h2 e=>exact .zW h1 dq dq
 |br h1 h2 e=>exact .br h1 dq dq
 |zX h1 h2 e=>exact .zX h1 dq dq
 |bK h1 h2=>exact .bK h1 dq
 |lt h1 x h2=>exact .lt h1 x dq
 |call h1 d h2 ay bl e=>exact .call h1 d h2 ay dq dq
 |field h1 s r h2 ay q bl e=>exact .field h1 s r dq ay q bl dq
 |index h1 cd k h2 e=>exact .index h1 cd k dq dq
 |zY h1 r h2 ay bl bO e=>exact .zY h1 r h2 ay bl dq dq
 |hn h1 x h2 e=>exact .hn h1 x dq dq
def asE(aI:dD t)(hi:i<t.nodes.length)(h:(af t i).kind=25):eL t i<i:=by obtain⟨_,_,h⟩:=o7 aI hi (by simp_all[n2]);exact h
def mv.step(aj:cH t)(aI:dD t)(ag:j<t.nodes.length)(bH:mv t O j){v:ByteArray}(ju:LA t O j v):mv t (su O j v) (j+1):=by
 have hu:∀m,m<j->su O j v m=O m:=λm hm=>Lx hm;have aQ:=pc (O:=O) (j:=j) v;constructor
 ·intro i hi ap;by_cases e:i=j
  ·subst e;rw[aQ];exact(ju.ex ap).1
  ·rw[hu i U];exact bH.ex i U ap
 ·intro i hi ap;by_cases e:i=j
  ·subst e;rw[aQ];exact ju.ty ap
  ·rw[hu i U];exact bH.ty i U ap
 ·intro i hi ap;by_cases e:i=j
  ·subst e;rw[aQ];exact ju.qE ap
  ·rw[hu i U];exact bH.qE i U ap
 ·intro i hi ap;have b':=asE aI (i:=i) U ap;rw[hu _ (show eL t i<j by omega)];by_cases e:i=j
  ·subst e;rw[aQ];exact ju.put ap
  ·rw[hu i U];exact bH.put i U ap
 ·intro i hi ap;by_cases e:i=j
  ·subst e;rw[aQ];exact ju.Yq ap
  ·rw[hu i U];exact bH.Yq i U ap
 ·intro i hi ap;by_cases e:i=j
  ·subst e;exact ju.ik ap
  ·exact bH.ik i U ap
 ·intro i hi ap;by_cases e:i=j
  ·subst e;exact(ju.ex ap).2
  ·exact(bH.EG i U ap).congr aI U λm hm=>(hu m U).symm
 ·intro i hi ap;have b':=(rx aj aI (show i<t.nodes.length by omega) ap).2.1;rw[hu _ (show fD t i<j by omega)];by_cases e:i=j
  ·subst e;exact ju.fn ap
  ·exact bH.fn i U ap
def lP.step(ag:j<t.nodes.length)(c5:lP t O j P)(v:ByteArray):lP t (su O j v) (j+1) (P.set j v):=by
 refine⟨by simpa using c5.1,λi hi=>?_⟩;rw[u4];split
 ·next e=>subst e;rw[if_pos (by rw[c5.1];exact hi),if_pos U,pc]
 ·next e=>
  rw[c5.2 i hi];by_cases h:i<j
  ·rw[if_pos h,if_pos U,Lx h]
  grind
def lP.LB(ag:j<t.nodes.length)(c5:lP t O j P):lP t (su O j gd) (j+1) P:=by
 have:=c5.step ag gd;have h2:P.set j gd=P:=by
  apply m3;intro i;rw[u4];split
  ·next e=>subst e;rw[if_pos (by rw[c5.1];exact ag),c5.2 _ ag,if_neg U]
  ·rfl
 rwa[h2]at this
def pa.step(aI:dD t)(ag:j<t.nodes.length)(dz:pa t j M)(ap:(af t j).kind≠41):pa t (j+1) M:=by
 intro s;rw[dz s];unfold yI;cases e:j9 t s with
 |none=>rfl
 |some i=>dsimp only;obtain⟨_,_,lO,_⟩:=qD aI e;grind
def pa.asF(aY:∀i,i<t.nodes.length->gS t i=0)(aI:dD t)(ag:j<t.nodes.length)(dz:pa t j M)(ap:(af t j).kind=41):pa t (j+1) (fB M (af t j).text (j:Int)):=by
 intro s;rw[sr];have aO:=Yp aY aI ag ap;by_cases e:(af t j).text=s
 ·subst e;rw[if_pos rfl];unfold yI;rw[aO];dsimp only;rw[if_pos U]
 ·rw[if_neg e,dz s];unfold yI;cases bc:j9 t s with
  |none=>rfl
  |some i=>dsimp only;obtain⟨_,_,_,bl⟩:=qD aI bc;grind
def asG(v:ByteArray):fQ t (su O j v) (j+1)=fQ t O j++[if eV (af t j).kind=ad then v else gd]:=by unfold fQ;simp_all[List.range_succ,hT,vW,Lx,List.mem_range,List.map_cons,List.map_nil,pc]
theorem LC:(fQ t O j).length=j:=by unfold fQ;simp
theorem pa.ae(dz:pa t j M):∀s i,j9 t s=I i->i<j->eE M s=I (i:Int):=by intro s i h hi;rw[dz s];unfold yI;rw[h];dsimp only;rw[if_pos hi]
theorem lP.qE(aj:cH t)(aI:dD t)(bH:mv t O j)(ag:j<=t.nodes.length)(c5:lP t O j P):∀m,m<j->(af t m).kind=34->P[m]? =I (e9 t m).b9:=by intro m hm ap;rw[c5.2 m U,if_pos hm,bH.qE m hm ap]
def Yw(aj:cH t)(aR:fZ t)(a6:1000000<=n){bv:ft}{c d:Nat}{ci:List Int}(dz:∀s i,j9 t s=I i->i<j->eE M s=I (i:Int))(c5:∀m,m<j->(af t m).kind=34->P[m]? =I (e9 t m).b9)(h:hP t j d bv=I c)(aG:d<=n)(ap:bv.ok)(aQ:bv.b9.size< 100000):yq (aM n) bv.b9 t.nodes t.aD ci t.nodes.length M P=I (decide (8<c)):=by refine D.br ?_;unfold yq;refine D.ae (Yn aj aR a6 dz c5 d n bv c h aG ap aQ) (D.ret ?_);grind
end
def yK(n:Nat)(t:aZ)(O:Nat->ByteArray)(j:Nat)(M:List (ByteArray×Int))(P:List ByteArray):Prop:=
 ∃(e:Int)(v:ByteArray)(Ca:List (ByteArray×Int))(vi:List ByteArray),vA (aM n) (j:Int) t.nodes t.aD (c_ t) t.nodes.length M P=I (e,Ca,vi)/\
  (eV (af t j).kind=ad->GX (aM n) t ⟨c_ t⟩ (fQ t O j++[gd]) (j:Int)=I v)/\ur (aM n) t (fQ t O j++[if eV (af t j).kind=ad then v else gd]) (j:Int)=I e/\
  (e=0->LA t O j v/\pa t (j+1) Ca/\lP t (su O j v) (j+1) vi)
section
variable {n : Nat} {t : aZ} {O : Nat -> ByteArray} {j : Nat} {M : List (ByteArray × Int)} {P : List ByteArray}
variable (aj : cH t) (aR : fZ t) (c5 : lP t O j P) (dz : pa t j M) (ag : j < t.nodes.length) (bH : mv t O j) (a6 : 1000000 <= n) (aY : ∀ i, i < t.nodes.length -> gS t i = 0)
theorem LD(ag:j<t.nodes.length):GR t (j:Int)=I (eV (af t j).kind):=by unfold GR;rw[b8 ag];rfl
variable {v:ByteArray}
def Yx{m:Nat}(h:m<j)(ap:eV (af t m).kind=ad):aH (fQ t O j++[v]) (m:Int)=I (O m):=by simp_all[e7,List.getElem?_append_left,LC,fQ,List.getElem?_map,List.getElem?_range,Option.map_some,if_pos]
theorem R8:aH (fQ t O j++[v]) (j:Int)=I v:=by simp_all[e7,List.getElem?_append_right,LC,Nat.le_refl]
def ahH{α:Type}{xs:List α}{i:Nat}{x:α}(h:i<xs.length):(xs.set i x)[i]? =I x:=by simp[h]
include aj aR c5 dz ag bH a6 aY
theorem asH(ap:eV (af t j).kind=ad):yK n t O j M P:=by
 have aI:=aR.dI;have fz:=aj.nodes;obtain⟨s,ju,eO,jr⟩:=asC aj aR c5 ag bH a6 aY dz ap;have Yy:=asc (n:=n) aj aI bH ag ap ju;have z1:=Lv (n:=n) (M:=M) c5 (show j<=t.nodes.length by omega) (ks:=(af t j).a8) (by have:=aj.af ag;omega) (λq aB=>jz aI ag (by rw[dJ ag];exact aB)) (ci:=c_ t);have z2:j<P.length:=by rw[c5.1];exact ag
 have oP:P[j]? =I (P[j]):=bN z2;have uF:(P.set j s)[j]? =I s:=ahH z2;have sv:td (af t j).kind=I ad:=by simp_all[td,eV,dn,decide_eq_true_eq,decide_eq_true,congrArg,fm]
 have Yz:(if eV (af t j).kind=ad then s else gd)=s:=if_pos ap;have lO:(af t j).kind≠41:=λe=>by rw[e]at ap;cases ap
 have prog:∀e:Int,(∀z:List ByteArray×Nat,D (if decide (s=(bk #[]))=ad then I ((11:Int),M,P.set j s)else if decide ((af t j).kind=26)=ad then(gz t.nodes.length (P.set j s) (j:Int)).bind λbJ=>Option.bind (yq (aM n) bJ.1.2 t.nodes t.aD (c_ t) t.nodes.length M (P.set j s)) λcG=>if cG=ad then I (5,M,P.set j s)else I (0,M,P.set j s)else I (0,M,P.set j s)) (· =(e,M,P.set j s)))->vA (aM n) (j:Int) t.nodes t.aD (c_ t) t.nodes.length M P=I (e,M,P.set j s):=by
  intro e gf;refine D.br ?_;unfold vA;refine D.ae (b8 ag) (D.bind z1 λz _=>D.ae sv ?_);refine D.bK (λ_=>D.ae eO (D.ae (hN oP ag) (D.ae (hN uF ag) ?_))) λe=>by cases e
  exact gf z
 have R9:=c5.step ag s;have EI:=dz.step aI ag lO;by_cases aQ:s=gd
 ·refine⟨11,s,M,P.set j s,prog 11 λz=>?_,λ_=>Yy,D.br ?_,dF⟩
  ·exact D.ar (λ_=>D.ret rfl) λe=>absurd aQ e
  ·rw[Yz];unfold ur;exact D.ae (b8 ag) (D.ae (LD ag) (D.bK (λ_=>D.ae R8 (D.ar (λ_=>D.ret rfl) λe=>absurd aQ e)) λe=>by simp_all))
 ·obtain⟨⟨bv,iG,kQ,gw,c,ox,ax,B'⟩,aO⟩:=jr.resolve_left aQ;by_cases BY:(af t j).kind=26
  ·have LF:yq (aM n) s t.nodes t.aD (c_ t) t.nodes.length M (P.set j s)=I (decide (8<c)):=by
    rw[iG];refine Yw aj aR a6 dz.ae (λm hm o_=>?_) ax U kQ U;rw[u4,if_neg U];exact c5.qE aj aI bH U m hm o_
   have z3:DW (aM n) t s=I (if 8<c then 5 else 0):=by grind[Ym]
   refine⟨if 8<c then 5 else 0,s,M,P.set j s,prog _ λz=>?_,λ_=>Yy,D.br ?_,λh=>⟨?_,EI,R9⟩⟩
   ·refine D.ar (λe=>absurd e aQ) λ_=>D.ar (λ_=>D.ae (hN uF ag) (D.ae LF (D.ar (λe=>D.ret (by rw[if_pos e])) λe=>D.ret (by rw[if_neg e])))) λe=>absurd BY e
   ·rw[Yz];unfold ur;refine D.ae (b8 ag) (D.ae (LD ag) (D.bK (λ_=>D.ae R8 (D.ar (λe=>absurd e aQ) λ_=>?_)) λe=>by simp_all));simp_all[vw,D.ar,D.ae,R8,D.ret,absurd]
   ·have YA:c<=8:=by
     omega
    refine⟨λ_=>⟨⟨bv,iG,kQ,gw,c,ox,YA,ax⟩,aO⟩,λh=>?_,λh=>?_,λh=>?_,λh=>?_,λh=>?_,λh=>?_⟩<;>(rw[BY]at h;cases h)
  ·have YA:=B' BY;refine⟨0,s,M,P.set j s,prog _ λz=>?_,λ_=>Yy,D.br ?_,λ_=>⟨?_,EI,R9⟩⟩
   ·exact D.ar (λe=>absurd e aQ) λ_=>D.ar (λe=>absurd e BY) λ_=>D.ret rfl
   ·rw[Yz];unfold ur;refine D.ae (b8 ag) (D.ae (LD ag) (D.bK (λ_=>D.ae R8 (D.ar (λe=>absurd e aQ) λ_=>?_)) λe=>by simp_all));have pZ:=ap;unfold eV at pZ;simp only[dn,decide_eq_true_eq]at pZ;unfold vw;exact D.ar (λe=>absurd e BY) λ_=>D.ar bt λ_=>D.ar bt λ_=>D.ar bt λ_=>D.ar bt λ_=>D.ar bt λ_=>D.ret rfl
   ·refine⟨λ_=>⟨⟨bv,iG,kQ,gw,c,ox,YA,ax⟩,aO⟩,λh=>?_,λh=>?_,λh=>?_,λh=>?_,λh=>?_,λh=>by rw[h]at ap;(cases ap)⟩
    ·unfold eV at ap;unfold mW at h;grind
    ·rw[h]at ap;cases ap
    ·rw[h]at ap;cases ap
    ·unfold eV at ap;unfold kT at h;grind
    omega
omit c5 dz bH aY in
theorem Ib(ap:eV (af t j).kind=aS){e:Int}(h:D (vw (fQ t O j++[gd]) (j:Int) (aM n) t (af t j) (af t j).kind) (· =e)):ur (aM n) t (fQ t O j++[if eV (af t j).kind=ad then v else gd]) (j:Int)=I e:=by rw[ap,if_neg cW];refine D.br ?_;simp_all[ur,D.ae,b8,LD,D.bK]
omit c5 dz bH aY in
theorem YB(ap:eV (af t j).kind=aS)(BY:(af t j).kind≠26)(XO:(af t j).kind≠33)(lO:(af t j).kind≠41)(c7:(af t j).kind≠42)(mb:(af t j).kind≠44)(RR:(af t j).kind≠46):ur (aM n) t (fQ t O j++[if eV (af t j).kind=ad then v else gd]) (j:Int)=I 0:=by refine Ib aj aR ag a6 ap ?_;simp_all[vw,D.ar,absurd,D.ret]
omit c5 dz bH aY in
theorem R_(z:List ByteArray×Nat)(vi:List ByteArray)(lO:(af t j).kind≠41)(c7:(af t j).kind≠42)(mb:(af t j).kind≠44)(RR:(af t j).kind≠46):te (aM n) (j:Int) z t.nodes t.aD (c_ t) t.nodes.length M (vi,(af t j).kind)=I (0,M,vi):=by refine D.br ?_;unfold te;refine D.ae (z:=(0,M,vi)) (D.br ?_) (D.ret rfl);unfold D';refine D.ae (b8 ag) (D.ar (λe=>absurd e lO) λ_=>D.ar (λe=>absurd e c7) λ_=>D.ar (λe=>absurd e mb) λ_=>D.ar (λe=>absurd e RR) λ_=>?_);exact D.ret rfl
end
end Go.Proofs.YtjfgooffdmnnkaaGreatDoor

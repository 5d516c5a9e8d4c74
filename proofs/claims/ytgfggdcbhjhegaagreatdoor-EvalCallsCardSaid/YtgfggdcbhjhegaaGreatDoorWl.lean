/- The law of calls: the end. -/
import Derived.Test.YtgfggdcbhjhegaaGreatDoorWk
set_option linter.all false
set_option maxRecDepth 100000
set_option maxHeartbeats 1000000
namespace Go.Proofs.YtgfggdcbhjhegaaGreatDoor
open Go Go.Mi Go.RowKit Go.Dp
open Bool renaming true->ah,or_eq_false_iff->iM,false->aQ
open Int renaming le_refl->me,toNat_natCast->eq
open List renaming getElem?_eq_getElem->cq,getElem?_map->fv,sum_append->wC,length_map->h6,sum_cons->nR
open Option renaming some->D,bind_some->cl,bind->aw
noncomputable def A3(t:bf)(O:Nat->ByteArray)(w:List Int)(d:Nat)(l:List bt):List bt:=(bo t O (f' t w) (ey t d) (iO (dh t d) (oD (ga t d) l)) d 0).1
section
variable {n : Nat} {t : bf} {O : Nat -> ByteArray} {w : List Int}
variable {d:Nat}{l:List bt}
theorem aeo(bv:jE n t O)(az:d<t.nodes.length)(b9:(af t d).kind=42)(aK:(ga t d).sum=l.length)(aP:∀v∈l,gg v):(A3 t O w d l).length<=8:=by have aB:=nP bv.ok bv.wf.cZ az b9;have hC:=Nk bv.ok bv.wf bv.ht az b9;obtain⟨bn,_,_,gS,kY,iV,_⟩:=mh bv.ok bv.wf bv.ht bv.g2 (show ey t d<t.nodes.length by omega) (.inl aB.2.2);have bg:=yw (aT:=f' t w) bv.ok bv.wf bv.ht bv.g2 _ (ey t d) _ _ _ (Nat.lt_succ_self _) hC (.inl aB.2.2) (U5 bv az b9 aK aP).1;have:=bg.1;unfold A3;omega
variable {k:Nat}
theorem aqP(bv:jE n t O)(ao:t.aX[k]? =D (d:Int))(az:d<t.nodes.length)(b9:(af t d).kind=42)(a8:h7 t w (k+1)=ah)(aK:(ga t d).sum=l.length)(aP:∀v∈l,gg v):Mz (aZ n) t (k:Int) l w=D (A3 t O w d l):=by
 have ai:=bv.ok;have ay:=bv.wf.cZ;have fP:=bv.qS;have e0:=ai.nodes;have hn:=ai.aX;have jO:k<t.aX.length:=(List.getElem?_eq_some_iff.1 ao).1;have pi:=Hr ai bv.wf a8;have UC:=U4 bv az;have HF:=U3 bv az b9;have kd:(ga t d).length=(dh t d).length:=by unfold ga;rw[h6]
 have vC:(lw t d).length=(dh t d).length:=by unfold lw;rw[h6]
 obtain⟨f1,f2⟩:=U5 bv az b9 aK aP;have hC:=Nk ai bv.wf bv.ht az b9;have kU:=hC.dy ai bv.wf bv.ht;have aB:=nP ai ay az b9;have jY:∃c,gw t t.nodes.length (2*t.nodes.length+2) (gf t (k_ t d))=D c/\(gf t (k_ t d)).ok/\(gf t (k_ t d)).bR.size< 100000:=by obtain⟨UI,ep,fD⟩:=bv.g2.ex (ey t d) aa aB.2.2;have iF:=bv.g2.fn d az b9;obtain⟨_,wE,aqQ⟩:=M7 ai ay az b9;have fH:=(DI ai bv.wf _ (show k_ t d<t.nodes.length by omega) aqQ).1;have a5:UI=gf t (k_ t d):=eK.inj fD.ok fH (by rw[<-ep,iF]);obtain⟨c,_,_,_,lL⟩:=fD.ez aa;have ff:=fD.size;grind
 obtain⟨h5,aqR,rQ,yV⟩:=jY;refine I.bN ?_;unfold Mz;refine I.aq (Hs ai bv.wf bv.ht bv.g2 fP bv.k' bv.lx) (I.bind (Hu ai bv.wf bv.ht bv.g2 fP bv.k' bv.lx (p:=k) aa (λd az hm=>pi d az ((List.take_sublist_take_left (Nat.le_succ k)).subset hm)) (by rw[c8 aa aa])) λz bj=>?_);obtain⟨fU,st,op,a',v⟩:=z;obtain⟨h1,h2,aJ,bp⟩:=bj;dsimp only at h1 h2 aJ bp;have aJ:op=0:=aJ;subst aJ;have jh:=(UH (aT:=f' t w) ay ao h1).2;refine I.aL ao (I.aq (M8 ai bv.wf aa az b9) ?_);unfold abL;refine I.for (lw t d).length (λi (_:Unit)=>((oD (ga t d) l).take i,(((ga t d).take i).sum:Int),(i:Int))) (λ_ _=>True) (t0:=()) rfl trivial (λi _ wJ _=>?_) λ_ _=>?_
 ·obtain⟨p,hp⟩:∃p,(dh t d)[i]? =D p:=⟨_,cq aa⟩
  obtain⟨m,rfl,_⟩:=pe ai ay az b9 hp;obtain⟨eQ,jb,ll,lL,x_,x'⟩:=NH bv az b9 hp;have aV:(lw t d)[i]? =D (dn t m).bR:=by simp_all[lw,fv]
  have hw:(ga t d)[i]? =D (ez t (dn t m)):=by simp_all[ga,fv]
  have M9:=U2 HF i;have Aj:tw (aZ n) t (dn t m).bR=D (ez t (dn t m):Int):=DM ai bv.wf aa _ n _ _ _ x' aa ll aa;have Ap:(ga t d).sum=((ga t d).take i).sum+(ez t (dn t m)+((ga t d).drop (i+1)).sum):=by
   conv=>lhs;rw[sx hw]
   rw[wC,nR]
  have lR:aH ((((ga t d).take i).sum:Int)+(ez t (dn t m):Int))=((((ga t d).take i).sum+ez t (dn t m):Nat):Int):=by grind[c8]
  have tT:hG l (((ga t d).take i).sum:Int) (aH ((((ga t d).take i).sum:Int)+(ez t (dn t m):Int)))=D ((l.drop ((ga t d).take i).sum).take (ez t (dn t m))):=by rw[lR];unfold hG;rw[if_pos ⟨aa,aa,aa⟩,eq,eq,Nat.add_sub_cancel_left]
  refine I.aC (λ_=>I.aL aV (I.aq Aj (I.aq tT (I.aq (jj (Nat.le_trans (Nat.add_le_add (show((oD (ga t d) l).take i).length<=800 by grind) (Nat.le_refl 1)) eu)) (I.inl ⟨(),?_,trivial⟩))))) λh=>absurd cK h;rw[lR,cM aa,gd (aem hw),gd hw,wC,nR,List.sum_nil];rfl
 ·refine I.aC (λh=>absurd h fT) λ_=>I.dk ?_;rw[show(lw t d).length=(oD (ga t d) l).length by rw[U1,kd,vC],List.take_of_length_le (Nat.le_refl _)];unfold SX;have Aj:tw (aZ n) t (gf t (k_ t d)).bR=D (h5:Int):=DM ai bv.wf aa _ n _ _ _ aqR aa rQ yV;refine I.aL ao (I.aq Aj (I.aq (z:=fN ((bo t O (f' t w) (ey t d) (iO (dh t d) (oD (ga t d) l)) d 0).1,(bo t O (f' t w) (ey t d) (iO (dh t d) (oD (ga t d) l)) d 0).2.1,1+(bo t O (f' t w) (ey t d) (iO (dh t d) (oD (ga t d) l)) d 0).2.2) st 0 a') (I.bN ?_) (I.ret rfl)));have a_:=(DQ bv.wf az b9).1;unfold Df;refine I.aq (cw az) (I.aC br λ_=>?_);unfold De;refine I.aC br λ_=>?_;exact I.aY (adP (e:=0) (op:=0) (a':=a') (st:=st) ai bv.wf bv.ht bv.g2 aa (yz ai bv.wf bv.g2) (Ht ai bv.wf bv.g2) (K:=n) (r:=Gw (aZ n)) (UD ai bv.wf bv.ht bv.g2 aa (yz ai bv.wf bv.g2) (Ht ai bv.wf bv.g2) n) az b9 hC aa f1 f2 jh (me _) bp aa) rfl
theorem aqS(bv:jE n t O)(ao:t.aX[k]? =D (d:Int))(az:d<t.nodes.length)(b9:(af t d).kind=42)(rG:l.length<=100000)(dw:NG l)(kd:w.length<=1000000):
  (h7 t w (k+1)=aQ/\m7 (aZ n) t (k:Int) l w=D ([],3))\/(h7 t w (k+1)=ah/\(((ga t d).sum≠l.length/\m7 (aZ n) t (k:Int) l w=D ([],4))\/((ga t d).sum=l.length/\((¬(∀v∈l,gg v)/\m7 (aZ n) t (k:Int) l w=D ([],2))\/((∀v∈l,gg v)/\m7 (aZ n) t (k:Int) l w=D (A3 t O w d l,0)))))):=by
 have ai:=bv.ok;have ay:=bv.wf.cZ;rcases UW (w:=w) bv ao kd (.inr ⟨42,rfl,b9⟩)with⟨a8,aV⟩|⟨a8,nm,gu,aV⟩
 ·simp_all[m7,cl]
 ·refine .inr ⟨a8,?_⟩;obtain⟨⟨Z,sL⟩,bj,ef,eM⟩:=aqO (nm:=nm) (L:=[]) (S:=[]) (W:=[]) bv az b9 (λs c h=>by cases h);have ef:Z=_:=ef;subst ef;obtain⟨b,jn,ic⟩:=aqM (n:=n) rG dw;have la:I (m7 (aZ n) t (k:Int) l w) λz=>z=if(ga t d).sum≠l.length then([],4)else if b=ah then([],2)else(A3 t O w d l,0):=by
   unfold m7;rw[aV,cl];simp only[Sum.elim_inr];rw[if_neg eu];refine I.aL ao (I.aq bj (I.eh (λh=>?_) λh=>?_))
   ·rw[if_pos aa];exact I.ret rfl
   ·have aK:(ga t d).sum=l.length:=by omega
    rw[if_neg aa];refine I.aq jn (I.bC (λh=>?_) λh=>?_)
    ·rw[if_pos h];exact I.ret rfl
    ·have aP:=ic.1 h;rw[if_neg dt];obtain⟨f1,f2⟩:=U5 bv az b9 aK aP;have hC:=Nk ai bv.wf bv.ht az b9;have kU:=hC.dy ai bv.wf bv.ht;have Qb:=aqr bv.toAS (UX ay ao (Nat.le_succ k) gu) d 0 (oD (ga t d) l) 0 0 0 [] sL [] az b9 hC kU f1 f2 (Nat.le_refl _) ⟨λd l h=>(by cases h),eM,λm sp h=>(by cases h)⟩ (me _) (me _) aa;rw[aqK aK]at Qb;grind[I.bind,aeo,A3,I.aq,I.bN,I.ret,Gf,r4]
  have la:=la.bN;grind
theorem aqT(fP:k5=D ah)(a_:10000000<=n)(dw:D3 t)(g:Fz)(ii:NG g.args):SY (aZ n) t g=D ah:=by
 obtain⟨b,aB,cc⟩:=HB (n:=n) dw;refine I.bN ?_;unfold SY;refine I.aq aB (I.bC (λ_=>I.aq fP (I.ret rfl)) λaV=>?_);rw[iM,iM,decide_eq_false_iff_not,decide_eq_false_iff_not]at aV;obtain⟨ai,e0,hn⟩:=cc aV.1.1;have kd:g.l7.length<=20:=by omega
 have jO:g.args.length<=50:=by omega
 obtain⟨e,he,aP,mv⟩:=Hy (n:=n) ai a_;refine I.aq (HC ai) (I.aq (r4 aa) (I.aq (r4 aa) ?_));have rN:∀(e:Int),e≠0->I (lr ([],e) (aZ n) t g e) (· =ah):=λe he=>by simp_all[lr,I.eh,I.bC,I.aq,I.ret,absurd]
 by_cases kw:e=0
 ·subst kw;obtain⟨O,bv⟩:=mv rfl;have ay:=bv.wf.cZ;by_cases aM:g.gM< 0\/(t.aX.length:Int)<=g.gM
  ·have la:m7 (aZ n) t g.gM g.args g.l7=D ([],7):=by grind[m7,Hz]
   have sM:nI t g.gM=D aQ:=by grind[nI]
   exact I.aq la (I.aq (oC ai) (I.bC cF λ_=>I.aq (oB aa) (I.bC cF λ_=>I.aq (A0 aa) (I.bC cF λ_=>I.aq aP (I.eh (λh=>absurd rfl h) λ_=>I.aq sM (I.bC (λ_=>rN 7 eu) cF))))))
  ·obtain⟨k,au⟩:∃k:Nat,g.gM=k:=⟨g.gM.toNat,aa⟩
   obtain⟨q,aE⟩:∃q,t.aX[k]? =D q:=⟨_,cq aa⟩
   obtain⟨i,rfl,_,g1⟩:=ay.fI.eB _ (List.mem_of_getElem? aE);have sM:nI t g.gM=D ah:=by simp_all[nI]
   have ku:=HD (w:=g.l7) bv aa (p:=g.gM) aa aa;rw[show(g.gM+1).toNat=k+1 by omega]at ku;have q8:aL t.aX g.gM=D (i:Int):=by rw[au];exact e3 aE
   have wrap:∀be,m7 (aZ n) t g.gM g.args g.l7=D be->I (if(!decide ((af t i).kind=42))=ah then lr be (aZ n) t g 7 else(tz (aZ n) t g.gM g.l7).bind λh'=>if(!h')=ah then lr be (aZ n) t g 3 else(Di (aZ n) t g.gM).bind λiJ=>if(!decide ((g.args.length:Int)=iJ))=ah then lr be (aZ n) t g 4 else(Dj (aZ n) g.args).bind λiK=>if(!iK)=ah then lr be (aZ n) t g 2 else lr be (aZ n) t g 0) (· =ah)->
     I (aw (m7 (aZ n) ⟨t.nodes,t.aX⟩ g.gM g.args g.l7) λbe=>aw (uT (aZ n) ⟨t.nodes,t.aX⟩ t) λbL=>if(!bL)=ah then D aQ else(uU (aZ n) g.l7 g.l7).bind λbJ=>if(!bJ)=ah then D aQ else(qu (aZ n) g.args g.args).bind λci=>if(!ci)=ah then D aQ else(sq (aZ n) t).bind λcP=>if(!decide (cP=0))=ah then lr be (aZ n) t g cP else(nI t g.gM).bind λgk=>if(!gk)=ah then lr be (aZ n) t g 7 else(aL t.aX g.gM).bind λfo=>aw (aL t.nodes fo) λiI=>if(!decide (iI.kind=42))=ah then lr be (aZ n) t g 7 else(tz (aZ n) t g.gM g.l7).bind λh'=>if(!h')=ah then lr be (aZ n) t g 3 else(Di (aZ n) t g.gM).bind λiJ=>if(!decide ((g.args.length:Int)=iJ))=ah then lr be (aZ n) t g 4 else(Dj (aZ n) g.args).bind λiK=>if(!iK)=ah then lr be (aZ n) t g 2 else lr be (aZ n) t g cP) (· =ah):=by
    intro be la h;exact I.aq la (I.aq (oC ai) (I.bC cF λ_=>I.aq (oB aa) (I.bC cF λ_=>I.aq (A0 aa) (I.bC cF λ_=>I.aq aP (I.eh (λh=>absurd rfl h) λ_=>I.aq sM (I.bC cF λ_=>I.aq q8 (I.aq (cw g1) h)))))))
   by_cases b9:(af t i).kind=42
   ·have yn:=aqN bv aE g1 b9;obtain⟨aqU,aqV,aqW⟩:=aqL (n:=n) (l:=g.args) aa ii;have la:=aqS (w:=g.l7) bv aE g1 b9 (l:=g.args) aa ii aa;rw[<-au]at la yn;rcases la with⟨a8,la⟩|⟨a8,la⟩
    ·simp_all
    ·rw[a8]at ku;rcases la with⟨aK,la⟩|⟨aK,la⟩
     ·grind
     ·rcases la with⟨e9,la⟩|⟨e9,la⟩
      ·grind
      ·have:aqU=ah:=aqW.2 e9;subst this;have aep:=aqP (w:=g.l7) bv aE g1 b9 a8 aK e9;rw[<-au]at aep;have gO:=aeo (w:=g.l7) bv g1 b9 aK e9;refine wrap _ la (I.eh (λh=>absurd b9 h) λ_=>I.aq ku (I.bC cF λ_=>I.aq yn (I.eh dv λ_=>I.aq aqV (I.bC cF λ_=>?_))));unfold lr;exact I.eh (λh=>absurd rfl h) λ_=>I.aC (λ_=>I.aq aep (I.aq (A0 (l:=A3 t O g.l7 i g.args) aa) (I.bC (λ_=>I.aq fP (I.ret rfl)) cF))) λh=>absurd rfl h
   ·have la:m7 (aZ n) t g.gM g.args g.l7=D ([],7):=by
     grind[m7,aed]
    grind
 ·have la:m7 (aZ n) t g.gM g.args g.l7=D ([],e):=by unfold m7;rw[HA he kw,cl];simp only[Sum.elim_inl];rw[if_pos cK]
  exact I.aq la (I.aq (oC ai) (I.bC cF λ_=>I.aq (oB aa) (I.bC cF λ_=>I.aq (A0 aa) (I.bC cF λ_=>I.aq aP (I.eh (λ_=>rN e kw) λh=>absurd h kw)))))
end
end Go.Proofs.YtgfggdcbhjhegaaGreatDoor

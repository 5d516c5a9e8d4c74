/- Types of nodes, side by side: types, parameters, items. -/
import Derived.Test.YtgfggdcbhjhegaaGreatDoorWe
set_option linter.all false
set_option maxRecDepth 100000
namespace Go.Proofs.YtgfggdcbhjhegaaGreatDoor
open Go Go.Mi Go.RowKit Go.Dp
open Bool renaming or_eq_true->hk,or_eq_false_iff->iM,and_eq_true->ea,true->ah,false->aQ
open Int renaming toNat_natCast->eq
open Int.ofNat renaming inj->ew
open List renaming getElem?_eq_getElem->cq,mem_of_getElem?->cC,mem_append->ig,replicate->dm,take_of_length_le->fz,getElem?_of_mem->fO,map_congr_left->sE,getElem?_map->fv,map_cons->gI,mem_map->lH,take->uB
open Nat renaming le_refl->b5,lt_succ_self->qI
open Option renaming some->D,bind->aw
section
variable {n : Nat} {t : bf} {O : Nat -> ByteArray} {j : Nat} {M : List (ByteArray × Int)} {P : List ByteArray}
variable (ai : c7 t) (aO : hA t) (cL : j' t O j P) (eZ : ne t j M) (ae : j < t.nodes.length) (bx : kO t O j) (a_ : 1000000 <= n) (aS : ∀ i, i < t.nodes.length -> gv t i = 0)
include ai aO cL eZ ae bx a_ aS
theorem aos(h:(af t j).kind=30\/(af t j).kind=31\/(af t j).kind=32):u_ n t O j M P:=by
 have ay:=aO.cZ;have e0:=ai.nodes;have au:ei (af t j).kind=aQ:=by rcases h with h|h|h<;>(rw[h];rfl)
 have pG:k9 (af t j).kind=ah:=by rcases h with h|h|h<;>(rw[h];rfl)
 have j8:(af t j).kind≠41:=by omega
 have wt:=GY (n:=n) (M:=M) cL (show j<=t.nodes.length by omega) (ks:=(af t j).a3) (by have:=ai.af ae;omega) (λq aE=>ib ay ae (by rw[c6 ae];exact aE)) (eu:=c2 t);have wu:j<P.length:=by rw[cL.1];exact ae
 have mY:P[j]? =D (P[j]):=cq wu;have G7:=GU ai ay ae pG;have eE:∃c,1<=c/\c<=8/\gw t j (2*j+2) (gf t j)=D c:=by
  rw[G7];by_cases ac9:(af t j).kind=30
  ·rw[if_pos ac9];exact⟨1,aa,aa,rfl⟩
  ·rw[if_neg ac9];by_cases ada:(af t j).kind=31
   ·rw[if_pos ada];exact⟨1,aa,aa,rfl⟩
   ·rw[if_neg ada,if_pos aa];obtain⟨d,az,fj⟩:=wi ai ay ae (aS j ae) (by rw[show(af t j).kind=32 by omega];rfl);have aV:=fj.AD;unfold ko at aV;rw[show(af t j).kind=32 by omega]at aV;have aot:(af t d).kind=41:=by simp_all
    have cf:=(fj.gM ay aa).2;obtain⟨c,h1,h2,aJ⟩:=bx.hb d cf aot;rw[fj.bi]at aJ;grind[wg]
 obtain⟨jh,ff⟩:=DI ai aO j ae pG;have ii:G2 t O j (gf t j).bR:=⟨λe=>by simp_all,λ_=>⟨rfl,jh,aa,eE⟩,br,br,λe=>by rcases h with h|h|h<;>(rw[h]at e;cases e),λe=>absurd e j8,br⟩
 refine⟨0,(gf t j).bR,M,P.set j (gf t j).bR,I.bN ?_,λe=>by simp_all,T3 ai aO ae a_ au aa aa aa aa aa aa,λ_=>⟨ii,eZ.ij ay ae j8,cL.ij ae _⟩⟩;unfold sm;refine I.aq (cw ae) (I.bind wt λz _=>?_);have rI:=Nf (n:=n) (M:=M) ai aO ae a_ z (P.set j (gf t j).bR) j8 aa aa aa;rw[G7]at rI⊢;rcases h with h|h|h
 ·have p2:qs (af t j).kind=D aQ:=by rw[h];rfl
  refine I.aq p2 (I.bC cF λ_=>I.aC (λ_=>I.aq (k7 mY ae) ?_) λe=>absurd h e);rw[if_pos h]at rI⊢;exact I.aY rI rfl
 ·have p2:qs (af t j).kind=D aQ:=by rw[h];rfl
  refine I.aq p2 (I.bC cF λ_=>I.aC br λ_=>I.aC (λ_=>I.aq (k7 mY ae) ?_) λe=>absurd h e);rw[if_neg aa,if_pos h]at rI⊢;exact I.aY rI rfl
 ·have p2:qs (af t j).kind=D aQ:=by rw[h];rfl
  refine I.aq p2 (I.bC cF λ_=>I.aC br λ_=>I.aC br λ_=>I.aC (λ_=>I.aq (k7 mY ae) ?_) λe=>absurd h e);rw[if_neg aa,if_neg aa,if_pos h]at rI⊢;exact I.aY rI rfl
theorem aou(h:(af t j).kind=25\/(af t j).kind=34):u_ n t O j M P:=by
 have ay:=aO.cZ;have au:ei (af t j).kind=aQ:=by rcases h with h|h<;>(rw[h];rfl)
 have j8:(af t j).kind≠41:=by omega
 have wt:=GY (n:=n) (M:=M) cL (show j<=t.nodes.length by omega) (ks:=(af t j).a3) (by have:=ai.af ae;omega) (λq aE=>ib ay ae (by rw[c6 ae];exact aE)) (eu:=c2 t);have wu:j<P.length:=by rw[cL.1];exact ae
 have mY:P[j]? =D (P[j]):=cq wu;have p2:qs (af t j).kind=D aQ:=by rcases h with h|h<;>(rw[h];rfl)
 obtain⟨r,aM,cf⟩:=na ay ae (by grind[mf]);have ii:G2 t O j (O (dR t j)):=by
  refine⟨λe=>by simp_all,λe=>?_,λe=>?_,λe=>rfl,λe=>?_,λe=>absurd e j8,br⟩
  ·rcases h with h|h<;>(rw[h]at e;cases e)
  ·obtain⟨_,_,aJ⟩:=pc ai ay ae (.inr e);exact(bx.ty _ cf aJ).1
  ·rcases h with h|h<;>(rw[h]at e;cases e)
 refine⟨0,O (dR t j),M,P.set j (O (dR t j)),I.bN ?_,λe=>by simp_all,T3 ai aO ae a_ au aa aa aa aa aa aa,λ_=>⟨ii,eZ.ij ay ae j8,cL.ij ae _⟩⟩;unfold sm;refine I.aq (cw ae) (I.bind wt λz bj=>I.aq p2 (I.bC cF λ_=>I.aC br λ_=>I.aC br λ_=>I.aC br λ_=>I.bC (λ_=>?_) λe=>?_))
 ·have uA:aL z.1 0=D (O (dR t j)):=by
   rw[bj,<-c6 ae,aM];rfl
  exact I.aq uA (I.aq (k7 mY ae) (I.aY (Nf ai aO ae a_ z _ j8 aa aa aa) rfl))
 grind
theorem aov(h:(af t j).kind=33):u_ n t O j M P:=by
 have ay:=aO.cZ;have e0:=ai.nodes;have au:ei (af t j).kind=aQ:=by rw[h];rfl
 have pG:k9 (af t j).kind=ah:=by rw[h];rfl
 have j8:(af t j).kind≠41:=by omega
 have wt:=GY (n:=n) (M:=M) cL (show j<=t.nodes.length by omega) (ks:=(af t j).a3) (by have:=ai.af ae;omega) (λq aE=>ib ay ae (by rw[c6 ae];exact aE)) (eu:=c2 t);have wu:j<P.length:=by rw[cL.1];exact ae
 have mY:P[j]? =D (P[j]):=cq wu;have p2:qs (af t j).kind=D aQ:=by rw[h];rfl
 obtain⟨fc,cf,aow⟩:=pc ai ay ae (.inl h);obtain⟨fj,hB⟩:=bx.ty _ cf aow;have sT:=M5 aO ae h;have G7:gf t j=.gl (gf t (dR t j)) (af t j).n.toNat:=by rw[GU ai ay ae pG,if_neg aa,if_neg aa,if_neg aa]
 obtain⟨jh,ff⟩:=DI ai aO j ae pG;obtain⟨c,mK,yo,aP⟩:=hB.q2;have eE:gw t j (2*j+2) (gf t j)=D ((af t j).n.toNat*c):=by rw[G7];show gw t j (2*j+1+1) _=_;unfold gw;rw[wg aP (show 2*dR t j+2<=2*j+1 by omega) (show dR t j<=j by omega)];dsimp only;rw[if_pos yo]
 have rH:(P.set j (gf t j).bR)[j]? =D (gf t j).bR:=ac8 wu;have G6:uQ (aZ n) (gf t j).bR t.nodes t.aX (c2 t) t.nodes.length M (P.set j (gf t j).bR)=D (decide (8<(af t j).n.toNat*c)):=by refine TY ai aO a_ eZ.aq (λm hm nd=>?_) eE aa jh aa;rw[List.getElem?_set,if_neg aa];exact cL.ot ai ay bx aa m hm nd
 have wv:=TO ai aO a_ eE aa jh aa;have ob:1<=(af t j).n.toNat*c:=Nat.mul_pos aa aa;refine⟨if 8<(af t j).n.toNat*c then 5 else 0,(gf t j).bR,M,P.set j (gf t j).bR,I.bN ?_,λe=>by simp_all,DP ai aO ae a_ au ?_,λe=>⟨⟨λe=>by simp_all,λ_=>⟨rfl,jh,aa,_,ob,?_,eE⟩,br,br,λe=>by rw[h]at e;(cases e),λe=>absurd e j8,br⟩,eZ.ij ay ae j8,cL.ij ae _⟩⟩
 ·unfold sm;refine I.aq (cw ae) (I.bind wt λz bj=>I.aq p2 (I.bC cF λ_=>I.aC br λ_=>I.aC br λ_=>I.aC br λ_=>I.bC (λe=>by grind) λ_=>I.aC (λ_=>?_) λe=>absurd h e));have uA:aL z.1 0=D (gf t (dR t j)).bR:=by
   rw[bj,<-c6 ae,fc,<-fj];rfl
  have gz:(af t j).n=(((af t j).n.toNat:Nat):Int):=by omega
  have aox:CL (aZ n) (gf t (dR t j)).bR (af t j).n=D (gf t j).bR:=by rw[G7,gz];have:=hB.size;rw[acG aa ⟨aa,aa⟩,<-gz];rfl
  refine I.aq uA (I.aq aox (I.aq (k7 mY ae) (I.aq (k7 rH ae) (I.aq G6 (I.aC (λe=>I.ret (by rw[if_pos e])) λe=>?_)))));rw[if_neg e];grind[I.aY,Nf]
 ·unfold so;exact I.aC br λ_=>I.aC (λ_=>I.aq (TH ai aO aa n j aa ae pG) (I.aq wv (I.ret rfl))) λe=>absurd h e
 omega
theorem G8(au:jo (af t j).kind=ah)(j8:(af t j).kind=41->∃c,1<=c/\c<=8/\gw t (j+1) (2*j+1) (.hb (af t j).bi)=D c)(b9:(af t j).kind=42->O (ey t j)=(gf t (k_ t j)).bR):G2 t O j fd:=by
 unfold jo at au;simp only[ea,decide_eq_true_eq]at au;refine⟨λe=>?_,λe=>?_,λe=>by omega,λe=>by omega,λ_=>rfl,j8,b9⟩
 ·unfold ei at e;grind
 ·unfold k9 at e;grind
theorem G9(au:jo (af t j).kind=ah){e:Int}{yp:List (ByteArray×Int)}(h:∀z:List ByteArray×Nat,z.1=dC t O j->qt (aZ n) (j:Int) z t.nodes t.aX (c2 t) t.nodes.length M (P,(af t j).kind)=D (e,yp,P)):sm (aZ n) (j:Int) t.nodes t.aX (c2 t) t.nodes.length M P=D (e,yp,P):=by
 have ay:=aO.cZ;have wt:=GY (n:=n) (M:=M) cL (show j<=t.nodes.length by omega) (ks:=(af t j).a3) (by have:=ai.af ae;omega) (λq aE=>ib ay ae (by rw[c6 ae];exact aE)) (eu:=c2 t);unfold jo at au;simp only[ea,decide_eq_true_eq]at au;have p2:qs (af t j).kind=D aQ:=by grind[qs,decide_eq_false]
 refine I.bN ?_;unfold sm;refine I.aq (cw ae) (I.bind wt λz bj=>I.aq p2 (I.bC cF λ_=>I.aC br λ_=>I.aC br λ_=>I.aC br λ_=>I.bC (λe=>?_) λ_=>I.aC br λ_=>I.aY (h z (by rw[bj];unfold dC;rw[c6 ae])) rfl));grind
theorem G_(au:jo (af t j).kind=ah):ei (af t j).kind=aQ:=by unfold jo at au;simp only[ea,decide_eq_true_eq]at au;grind[ei,decide_eq_false,af]
theorem aoy(h:(af t j).kind=40\/(af t j).kind=43\/(af t j).kind=45):u_ n t O j M P:=by
 have ay:=aO.cZ;have au:jo (af t j).kind=ah:=by rcases h with h|h|h<;>(rw[h];rfl)
 have wx:=G_ ai aO cL eZ ae bx a_ aS au;exact⟨0,fd,M,P,G9 ai aO cL eZ ae bx a_ aS au λz _=>Nf ai aO ae a_ z P aa aa aa aa,λe=>by simp_all,T3 ai aO ae a_ wx aa aa aa aa aa aa,λ_=>⟨G8 ai aO cL eZ ae bx a_ aS au br br,eZ.ij ay ae aa,cL.G3 ae⟩⟩
theorem aoz(h:(af t j).kind=41):u_ n t O j M P:=by
 have ay:=aO.cZ;have e0:=ai.nodes;have au:jo (af t j).kind=ah:=by rw[h];rfl
 have wx:=G_ ai aO cL eZ ae bx a_ aS au;have gu:=Az ay ae (AA _ aa);have aM:=TR aS ay ae h;have fc:=c6 ae;have AH:=eZ.aop aS ay ae h;have aE:∀q∈bd t j,∃c,1<=c/\c<=8/\gw t (j+1) (2*j) (dn t q.toNat)=D c:=by intro q aE;obtain⟨m,rfl,hm,nd⟩:=sC ai ay ae h aE;obtain⟨_,h2,aJ⟩:=pc ai ay (j:=m) aa (.inr nd);obtain⟨c,mK,yo,aP⟩:=(bx.ty _ (show dR t m<j by omega) aJ).2.q2;exact⟨c,mK,yo,wg aP aa aa⟩
 have e9:∃cs:List Nat,(bd t j).map (λq=>gw t (j+1) (2*j) (dn t q.toNat))=cs.map D/\(∀x∈cs,x<=8)/\(bd t j).length<=cs.sum:=by
  generalize bd t j=l at aE;induction l with
  |nil=>simp
  |cons q r bB=>obtain⟨c,h1,h2,aJ⟩:=aE q List.mem_cons_self;obtain⟨cs,bp,cy,cY⟩:=bB λx ar=>aE x (List.mem_cons_of_mem _ ar);refine⟨c::cs,by rw[gI,gI,aJ,bp],λx ar=>?_,dt⟩;grind
 obtain⟨cs,h1,h2,aJ⟩:=e9;have eE:gw t (j+1) (2*j+1) (.hb (af t j).bi)=D cs.sum:=by unfold gw;rw[aM];dsimp only;rw[if_pos aa,h1,TL h2]
 have ob:1<=cs.sum:=by grind[rF,jB]
 have ff:(af t j).bi.size< 100000:=by have:=gu.2.2.2;omega
 have G6:uQ (aZ n) (af t j).bi t.nodes t.aX (c2 t) t.nodes.length (d_ M (af t j).bi (j:Int)) P=D (decide (8<cs.sum)):=by
  refine TY (j:=j+1) (bn:=.hb (af t j).bi) ai aO a_ AH.aq (λm hm nd=>?_) eE aa gu ff;have:m≠j:=λe=>by simp_all
  exact cL.ot ai ay bx aa m aa nd
 have wv:=TO (bn:=.hb (af t j).bi) ai aO a_ eE aa gu ff;refine⟨if 8<cs.sum then 5 else 0,fd,d_ M (af t j).bi (j:Int),P,G9 ai aO cL eZ ae bx a_ aS au λz bj=>I.bN ?_,λe=>by simp_all,DP ai aO ae a_ wx ?_,λe=>⟨G8 ai aO cL eZ ae bx a_ aS au (λ_=>⟨_,ob,?_,eE⟩) br,AH,cL.G3 ae⟩⟩
 ·unfold qt;refine I.aq (z:=(if 8<cs.sum then 5 else 0,d_ M (af t j).bi (j:Int),P)) (I.bN ?_) (I.ret rfl);unfold zM;refine I.aq (cw ae) (I.aC (λ_=>I.aq G6 (I.aC (λe=>I.ret (by rw[if_pos e])) λe=>?_)) λe=>absurd h e);rw[if_neg e];exact I.ret rfl
 ·unfold so;exact I.aC br λ_=>I.aC br λ_=>I.aC (λ_=>I.aq wv (I.ret rfl)) λe=>absurd h e
 omega
theorem aoA(h:(af t j).kind=42):u_ n t O j M P:=by
 have ay:=aO.cZ;have e0:=ai.nodes;have au:jo (af t j).kind=ah:=by rw[h];rfl
 have wx:=G_ ai aO cL eZ ae bx a_ aS au;have fc:=c6 ae;have no:=pY ay ae h;have h3:=ai.af ae;have rG:=sF (O:=O) ae;obtain⟨jn,ic,oJ⟩:=nP ai ay ae h;obtain⟨rb,mU,TX⟩:=M7 ai ay ae h;have fj:=(bx.ty _ mU TX).1;have T4:aH (((dC t O j).length:Int)- 1)=(((bd t j).length- 1:Nat):Int):=by grind[c8]
 have T5:aH (((dC t O j).length:Int)- 2)=(((bd t j).length- 2:Nat):Int):=by grind[c8]
 have T6:aH (((af t j).a3.length:Int)- 1)=(((bd t j).length- 1:Nat):Int):=by grind
 have rH:aL (dC t O j) (((bd t j).length- 1:Nat):Int)=D (O (ey t j)):=e3 (by simp_all[dC,fv]);have As:aL (dC t O j) (((bd t j).length- 2:Nat):Int)=D (gf t (k_ t j)).bR:=e3 (by simp_all[dC,fv,congrArg]);refine⟨if O (ey t j)=(gf t (k_ t j)).bR then 0 else 11,fd,M,P,G9 ai aO cL eZ ae bx a_ aS au λz bj=>I.bN ?_,λe=>by simp_all,DP ai aO ae a_ wx ?_,λe=>⟨G8 ai aO cL eZ ae bx a_ aS au br (λ_=>?_),eZ.ij ay ae aa,cL.G3 ae⟩⟩
 ·unfold qt;refine I.aq (z:=(if O (ey t j)=(gf t (k_ t j)).bR then 0 else 11,M,P)) (I.bN ?_) (I.ret rfl);unfold zM;rw[bj];refine I.aq (cw ae) (I.aC br λ_=>I.aC (λ_=>?_) λe=>absurd h e);rw[T4,T5];refine I.aq rH (I.aq As ?_);by_cases e:O (ey t j)=(gf t (k_ t j)).bR
  ·rw[if_pos e,decide_eq_true e];exact I.ret rfl
  ·rw[if_neg e,decide_eq_false e];exact I.ret rfl
 ·unfold so;refine I.aC br λ_=>I.aC br λ_=>I.aC br λ_=>I.aC (λ_=>I.aq (M8 ai aO aa ae h) ?_) λe=>absurd h e;rw[T6];rw[fc]at jn⊢;exact I.aL jn (I.aq (TZ ic oJ) (I.eh (λe=>I.ret (by rw[if_neg e])) λe=>I.ret (by rw[if_pos e])))
 simp_all
theorem aoB(h:(af t j).kind=44):u_ n t O j M P:=by
 have ay:=aO.cZ;have au:jo (af t j).kind=ah:=by rw[h];rfl
 have wx:=G_ ai aO cL eZ ae bx a_ aS au;have fc:=c6 ae;obtain⟨r,aM,cf⟩:=na ay ae (by simp_all[mf]);have ar:(af t j).a3[0]? =D (dR t j:Int):=by grind
 have nh:=pb ai ay ae ar;unfold m_ at nh;rw[if_neg aa,if_neg aa,if_neg aa,if_neg aa,if_neg aa]at nh;have rH:aL (dC t O j) 0=D (O (dR t j)):=by unfold dC;rw[aM];rfl
 refine⟨if O (dR t j)=eO then 0 else 11,fd,M,P,G9 ai aO cL eZ ae bx a_ aS au λz bj=>I.bN ?_,λe=>by simp_all,DP ai aO ae a_ wx ?_,λe=>⟨G8 ai aO cL eZ ae bx a_ aS au br br,eZ.ij ay ae aa,cL.G3 ae⟩⟩
 ·unfold qt;refine I.aq (z:=(if O (dR t j)=eO then 0 else 11,M,P)) (I.bN ?_) (I.ret rfl);unfold zM;rw[bj];refine I.aq (cw ae) (I.aC br λ_=>I.aC br λ_=>I.aC (λ_=>I.aq rH ?_) λe=>absurd h e);rw[show(⟨#[98,111,111,108]⟩:ByteArray)=eO from rfl];by_cases e:O (dR t j)=eO
  ·rw[if_pos e,decide_eq_true e];exact I.ret rfl
  ·rw[if_neg e,decide_eq_false e];exact I.ret rfl
 ·unfold so;exact I.aC br λ_=>I.aC br λ_=>I.aC br λ_=>I.aC br λ_=>I.aC (λ_=>I.aL (i:=0) ar (I.aq (TZ cf nh) (I.eh (λe=>I.ret (if_neg e).symm) λe=>I.ret (if_pos e).symm))) λe=>absurd h e
end
def ni(q:Int)(x:ByteArray):Prop:=if q=4\/q=5 then x=e2 else if q=8 then x=e2\/x=eO else x=eO
section
variable {n : Nat} {t : bf} {O : Nat -> ByteArray} {j : Nat} {M : List (ByteArray × Int)} {P : List ByteArray}
theorem G'(k:ByteArray)(l:List ByteArray):h4 k l=ah↔∀x∈l,x=k:=by unfold h4;simp
theorem aoC(q:Int){l:List ByteArray}(aK:l.length<=1000000):I (KX (aZ n) q l) λb=>b=ah↔∀x∈l,ni q x:=by
 unfold KX;refine I.bC (λe=>I.aq (ym _ aK) (I.ret ?_)) λe=>I.aC (λjJ=>I.aq (anW aK) (I.ret ?_)) λjJ=>I.aq (ym _ aK) (I.ret ?_)
 ·rw[hk,decide_eq_true_eq,decide_eq_true_eq]at e;unfold ni;simp only[if_pos e];exact G' _ _
 ·simp_all[iM,decide_eq_false_iff_not,ni,if_neg,not_or,if_pos,Bool.not_not]
 ·rw[iM,decide_eq_false_iff_not,decide_eq_false_iff_not]at e;unfold ni;simp only[if_neg (not_or.2 e),if_neg jJ];exact G' _ _
variable (ai : c7 t) (aO : hA t) (cL : j' t O j P) (eZ : ne t j M) (ae : j < t.nodes.length) (bx : kO t O j) (a_ : 1000000 <= n) (aS : ∀ i, i < t.nodes.length -> gv t i = 0)
include ai aO cL eZ ae bx a_ aS
open Classical in
theorem aoD(h:(af t j).kind=46):u_ n t O j M P:=by
 have ay:=aO.cZ;have au:jo (af t j).kind=ah:=by rw[h];rfl
 have wx:=G_ ai aO cL eZ ae bx a_ aS au;have fc:=c6 ae;have h3:=ai.af ae;have hle:=AG (O:=O) ai ae;refine⟨if ∀x∈dC t O j,ni (af t j).n x then 0 else 11,fd,M,P,G9 ai aO cL eZ ae bx a_ aS au λz bj=>I.bN ?_,λe=>by simp_all,DP ai aO ae a_ wx ?_,λe=>⟨G8 ai aO cL eZ ae bx a_ aS au br br,eZ.ij ay ae aa,cL.G3 ae⟩⟩
 ·unfold qt;refine I.aq (z:=(if ∀x∈dC t O j,ni (af t j).n x then 0 else 11,M,P)) (I.bN ?_) (I.ret rfl);unfold zM;rw[bj];refine I.aq (cw ae) (I.aC br λ_=>I.aC br λ_=>I.aC br λ_=>I.aC (λ_=>I.bind (aoC _ hle) λb aB=>?_) λe=>absurd h e);cases b with
  |true=>exact I.ret (by rw[if_pos (aB.1 rfl)])
  |false=>exact I.ret (by rw[if_neg (λq=>by simp_all)])
 ·unfold so;refine I.aC br λ_=>I.aC br λ_=>I.aC br λ_=>I.aC br λ_=>I.aC br λ_=>I.aC (λ_=>?_) λe=>absurd h e;unfold abq;refine I.for (af t j).a3.length (λi (_:Unit)=>(i:Int)) (λi _=>∀(a:Nat) q,a<i->(af t j).a3[a]? =D q->ni (af t j).n (O q.toNat)) (t0:=()) rfl (λa q h=>by omega) (λi _ ao bq=>?_) λ_ bq=>?_
  ·obtain⟨q,aE⟩:∃q,(af t j).a3[i]? =D q:=⟨_,cq ao⟩
   have S6:q∈bd t j:=by grind
   obtain⟨m,rfl,hm⟩:=ib ay ae S6;have aoE:ei (af t m).kind=ah:=by have:=pb ai ay ae aE;simp_all[m_,if_neg]
   have r2:O m∈dC t O j:=lH.2 ⟨(m:Int),S6,rfl⟩;have bad:¬ni (af t j).n (O m)->I ((D (11:Int)).map (Sum.inr:Int->Int ⊕ Int)) (ln (λs'=>∃rc:Unit,s'=((i+1:Nat):Int)/\∀(a:Nat) q,a<i+1->(af t j).a3[a]? =D q->ni (af t j).n (O q.toNat)) (· =if ∀x∈dC t O j,ni (af t j).n x then 0 else 11)):=λaB=>I.inr (by rw[if_neg (λq=>aB (q _ r2))]);have next:ni (af t j).n (O m)->I (D (Sum.inl (aH ((i:Int)+1)):Int ⊕ Int)) (ln (λs'=>∃rc:Unit,s'=((i+1:Nat):Int)/\∀(a:Nat) q,a<i+1->(af t j).a3[a]? =D q->ni (af t j).n (O q.toNat)) (· =if ∀x∈dC t O j,ni (af t j).n x then 0 else 11)):=λb2=>I.inl ⟨(),by rw[cM aa],λa q a9 ar=>by grind⟩
   refine I.aC (λ_=>I.aL aE (I.aq (TZ hm aoE) (I.bC (λe=>bad ?_) λe=>?_))) dv
   ·have e:(!decide (O m=e2)&& !decide (O m=eO))=ah:=e;simp_all[ea,Bool.not_eq_true',decide_eq_false_iff_not,ni,not_or]
   ·have e:(!decide (O m=e2)&& !decide (O m=eO))=aQ:=e;have aCr:O m=e2\/O m=eO:=by
     grind
    by_cases oo:(af t j).n=4\/(af t j).n=5
    ·have az:(decide ((af t j).n=4)||decide ((af t j).n=5))=ah:=by simp_all
     have jh:ni (af t j).n (O m)↔O m=e2:=by unfold ni;rw[if_pos oo]
     rw[az];refine I.eh (λbk=>bad λq=>bk (jh.1 q)) λbk=>?_;exact next (jh.2 bk)
    ·have az:(decide ((af t j).n=4)||decide ((af t j).n=5))=aQ:=by simp_all
     rw[az];refine I.eh (λgO=>?_) λgO=>?_
     ·have jh:ni (af t j).n (O m)↔O m=eO:=by unfold ni;rw[if_neg oo,if_neg gO]
      exact I.eh (λbk=>bad λq=>bk (jh.1 q)) λbk=>next (jh.2 bk)
     simp_all[ni,if_neg,if_pos]
  ·refine I.aC br λ_=>I.inr ?_;rw[if_pos];intro x ar;obtain⟨q,aE,rfl⟩:=lH.1 ar;grind[fO,List.getElem?_eq_some_iff]
theorem aoF:u_ n t O j M P:=by
 have ay:=aO.cZ;have qB:=((ay.o_ j _ (lS ae)).1).kind;unfold qA at qB;simp only[hk,decide_eq_true_eq]at qB;by_cases au:ei (af t j).kind=ah
 ·simp_all[aor]
 ·have:(af t j).kind=25\/(30<=(af t j).kind/\(af t j).kind<=34)\/(40<=(af t j).kind/\(af t j).kind<=46):=by
   unfold ei at au;grind
  have:((af t j).kind=30\/(af t j).kind=31\/(af t j).kind=32)\/((af t j).kind=25\/(af t j).kind=34)\/(af t j).kind=33\/((af t j).kind=40\/(af t j).kind=43\/(af t j).kind=45)\/(af t j).kind=41\/(af t j).kind=42\/(af t j).kind=44\/(af t j).kind=46:=by omega
  rcases this with h|h|h|h|h|h|h|h
  ·simp_all[aos]
  ·simp_all[aou]
  ·simp_all[aov]
  ·simp_all[aoy]
  ·simp_all[aoz]
  ·simp_all[aoA]
  ·simp_all[aoB]
  simp_all[aoD]
end
section
variable {n : Nat} {t : bf} {O : Nat -> ByteArray} {j : Nat} {M : List (ByteArray × Int)} {P : List ByteArray}
theorem aoG{α:Type}{xs cX:List α}(h:xs.length+cX.length<=2000000):zo xs cX=D (xs++cX):=by unfold zo;rw[if_pos h]
theorem aoH(v:ByteArray):(eN t O j++[fd]).set j v=eN t O j++[v]:=by simp_all[List.set_append_right,G4,b5,Nat.sub_self]
abbrev aoI(t:bf):=(Int×Int) ⊕ (Int×Int×(List bz)×(List Int)×(List Int)×Nat×(List (ByteArray×Int))×(List ByteArray))
def aoJ(t:bf)(fH:aoI t)(iC:sg×Int×Int):Prop:=
 (∃k e:Int,e≠0/\fH=.inl (k,e)/\iC=(⟨[]⟩,k,e))\/∃O M P,kO t O t.nodes.length/\j' t O t.nodes.length P/\ne t t.nodes.length M/\fH=.inr (0,0,t.nodes,t.aX,c2 t,t.nodes.length,M,P)/\iC=(⟨eN t O t.nodes.length⟩,0,0)
theorem aoK(ai:c7 t)(aO:hA t)(a_:1000000<=n)(aS:∀i,i<t.nodes.length->gv t i=0){ad:List ByteArray}(bj:ad.length=t.nodes.length):
  ∀d i,i+d=t.nodes.length->∀O M P,kO t O i->j' t O i P->ne t i M->∃fH iC,aap t (aZ n) (⟨c2 t⟩,0,0) ad ((i:Int),M,P)=D fH/\abr t (aZ n) (⟨c2 t⟩,0,0) (eN t O i,(i:Int))=D iC/\aoJ t fH iC:=by
 have e0:=ai.nodes;have ay:=aO.cZ;intro d;induction d with
 |zero=>
  intro i ao O M P bx cL eZ;have:i=t.nodes.length:=by omega
  subst this;refine⟨_,_,eP.dk (r:=.inr (0,0,t.nodes,t.aX,c2 t,t.nodes.length,M,P)) (I.bN ?_),eP.dk (r:=(⟨eN t O t.nodes.length⟩,0,0)) (I.bN ?_),.inr ⟨O,M,P,bx,cL,eZ,rfl,rfl⟩⟩
  ·simp_all[I.aC,absurd,c2,I.ret]
  simp_all[I.aC,absurd,I.ret]
 |succ d bB=>
  intro i ao O M P bx cL eZ;have dN:i<t.nodes.length:=by omega
  obtain⟨e,v,yp,sb,h1,h2,aJ,bp⟩:=aoF ai aO cL eZ dN bx a_ aS;have aoL:zo (eN t O i) [fd]=D (eN t O i++[fd]):=aoG (by rw[G4];grind);have wv:(eN t O i++[fd]).length=i+1:=by rw[List.length_append,G4];rfl
  have aoM:(eN t O i++[fd])[i]? =D fd:=by simp_all
  have R:∀x,(e=0->x=Sum.inl (eN t (p1 O i v) (i+1),((i+1:Nat):Int)))->(e≠0->x=Sum.inr (⟨[]⟩,(i:Int),e))->(λ(s:List ByteArray×Int)=>if(decide (s.2<(t.nodes.length:Int)))=ah then(zo s.1 ([(⟨#[]⟩:ByteArray)]:List ByteArray)).bind λad=>aw (C6 t s.2) λaA=>if aA then(C' (aZ n) t ⟨c2 t⟩ ad s.2).bind λaN=>aw (fK ad.length ad s.2) λa0=>aw (ru (aZ n) t (ad.set a0.1.1 aN) s.2) λbe=>if(!decide (be=0))then(D ((⟨[]⟩:sg),s.2,be)).map .inr else D (.inl ((ad.set a0.1.1 aN),(aH (s.2+1))))else(ru (aZ n) t ad s.2).bind λbL=>if(!decide (bL=0))then(D ((⟨[]⟩:sg),s.2,bL)).map .inr else D (.inl (ad,(aH (s.2+1))))else(D ((⟨s.1⟩:sg),(0:Int),(0:Int))).map .inr) (eN t O i,(i:Int))=D x:=by
   intro x mY rH;refine I.bN (I.aC (λ_=>I.aq aoL (I.aq (G5 dN) ?_)) dv);have cB:=aoq (t:=t) (O:=O) (j:=i) v;cases au:ei (af t i).kind with
   |true=>
    rw[au,if_pos rfl]at aJ cB;refine I.bC (λ_=>I.aq (h2 au) (I.aq (k7 aoM aa) ?_)) λh=>by cases h
    show I ((ru (aZ n) t ((eN t O i++[fd]).set i v) (i:Int)).bind _) _;rw[aoH];refine I.aq aJ (I.eh (λhe=>?_) λhe=>?_)
    ·rw[rH he];exact I.ret rfl
    grind[eN,aH,cM,I.ret]
   |false=>
    rw[au,if_neg fT]at aJ cB;refine I.bC cF λ_=>I.aq aJ (I.eh (λhe=>?_) λhe=>?_)
    ·rw[rH he];exact I.ret rfl
    grind[cM,I.ret]
  by_cases he:e=0
  ·obtain⟨ii,AH,Nd⟩:=bp he;obtain⟨fH,iC,ep,fD,iF⟩:=bB (i+1) aa _ yp sb (bx.ij ai ay dN ii) Nd AH;refine⟨fH,iC,?_,?_,iF⟩
   ·rw[<-ep];refine eP.on (s':=(((i+1:Nat):Int),yp,sb)) (I.bN (I.aC (λ_=>?_) dv));show I ((sm (aZ n) (i:Int) t.nodes t.aX (c2 t) ad.length M P).bind _) _;rw[bj];refine I.aq h1 (I.eh (λh=>absurd he h) λ_=>?_);grind[cM,I.ret]
   ·rw[<-fD];exact eP.on (R _ (λ_=>rfl) λh=>absurd he h)
  ·refine⟨_,_,eP.dk (r:=.inl ((i:Int),e)) (I.bN (I.aC (λ_=>?_) dv)),eP.dk (r:=(⟨[]⟩,(i:Int),e)) (R _ (λh=>absurd h he) λ_=>rfl),.inl ⟨_,_,he,rfl,rfl⟩⟩;show I ((sm (aZ n) (i:Int) t.nodes t.aX (c2 t) ad.length M P).bind _) _;simp_all[I.aq,I.eh,I.ret,absurd]
theorem aoN:kO t O 0:=⟨λi h=>by omega,λi h=>by omega,λi h=>by omega,λi h=>by omega,λi h=>by omega,λi h=>by omega,λi h=>by omega,λi h=>by omega⟩
def T7(n:Nat)(t:bf)(r:sg×Int×Int):Prop:=
 (∃k e:Int,e≠0/\r=(⟨[]⟩,k,e)/\sn (aZ n) t=D (.inl (k,e)))\/
 (hA t/\(∀i,i<t.nodes.length->gv t i=0)/\xR (aZ n) t=D (⟨c2 t⟩,0,0)/\uV (aZ n) t=D (⟨c2 t⟩,0,0)/\∃O M P,kO t O t.nodes.length/\j' t O t.nodes.length P/\ne t t.nodes.length M/\sn (aZ n) t=D (.inr (0,0,t.nodes,t.aX,c2 t,t.nodes.length,M,P))/\r=(⟨eN t O t.nodes.length⟩,0,0))
theorem aoO(ai:c7 t)(a_:1000000<=n):∃r,vW (aZ n) t=D r/\tx (aZ n) t=D r/\T7 n t r:=by
 have e0:=ai.nodes;obtain⟨r,h1,h2,aJ⟩:=ans (n:=n) ai aa;have ht:∀k e:Int,e≠0->r=(⟨[]⟩,k,e)->∃r,vW (aZ n) t=D r/\tx (aZ n) t=D r/\T7 n t r:=by
  rintro k e he rfl;have:sn (aZ n) t=D (.inl (k,e)):=by simp_all[I.bN,sn,I.aq,I.eh,I.ret,absurd]
  refine⟨(⟨[]⟩,k,e),I.bN ?_,I.bN ?_,.inl ⟨k,e,he,rfl,this⟩⟩
  ·simp_all[vW,I.aq,I.eh,I.ret,absurd]
  simp_all[tx,I.aq,I.eh,I.ret,absurd]
 rcases aJ with⟨e,_,he,aM⟩|⟨aO,_,bv⟩
 ·grind
 ·have ay:=aO.cZ;rcases bv with⟨j,_,he,_,aM⟩|⟨aS,aM⟩
  ·grind
  ·have aM:r=(⟨c2 t⟩,0,0):=aM;subst aM;have bj:(dm t.nodes.length fd).length=t.nodes.length:=by simp
   have aoP:j' t (λ_=>fd) 0 (dm t.nodes.length fd):=⟨bj,λi ao=>by rw[List.getElem?_replicate,if_pos ao,if_neg aa]⟩
   have aoQ:ne t 0 []:=λs=>by
    unfold u7;cases iN t s with
    |none=>rfl
    |some i=>dsimp only;rw[if_neg aa];rfl
   obtain⟨fH,iC,ep,fD,iF⟩:=aoK ai aO a_ aS bj t.nodes.length 0 aa (λ_=>fd) [] _ aoN aoP aoQ;have q3:mk (t.nodes.length:Int) fd=D (dm t.nodes.length fd):=by unfold mk;rw[if_pos aa,eq]
   have wy:sn (aZ n) t=D fH:=by refine I.bN ?_;unfold sn;exact I.aq h1 (I.eh (λh=>absurd rfl h) λ_=>I.aq q3 (I.aY ep rfl))
   have lx:tx (aZ n) t=D iC:=by refine I.bN ?_;unfold tx;exact I.aq h2 (I.eh (λh=>absurd rfl h) λ_=>I.aY fD rfl)
   rcases iF with⟨k,e,he,rfl,rfl⟩|⟨O,M,P,bx,cL,eZ,rfl,rfl⟩
   ·refine⟨_,I.bN ?_,lx,.inl ⟨k,e,he,rfl,wy⟩⟩;simp_all[vW,I.aq,I.eh,I.ret,absurd]
   ·refine⟨_,I.bN ?_,lx,.inr ⟨aO,aS,h1,h2,O,M,P,bx,cL,eZ,wy,rfl⟩⟩;unfold vW;refine I.aq wy ?_;show I (if(!decide ((0:Int)=0))=ah then D ((⟨[]⟩:sg),(0:Int),(0:Int))else RU (aZ n) (0,0,t.nodes,t.aX,c2 t,t.nodes.length,M,P) (0,P)) _;refine I.eh (λh=>absurd rfl h) λ_=>?_;unfold RU;refine I.for t.nodes.length (λi (c:List ByteArray)=>((i:Int),c)) (λi c=>c.length=t.nodes.length/\∀k,k<t.nodes.length->c[k]? =D (if k<i then(if ei (af t k).kind=ah then O k else fd)else O k)) (t0:=P) rfl ⟨cL.1,λk au=>by rw[cL.2 k au,if_pos au,if_neg aa]⟩ (λi c ao bq=>?_) λc bq=>?_
    ·have ar:c[i]? =D (O i):=by rw[bq.2 i ao,if_neg aa]
     have p2:qs (af t i).kind=D (ei (af t i).kind):=by have qB:=((ay.o_ i _ (lS ao)).1).kind;unfold qA at qB;simp only[hk,decide_eq_true_eq]at qB;grind[qs,ei,decide_eq_true,af]
     refine I.aC (λ_=>I.aq (cw ao) (I.aq p2 (I.bC (λau=>I.aq (k7 ar ao) (I.inl ⟨c.set i fd,by rw[cM aa];rfl,cK,λk nM=>?_⟩)) λau=>I.inl ⟨c,by rw[cM aa],bq.1,λk nM=>?_⟩))) λh=>absurd cK h
     ·grind
     grind
    ·refine I.aC (λh=>absurd h fT) λ_=>I.dk ?_;have aP:c=eN t O t.nodes.length:=by
      unfold eN;apply List.ext_getElem?;grind
     simp_all[gH,Tb,I.aq,I.ret]
end
def gF(t:bf)(j:Nat)(f:Int)(e:Nat):Nat:=if eS t j=f then e+1 else 0
def ly(t:bf):Nat->Nat->Int->Nat->Nat
 |0,_,_,_=>0
 |k+1,j,f,e=>1+((bd t j).map λq=>ly t k q.toNat f e).sum+
  (if(af t j).kind=21 then(if(af t (eS t j).toNat).n<(gF t j f e:Int)then 0 else ly t k (ey t (eS t j).toNat) (eS t j) (gF t j f e))else 0)
def gW(t:bf)(f:Int)(e:Nat)(j:Nat):Prop:=
 j<t.nodes.length/\((f=-1/\e=0/\(af t (dz t j).2).kind≠42)\/(f=((dz t j).2:Int)/\(af t (dz t j).2).kind=42/\(e:Int)<=(af t (dz t j).2).n))
def dy(t:bf)(e j:Nat):Nat:=(dz t j).2*10000+(9-e)*1000+j
section
variable {n : Nat} {t : bf}
variable {d:Nat}
theorem DQ(aO:hA t)(az:d<t.nodes.length)(h:(af t d).kind=42):0<=(af t d).n/\(af t d).n<=8:=by have h1:=TG aO az;unfold rs at h1;rw[cw az,Option.bind_some]at h1;simp[h]at h1;have h2:=((aO.cZ.o_ d _ (lS az)).1).num;have aJ:=GF (af t d);simp_all[m8]
variable {j:Nat}
theorem sG(ay:ik t) {p:Nat}(hp:p<t.nodes.length)(h:(j:Int)∈bd t p):(dz t j).2=(dz t p).2:=by obtain⟨m,e,hm⟩:=ib ay hp h;have:j=m:=ew e;rw[j9 ay aa (lv ay hp h)]
theorem T8(ay:ik t)(az:d<t.nodes.length)(h:(d:Int)∈t.aX):(dz t d).2=d:=by rw[pa az ((rD ay az).2 h)]
theorem Ha(ay:ik t)(az:d<t.nodes.length)(h:(af t d).kind=42):(d:Int)∈t.aX:=yh ay az (by rw[h];rfl)
theorem aoR(ai:c7 t)(ay:ik t)(az:d<t.nodes.length)(h:(af t d).kind=42):(ey t d:Int)∈bd t d:=cC (nP ai ay az h).1
theorem DR(ai:c7 t)(ay:ik t)(az:d<t.nodes.length)(h:(af t d).kind=42):(dz t (ey t d)).2=d:=by rw[sG ay az (aoR ai ay az h),T8 ay az (Ha ay az h)]
theorem aoS(ai:c7 t)(ay:ik t):∀j,j<t.nodes.length->∀d:Nat,(d:Int)∈(dz t j).1->(af t d).kind=42->d=(dz t j).2:=by
 refine Dy ay (λj ae e d az=>?_) λj p ae hp Au hm e bB d az au=>?_
 ·simp_all[pa]
 ·rw[j9 ay ae e]at az⊢;rcases ig.1 az with az|az
  ·unfold f_ at az;split at az
   ·split at az
    ·grind
    ·split at az
     ·next b9=>
      rcases ig.1 az with az|az
      ·obtain⟨a,a9⟩:=fO (show(d:Int)∈dh t p from az);grind[pe,ew]
      grind[ew,T8,Ha]
     ·cases az
   ·cases az
  grind
theorem T9(ai:c7 t)(ay:ik t)(aS:∀i,i<t.nodes.length->gv t i=0)(ae:j<t.nodes.length)(h:(af t j).kind=21):∃d:Nat,eS t j=d/\d<t.nodes.length/\(af t d).kind=42/\((d<j/\d<(dz t j).2)\/d=(dz t j).2):=by
 obtain⟨d,az,fj⟩:=wi ai ay ae (aS j ae) (by rw[h];rfl);have aV:=fj.AD;unfold ko at aV;rw[h]at aV;have au:(af t d).kind=42:=by simp_all
 have aM:=(At ay j ae).2.2.1;refine⟨d,az,fj.lt,au,?_⟩;have hm:eS t j=match rE t j (af t j).bi with|some d=>if ko (af t j).kind (af t d.toNat).kind then d else-1|none=> -1:=by unfold eS;rw[if_pos (by rw[h];rfl)];rfl
 rw[hm]at az;cases e:rE t j (af t j).bi with
 |none=>simp_all
 |some cQ=>
  rw[e]at az;dsimp only at az;split at az
  ·subst az;have r2:=List.mem_of_find?_eq_some e;rcases ig.1 r2 with h1|h1
   ·grind[aoS]
   ·have h2:=(List.mem_filter.1 h1).2;rw[ea,decide_eq_true_eq]at h2;grind[Tk]
  omega
variable (ai : c7 t) (aO : hA t) (aS : ∀ i, i < t.nodes.length -> gv t i = 0)
include ai aO aS
variable {e:Nat}{f:Int}{j:Nat}{q:Int}
theorem gW.kb(h:gW t f e j)(aE:q∈bd t j):∃m:Nat,q=m/\m<j/\gW t f e m/\dy t e m<dy t e j:=by have ay:=aO.cZ;obtain⟨m,rfl,hm⟩:=ib ay h.1 aE;have aM:=sG ay h.1 aE;refine⟨m,rfl,hm,⟨by have:=h.1;omega,by rw[aM];exact h.2⟩,?_⟩;unfold dy;omega
theorem gW.iE(h:gW t f e j):e<=8:=by
 rcases h.2 with⟨_,bw,_⟩|⟨_,bp,cy⟩
 ·omega
 ·have:=DQ aO (At aO.cZ j h.1).1 bp;omega
theorem gW.call(h:gW t f e j)(au:(af t j).kind=21):∃d:Nat,eS t j=d/\d<t.nodes.length/\(af t d).kind=42/\
  (¬(af t d).n<(gF t j f e:Int)->gW t d (gF t j f e) (ey t d)/\dy t (gF t j f e) (ey t d)<dy t e j/\d*10+(9-gF t j f e)<(dz t j).2*10+(9-e)):=by
 have ay:=aO.cZ;have e0:=ai.nodes;obtain⟨d,az,eI,b9,ob⟩:=T9 ai ay aS h.1 au;have aB:=DR ai ay eI b9;have Fa:=(nP ai ay eI b9).2.1;have a_:=DQ aO eI b9;refine⟨d,az,eI,b9,λdf=>?_⟩;unfold gF at df⊢;rw[az]at df⊢;rcases ob with⟨h1,h2⟩|h1
 ·have e5:¬(d:Int)=f:=by
   rcases h.2 with⟨aJ,_⟩|⟨aJ,_⟩<;>omega
  rw[if_neg e5]at df⊢;refine⟨⟨aa,.inr ⟨by rw[aB],cK,cK⟩⟩,?_,aa⟩;unfold dy;omega
 ·rcases h.2 with⟨aJ,bp,cy⟩|⟨aJ,bp,cy⟩
  ·simp_all
  ·have he:(d:Int)=f:=by rw[aJ,h1]
   rw[if_pos he]at df⊢;rw[<-h1]at cy;refine⟨⟨aa,.inr ⟨by rw[aB],cK,cK⟩⟩,?_,aa⟩;unfold dy;omega
theorem T_:∀(k cA j:Nat)(f:Int)(e:Nat),gW t f e j->dy t e j<k->dy t e j<cA->ly t k j f e=ly t cA j f e:=by
 intro k;induction k with
 |zero=>omega
 |succ k bB=>
  intro cA j f e hC h dp;cases cA with
  |zero=>omega
  |succ cA=>
   unfold ly;have a5:(bd t j).map (λq=>ly t k q.toNat f e)=(bd t j).map λq=>ly t cA q.toNat f e:=by apply sE;intro q aE;obtain⟨m,rfl,_,h1,h2⟩:=hC.kb ai aO aS aE;grind
   rw[a5];congr 1;by_cases au:(af t j).kind=21
   ·rw[if_pos au,if_pos au];obtain⟨d,az,_,_,aP⟩:=hC.call ai aO aS au;grind
   simp_all
theorem T'{l:List Int}{g:Int->Nat}{a:Nat}(h:l[a]? =D q):((l.take (a+1)).map g).sum=((l.take a).map g).sum+g q:=by rw[gd h,List.map_append,List.sum_append];simp
theorem aoT:∀(k j:Nat)(f:Int)(e:Nat),gW t f e j->dy t e j<k->Ae (aZ n) k t ⟨c2 t⟩ (j:Int) f (e:Int)=D ((min 3001 (ly t k j f e):Nat):Int):=by
 have ay:=aO.cZ;have e0:=ai.nodes;intro k;induction k with
 |zero=>omega
 |succ k bB=>
  intro j f e hC kU;have ae:=hC.1;have h3:=ai.af ae;have fc:=c6 ae;show L9 (aZ n) (Ae (aZ n) k) t ⟨c2 t⟩ (j:Int) f (e:Int)=_;refine I.bN ?_;unfold L9;refine I.aq (cw ae) ?_;unfold abs;have rest:∀w:Nat,w=min 3001 (1+((bd t j).map λq=>ly t k q.toNat f e).sum)->I (L6 ⟨c2 t⟩ (j:Int) f (e:Int) t (Ae (aZ n) k) ((w:Int),(af t j).kind)) (· =((min 3001 (ly t (k+1) j f e):Nat):Int)):=by
   intro w hw;unfold L6;unfold ly;by_cases au:(af t j).kind=21
   ·rw[if_pos au];obtain⟨d,az,eI,b9,aP⟩:=hC.call ai aO aS au;have nQ:aL (c2 t) (j:Int)=D (d:Int):=by rw[wq ae,az]
    rw[az,eq];by_cases aV:w=3001
    ·refine I.bC (λ_=>I.ret ?_) λh=>?_
     ·omega
     grind
    ·refine I.bC (λh=>?_) λ_=>I.aq nQ ?_
     ·grind
     ·have tail:I (Gq t (d:Int) (w:Int) (Ae (aZ n) k) ⟨c2 t⟩ ((gF t j f e:Nat):Int)) (· =((min 3001 (1+((bd t j).map λq=>ly t k q.toNat f e).sum+(if(af t d).n<(gF t j f e:Int)then 0 else ly t k (ey t d) (d:Int) (gF t j f e))):Nat):Int)):=by
       unfold Gq;refine I.aq (cw eI) (I.aC (λdf=>I.ret ?_) λdf=>?_)
       ·simp_all
       ·rw[if_neg df];obtain⟨h1,h2,_⟩:=aP df;obtain⟨jn,ic,_⟩:=nP ai ay eI b9;have aCs:=ai.af eI;have no:=pY ay eI b9;have Fu:=c6 eI;rw[Fu]at jn;have lR:aH (((af t d).a3.length:Int)- 1)=(((af t d).a3.length- 1:Nat):Int):=by grind[c8]
        refine I.aq (cw eI) ?_;rw[lR];refine I.aL jn (I.aq (bB _ _ _ h1 aa) (I.ret ?_));generalize ly t k (ey t d) (d:Int) (gF t j f e)=x;rw[c8 aa aa];unfold ih;split<;>omega
      unfold gF at tail⊢;rw[az]at tail⊢;by_cases he:(d:Int)=f
      ·rw[if_pos he]at tail⊢;refine I.aC (λ_=>?_) λh=>absurd he h;rw[cM (by have:=hC.iE ai aO aS;omega)];omega
      simp_all
   simp_all[if_neg,I.bC,I.ret,iM,Bool.not_eq_false',decide_eq_true_eq,absurd]
  refine I.b8 (λs:Int×Int=>∃a:Nat,s=(((min 3001 (1+(((bd t j).take a).map λq=>ly t k q.toNat f e).sum):Nat):Int),(a:Int))/\a<=(af t j).a3.length) (λs=>(af t j).a3.length-s.2.toNat) ?_ ⟨0,rfl,Nat.zero_le _⟩;rintro _ ⟨a,rfl,a9⟩;dsimp only;refine I.bC (λaP=>?_) λaP=>I.dk ?_
  ·rw[ea,decide_eq_true_eq,decide_eq_true_eq]at aP;have jO:a<(af t j).a3.length:=by omega
   obtain⟨q,aE⟩:∃q,(af t j).a3[a]? =D q:=⟨_,cq jO⟩
   have jN:(bd t j)[a]? =D q:=by simp_all
   obtain⟨m,rfl,hm,aoU,P2⟩:=hC.kb ai aO aS (cC jN);refine I.aL aE (I.aq (bB m f e aoU aa) (I.inl ⟨⟨a+1,?_,aa⟩,?_⟩))
   ·rw[cM aa];refine Prod.ext ?_ rfl;dsimp only;have h2:=aP.2;generalize Ap:((uB a (bd t j)).map λq=>ly t k q.toNat f e).sum=S at h2;have cB:=T' ai aO aS (g:=λq=>ly t k q.toNat f e) jN;rw[cB,Ap];show ih 3001 (aH _)=_;rw[c8 aa aa];show ih 3001 _=((min 3001 (1+(S+ly t k m f e)):Nat):Int)
    unfold ih;split<;>omega
   grind[cM]
  ·refine rest _ ?_;by_cases jO:a<(af t j).a3.length
   ·grind[Bool.and_eq_false_iff,decide_eq_false_iff_not,min,bd,ly,List.take_append_drop]
   grind
end
def kq(t:bf)(j:Nat)(f:Int)(e:Nat):Nat:=ly t (dy t e j+1) j f e
def h8(t:bf)(K:List (jz×Int)):Prop:=∀(d e:Nat) w,dP K ⟨(d:Int),(e:Int)⟩=D w->w=((min 3001 (kq t (ey t d) d e):Nat):Int)
section
variable {n : Nat} {t : bf}
variable (ai : c7 t) (aO : hA t) (aS : ∀ i, i < t.nodes.length -> gv t i = 0)
include ai aO aS
theorem gW.dy{f:Int}{e j:Nat}(h:gW t f e j):dy t e j< 9999999:=by have:=(At aO.cZ j h.1).1;have:=ai.nodes;have:=h.1;grind[Proofs.YtgfggdcbhjhegaaGreatDoor.dy]
variable {e:Nat}{f:Int}{j:Nat}
theorem aoV(h:gW t f e j):kq t j f e=1+((bd t j).map λq=>kq t q.toNat f e).sum+
  (if(af t j).kind=21 then(if(af t (eS t j).toNat).n<(gF t j f e:Int)then 0 else kq t (ey t (eS t j).toNat) (eS t j) (gF t j f e))else 0):=by
 have a5:((bd t j).map λq=>ly t (dy t e j) q.toNat f e)=((bd t j).map λq=>kq t q.toNat f e):=by apply sE;intro q aE;obtain⟨m,rfl,_,h1,h2⟩:=h.kb ai aO aS aE;exact T_ ai aO aS (dy t e j) (dy t e m+1) m f e h1 h2 (qI _)
 have bk:kq t j f e=1+((bd t j).map λq=>ly t (dy t e j) q.toNat f e).sum+
  (if(af t j).kind=21 then(if(af t (eS t j).toNat).n<(gF t j f e:Int)then 0 else ly t (dy t e j) (ey t (eS t j).toNat) (eS t j) (gF t j f e))else 0):=rfl
 rw[bk,a5];by_cases au:(af t j).kind=21
 ·rw[if_pos au,if_pos au];obtain⟨d,az,_,_,aP⟩:=h.call ai aO aS au;rw[az,eq];by_cases df:(af t d).n<(gF t j f e:Int)
  ·rw[if_pos df,if_pos df]
  ·rw[if_neg df,if_neg df];obtain⟨h1,h2,_⟩:=aP df;rw[T_ ai aO aS (dy t e j) (dy t (gF t j f e) (ey t d)+1) (ey t d) (d:Int) (gF t j f e) h1 h2 (qI _)];rfl
 simp_all
theorem adb(a_:10000000<=n)(h:gW t f e j):L_ (aZ n) t ⟨c2 t⟩ (j:Int) f (e:Int)=D ((min 3001 (kq t j f e):Nat):Int):=by have hm:=h.dy ai aO aS;have:=aoT (n:=n) ai aO aS n j f e h aa;rw[T_ ai aO aS n (dy t e j+1) j f e h aa aa]at this;exact this
theorem h8.put{K:List (jz×Int)}(h:h8 t K)(d e:Nat):h8 t (d_ K ⟨(d:Int),(e:Int)⟩ ((min 3001 (kq t (ey t d) d e):Nat):Int)):=by
 intro cQ hd w hw;rw[u6]at hw;split at hw
 ·grind
 ·exact h cQ hd w hw
variable {M:List (ByteArray×Int)}{P:List ByteArray}
theorem adc{R:Nat}{r:jz->(List bz)->(List Int)->(List Int)->Nat->(List (jz×Int))->(List (ByteArray×Int))->(List ByteArray)->Option (Int×(List (jz×Int)))}
  (aM:∀(d e:Nat) K,d<t.nodes.length->(af t d).kind=42->(e:Int)<=(af t d).n->d*10+(9-e)<R->h8 t K->I (r ⟨d,e⟩ t.nodes t.aX (c2 t) t.nodes.length K M P) λz=>z.1=((min 3001 (kq t (ey t d) d e):Nat):Int)/\h8 t z.2):
  ∀(k:Nat)(ks:List Int)(f:Int)(e:Nat) K,1<=k->ks.length<=800->(∀q∈ks,∃m:Nat,q=m/\m+1<k/\gW t f e m/\(dz t m).2*10+(9-e)<=R)->h8 t K->
   I (F7 (aZ n) r k ⟨f,(e:Int)⟩ ks t.nodes t.aX (c2 t) t.nodes.length K M P) λz=>z.1=((min 3001 ((ks.map λq=>kq t q.toNat f e).sum):Nat):Int)/\h8 t z.2:=by
 have ay:=aO.cZ;have e0:=ai.nodes;intro k;induction k with
 |zero=>omega
 |succ k bB=>
  intro ks f e K _ hlen MO bV;show I (KZ (aZ n) r (F7 (aZ n) r k) ⟨f,(e:Int)⟩ ks t.nodes t.aX (c2 t) t.nodes.length K M P) _;unfold KZ aaq;refine I.for ks.length (λa (o:Int×List (jz×Int))=>(o.1,(a:Int),o.2)) (λa o=>(∃w:Nat,o.1=w/\min 3001 w=min 3001 (((ks.take a).map λq=>kq t q.toNat f e).sum)/\w<=3002*(a+1))/\h8 t o.2) (t0:=(0,K)) rfl ⟨⟨0,rfl,rfl,aa⟩,bV⟩ (λa o a9 bq=>?_) λo bq=>?_
  ·obtain⟨dq,mX⟩:=o;obtain⟨⟨w,wz,yq,Ua⟩,lK⟩:=bq;dsimp only at wz lK;subst wz;obtain⟨q,aE⟩:∃q,ks[a]? =D q:=⟨_,cq a9⟩
   obtain⟨m,rfl,q3,hC,bv⟩:=MO q (cC aE);have ge:=hC.1;have cB:=T' ai aO aS (g:=λq=>kq t q.toNat f e) aE;have heq:=aoV ai aO aS hC;have xg:=hC.iE ai aO aS;have h3:=ai.af ge;refine I.aC (λ_=>I.aL aE (I.aq (cw ge) (I.bind (bB (af t m).a3 f e mX aa h3 (λx ar=>?_) lK) λz bj=>?_))) dv
   ·obtain⟨m',rfl,h1,h2,_⟩:=hC.kb ai aO aS (show x∈bd t m by rw[c6 ge];exact ar);grind[sG,c6]
   ·obtain⟨Z,Ng⟩:=z;obtain⟨rC,Nh⟩:=bj;dsimp only at rC Nh⊢;subst rC;rw[c6 ge]at heq;generalize eT:(((af t m).a3).map λq=>kq t q.toNat f e).sum=S at heq⊢;have T4:aH (1+((min 3001 S:Nat):Int))=((1+min 3001 S:Nat):Int):=by grind[c8]
    have T5:aH ((w:Int)+((1+min 3001 S:Nat):Int))=((w+(1+min 3001 S):Nat):Int):=by grind[c8]
    rw[T4,T5];refine I.eh (λj_=>?_) λj_=>?_
    ·rw[if_neg j_]at heq;refine I.inl ⟨(_,Ng),by rw[cM aa],⟨w+(1+min 3001 S),rfl,?_,aa⟩,Nh⟩;rw[cB];show _=min 3001 (_+kq t m f e);omega
    ·rw[if_pos j_]at heq;obtain⟨d,az,eI,b9,aP⟩:=hC.call ai aO aS j_;have nQ:aL (c2 t) (m:Int)=D (d:Int):=by rw[wq ge,az]
     have aoW:=DQ aO eI b9;rw[az,eq]at heq;have aoX:KY ⟨f,(e:Int)⟩ (m:Int) t.nodes t.aX (c2 t) t.nodes.length Ng M P=D (⟨(d:Int),((gF t m f e:Nat):Int)⟩,decide (¬(af t d).n<(gF t m f e:Int))):=by
      refine I.bN ?_;unfold KY gF;rw[az];refine I.aq nQ (I.eh (λe5=>I.ret ?_) λhe=>I.aq (cw eI) (I.ret ?_))
      ·simp_all
      ·rw[if_pos he];have:aH ((e:Int)+1)=((e+1:Nat):Int):=cM aa;grind
     refine I.aq aoX ?_;dsimp only;by_cases df:(af t d).n<(gF t m f e:Int)
     ·rw[if_pos df]at heq;rw[decide_eq_false (Classical.not_not.2 df)];refine I.inl ⟨(_,Ng),by rw[cM aa],⟨min (w+(1+min 3001 S)) 3001,?_,?_,aa⟩,Nh⟩
      ·unfold ih;split<;>omega
      ·rw[cB];show _=min 3001 (_+kq t m f e);omega
     ·rw[if_neg df]at heq;rw[decide_eq_true df];obtain⟨h1,h2,aJ⟩:=aP df;have e5:(gF t m f e:Int)<=(af t d).n:=by omega
      refine I.bind (aM d (gF t m f e) Ng eI b9 e5 aa Nh) λy bh=>?_;obtain⟨Ni,aoY⟩:=y;obtain⟨Av,ade⟩:=bh;dsimp only at Av ade⊢;subst Av;generalize kq t (ey t d) (d:Int) (gF t m f e)=B at heq⊢;have T6:aH (((w+(1+min 3001 S):Nat):Int)+((min 3001 B:Nat):Int))=((w+(1+min 3001 S)+min 3001 B:Nat):Int):=by rw[c8 aa aa];omega
      rw[T6];refine I.inl ⟨(_,aoY),by rw[cM aa],⟨min (w+(1+min 3001 S)+min 3001 B) 3001,?_,?_,aa⟩,ade⟩
      ·unfold ih;split<;>omega
      ·rw[cB];show _=min 3001 (_+kq t m f e);omega
  ·obtain⟨dq,mX⟩:=o;obtain⟨⟨w,wz,yq,Ua⟩,lK⟩:=bq;dsimp only at wz lK;subst wz;refine I.aC br λ_=>I.inr ⟨?_,lK⟩;rw[fz (b5 _)]at yq;rw[<-yq];dsimp only;unfold ih;split<;>omega
theorem aoZ(a_:10000000<=n):∀(k d e:Nat) K,d<t.nodes.length->(af t d).kind=42->(e:Int)<=(af t d).n->d*10+(9-e)<k->h8 t K->
  I (CO (aZ n) k ⟨(d:Int),(e:Int)⟩ t.nodes t.aX (c2 t) t.nodes.length K M P) λz=>z.1=((min 3001 (kq t (ey t d) d e):Nat):Int)/\h8 t z.2:=by
 have ay:=aO.cZ;have e0:=ai.nodes;intro k;induction k with
 |zero=>omega
 |succ k bB=>
  intro d e K az b9 he au bV;show I (K0 (aZ n) (CO (aZ n) k) ⟨(d:Int),(e:Int)⟩ t.nodes t.aX (c2 t) t.nodes.length K M P) _;unfold K0;cases b2:dP K ⟨(d:Int),(e:Int)⟩with
  |some w=>exact I.ret ⟨bV d e w b2,bV⟩
  |none=>
   obtain⟨jn,ic,_⟩:=nP ai ay az b9;have no:=pY ay az b9;have h3:=ai.af az;have fc:=c6 az;have Ub:=DR ai ay az b9;rw[fc]at jn;have lR:aH (((af t d).a3.length:Int)- 1)=(((af t d).a3.length- 1:Nat):Int):=by grind[c8]
   refine I.bC (λ_=>I.aq (cw az) ?_) λh=>by cases h
   rw[lR];refine I.aL jn (I.bind (adc ai aO aS (R:=d*10+(9-e)) (r:=CO (aZ n) k) (λcQ hd mX h1 h2 aJ bp cy=>bB cQ hd mX h1 h2 aJ aa cy) n [(ey t d:Int)] (d:Int) e K aa fT (λq aE=>?_) bV) λz bj=>I.ret ?_)
   ·have aE:q=(ey t d:Int):=by simp_all
    subst aE;exact⟨ey t d,rfl,aa,⟨aa,.inr ⟨by rw[Ub],cK,cK⟩⟩,aa⟩
   ·obtain⟨Z,mX⟩:=z;obtain⟨rC,lK⟩:=bj;dsimp only at rC lK⊢;have MV:Z=((min 3001 (kq t (ey t d) d e):Nat):Int):=by
     grind
    rw[MV];exact⟨rfl,lK.put ai aO aS d e⟩
end
def Hb(t:bf)(i:Nat):Nat:=if(af t i).kind=42 then kq t (ey t i) i 0 else if(af t i).kind=43\/(af t i).kind=44\/(af t i).kind=46 then((bd t i).map λq=>kq t q.toNat (-1) 0).sum else 0
section
variable {n : Nat} {t : bf}
variable (ai : c7 t) (aO : hA t) (aS : ∀ i, i < t.nodes.length -> gv t i = 0)
include ai aO aS
variable {i:Nat}
theorem Nj(ao:i<t.nodes.length)(au:jo (af t i).kind=ah)(b9:(af t i).kind≠42){q:Int}(aE:q∈bd t i):∃m:Nat,q=m/\m<i/\gW t (-1) 0 m/\(dz t m).2=i:=by have ay:=aO.cZ;obtain⟨m,rfl,hm⟩:=ib ay ao aE;have aM:=sG ay ao aE;rw[T8 ay ao (yh ay ao au)]at aM;exact⟨m,rfl,hm,⟨aa,.inl ⟨rfl,rfl,cK⟩⟩,aM⟩
theorem Nk(ao:i<t.nodes.length)(b9:(af t i).kind=42):gW t (i:Int) 0 (ey t i):=by have ay:=aO.cZ;have aB:=(nP ai ay ao b9).2.1;have aM:=DR ai ay ao b9;exact⟨aa,.inr ⟨by rw[aM],cK,by simp_all[DQ]⟩⟩
theorem ao0(a_:10000000<=n) {a:Nat}(a9:t.aX[a]? =D (i:Int)):L' (aZ n) t ⟨c2 t⟩ (a:Int)=D ((min 3001 (Hb t i):Nat):Int):=by
 have ay:=aO.cZ;obtain⟨g5,e,_,ao⟩:=ay.fI.eB _ (cC a9);have e:i=g5:=ew e;subst e;have h3:=ai.af ao;have fc:=c6 ao;have Uc:=GX ay ao (cC a9);refine I.bN ?_;unfold L' Hb;refine I.aL a9 (I.aq (cw ao) (I.aC (λb9=>?_) λb9=>?_))
 ·rw[if_pos b9];obtain⟨jn,ic,_⟩:=nP ai ay ao b9;have no:=pY ay ao b9;rw[fc]at jn;have lR:aH (((af t i).a3.length:Int)- 1)=(((af t i).a3.length- 1:Nat):Int):=by grind[c8]
  rw[lR];exact I.aL jn (I.aL a9 (I.aq (adb ai aO aS a_ (e:=0) (Nk ai aO aS ao b9)) (I.ret rfl)))
 ·rw[if_neg b9];refine I.bC (λh=>?_) λh=>?_
  ·rw[hk,hk,decide_eq_true_eq,decide_eq_true_eq,decide_eq_true_eq]at h;rw[if_pos h];unfold abt;refine I.for (af t i).a3.length (λa (o:Int)=>(o,(a:Int))) (λa o=>o=((min 3001 (((bd t i).take a).map λq=>kq t q.toNat (-1) 0).sum:Nat):Int)) (t0:=0) rfl rfl (λa o a9 bq=>?_) λo bq=>?_
   ·subst bq;obtain⟨q,aE⟩:∃q,(af t i).a3[a]? =D q:=⟨_,cq a9⟩
    have jN:(bd t i)[a]? =D q:=by simp_all
    obtain⟨m,rfl,hm,hC,_⟩:=Nj ai aO aS ao Uc b9 (cC jN);have cB:=T' ai aO aS (g:=λq=>kq t q.toNat (-1) 0) jN;refine I.aC (λ_=>I.aL aE (I.aq (adb ai aO aS a_ (e:=0) hC) (I.inl ⟨_,by rw[cM aa],?_⟩))) dv;rw[cB];generalize ((uB a (bd t i)).map λq=>kq t q.toNat (-1) 0).sum=S;show ih 3001 (aH (((min 3001 S:Nat):Int)+((min 3001 (kq t m (-1) 0):Nat):Int)))=((min 3001 (S+kq t m (-1) 0):Nat):Int)
    rw[c8 aa aa];unfold ih;split<;>omega
   simp_all[I.aC,absurd,I.inr,fz,b5]
  simp_all[iM,decide_eq_false_iff_not,if_neg,I.ret]
variable {M:List (ByteArray×Int)}{P:List ByteArray}
theorem ao1(a_:10000000<=n)(hn:(i:Int)∈t.aX){K:List (jz×Int)}(bV:h8 t K):I (K2 (aZ n) (i:Int) t.nodes t.aX (c2 t) t.nodes.length K M P) λz=>z.1=((min 3001 (Hb t i):Nat):Int)/\h8 t z.2:=by
 have ay:=aO.cZ;have e0:=ai.nodes;obtain⟨g5,e,_,ao⟩:=ay.fI.eB _ hn;have e:i=g5:=ew e;subst e;have h3:=ai.af ao;have fc:=c6 ao;have Uc:=GX ay ao hn;have dw:=aoZ (n:=n) ai aO aS a_ (M:=M) (P:=P);unfold K2 Hb;refine I.aq (cw ao) (I.aC (λb9=>?_) λb9=>?_)
 ·rw[if_pos b9];have aoW:=DQ aO ao b9;refine I.bind (dw n i 0 K ao b9 aa aa bV) λz bj=>I.ret bj
 ·rw[if_neg b9];refine I.bC (λh=>?_) λh=>?_
  ·rw[hk,hk,decide_eq_true_eq,decide_eq_true_eq,decide_eq_true_eq]at h;rw[if_pos h];refine I.bind (adc ai aO aS (R:=i*10+9) (r:=K1 (aZ n)) (λcQ hd mX h1 h2 aJ bp cy=>dw n cQ hd mX h1 h2 aJ aa cy) n (af t i).a3 (-1) 0 K aa h3 (λq aE=>?_) bV) λz bj=>I.ret ?_
   ·obtain⟨m,rfl,hm,hC,aM⟩:=Nj ai aO aS ao Uc b9 (show q∈bd t i by simp_all);grind
   simp_all
  simp_all[iM,decide_eq_false_iff_not,if_neg,I.ret]
theorem ao2(ao:i<t.nodes.length)(h:(af t i).kind=40):∃a b:Nat,(af t i).a3[0]? =D (a:Int)/\(af t i).a3[1]? =D (b:Int)/\a<i/\b<i:=by have ay:=aO.cZ;have hm:=rF ay ao;unfold jB at hm;simp[h]at hm;obtain⟨x,y,aK⟩:=G0 (l:=(af t i).a3) aa;obtain⟨a,a5,h1⟩:=ib ay ao (i:=x) (by rw[c6 ao,aK];simp);obtain⟨b,bk,h2⟩:=ib ay ao (i:=y) (by rw[c6 ao,aK];simp);grind
theorem ao3(a_:10000000<=n):∀d i,i+d=t.aX.length->∀K c w a,h8 t K->
  ∃r,RT (0,0,t.nodes,t.aX,c2 t,t.nodes.length,M,P) (aZ n) ((i:Int),K,c,w,a)=D r/\abu (aZ n) t (⟨c2 t⟩,0,0) (c,w,a,(i:Int))=D r:=by
 have ay:=aO.cZ;have hn:=ai.aX;intro d;induction d with
 |zero=>intro i ao K c w a bV;exact⟨(0,0),eP.dk (I.bN (I.aC (λh=>absurd h (show ¬(i:Int)<(t.aX.length:Int) by omega)) λ_=>I.ret rfl)),eP.dk (I.bN (I.aC (λh=>absurd h (show ¬(i:Int)<(t.aX.length:Int) by omega)) λ_=>I.ret rfl))⟩
 |succ d bB=>
  intro i ao K c w a bV;have dN:i<t.aX.length:=by omega
  obtain⟨q,aE⟩:∃q,t.aX[i]? =D q:=⟨_,cq dN⟩
  obtain⟨m,rfl,_,ge⟩:=ay.fI.eB _ (cC aE);have adf:=ao0 ai aO aS a_ aE;obtain⟨⟨Z,mX⟩,adg,rC,lK⟩:=ao1 ai aO aS a_ (cC aE) bV (M:=M) (P:=P);dsimp only at rC lK;subst rC
  have ao4:∃c' w' gy,zN ⟨t.nodes,t.aX⟩ (m:Int) c w a=D (c',w',gy)/\∀T:(Int×Int×Int×Int) ⊕ (Int×Int)->Prop,I (rx t (i:Int) (aZ n) (⟨c2 t⟩,0,0) (c',w',gy,(af t m).kind)) T->
    I (if decide ((af t m).kind=40)=ah then(aL (af t m).a3 1).bind λbJ=>aw (aL t.nodes bJ) λci=>aw (aL (af t m).a3 0) λcP=>aw (aL t.nodes cP) λdr=>rx t (i:Int) (aZ n) (⟨c2 t⟩,0,0) ((aH (c+1)),(ih 2001 (aH (w*(aH ((aH (ci.n-dr.n))+1))))),a,(af t m).kind)else if decide ((af t m).kind=44)=ah then rx t (i:Int) (aZ n) (⟨c2 t⟩,0,0) (c,w,(aH (a+1)),(af t m).kind)else if decide ((af t m).kind=45)=ah then rx t (i:Int) (aZ n) (⟨c2 t⟩,0,0) (c,w,(aH (a- 1)),(af t m).kind)else rx t (i:Int) (aZ n) (⟨c2 t⟩,0,0) (c,w,a,(af t m).kind)) T:=by
   by_cases hr:(af t m).kind=40
   ·obtain⟨x,y,ar,bh,I4,aCt⟩:=ao2 ai aO aS ge hr;have adh:x<t.nodes.length:=by omega
    have adi:y<t.nodes.length:=by omega
    refine⟨aH (c+1),ih 2001 (aH (w*(aH ((aH ((af t y).n-(af t x).n))+1)))),a,I.bN ?_,λT cc=>?_⟩
    ·unfold zN;exact I.aq (cw ge) (I.aC (λ_=>I.aq (e3 (i:=1) bh) (I.aq (cw adi) (I.aq (e3 (i:=0) ar) (I.aq (cw adh) (I.ret rfl))))) λh=>absurd hr h)
    ·exact I.aC (λ_=>I.aq (e3 (i:=1) bh) (I.aq (cw adi) (I.aq (e3 (i:=0) ar) (I.aq (cw adh) cc)))) λh=>absurd hr h
   ·by_cases qH:(af t m).kind=44
    ·refine⟨c,w,aH (a+1),I.bN ?_,λT cc=>I.aC (λh=>absurd h hr) λ_=>I.aC (λ_=>cc) λh=>absurd qH h⟩;simp_all[zN,I.aq,cw,I.aC,absurd,I.ret]
    ·by_cases oo:(af t m).kind=45
     ·refine⟨c,w,aH (a- 1),I.bN ?_,λT cc=>I.aC (λh=>absurd h hr) λ_=>I.aC (λh=>absurd h qH) λ_=>I.aC (λ_=>cc) λh=>absurd oo h⟩;simp_all[zN,I.aq,cw,I.aC,absurd,I.ret]
     ·refine⟨c,w,a,I.bN ?_,λT cc=>I.aC (λh=>absurd h hr) λ_=>I.aC (λh=>absurd h qH) λ_=>I.aC (λh=>absurd h oo) λ_=>cc⟩;simp_all[zN,I.aq,cw,I.aC,absurd,I.ret]
  obtain⟨c',w',gy,Ud,y3⟩:=ao4;obtain⟨r,ep,fD⟩:=bB (i+1) aa mX c' w' gy lK;have Ue:RR ⟨c',w',gy⟩=D (((decide (6<c'))||(decide (2000<w')))||(decide (8<gy))):=rfl;by_cases ao5:(((decide (6<c'))||(decide (2000<w')))||(decide (8<gy)))=ah
  ·refine⟨((m:Int),5),eP.dk (I.bN (I.aC (λ_=>I.aL aE (I.aq Ud (I.aq Ue (I.bC (λ_=>I.ret rfl) λh=>?_)))) λh=>absurd (show(i:Int)<(t.aX.length:Int) by omega) h)),eP.dk (I.bN (I.aC (λ_=>I.aL aE (I.aq (cw ge) (y3 _ ?_))) λh=>absurd (show(i:Int)<(t.aX.length:Int) by omega) h))⟩
   ·simp_all
   ·unfold rx;simp_all[I.bC,I.aL,I.ret]
  ·have ao5:(((decide (6<c'))||(decide (2000<w')))||(decide (8<gy)))=aQ:=by simp_all
   by_cases hw:3000<Hb t m
   ·refine⟨((m:Int),5),eP.dk (I.bN (I.aC (λ_=>I.aL aE (I.aq Ud (I.aq Ue (I.bC (λh=>?_) λ_=>I.aq adg (I.aC (λ_=>I.ret rfl) dv))))) λh=>absurd (show(i:Int)<(t.aX.length:Int) by omega) h)),eP.dk (I.bN (I.aC (λ_=>I.aL aE (I.aq (cw ge) (y3 _ ?_))) λh=>absurd (show(i:Int)<(t.aX.length:Int) by omega) h))⟩
    ·simp_all
    ·unfold rx;exact I.bC (λh=>by simp_all) λ_=>I.aq adf (I.aC (λ_=>I.aL aE (I.ret rfl)) dv)
   ·refine⟨r,?_,?_⟩
    ·rw[<-ep];refine eP.on (s':=(((i+1:Nat):Int),mX,c',w',gy)) (I.bN (I.aC (λ_=>I.aL aE (I.aq Ud (I.aq Ue (I.bC (λh=>?_) λ_=>I.aq adg (I.aC br λ_=>I.ret ?_))))) λh=>absurd (show(i:Int)<(t.aX.length:Int) by omega) h))
     ·simp_all
     ·rw[cM aa]
    ·rw[<-fD];refine eP.on (s':=(c',w',gy,((i+1:Nat):Int))) (I.bN (I.aC (λ_=>I.aL aE (I.aq (cw ge) (y3 _ ?_))) λh=>absurd (show(i:Int)<(t.aX.length:Int) by omega) h));unfold rx;refine I.bC (λh=>by simp_all) λ_=>I.aq adf (I.aC br λ_=>I.ret ?_);rw[cM aa]
end
theorem ao6{n:Nat}{t:bf}(ai:c7 t)(a_:10000000<=n):∃e r,vV (aZ n) t=D e/\sq (aZ n) t=D e/\vW (aZ n) t=D r/\tx (aZ n) t=D r/\T7 n t r/\(e=0->r.2.2=0):=by
 obtain⟨r,h1,h2,aJ⟩:=aoO (n:=n) ai aa;rcases aJ with⟨k,e,he,rfl,bp⟩|⟨aO,aS,Hd,k',O,M,P,bx,cL,eZ,bp,rfl⟩
 ·refine⟨e,_,I.bN ?_,I.bN ?_,h1,h2,.inl ⟨k,e,he,rfl,bp⟩,λh=>absurd h he⟩
  ·simp_all[vV,K4,I.aq,I.bN,I.ret,I.eh,absurd]
  simp_all[sq,Ma,I.aq,I.bN,I.eh,I.ret,absurd]
 ·obtain⟨x,ep,fD⟩:=ao3 ai aO aS a_ (M:=M) (P:=P) t.aX.length 0 aa [] 0 1 0 (λd e w h=>by cases h);refine⟨x.2,_,I.bN ?_,I.bN ?_,h1,h2,.inr ⟨aO,aS,Hd,k',O,M,P,bx,cL,eZ,bp,rfl⟩,λ_=>rfl⟩
  ·unfold vV K4;refine I.aq (z:=x) (I.bN (I.aq bp ?_)) (I.ret rfl);show I (if(!decide ((0:Int)=0))=ah then D ((0:Int),(0:Int))else(RQ t.nodes t.aX (c2 t) t.nodes.length M P).bind λaA=>RT (0,0,t.nodes,t.aX,c2 t,t.nodes.length,M,P) (aZ n) (0,aA,0,1,0)) _;exact I.eh (λh=>absurd rfl h) λ_=>I.aq rfl (I.aY ep rfl)
  simp_all[sq,Ma,I.aq,I.bN,I.eh,absurd,I.aY,I.ret]
end Go.Proofs.YtgfggdcbhjhegaaGreatDoor

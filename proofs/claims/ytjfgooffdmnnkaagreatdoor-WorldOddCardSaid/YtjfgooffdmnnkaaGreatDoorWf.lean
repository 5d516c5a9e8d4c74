/- Types of nodes, side by side: types, parameters, items. -/
import Derived.Test.YtjfgooffdmnnkaaGreatDoorWe
set_option linter.all false
set_option maxRecDepth 100000
namespace Go.Proofs.YtjfgooffdmnnkaaGreatDoor
open Go Go.Mi Go.RowKit Go.Dp
open Bool renaming or_eq_true->jq,or_eq_false_iff->jy,and_eq_true->dn,true->ad,false->aS
open Int renaming toNat_natCast->dA
open Int.ofNat renaming inj->fC
open List renaming getElem?_eq_getElem->bN,mem_of_getElem?->cm,mem_append->h3,replicate->cC,take_of_length_le->g4,getElem?_of_mem->hf,map_congr_left->vW,getElem?_map->gQ,map_cons->hH,mem_map->lz,take->x2
open Nat renaming le_refl->bL,lt_succ_self->yL
open Option renaming some->I,bind->au
section
variable {n : Nat} {t : aZ} {O : Nat -> ByteArray} {j : Nat} {M : List (ByteArray × Int)} {P : List ByteArray}
variable (aj : cH t) (aR : fZ t) (c5 : lP t O j P) (dz : pa t j M) (ag : j < t.nodes.length) (bH : mv t O j) (a6 : 1000000 <= n) (aY : ∀ i, i < t.nodes.length -> gS t i = 0)
include aj aR c5 dz ag bH a6 aY
theorem asI(h:(af t j).kind=30\/(af t j).kind=31\/(af t j).kind=32):yK n t O j M P:=by
 have aI:=aR.dI;have fz:=aj.nodes;have ap:eV (af t j).kind=aS:=by rcases h with h|h|h<;>(rw[h];rfl)
 have rY:mW (af t j).kind=ad:=by rcases h with h|h|h<;>(rw[h];rfl)
 have lO:(af t j).kind≠41:=by omega
 have z1:=Lv (n:=n) (M:=M) c5 (show j<=t.nodes.length by omega) (ks:=(af t j).a8) (by have:=aj.af ag;omega) (λq aB=>jz aI ag (by rw[dJ ag];exact aB)) (ci:=c_ t);have z2:j<P.length:=by rw[c5.1];exact ag
 have oP:P[j]? =I (P[j]):=bN z2;have LG:=Lr aj aI ag rY;have dy:∃c,1<=c/\c<=8/\hP t j (2*j+2) (hU t j)=I c:=by
  rw[LG];by_cases ahI:(af t j).kind=30
  ·rw[if_pos ahI];exact⟨1,U,U,rfl⟩
  ·rw[if_neg ahI];by_cases ahJ:(af t j).kind=31
   ·rw[if_pos ahJ];exact⟨1,U,U,rfl⟩
   ·rw[if_neg ahJ,if_pos U];obtain⟨d,aG,gu⟩:=zR aj aI ag (aY j ag) (by rw[show(af t j).kind=32 by omega];rfl);have aQ:=gu.EE;unfold l9 at aQ;rw[show(af t j).kind=32 by omega]at aQ;have asJ:(af t d).kind=41:=by simp_all
    have b':=(gu.kk aI U).2;obtain⟨c,h1,h2,ay⟩:=bH.ik d b' asJ;rw[gu.text]at ay;grind[zQ]
 obtain⟨kQ,gw⟩:=Ls aj aR j ag rY;have ju:LA t O j (hU t j).b9:=⟨λe=>by simp_all,λ_=>⟨rfl,kQ,U,dy⟩,bt,bt,λe=>by rcases h with h|h|h<;>(rw[h]at e;cases e),λe=>absurd e lO,bt⟩
 refine⟨0,(hU t j).b9,M,P.set j (hU t j).b9,D.br ?_,λe=>by simp_all,YB aj aR ag a6 ap U U U U U U,λ_=>⟨ju,dz.step aI ag lO,c5.step ag _⟩⟩;unfold vA;refine D.ae (b8 ag) (D.bind z1 λz _=>?_);have uH:=R_ (n:=n) (M:=M) aj aR ag a6 z (P.set j (hU t j).b9) lO U U U;rw[LG]at uH⊢;rcases h with h|h|h
 ·have sv:td (af t j).kind=I aS:=by rw[h];rfl
  refine D.ae sv (D.bK dF λ_=>D.ar (λ_=>D.ae (hN oP ag) ?_) λe=>absurd h e);rw[if_pos h]at uH⊢;exact D.aX uH rfl
 ·have sv:td (af t j).kind=I aS:=by rw[h];rfl
  refine D.ae sv (D.bK dF λ_=>D.ar bt λ_=>D.ar (λ_=>D.ae (hN oP ag) ?_) λe=>absurd h e);rw[if_neg U,if_pos h]at uH⊢;exact D.aX uH rfl
 ·have sv:td (af t j).kind=I aS:=by rw[h];rfl
  refine D.ae sv (D.bK dF λ_=>D.ar bt λ_=>D.ar bt λ_=>D.ar (λ_=>D.ae (hN oP ag) ?_) λe=>absurd h e);rw[if_neg U,if_neg U,if_pos h]at uH⊢;exact D.aX uH rfl
theorem asK(h:(af t j).kind=25\/(af t j).kind=34):yK n t O j M P:=by
 have aI:=aR.dI;have ap:eV (af t j).kind=aS:=by rcases h with h|h<;>(rw[h];rfl)
 have lO:(af t j).kind≠41:=by omega
 have z1:=Lv (n:=n) (M:=M) c5 (show j<=t.nodes.length by omega) (ks:=(af t j).a8) (by have:=aj.af ag;omega) (λq aB=>jz aI ag (by rw[dJ ag];exact aB)) (ci:=c_ t);have z2:j<P.length:=by rw[c5.1];exact ag
 have oP:P[j]? =I (P[j]):=bN z2;have sv:td (af t j).kind=I aS:=by rcases h with h|h<;>(rw[h];rfl)
 obtain⟨r,aO,b'⟩:=o7 aI ag (by grind[n2]);have ju:LA t O j (O (eL t j)):=by
  refine⟨λe=>by simp_all,λe=>?_,λe=>?_,λe=>rfl,λe=>?_,λe=>absurd e lO,bt⟩
  ·rcases h with h|h<;>(rw[h]at e;cases e)
  ·obtain⟨_,_,ay⟩:=tq aj aI ag (.inr e);exact(bH.ty _ b' ay).1
  ·rcases h with h|h<;>(rw[h]at e;cases e)
 refine⟨0,O (eL t j),M,P.set j (O (eL t j)),D.br ?_,λe=>by simp_all,YB aj aR ag a6 ap U U U U U U,λ_=>⟨ju,dz.step aI ag lO,c5.step ag _⟩⟩;unfold vA;refine D.ae (b8 ag) (D.bind z1 λz aP=>D.ae sv (D.bK dF λ_=>D.ar bt λ_=>D.ar bt λ_=>D.ar bt λ_=>D.bK (λ_=>?_) λe=>?_))
 ·have x0:aH z.1 0=I (O (eL t j)):=by
   rw[aP,<-dJ ag,aO];rfl
  exact D.ae x0 (D.ae (hN oP ag) (D.aX (R_ aj aR ag a6 z _ lO U U U) rfl))
 grind
theorem asL(h:(af t j).kind=33):yK n t O j M P:=by
 have aI:=aR.dI;have fz:=aj.nodes;have ap:eV (af t j).kind=aS:=by rw[h];rfl
 have rY:mW (af t j).kind=ad:=by rw[h];rfl
 have lO:(af t j).kind≠41:=by omega
 have z1:=Lv (n:=n) (M:=M) c5 (show j<=t.nodes.length by omega) (ks:=(af t j).a8) (by have:=aj.af ag;omega) (λq aB=>jz aI ag (by rw[dJ ag];exact aB)) (ci:=c_ t);have z2:j<P.length:=by rw[c5.1];exact ag
 have oP:P[j]? =I (P[j]):=bN z2;have sv:td (af t j).kind=I aS:=by rw[h];rfl
 obtain⟨gL,b',asM⟩:=tq aj aI ag (.inl h);obtain⟨gu,iG⟩:=bH.ty _ b' asM;have we:=R1 aR ag h;have LG:hU t j=.hn (hU t (eL t j)) (af t j).n.toNat:=by rw[Lr aj aI ag rY,if_neg U,if_neg U,if_neg U]
 obtain⟨kQ,gw⟩:=Ls aj aR j ag rY;obtain⟨c,ox,B',ax⟩:=iG.tZ;have dy:hP t j (2*j+2) (hU t j)=I ((af t j).n.toNat*c):=by rw[LG];show hP t j (2*j+1+1) _=_;unfold hP;rw[zQ ax (show 2*eL t j+2<=2*j+1 by omega) (show eL t j<=j by omega)];dsimp only;rw[if_pos B']
 have uF:(P.set j (hU t j).b9)[j]? =I (hU t j).b9:=ahH z2;have LF:yq (aM n) (hU t j).b9 t.nodes t.aD (c_ t) t.nodes.length M (P.set j (hU t j).b9)=I (decide (8<(af t j).n.toNat*c)):=by refine Yw aj aR a6 dz.ae (λm hm o_=>?_) dy U kQ U;rw[List.getElem?_set,if_neg U];exact c5.qE aj aI bH U m hm o_
 have z3:=Ym aj aR a6 dy U kQ U;have kJ:1<=(af t j).n.toNat*c:=Nat.mul_pos U U;refine⟨if 8<(af t j).n.toNat*c then 5 else 0,(hU t j).b9,M,P.set j (hU t j).b9,D.br ?_,λe=>by simp_all,Ib aj aR ag a6 ap ?_,λe=>⟨⟨λe=>by simp_all,λ_=>⟨rfl,kQ,U,_,kJ,?_,dy⟩,bt,bt,λe=>by rw[h]at e;(cases e),λe=>absurd e lO,bt⟩,dz.step aI ag lO,c5.step ag _⟩⟩
 ·unfold vA;refine D.ae (b8 ag) (D.bind z1 λz aP=>D.ae sv (D.bK dF λ_=>D.ar bt λ_=>D.ar bt λ_=>D.ar bt λ_=>D.bK (λe=>by grind) λ_=>D.ar (λ_=>?_) λe=>absurd h e));have x0:aH z.1 0=I (hU t (eL t j)).b9:=by
   rw[aP,<-dJ ag,gL,<-gu];rfl
  have hG:(af t j).n=(((af t j).n.toNat:Nat):Int):=by omega
  have asN:Hi (aM n) (hU t (eL t j)).b9 (af t j).n=I (hU t j).b9:=by rw[LG,hG];have:=iG.size;rw[ahf U ⟨U,U⟩,<-hG];rfl
  refine D.ae x0 (D.ae asN (D.ae (hN oP ag) (D.ae (hN uF ag) (D.ae LF (D.ar (λe=>D.ret (by rw[if_pos e])) λe=>?_)))));rw[if_neg e];grind[D.aX,R_]
 ·unfold vw;exact D.ar bt λ_=>D.ar (λ_=>D.ae (Yd aj aR U n j U ag rY) (D.ae z3 (D.ret rfl))) λe=>absurd h e
 omega
theorem LH(ap:kT (af t j).kind=ad)(lO:(af t j).kind=41->∃c,1<=c/\c<=8/\hP t (j+1) (2*j+1) (.ik (af t j).text)=I c)(c7:(af t j).kind=42->O (fD t j)=(hU t (p3 t j)).b9):LA t O j gd:=by
 unfold kT at ap;simp only[dn,decide_eq_true_eq]at ap;refine⟨λe=>?_,λe=>?_,λe=>by omega,λe=>by omega,λ_=>rfl,lO,c7⟩
 ·unfold eV at e;grind
 ·unfold mW at e;grind
theorem LI(ap:kT (af t j).kind=ad){e:Int}{Ca:List (ByteArray×Int)}(h:∀z:List ByteArray×Nat,z.1=ec t O j->te (aM n) (j:Int) z t.nodes t.aD (c_ t) t.nodes.length M (P,(af t j).kind)=I (e,Ca,P)):vA (aM n) (j:Int) t.nodes t.aD (c_ t) t.nodes.length M P=I (e,Ca,P):=by
 have aI:=aR.dI;have z1:=Lv (n:=n) (M:=M) c5 (show j<=t.nodes.length by omega) (ks:=(af t j).a8) (by have:=aj.af ag;omega) (λq aB=>jz aI ag (by rw[dJ ag];exact aB)) (ci:=c_ t);unfold kT at ap;simp only[dn,decide_eq_true_eq]at ap;have sv:td (af t j).kind=I aS:=by grind[td,decide_eq_false]
 refine D.br ?_;unfold vA;refine D.ae (b8 ag) (D.bind z1 λz aP=>D.ae sv (D.bK dF λ_=>D.ar bt λ_=>D.ar bt λ_=>D.ar bt λ_=>D.bK (λe=>?_) λ_=>D.ar bt λ_=>D.aX (h z (by rw[aP];unfold ec;rw[dJ ag])) rfl));grind
theorem LJ(ap:kT (af t j).kind=ad):eV (af t j).kind=aS:=by unfold kT at ap;simp only[dn,decide_eq_true_eq]at ap;grind[eV,decide_eq_false,af]
theorem asO(h:(af t j).kind=40\/(af t j).kind=43\/(af t j).kind=45):yK n t O j M P:=by
 have aI:=aR.dI;have ap:kT (af t j).kind=ad:=by rcases h with h|h|h<;>(rw[h];rfl)
 have z4:=LJ aj aR c5 dz ag bH a6 aY ap;exact⟨0,gd,M,P,LI aj aR c5 dz ag bH a6 aY ap λz _=>R_ aj aR ag a6 z P U U U U,λe=>by simp_all,YB aj aR ag a6 z4 U U U U U U,λ_=>⟨LH aj aR c5 dz ag bH a6 aY ap bt bt,dz.step aI ag U,c5.LB ag⟩⟩
theorem asP(h:(af t j).kind=41):yK n t O j M P:=by
 have aI:=aR.dI;have fz:=aj.nodes;have ap:kT (af t j).kind=ad:=by rw[h];rfl
 have z4:=LJ aj aR c5 dz ag bH a6 aY ap;have i_:=EA aI ag (EB _ U);have aO:=Yp aY aI ag h;have gL:=dJ ag;have EI:=dz.asF aY aI ag h;have aB:∀q∈bn t j,∃c,1<=c/\c<=8/\hP t (j+1) (2*j) (e9 t q.toNat)=I c:=by intro q aB;obtain⟨m,rfl,hm,o_⟩:=vV aj aI ag h aB;obtain⟨_,h2,ay⟩:=tq aj aI (j:=m) U (.inr o_);obtain⟨c,ox,B',ax⟩:=(bH.ty _ (show eL t m<j by omega) ay).2.tZ;exact⟨c,ox,B',zQ ax U U⟩
 have gl:∃cs:List Nat,(bn t j).map (λq=>hP t (j+1) (2*j) (e9 t q.toNat))=cs.map I/\(∀x∈cs,x<=8)/\(bn t j).length<=cs.sum:=by
  generalize bn t j=l at aB;induction l with
  |nil=>simp
  |cons q r bx=>obtain⟨c,h1,h2,ay⟩:=aB q List.mem_cons_self;obtain⟨cs,bl,bO,cX⟩:=bx λx ak=>aB x (List.mem_cons_of_mem _ ak);refine⟨c::cs,by rw[hH,hH,ay,bl],λx ak=>?_,dZ⟩;grind
 obtain⟨cs,h1,h2,ay⟩:=gl;have dy:hP t (j+1) (2*j+1) (.ik (af t j).text)=I cs.sum:=by unfold hP;rw[aO];dsimp only;rw[if_pos U,h1,Yi h2]
 have kJ:1<=cs.sum:=by grind[uE,k7]
 have gw:(af t j).text.size< 100000:=by have:=i_.2.2.2;omega
 have LF:yq (aM n) (af t j).text t.nodes t.aD (c_ t) t.nodes.length (fB M (af t j).text (j:Int)) P=I (decide (8<cs.sum)):=by
  refine Yw (j:=j+1) (bv:=.ik (af t j).text) aj aR a6 EI.ae (λm hm o_=>?_) dy U i_ gw;have:m≠j:=λe=>by simp_all
  exact c5.qE aj aI bH U m U o_
 have z3:=Ym (bv:=.ik (af t j).text) aj aR a6 dy U i_ gw;refine⟨if 8<cs.sum then 5 else 0,gd,fB M (af t j).text (j:Int),P,LI aj aR c5 dz ag bH a6 aY ap λz aP=>D.br ?_,λe=>by simp_all,Ib aj aR ag a6 z4 ?_,λe=>⟨LH aj aR c5 dz ag bH a6 aY ap (λ_=>⟨_,kJ,?_,dy⟩) bt,EI,c5.LB ag⟩⟩
 ·unfold te;refine D.ae (z:=(if 8<cs.sum then 5 else 0,fB M (af t j).text (j:Int),P)) (D.br ?_) (D.ret rfl);unfold D';refine D.ae (b8 ag) (D.ar (λ_=>D.ae LF (D.ar (λe=>D.ret (by rw[if_pos e])) λe=>?_)) λe=>absurd h e);rw[if_neg e];exact D.ret rfl
 ·unfold vw;exact D.ar bt λ_=>D.ar bt λ_=>D.ar (λ_=>D.ae z3 (D.ret rfl)) λe=>absurd h e
 omega
theorem asQ(h:(af t j).kind=42):yK n t O j M P:=by
 have aI:=aR.dI;have fz:=aj.nodes;have ap:kT (af t j).kind=ad:=by rw[h];rfl
 have z4:=LJ aj aR c5 dz ag bH a6 aY ap;have gL:=dJ ag;have kR:=to aI ag h;have j7:=aj.af ag;have p1:=vX (O:=O) ag;obtain⟨lq,ku,q1⟩:=rx aj aI ag h;obtain⟨JQ,At,Yv⟩:=Yg aj aI ag h;have gu:=(bH.ty _ At Yv).1;have YC:az (((ec t O j).length:Int)- 1)=(((bn t j).length- 1:Nat):Int):=by grind[b3]
 have YD:az (((ec t O j).length:Int)- 2)=(((bn t j).length- 2:Nat):Int):=by grind[b3]
 have YE:az (((af t j).a8.length:Int)- 1)=(((bn t j).length- 1:Nat):Int):=by grind
 have uF:aH (ec t O j) (((bn t j).length- 1:Nat):Int)=I (O (fD t j)):=e7 (by simp_all[ec,gQ]);have w4:aH (ec t O j) (((bn t j).length- 2:Nat):Int)=I (hU t (p3 t j)).b9:=e7 (by simp_all[ec,gQ,congrArg]);refine⟨if O (fD t j)=(hU t (p3 t j)).b9 then 0 else 11,gd,M,P,LI aj aR c5 dz ag bH a6 aY ap λz aP=>D.br ?_,λe=>by simp_all,Ib aj aR ag a6 z4 ?_,λe=>⟨LH aj aR c5 dz ag bH a6 aY ap bt (λ_=>?_),dz.step aI ag U,c5.LB ag⟩⟩
 ·unfold te;refine D.ae (z:=(if O (fD t j)=(hU t (p3 t j)).b9 then 0 else 11,M,P)) (D.br ?_) (D.ret rfl);unfold D';rw[aP];refine D.ae (b8 ag) (D.ar bt λ_=>D.ar (λ_=>?_) λe=>absurd h e);rw[YC,YD];refine D.ae uF (D.ae w4 ?_);by_cases e:O (fD t j)=(hU t (p3 t j)).b9
  ·rw[if_pos e,decide_eq_true e];exact D.ret rfl
  ·rw[if_neg e,decide_eq_false e];exact D.ret rfl
 ·unfold vw;refine D.ar bt λ_=>D.ar bt λ_=>D.ar bt λ_=>D.ar (λ_=>D.ae (ahp aj aR U ag h) ?_) λe=>absurd h e;rw[YE];rw[gL]at lq⊢;exact D.aH lq (D.ae (Yx ku q1) (D.dB (λe=>D.ret (by rw[if_neg e])) λe=>D.ret (by rw[if_pos e])))
 simp_all
theorem asR(h:(af t j).kind=44):yK n t O j M P:=by
 have aI:=aR.dI;have ap:kT (af t j).kind=ad:=by rw[h];rfl
 have z4:=LJ aj aR c5 dz ag bH a6 aY ap;have gL:=dJ ag;obtain⟨r,aO,b'⟩:=o7 aI ag (by simp_all[n2]);have ak:(af t j).a8[0]? =I (eL t j:Int):=by grind
 have pd:=ru aj aI ag ak;unfold o6 at pd;rw[if_neg U,if_neg U,if_neg U,if_neg U,if_neg U]at pd;have uF:aH (ec t O j) 0=I (O (eL t j)):=by unfold ec;rw[aO];rfl
 refine⟨if O (eL t j)=fx then 0 else 11,gd,M,P,LI aj aR c5 dz ag bH a6 aY ap λz aP=>D.br ?_,λe=>by simp_all,Ib aj aR ag a6 z4 ?_,λe=>⟨LH aj aR c5 dz ag bH a6 aY ap bt bt,dz.step aI ag U,c5.LB ag⟩⟩
 ·unfold te;refine D.ae (z:=(if O (eL t j)=fx then 0 else 11,M,P)) (D.br ?_) (D.ret rfl);unfold D';rw[aP];refine D.ae (b8 ag) (D.ar bt λ_=>D.ar bt λ_=>D.ar (λ_=>D.ae uF ?_) λe=>absurd h e);rw[show(⟨#[98,111,111,108]⟩:ByteArray)=fx from rfl];by_cases e:O (eL t j)=fx
  ·rw[if_pos e,decide_eq_true e];exact D.ret rfl
  ·rw[if_neg e,decide_eq_false e];exact D.ret rfl
 ·unfold vw;exact D.ar bt λ_=>D.ar bt λ_=>D.ar bt λ_=>D.ar bt λ_=>D.ar (λ_=>D.aH (i:=0) ak (D.ae (Yx b' pd) (D.dB (λe=>D.ret (if_neg e).symm) λe=>D.ret (if_pos e).symm))) λe=>absurd h e
end
def pe(q:Int)(x:ByteArray):Prop:=if q=4\/q=5 then x=fP else if q=8 then x=fP\/x=fx else x=fx
section
variable {n : Nat} {t : aZ} {O : Nat -> ByteArray} {j : Nat} {M : List (ByteArray × Int)} {P : List ByteArray}
theorem LK(k:ByteArray)(l:List ByteArray):jg k l=ad↔∀x∈l,x=k:=by unfold jg;simp
def asS(q:Int){l:List ByteArray}(aC:l.length<=1000000):D (Qk (aM n) q l) λb=>b=ad↔∀x∈l,pe q x:=by
 unfold Qk;refine D.bK (λe=>D.ae (B_ _ aC) (D.ret ?_)) λe=>D.ar (λmm=>D.ae (asb aC) (D.ret ?_)) λmm=>D.ae (B_ _ aC) (D.ret ?_)
 ·rw[jq,decide_eq_true_eq,decide_eq_true_eq]at e;unfold pe;simp only[if_pos e];exact LK _ _
 ·simp_all[jy,decide_eq_false_iff_not,pe,if_neg,not_or,if_pos,Bool.not_not]
 ·rw[jy,decide_eq_false_iff_not,decide_eq_false_iff_not]at e;unfold pe;simp only[if_neg (not_or.2 e),if_neg mm];exact LK _ _
variable (aj : cH t) (aR : fZ t) (c5 : lP t O j P) (dz : pa t j M) (ag : j < t.nodes.length) (bH : mv t O j) (a6 : 1000000 <= n) (aY : ∀ i, i < t.nodes.length -> gS t i = 0)
include aj aR c5 dz ag bH a6 aY
open Classical in
theorem asT(h:(af t j).kind=46):yK n t O j M P:=by
 have aI:=aR.dI;have ap:kT (af t j).kind=ad:=by rw[h];rfl
 have z4:=LJ aj aR c5 dz ag bH a6 aY ap;have gL:=dJ ag;have j7:=aj.af ag;have hle:=EH (O:=O) aj ag;refine⟨if ∀x∈ec t O j,pe (af t j).n x then 0 else 11,gd,M,P,LI aj aR c5 dz ag bH a6 aY ap λz aP=>D.br ?_,λe=>by simp_all,Ib aj aR ag a6 z4 ?_,λe=>⟨LH aj aR c5 dz ag bH a6 aY ap bt bt,dz.step aI ag U,c5.LB ag⟩⟩
 ·unfold te;refine D.ae (z:=(if ∀x∈ec t O j,pe (af t j).n x then 0 else 11,M,P)) (D.br ?_) (D.ret rfl);unfold D';rw[aP];refine D.ae (b8 ag) (D.ar bt λ_=>D.ar bt λ_=>D.ar bt λ_=>D.ar (λ_=>D.bind (asS _ hle) λb aF=>?_) λe=>absurd h e);cases b with
  |true=>exact D.ret (by rw[if_pos (aF.1 rfl)])
  |false=>exact D.ret (by rw[if_neg (λq=>by simp_all)])
 ·unfold vw;refine D.ar bt λ_=>D.ar bt λ_=>D.ar bt λ_=>D.ar bt λ_=>D.ar bt λ_=>D.ar (λ_=>?_) λe=>absurd h e;unfold aeA;refine D.for (af t j).a8.length (λi (_:Unit)=>(i:Int)) (λi _=>∀(a:Nat) q,a<i->(af t j).a8[a]? =I q->pe (af t j).n (O q.toNat)) (t0:=()) rfl (λa q h=>by omega) (λi _ hi a7=>?_) λ_ a7=>?_
  ·obtain⟨q,aB⟩:∃q,(af t j).a8[i]? =I q:=⟨_,bN hi⟩
   have XD:q∈bn t j:=by grind
   obtain⟨m,rfl,hm⟩:=jz aI ag XD;have asU:eV (af t m).kind=ad:=by have:=ru aj aI ag aB;simp_all[o6,if_neg]
   have u_:O m∈ec t O j:=lz.2 ⟨(m:Int),XD,rfl⟩;have bad:¬pe (af t j).n (O m)->D ((I (11:Int)).map (Sum.inr:Int->Int ⊕ Int)) (jv (λs'=>∃hs:Unit,s'=((i+1:Nat):Int)/\∀(a:Nat) q,a<i+1->(af t j).a8[a]? =I q->pe (af t j).n (O q.toNat)) (· =if ∀x∈ec t O j,pe (af t j).n x then 0 else 11)):=λaF=>D.inr (by rw[if_neg (λq=>aF (q _ u_))]);have next:pe (af t j).n (O m)->D (I (Sum.inl (az ((i:Int)+1)):Int ⊕ Int)) (jv (λs'=>∃hs:Unit,s'=((i+1:Nat):Int)/\∀(a:Nat) q,a<i+1->(af t j).a8[a]? =I q->pe (af t j).n (O q.toNat)) (· =if ∀x∈ec t O j,pe (af t j).n x then 0 else 11)):=λb5=>D.inl ⟨(),by rw[bw U],λa q a4 ak=>by grind⟩
   refine D.ar (λ_=>D.aH aB (D.ae (Yx hm asU) (D.bK (λe=>bad ?_) λe=>?_))) d_
   ·have e:(!decide (O m=fP)&& !decide (O m=fx))=ad:=e;simp_all[dn,Bool.not_eq_true',decide_eq_false_iff_not,pe,not_or]
   ·have e:(!decide (O m=fP)&& !decide (O m=fx))=aS:=e;have aIw:O m=fP\/O m=fx:=by
     grind
    by_cases qC:(af t j).n=4\/(af t j).n=5
    ·have aG:(decide ((af t j).n=4)||decide ((af t j).n=5))=ad:=by simp_all
     have kQ:pe (af t j).n (O m)↔O m=fP:=by unfold pe;rw[if_pos qC]
     rw[aG];refine D.dB (λbc=>bad λq=>bc (kQ.1 q)) λbc=>?_;exact next (kQ.2 bc)
    ·have aG:(decide ((af t j).n=4)||decide ((af t j).n=5))=aS:=by simp_all
     rw[aG];refine D.dB (λg8=>?_) λg8=>?_
     ·have kQ:pe (af t j).n (O m)↔O m=fx:=by unfold pe;rw[if_neg qC,if_neg g8]
      exact D.dB (λbc=>bad λq=>bc (kQ.1 q)) λbc=>next (kQ.2 bc)
     simp_all[pe,if_neg,if_pos]
  ·refine D.ar bt λ_=>D.inr ?_;rw[if_pos];intro x ak;obtain⟨q,aB,rfl⟩:=lz.1 ak;grind[hf,List.getElem?_eq_some_iff]
theorem asV:yK n t O j M P:=by
 have aI:=aR.dI;have tk:=((aI.qy j _ (k9 ag)).1).kind;unfold tj at tk;simp only[jq,decide_eq_true_eq]at tk;by_cases ap:eV (af t j).kind=ad
 ·simp_all[asH]
 ·have:(af t j).kind=25\/(30<=(af t j).kind/\(af t j).kind<=34)\/(40<=(af t j).kind/\(af t j).kind<=46):=by
   unfold eV at ap;grind
  have:((af t j).kind=30\/(af t j).kind=31\/(af t j).kind=32)\/((af t j).kind=25\/(af t j).kind=34)\/(af t j).kind=33\/((af t j).kind=40\/(af t j).kind=43\/(af t j).kind=45)\/(af t j).kind=41\/(af t j).kind=42\/(af t j).kind=44\/(af t j).kind=46:=by omega
  rcases this with h|h|h|h|h|h|h|h
  ·simp_all[asI]
  ·simp_all[asK]
  ·simp_all[asL]
  ·simp_all[asO]
  ·simp_all[asP]
  ·simp_all[asQ]
  ·simp_all[asR]
  simp_all[asT]
end
section
variable {n : Nat} {t : aZ} {O : Nat -> ByteArray} {j : Nat} {M : List (ByteArray × Int)} {P : List ByteArray}
def Ic{α:Type}{xs cO:List α}(h:xs.length+cO.length<=2000000):A5 xs cO=I (xs++cO):=by unfold A5;rw[if_pos h]
theorem asW(v:ByteArray):(fQ t O j++[gd]).set j v=fQ t O j++[v]:=by simp_all[List.set_append_right,LC,bL,Nat.sub_self]
abbrev asX(t:aZ):=(Int×Int) ⊕ (Int×Int×(List bm)×(List Int)×(List Int)×Nat×(List (ByteArray×Int))×(List ByteArray))
def asY(t:aZ)(gR:asX t)(fu:vn×Int×Int):Prop:=
 (∃k e:Int,e≠0/\gR=.inl (k,e)/\fu=(⟨[]⟩,k,e))\/∃O M P,mv t O t.nodes.length/\lP t O t.nodes.length P/\pa t t.nodes.length M/\gR=.inr (0,0,t.nodes,t.aD,c_ t,t.nodes.length,M,P)/\fu=(⟨fQ t O t.nodes.length⟩,0,0)
def asZ(aj:cH t)(aR:fZ t)(a6:1000000<=n)(aY:∀i,i<t.nodes.length->gS t i=0){ai:List ByteArray}(aP:ai.length=t.nodes.length):
  ∀d i,i+d=t.nodes.length->∀O M P,mv t O i->lP t O i P->pa t i M->∃gR fu,afA t (aM n) (⟨c_ t⟩,0,0) ai ((i:Int),M,P)=I gR/\aeB t (aM n) (⟨c_ t⟩,0,0) (fQ t O i,(i:Int))=I fu/\asY t gR fu:=by
 have fz:=aj.nodes;have aI:=aR.dI;intro d;induction d with
 |zero=>
  intro i hi O M P bH c5 dz;have:i=t.nodes.length:=by omega
  subst this;refine⟨_,_,fv.bu (r:=.inr (0,0,t.nodes,t.aD,c_ t,t.nodes.length,M,P)) (D.br ?_),fv.bu (r:=(⟨fQ t O t.nodes.length⟩,0,0)) (D.br ?_),.inr ⟨O,M,P,bH,c5,dz,rfl,rfl⟩⟩
  ·simp_all[D.ar,absurd,c_,D.ret]
  simp_all[D.ar,absurd,D.ret]
 |succ d bx=>
  intro i hi O M P bH c5 dz;have c4:i<t.nodes.length:=by omega
  obtain⟨e,v,Ca,vi,h1,h2,ay,bl⟩:=asV aj aR c5 dz c4 bH a6 aY;have as0:A5 (fQ t O i) [gd]=I (fQ t O i++[gd]):=Ic (by rw[LC];grind);have z3:(fQ t O i++[gd]).length=i+1:=by rw[List.length_append,LC];rfl
  have as1:(fQ t O i++[gd])[i]? =I gd:=by simp_all
  have R:∀x,(e=0->x=Sum.inl (fQ t (su O i v) (i+1),((i+1:Nat):Int)))->(e≠0->x=Sum.inr (⟨[]⟩,(i:Int),e))->(λ(s:List ByteArray×Int)=>if(decide (s.2<(t.nodes.length:Int)))=ad then(A5 s.1 ([(⟨#[]⟩:ByteArray)]:List ByteArray)).bind λai=>au (GR t s.2) λaE=>if aE then(GX (aM n) t ⟨c_ t⟩ ai s.2).bind λaW=>au (gz ai.length ai s.2) λa_=>au (ur (aM n) t (ai.set a_.1.1 aW) s.2) λbq=>if(!decide (bq=0))then(I ((⟨[]⟩:vn),s.2,bq)).map .inr else I (.inl ((ai.set a_.1.1 aW),(az (s.2+1))))else(ur (aM n) t ai s.2).bind λbR=>if(!decide (bR=0))then(I ((⟨[]⟩:vn),s.2,bR)).map .inr else I (.inl (ai,(az (s.2+1))))else(I ((⟨s.1⟩:vn),(0:Int),(0:Int))).map .inr) (fQ t O i,(i:Int))=I x:=by
   intro x oP uF;refine D.br (D.ar (λ_=>D.ae as0 (D.ae (LD c4) ?_)) d_);have cS:=asG (t:=t) (O:=O) (j:=i) v;cases ap:eV (af t i).kind with
   |true=>
    rw[ap,if_pos rfl]at ay cS;refine D.bK (λ_=>D.ae (h2 ap) (D.ae (hN as1 U) ?_)) λh=>by cases h
    show D ((ur (aM n) t ((fQ t O i++[gd]).set i v) (i:Int)).bind _) _;rw[asW];refine D.ae ay (D.dB (λhe=>?_) λhe=>?_)
    ·rw[uF he];exact D.ret rfl
    grind[fQ,az,bw,D.ret]
   |false=>
    rw[ap,if_neg cW]at ay cS;refine D.bK dF λ_=>D.ae ay (D.dB (λhe=>?_) λhe=>?_)
    ·rw[uF he];exact D.ret rfl
    grind[bw,D.ret]
  by_cases he:e=0
  ·obtain⟨ju,EI,R9⟩:=bl he;obtain⟨gR,fu,ea,fN,jZ⟩:=bx (i+1) U _ Ca vi (bH.step aj aI c4 ju) R9 EI;refine⟨gR,fu,?_,?_,jZ⟩
   ·rw[<-ea];refine fv.on (s':=(((i+1:Nat):Int),Ca,vi)) (D.br (D.ar (λ_=>?_) d_));show D ((vA (aM n) (i:Int) t.nodes t.aD (c_ t) ai.length M P).bind _) _;rw[aP];refine D.ae h1 (D.dB (λh=>absurd he h) λ_=>?_);grind[bw,D.ret]
   ·rw[<-fN];exact fv.on (R _ (λ_=>rfl) λh=>absurd he h)
  ·refine⟨_,_,fv.bu (r:=.inl ((i:Int),e)) (D.br (D.ar (λ_=>?_) d_)),fv.bu (r:=(⟨[]⟩,(i:Int),e)) (R _ (λh=>absurd h he) λ_=>rfl),.inl ⟨_,_,he,rfl,rfl⟩⟩;show D ((vA (aM n) (i:Int) t.nodes t.aD (c_ t) ai.length M P).bind _) _;simp_all[D.ae,D.dB,D.ret,absurd]
def as2:mv t O 0:=⟨λi h=>by omega,λi h=>by omega,λi h=>by omega,λi h=>by omega,λi h=>by omega,λi h=>by omega,λi h=>by omega,λi h=>by omega⟩
def YF(n:Nat)(t:aZ)(r:vn×Int×Int):Prop:=
 (∃k e:Int,e≠0/\r=(⟨[]⟩,k,e)/\vB (aM n) t=I (.inl (k,e)))\/
 (fZ t/\(∀i,i<t.nodes.length->gS t i=0)/\BF (aM n) t=I (⟨c_ t⟩,0,0)/\yk (aM n) t=I (⟨c_ t⟩,0,0)/\∃O M P,mv t O t.nodes.length/\lP t O t.nodes.length P/\pa t t.nodes.length M/\vB (aM n) t=I (.inr (0,0,t.nodes,t.aD,c_ t,t.nodes.length,M,P))/\r=(⟨fQ t O t.nodes.length⟩,0,0))
def as3(aj:cH t)(a6:1000000<=n):∃r,zC (aM n) t=I r/\wS (aM n) t=I r/\YF n t r:=by
 have fz:=aj.nodes;obtain⟨r,h1,h2,ay⟩:=arH (n:=n) aj U;have mw:∀k e:Int,e≠0->r=(⟨[]⟩,k,e)->∃r,zC (aM n) t=I r/\wS (aM n) t=I r/\YF n t r:=by
  rintro k e he rfl;have:vB (aM n) t=I (.inl (k,e)):=by simp_all[D.br,vB,D.ae,D.dB,D.ret,absurd]
  refine⟨(⟨[]⟩,k,e),D.br ?_,D.br ?_,.inl ⟨k,e,he,rfl,this⟩⟩
  ·simp_all[zC,D.ae,D.dB,D.ret,absurd]
  simp_all[wS,D.ae,D.dB,D.ret,absurd]
 rcases ay with⟨e,_,he,aO⟩|⟨aR,_,aK⟩
 ·grind
 ·have aI:=aR.dI;rcases aK with⟨j,_,he,_,aO⟩|⟨aY,aO⟩
  ·grind
  ·have aO:r=(⟨c_ t⟩,0,0):=aO;subst aO;have aP:(cC t.nodes.length gd).length=t.nodes.length:=by simp
   have as4:lP t (λ_=>gd) 0 (cC t.nodes.length gd):=⟨aP,λi hi=>by rw[List.getElem?_replicate,if_pos hi,if_neg U]⟩
   have as5:pa t 0 []:=λs=>by
    unfold yI;cases j9 t s with
    |none=>rfl
    |some i=>dsimp only;rw[if_neg U];rfl
   obtain⟨gR,fu,ea,fN,jZ⟩:=asZ aj aR a6 aY aP t.nodes.length 0 U (λ_=>gd) [] _ as2 as4 as5;have t_:mk (t.nodes.length:Int) gd=I (cC t.nodes.length gd):=by unfold mk;rw[if_pos U,dA]
   have z5:vB (aM n) t=I gR:=by refine D.br ?_;unfold vB;exact D.ae h1 (D.dB (λh=>absurd rfl h) λ_=>D.ae t_ (D.aX ea rfl))
   have p5:wS (aM n) t=I fu:=by refine D.br ?_;unfold wS;exact D.ae h2 (D.dB (λh=>absurd rfl h) λ_=>D.aX fN rfl)
   rcases jZ with⟨k,e,he,rfl,rfl⟩|⟨O,M,P,bH,c5,dz,rfl,rfl⟩
   ·refine⟨_,D.br ?_,p5,.inl ⟨k,e,he,rfl,z5⟩⟩;simp_all[zC,D.ae,D.dB,D.ret,absurd]
   ·refine⟨_,D.br ?_,p5,.inr ⟨aR,aY,h1,h2,O,M,P,bH,c5,dz,z5,rfl⟩⟩;unfold zC;refine D.ae z5 ?_;show D (if(!decide ((0:Int)=0))=ad then I ((⟨[]⟩:vn),(0:Int),(0:Int))else WR (aM n) (0,0,t.nodes,t.aD,c_ t,t.nodes.length,M,P) (0,P)) _;refine D.dB (λh=>absurd rfl h) λ_=>?_;unfold WR;refine D.for t.nodes.length (λi (c:List ByteArray)=>((i:Int),c)) (λi c=>c.length=t.nodes.length/\∀k,k<t.nodes.length->c[k]? =I (if k<i then(if eV (af t k).kind=ad then O k else gd)else O k)) (t0:=P) rfl ⟨c5.1,λk ap=>by rw[c5.2 k ap,if_pos ap,if_neg U]⟩ (λi c hi a7=>?_) λc a7=>?_
    ·have ak:c[i]? =I (O i):=by rw[a7.2 i hi,if_neg U]
     have sv:td (af t i).kind=I (eV (af t i).kind):=by have tk:=((aI.qy i _ (k9 hi)).1).kind;unfold tj at tk;simp only[jq,decide_eq_true_eq]at tk;grind[td,eV,decide_eq_true,af]
     refine D.ar (λ_=>D.ae (b8 hi) (D.ae sv (D.bK (λap=>D.ae (hN ak hi) (D.inl ⟨c.set i gd,by rw[bw U];rfl,dq,λk pZ=>?_⟩)) λap=>D.inl ⟨c,by rw[bw U],a7.1,λk pZ=>?_⟩))) λh=>absurd dq h
     ·grind
     grind
    ·refine D.ar (λh=>absurd h cW) λ_=>D.bu ?_;have ax:c=fQ t O t.nodes.length:=by
      unfold fQ;apply List.ext_getElem?;grind
     simp_all[gF,XL,D.ae,D.ret]
end
def hD(t:aZ)(j:Nat)(f:Int)(e:Nat):Nat:=if fE t j=f then e+1 else 0
def ne(t:aZ):Nat->Nat->Int->Nat->Nat
 |0,_,_,_=>0
 |k+1,j,f,e=>1+((bn t j).map λq=>ne t k q.toNat f e).sum+
  (if(af t j).kind=21 then(if(af t (fE t j).toNat).n<(hD t j f e:Int)then 0 else ne t k (fD t (fE t j).toNat) (fE t j) (hD t j f e))else 0)
def hZ(t:aZ)(f:Int)(e:Nat)(j:Nat):Prop:=
 j<t.nodes.length/\((f=-1/\e=0/\(af t (d' t j).2).kind≠42)\/(f=((d' t j).2:Int)/\(af t (d' t j).2).kind=42/\(e:Int)<=(af t (d' t j).2).n))
def ed(t:aZ)(e j:Nat):Nat:=(d' t j).2*10000+(9-e)*1000+j
section
variable {n : Nat} {t : aZ}
variable {d:Nat}
theorem LL(aR:fZ t)(aG:d<t.nodes.length)(h:(af t d).kind=42):0<=(af t d).n/\(af t d).n<=8:=by have h1:=Yc aR aG;unfold nb at h1;rw[b8 aG,Option.bind_some]at h1;simp[h]at h1;have h2:=((aR.dI.qy d _ (k9 aG)).1).num;have ay:=Le (af t d);simp_all[oZ]
variable {j:Nat}
theorem vY(aI:dD t) {p:Nat}(hp:p<t.nodes.length)(h:(j:Int)∈bn t p):(d' t j).2=(d' t p).2:=by obtain⟨m,e,hm⟩:=jz aI hp h;have:j=m:=fC e;rw[l_ aI U (ny aI hp h)]
theorem YG(aI:dD t)(aG:d<t.nodes.length)(h:(d:Int)∈t.aD):(d' t d).2=d:=by rw[sn aG ((vQ aI aG).2 h)]
theorem LM(aI:dD t)(aG:d<t.nodes.length)(h:(af t d).kind=42):(d:Int)∈t.aD:=B4 aI aG (by rw[h];rfl)
theorem as6(aj:cH t)(aI:dD t)(aG:d<t.nodes.length)(h:(af t d).kind=42):(fD t d:Int)∈bn t d:=cm (rx aj aI aG h).1
def Ie(aj:cH t)(aI:dD t)(aG:d<t.nodes.length)(h:(af t d).kind=42):(d' t (fD t d)).2=d:=by rw[vY aI aG (as6 aj aI aG h),YG aI aG (LM aI aG h)]
theorem as7(aj:cH t)(aI:dD t):∀j,j<t.nodes.length->∀d:Nat,(d:Int)∈(d' t j).1->(af t d).kind=42->d=(d' t j).2:=by
 refine HX aI (λj ag e d aG=>?_) λj p ag hp Eu hm e bx d aG ap=>?_
 ·simp_all[sn]
 ·rw[l_ aI ag e]at aG⊢;rcases h3.1 aG with aG|aG
  ·unfold hl at aG;split at aG
   ·split at aG
    ·grind
    ·split at aG
     ·next c7=>
      rcases h3.1 aG with aG|aG
      ·obtain⟨a,a4⟩:=hf (show(d:Int)∈eY t p from aG);grind[xa,fC]
      grind[fC,YG,LM]
     ·cases aG
   ·cases aG
  grind
def YH(aj:cH t)(aI:dD t)(aY:∀i,i<t.nodes.length->gS t i=0)(ag:j<t.nodes.length)(h:(af t j).kind=21):∃d:Nat,fE t j=d/\d<t.nodes.length/\(af t d).kind=42/\((d<j/\d<(d' t j).2)\/d=(d' t j).2):=by
 obtain⟨d,aG,gu⟩:=zR aj aI ag (aY j ag) (by rw[h];rfl);have aQ:=gu.EE;unfold l9 at aQ;rw[h]at aQ;have ap:(af t d).kind=42:=by simp_all
 have aO:=(Et aI j ag).2.2.1;refine⟨d,aG,gu.lt,ap,?_⟩;have hm:fE t j=match uD t j (af t j).text with|some d=>if l9 (af t j).kind (af t d.toNat).kind then d else-1|none=> -1:=by unfold fE;rw[if_pos (by rw[h];rfl)];rfl
 rw[hm]at aG;cases e:uD t j (af t j).text with
 |none=>simp_all
 |some db=>
  rw[e]at aG;dsimp only at aG;split at aG
  ·subst aG;have u_:=List.mem_of_find?_eq_some e;rcases h3.1 u_ with h1|h1
   ·grind[as7]
   ·have h2:=(List.mem_filter.1 h1).2;rw[dn,decide_eq_true_eq]at h2;grind[XT]
  omega
variable (aj : cH t) (aR : fZ t) (aY : ∀ i, i < t.nodes.length -> gS t i = 0)
include aj aR aY
variable {e:Nat}{f:Int}{j:Nat}{q:Int}
theorem hZ.lQ(h:hZ t f e j)(aB:q∈bn t j):∃m:Nat,q=m/\m<j/\hZ t f e m/\ed t e m<ed t e j:=by have aI:=aR.dI;obtain⟨m,rfl,hm⟩:=jz aI h.1 aB;have aO:=vY aI h.1 aB;refine⟨m,rfl,hm,⟨by have:=h.1;omega,by rw[aO];exact h.2⟩,?_⟩;unfold ed;omega
theorem hZ.jW(h:hZ t f e j):e<=8:=by
 rcases h.2 with⟨_,bh,_⟩|⟨_,bl,bO⟩
 ·omega
 ·have:=LL aR (Et aR.dI j h.1).1 bl;omega
theorem hZ.call(h:hZ t f e j)(ap:(af t j).kind=21):∃d:Nat,fE t j=d/\d<t.nodes.length/\(af t d).kind=42/\
  (¬(af t d).n<(hD t j f e:Int)->hZ t d (hD t j f e) (fD t d)/\ed t (hD t j f e) (fD t d)<ed t e j/\d*10+(9-hD t j f e)<(d' t j).2*10+(9-e)):=by
 have aI:=aR.dI;have fz:=aj.nodes;obtain⟨d,aG,fh,c7,kJ⟩:=YH aj aI aY h.1 ap;have aF:=Ie aj aI fh c7;have JG:=(rx aj aI fh c7).2.1;have a6:=LL aR fh c7;refine⟨d,aG,fh,c7,λdL=>?_⟩;unfold hD at dL⊢;rw[aG]at dL⊢;rcases kJ with⟨h1,h2⟩|h1
 ·have fM:¬(d:Int)=f:=by
   rcases h.2 with⟨ay,_⟩|⟨ay,_⟩<;>omega
  rw[if_neg fM]at dL⊢;refine⟨⟨U,.inr ⟨by rw[aF],dq,dq⟩⟩,?_,U⟩;unfold ed;omega
 ·rcases h.2 with⟨ay,bl,bO⟩|⟨ay,bl,bO⟩
  ·simp_all
  ·have he:(d:Int)=f:=by rw[ay,h1]
   rw[if_pos he]at dL⊢;rw[<-h1]at bO;refine⟨⟨U,.inr ⟨by rw[aF],dq,dq⟩⟩,?_,U⟩;unfold ed;omega
theorem YI:∀(k cV j:Nat)(f:Int)(e:Nat),hZ t f e j->ed t e j<k->ed t e j<cV->ne t k j f e=ne t cV j f e:=by
 intro k;induction k with
 |zero=>omega
 |succ k bx=>
  intro cV j f e hC h cr;cases cV with
  |zero=>omega
  |succ cV=>
   unfold ne;have a2:(bn t j).map (λq=>ne t k q.toNat f e)=(bn t j).map λq=>ne t cV q.toNat f e:=by apply vW;intro q aB;obtain⟨m,rfl,_,h1,h2⟩:=hC.lQ aj aR aY aB;grind
   rw[a2];congr 1;by_cases ap:(af t j).kind=21
   ·rw[if_pos ap,if_pos ap];obtain⟨d,aG,_,_,ax⟩:=hC.call aj aR aY ap;grind
   simp_all
theorem YJ{l:List Int}{g:Int->Nat}{a:Nat}(h:l[a]? =I q):((l.take (a+1)).map g).sum=((l.take a).map g).sum+g q:=by rw[da h,List.map_append,List.sum_append];simp
theorem as8:∀(k j:Nat)(f:Int)(e:Nat),hZ t f e j->ed t e j<k->DX (aM n) k t ⟨c_ t⟩ (j:Int) f (e:Int)=I ((min 3001 (ne t k j f e):Nat):Int):=by
 have aI:=aR.dI;have fz:=aj.nodes;intro k;induction k with
 |zero=>omega
 |succ k bx=>
  intro j f e hC pu;have ag:=hC.1;have j7:=aj.af ag;have gL:=dJ ag;show Pt (aM n) (DX (aM n) k) t ⟨c_ t⟩ (j:Int) f (e:Int)=_;refine D.br ?_;unfold Pt;refine D.ae (b8 ag) ?_;unfold aeC;have rest:∀w:Nat,w=min 3001 (1+((bn t j).map λq=>ne t k q.toNat f e).sum)->D (Pq ⟨c_ t⟩ (j:Int) f (e:Int) t (DX (aM n) k) ((w:Int),(af t j).kind)) (· =((min 3001 (ne t (k+1) j f e):Nat):Int)):=by
   intro w hw;unfold Pq;unfold ne;by_cases ap:(af t j).kind=21
   ·rw[if_pos ap];obtain⟨d,aG,fh,c7,ax⟩:=hC.call aj aR aY ap;have p4:aH (c_ t) (j:Int)=I (d:Int):=by rw[zZ ag,aG]
    rw[aG,dA];by_cases aQ:w=3001
    ·refine D.bK (λ_=>D.ret ?_) λh=>?_
     ·omega
     grind
    ·refine D.bK (λh=>?_) λ_=>D.ae p4 ?_
     ·grind
     ·have tail:D (Kx t (d:Int) (w:Int) (DX (aM n) k) ⟨c_ t⟩ ((hD t j f e:Nat):Int)) (· =((min 3001 (1+((bn t j).map λq=>ne t k q.toNat f e).sum+(if(af t d).n<(hD t j f e:Int)then 0 else ne t k (fD t d) (d:Int) (hD t j f e))):Nat):Int)):=by
       unfold Kx;refine D.ae (b8 fh) (D.ar (λdL=>D.ret ?_) λdL=>?_)
       ·simp_all
       ·rw[if_neg dL];obtain⟨h1,h2,_⟩:=ax dL;obtain⟨lq,ku,_⟩:=rx aj aI fh c7;have aIx:=aj.af fh;have kR:=to aI fh c7;have XQ:=dJ fh;rw[XQ]at lq;have nZ:az (((af t d).a8.length:Int)- 1)=(((af t d).a8.length- 1:Nat):Int):=by grind[b3]
        refine D.ae (b8 fh) ?_;rw[nZ];refine D.aH lq (D.ae (bx _ _ _ h1 U) (D.ret ?_));generalize ne t k (fD t d) (d:Int) (hD t j f e)=x;rw[b3 U U];unfold it;split<;>omega
      unfold hD at tail⊢;rw[aG]at tail⊢;by_cases he:(d:Int)=f
      ·rw[if_pos he]at tail⊢;refine D.ar (λ_=>?_) λh=>absurd he h;rw[bw (by have:=hC.jW aj aR aY;omega)];omega
      simp_all
   simp_all[if_neg,D.bK,D.ret,jy,Bool.not_eq_false',decide_eq_true_eq,absurd]
  refine D.b1 (λs:Int×Int=>∃a:Nat,s=(((min 3001 (1+(((bn t j).take a).map λq=>ne t k q.toNat f e).sum):Nat):Int),(a:Int))/\a<=(af t j).a8.length) (λs=>(af t j).a8.length-s.2.toNat) ?_ ⟨0,rfl,Nat.zero_le _⟩;rintro _ ⟨a,rfl,a4⟩;dsimp only;refine D.bK (λax=>?_) λax=>D.bu ?_
  ·rw[dn,decide_eq_true_eq,decide_eq_true_eq]at ax;have hd:a<(af t j).a8.length:=by omega
   obtain⟨q,aB⟩:∃q,(af t j).a8[a]? =I q:=⟨_,bN hd⟩
   have lr:(bn t j)[a]? =I q:=by simp_all
   obtain⟨m,rfl,hm,as9,UU⟩:=hC.lQ aj aR aY (cm lr);refine D.aH aB (D.ae (bx m f e as9 U) (D.inl ⟨⟨a+1,?_,U⟩,?_⟩))
   ·rw[bw U];refine Prod.ext ?_ rfl;dsimp only;have h2:=ax.2;generalize HQ:((x2 a (bn t j)).map λq=>ne t k q.toNat f e).sum=S at h2;have cS:=YJ aj aR aY (g:=λq=>ne t k q.toNat f e) lr;rw[cS,HQ];show it 3001 (az _)=_;rw[b3 U U];show it 3001 _=((min 3001 (1+(S+ne t k m f e)):Nat):Int)
    unfold it;split<;>omega
   grind[bw]
  ·refine rest _ ?_;by_cases hd:a<(af t j).a8.length
   ·grind[Bool.and_eq_false_iff,decide_eq_false_iff_not,min,bn,ne,List.take_append_drop]
   grind
end
def mc(t:aZ)(j:Nat)(f:Int)(e:Nat):Nat:=ne t (ed t e j+1) j f e
def jJ(t:aZ)(K:List (k4×Int)):Prop:=∀(d e:Nat) w,eE K ⟨(d:Int),(e:Int)⟩=I w->w=((min 3001 (mc t (fD t d) d e):Nat):Int)
section
variable {n : Nat} {t : aZ}
variable (aj : cH t) (aR : fZ t) (aY : ∀ i, i < t.nodes.length -> gS t i = 0)
include aj aR aY
theorem hZ.ed{f:Int}{e j:Nat}(h:hZ t f e j):ed t e j< 9999999:=by have:=(Et aR.dI j h.1).1;have:=aj.nodes;have:=h.1;grind[Proofs.YtjfgooffdmnnkaaGreatDoor.ed]
variable {e:Nat}{f:Int}{j:Nat}
theorem ata(h:hZ t f e j):mc t j f e=1+((bn t j).map λq=>mc t q.toNat f e).sum+
  (if(af t j).kind=21 then(if(af t (fE t j).toNat).n<(hD t j f e:Int)then 0 else mc t (fD t (fE t j).toNat) (fE t j) (hD t j f e))else 0):=by
 have a2:((bn t j).map λq=>ne t (ed t e j) q.toNat f e)=((bn t j).map λq=>mc t q.toNat f e):=by apply vW;intro q aB;obtain⟨m,rfl,_,h1,h2⟩:=h.lQ aj aR aY aB;exact YI aj aR aY (ed t e j) (ed t e m+1) m f e h1 h2 (yL _)
 have bc:mc t j f e=1+((bn t j).map λq=>ne t (ed t e j) q.toNat f e).sum+
  (if(af t j).kind=21 then(if(af t (fE t j).toNat).n<(hD t j f e:Int)then 0 else ne t (ed t e j) (fD t (fE t j).toNat) (fE t j) (hD t j f e))else 0):=rfl
 rw[bc,a2];by_cases ap:(af t j).kind=21
 ·rw[if_pos ap,if_pos ap];obtain⟨d,aG,_,_,ax⟩:=h.call aj aR aY ap;rw[aG,dA];by_cases dL:(af t d).n<(hD t j f e:Int)
  ·rw[if_pos dL,if_pos dL]
  ·rw[if_neg dL,if_neg dL];obtain⟨h1,h2,_⟩:=ax dL;rw[YI aj aR aY (ed t e j) (ed t (hD t j f e) (fD t d)+1) (fD t d) (d:Int) (hD t j f e) h1 h2 (yL _)];rfl
 simp_all
theorem ahK(a6:10000000<=n)(h:hZ t f e j):Pu (aM n) t ⟨c_ t⟩ (j:Int) f (e:Int)=I ((min 3001 (mc t j f e):Nat):Int):=by have hm:=h.ed aj aR aY;have:=as8 (n:=n) aj aR aY n j f e h U;rw[YI aj aR aY n (ed t e j+1) j f e h U U]at this;exact this
theorem jJ.put{K:List (k4×Int)}(h:jJ t K)(d e:Nat):jJ t (fB K ⟨(d:Int),(e:Int)⟩ ((min 3001 (mc t (fD t d) d e):Nat):Int)):=by
 intro db im w hw;rw[sr]at hw;split at hw
 ·grind
 ·exact h db im w hw
variable {M:List (ByteArray×Int)}{P:List ByteArray}
theorem ahL{R:Nat}{r:k4->(List bm)->(List Int)->(List Int)->Nat->(List (k4×Int))->(List (ByteArray×Int))->(List ByteArray)->Option (Int×(List (k4×Int)))}
  (aO:∀(d e:Nat) K,d<t.nodes.length->(af t d).kind=42->(e:Int)<=(af t d).n->d*10+(9-e)<R->jJ t K->D (r ⟨d,e⟩ t.nodes t.aD (c_ t) t.nodes.length K M P) λz=>z.1=((min 3001 (mc t (fD t d) d e):Nat):Int)/\jJ t z.2):
  ∀(k:Nat)(ks:List Int)(f:Int)(e:Nat) K,1<=k->ks.length<=800->(∀q∈ks,∃m:Nat,q=m/\m+1<k/\hZ t f e m/\(d' t m).2*10+(9-e)<=R)->jJ t K->
   D (KP (aM n) r k ⟨f,(e:Int)⟩ ks t.nodes t.aD (c_ t) t.nodes.length K M P) λz=>z.1=((min 3001 ((ks.map λq=>mc t q.toNat f e).sum):Nat):Int)/\jJ t z.2:=by
 have aI:=aR.dI;have fz:=aj.nodes;intro k;induction k with
 |zero=>omega
 |succ k bx=>
  intro ks f e K _ hlen kG bZ;show D (Qm (aM n) r (KP (aM n) r k) ⟨f,(e:Int)⟩ ks t.nodes t.aD (c_ t) t.nodes.length K M P) _;unfold Qm afB;refine D.for ks.length (λa (o:Int×List (k4×Int))=>(o.1,(a:Int),o.2)) (λa o=>(∃w:Nat,o.1=w/\min 3001 w=min 3001 (((ks.take a).map λq=>mc t q.toNat f e).sum)/\w<=3002*(a+1))/\jJ t o.2) (t0:=(0,K)) rfl ⟨⟨0,rfl,rfl,U⟩,bZ⟩ (λa o a4 a7=>?_) λo a7=>?_
  ·obtain⟨er,js⟩:=o;obtain⟨⟨w,vZ,yM,R'⟩,nt⟩:=a7;dsimp only at vZ nt;subst vZ;obtain⟨q,aB⟩:∃q,ks[a]? =I q:=⟨_,bN a4⟩
   obtain⟨m,rfl,t_,hC,aK⟩:=kG q (cm aB);have hO:=hC.1;have cS:=YJ aj aR aY (g:=λq=>mc t q.toNat f e) aB;have heq:=ata aj aR aY hC;have AW:=hC.jW aj aR aY;have j7:=aj.af hO;refine D.ar (λ_=>D.aH aB (D.ae (b8 hO) (D.bind (bx (af t m).a8 f e js U j7 (λx ak=>?_) nt) λz aP=>?_))) d_
   ·obtain⟨m',rfl,h1,h2,_⟩:=hC.lQ aj aR aY (show x∈bn t m by rw[dJ hO];exact ak);grind[vY,dJ]
   ·obtain⟨aa,Sa⟩:=z;obtain⟨pD,Sb⟩:=aP;dsimp only at pD Sb⊢;subst pD;rw[dJ hO]at heq;generalize fG:(((af t m).a8).map λq=>mc t q.toNat f e).sum=S at heq⊢;have YC:az (1+((min 3001 S:Nat):Int))=((1+min 3001 S:Nat):Int):=by grind[b3]
    have YD:az ((w:Int)+((1+min 3001 S:Nat):Int))=((w+(1+min 3001 S):Nat):Int):=by grind[b3]
    rw[YC,YD];refine D.dB (λn1=>?_) λn1=>?_
    ·rw[if_neg n1]at heq;refine D.inl ⟨(_,Sa),by rw[bw U],⟨w+(1+min 3001 S),rfl,?_,U⟩,Sb⟩;rw[cS];show _=min 3001 (_+mc t m f e);omega
    ·rw[if_pos n1]at heq;obtain⟨d,aG,fh,c7,ax⟩:=hC.call aj aR aY n1;have p4:aH (c_ t) (m:Int)=I (d:Int):=by rw[zZ hO,aG]
     have atb:=LL aR fh c7;rw[aG,dA]at heq;have atc:Ql ⟨f,(e:Int)⟩ (m:Int) t.nodes t.aD (c_ t) t.nodes.length Sa M P=I (⟨(d:Int),((hD t m f e:Nat):Int)⟩,decide (¬(af t d).n<(hD t m f e:Int))):=by
      refine D.br ?_;unfold Ql hD;rw[aG];refine D.ae p4 (D.dB (λfM=>D.ret ?_) λhe=>D.ae (b8 fh) (D.ret ?_))
      ·simp_all
      ·rw[if_pos he];have:az ((e:Int)+1)=((e+1:Nat):Int):=bw U;grind
     refine D.ae atc ?_;dsimp only;by_cases dL:(af t d).n<(hD t m f e:Int)
     ·rw[if_pos dL]at heq;rw[decide_eq_false (Classical.not_not.2 dL)];refine D.inl ⟨(_,Sa),by rw[bw U],⟨min (w+(1+min 3001 S)) 3001,?_,?_,U⟩,Sb⟩
      ·unfold it;split<;>omega
      ·rw[cS];show _=min 3001 (_+mc t m f e);omega
     ·rw[if_neg dL]at heq;rw[decide_eq_true dL];obtain⟨h1,h2,ay⟩:=ax dL;have fM:(hD t m f e:Int)<=(af t d).n:=by omega
      refine D.bind (aO d (hD t m f e) Sa fh c7 fM U Sb) λy a9=>?_;obtain⟨If,atd⟩:=y;obtain⟨Ev,ahM⟩:=a9;dsimp only at Ev ahM⊢;subst Ev;generalize mc t (fD t d) (d:Int) (hD t m f e)=B at heq⊢;have YE:az (((w+(1+min 3001 S):Nat):Int)+((min 3001 B:Nat):Int))=((w+(1+min 3001 S)+min 3001 B:Nat):Int):=by rw[b3 U U];omega
      rw[YE];refine D.inl ⟨(_,atd),by rw[bw U],⟨min (w+(1+min 3001 S)+min 3001 B) 3001,?_,?_,U⟩,ahM⟩
      ·unfold it;split<;>omega
      ·rw[cS];show _=min 3001 (_+mc t m f e);omega
  ·obtain⟨er,js⟩:=o;obtain⟨⟨w,vZ,yM,R'⟩,nt⟩:=a7;dsimp only at vZ nt;subst vZ;refine D.ar bt λ_=>D.inr ⟨?_,nt⟩;rw[g4 (bL _)]at yM;rw[<-yM];dsimp only;unfold it;split<;>omega
theorem ate(a6:10000000<=n):∀(k d e:Nat) K,d<t.nodes.length->(af t d).kind=42->(e:Int)<=(af t d).n->d*10+(9-e)<k->jJ t K->
  D (Hl (aM n) k ⟨(d:Int),(e:Int)⟩ t.nodes t.aD (c_ t) t.nodes.length K M P) λz=>z.1=((min 3001 (mc t (fD t d) d e):Nat):Int)/\jJ t z.2:=by
 have aI:=aR.dI;have fz:=aj.nodes;intro k;induction k with
 |zero=>omega
 |succ k bx=>
  intro d e K aG c7 he ap bZ;show D (Qn (aM n) (Hl (aM n) k) ⟨(d:Int),(e:Int)⟩ t.nodes t.aD (c_ t) t.nodes.length K M P) _;unfold Qn;cases b5:eE K ⟨(d:Int),(e:Int)⟩with
  |some w=>exact D.ret ⟨bZ d e w b5,bZ⟩
  |none=>
   obtain⟨lq,ku,_⟩:=rx aj aI aG c7;have kR:=to aI aG c7;have j7:=aj.af aG;have gL:=dJ aG;have YK:=Ie aj aI aG c7;rw[gL]at lq;have nZ:az (((af t d).a8.length:Int)- 1)=(((af t d).a8.length- 1:Nat):Int):=by grind[b3]
   refine D.bK (λ_=>D.ae (b8 aG) ?_) λh=>by cases h
   rw[nZ];refine D.aH lq (D.bind (ahL aj aR aY (R:=d*10+(9-e)) (r:=Hl (aM n) k) (λdb im js h1 h2 ay bl bO=>bx db im js h1 h2 ay U bO) n [(fD t d:Int)] (d:Int) e K U cW (λq aB=>?_) bZ) λz aP=>D.ret ?_)
   ·have aB:q=(fD t d:Int):=by simp_all
    subst aB;exact⟨fD t d,rfl,U,⟨U,.inr ⟨by rw[YK],dq,dq⟩⟩,U⟩
   ·obtain⟨aa,js⟩:=z;obtain⟨pD,nt⟩:=aP;dsimp only at pD nt⊢;have qz:aa=((min 3001 (mc t (fD t d) d e):Nat):Int):=by
     grind
    rw[qz];exact⟨rfl,nt.put aj aR aY d e⟩
end
def LN(t:aZ)(i:Nat):Nat:=if(af t i).kind=42 then mc t (fD t i) i 0 else if(af t i).kind=43\/(af t i).kind=44\/(af t i).kind=46 then((bn t i).map λq=>mc t q.toNat (-1) 0).sum else 0
section
variable {n : Nat} {t : aZ}
variable (aj : cH t) (aR : fZ t) (aY : ∀ i, i < t.nodes.length -> gS t i = 0)
include aj aR aY
variable {i:Nat}
theorem Sc(hi:i<t.nodes.length)(ap:kT (af t i).kind=ad)(c7:(af t i).kind≠42){q:Int}(aB:q∈bn t i):∃m:Nat,q=m/\m<i/\hZ t (-1) 0 m/\(d' t m).2=i:=by have aI:=aR.dI;obtain⟨m,rfl,hm⟩:=jz aI hi aB;have aO:=vY aI hi aB;rw[YG aI hi (B4 aI hi ap)]at aO;exact⟨m,rfl,hm,⟨U,.inl ⟨rfl,rfl,dq⟩⟩,aO⟩
theorem atf(hi:i<t.nodes.length)(c7:(af t i).kind=42):hZ t (i:Int) 0 (fD t i):=by have aI:=aR.dI;have aF:=(rx aj aI hi c7).2.1;have aO:=Ie aj aI hi c7;exact⟨U,.inr ⟨by rw[aO],dq,by simp_all[LL]⟩⟩
theorem EJ(a6:10000000<=n) {a:Nat}(a4:t.aD[a]? =I (i:Int)):Pv (aM n) t ⟨c_ t⟩ (a:Int)=I ((min 3001 (LN t i):Nat):Int):=by
 have aI:=aR.dI;obtain⟨jH,e,_,hi⟩:=aI.ht.fw _ (cm a4);have e:i=jH:=fC e;subst e;have j7:=aj.af hi;have gL:=dJ hi;have YL:=Lu aI hi (cm a4);refine D.br ?_;unfold Pv LN;refine D.aH a4 (D.ae (b8 hi) (D.ar (λc7=>?_) λc7=>?_))
 ·rw[if_pos c7];obtain⟨lq,ku,_⟩:=rx aj aI hi c7;have kR:=to aI hi c7;rw[gL]at lq;have nZ:az (((af t i).a8.length:Int)- 1)=(((af t i).a8.length- 1:Nat):Int):=by grind[b3]
  rw[nZ];exact D.aH lq (D.aH a4 (D.ae (ahK aj aR aY a6 (e:=0) (atf aj aR aY hi c7)) (D.ret rfl)))
 ·rw[if_neg c7];refine D.bK (λh=>?_) λh=>?_
  ·rw[jq,jq,decide_eq_true_eq,decide_eq_true_eq,decide_eq_true_eq]at h;rw[if_pos h];unfold aeD;refine D.for (af t i).a8.length (λa (o:Int)=>(o,(a:Int))) (λa o=>o=((min 3001 (((bn t i).take a).map λq=>mc t q.toNat (-1) 0).sum:Nat):Int)) (t0:=0) rfl rfl (λa o a4 a7=>?_) λo a7=>?_
   ·subst a7;obtain⟨q,aB⟩:∃q,(af t i).a8[a]? =I q:=⟨_,bN a4⟩
    have lr:(bn t i)[a]? =I q:=by simp_all
    obtain⟨m,rfl,hm,hC,_⟩:=Sc aj aR aY hi YL c7 (cm lr);have cS:=YJ aj aR aY (g:=λq=>mc t q.toNat (-1) 0) lr;refine D.ar (λ_=>D.aH aB (D.ae (ahK aj aR aY a6 (e:=0) hC) (D.inl ⟨_,by rw[bw U],?_⟩))) d_;rw[cS];generalize ((x2 a (bn t i)).map λq=>mc t q.toNat (-1) 0).sum=S;show it 3001 (az (((min 3001 S:Nat):Int)+((min 3001 (mc t m (-1) 0):Nat):Int)))=((min 3001 (S+mc t m (-1) 0):Nat):Int)
    rw[b3 U U];unfold it;split<;>omega
   simp_all[D.ar,absurd,D.inr,g4,bL]
  simp_all[jy,decide_eq_false_iff_not,if_neg,D.ret]
variable {M:List (ByteArray×Int)}{P:List ByteArray}
theorem atg(a6:10000000<=n)(ey:(i:Int)∈t.aD){K:List (k4×Int)}(bZ:jJ t K):D (Qp (aM n) (i:Int) t.nodes t.aD (c_ t) t.nodes.length K M P) λz=>z.1=((min 3001 (LN t i):Nat):Int)/\jJ t z.2:=by
 have aI:=aR.dI;have fz:=aj.nodes;obtain⟨jH,e,_,hi⟩:=aI.ht.fw _ ey;have e:i=jH:=fC e;subst e;have j7:=aj.af hi;have gL:=dJ hi;have YL:=Lu aI hi ey;have eO:=ate (n:=n) aj aR aY a6 (M:=M) (P:=P);unfold Qp LN;refine D.ae (b8 hi) (D.ar (λc7=>?_) λc7=>?_)
 ·rw[if_pos c7];have atb:=LL aR hi c7;refine D.bind (eO n i 0 K hi c7 U U bZ) λz aP=>D.ret aP
 ·rw[if_neg c7];refine D.bK (λh=>?_) λh=>?_
  ·rw[jq,jq,decide_eq_true_eq,decide_eq_true_eq,decide_eq_true_eq]at h;rw[if_pos h];refine D.bind (ahL aj aR aY (R:=i*10+9) (r:=Qo (aM n)) (λdb im js h1 h2 ay bl bO=>eO n db im js h1 h2 ay U bO) n (af t i).a8 (-1) 0 K U j7 (λq aB=>?_) bZ) λz aP=>D.ret ?_
   ·obtain⟨m,rfl,hm,hC,aO⟩:=Sc aj aR aY hi YL c7 (show q∈bn t i by simp_all);grind
   simp_all
  simp_all[jy,decide_eq_false_iff_not,if_neg,D.ret]
theorem ath(hi:i<t.nodes.length)(h:(af t i).kind=40):∃a b:Nat,(af t i).a8[0]? =I (a:Int)/\(af t i).a8[1]? =I (b:Int)/\a<i/\b<i:=by have aI:=aR.dI;have hm:=uE aI hi;unfold k7 at hm;simp[h]at hm;obtain⟨x,y,aC⟩:=Ly (l:=(af t i).a8) U;obtain⟨a,a2,h1⟩:=jz aI hi (i:=x) (by rw[dJ hi,aC];simp);obtain⟨b,bc,h2⟩:=jz aI hi (i:=y) (by rw[dJ hi,aC];simp);grind
theorem ati(a6:10000000<=n):∀d i,i+d=t.aD.length->∀K c w a,jJ t K->
  ∃r,WP (0,0,t.nodes,t.aD,c_ t,t.nodes.length,M,P) (aM n) ((i:Int),K,c,w,a)=I r/\ou (aM n) t (⟨c_ t⟩,0,0) (c,w,a,(i:Int))=I r:=by
 have aI:=aR.dI;have ey:=aj.aD;intro d;induction d with
 |zero=>intro i hi K c w a bZ;exact⟨(0,0),fv.bu (D.br (D.ar (λh=>absurd h (show ¬(i:Int)<(t.aD.length:Int) by omega)) λ_=>D.ret rfl)),fv.bu (D.br (D.ar (λh=>absurd h (show ¬(i:Int)<(t.aD.length:Int) by omega)) λ_=>D.ret rfl))⟩
 |succ d bx=>
  intro i hi K c w a bZ;have c4:i<t.aD.length:=by omega
  obtain⟨q,aB⟩:∃q,t.aD[i]? =I q:=⟨_,bN c4⟩
  obtain⟨m,rfl,_,hO⟩:=aI.ht.fw _ (cm aB);have tu:=EJ aj aR aY a6 aB;obtain⟨⟨aa,js⟩,ahN,pD,nt⟩:=atg aj aR aY a6 (cm aB) bZ (M:=M) (P:=P);dsimp only at pD nt;subst pD
  have atj:∃c' w' fo,Ea ⟨t.nodes,t.aD⟩ (m:Int) c w a=I (c',w',fo)/\∀T:(Int×Int×Int×Int) ⊕ (Int×Int)->Prop,D (mq t (i:Int) (aM n) (⟨c_ t⟩,0,0) (c',w',fo,(af t m).kind)) T->
    D (if decide ((af t m).kind=40)=ad then(aH (af t m).a8 1).bind λbJ=>au (aH t.nodes bJ) λcG=>au (aH (af t m).a8 0) λc1=>au (aH t.nodes c1) λcJ=>mq t (i:Int) (aM n) (⟨c_ t⟩,0,0) ((az (c+1)),(it 2001 (az (w*(az ((az (cG.n-cJ.n))+1))))),a,(af t m).kind)else if decide ((af t m).kind=44)=ad then mq t (i:Int) (aM n) (⟨c_ t⟩,0,0) (c,w,(az (a+1)),(af t m).kind)else if decide ((af t m).kind=45)=ad then mq t (i:Int) (aM n) (⟨c_ t⟩,0,0) (c,w,(az (a- 1)),(af t m).kind)else mq t (i:Int) (aM n) (⟨c_ t⟩,0,0) (c,w,a,(af t m).kind)) T:=by
   by_cases dm:(af t m).kind=40
   ·obtain⟨x,y,ak,a9,NL,aIy⟩:=ath aj aR aY hO dm;have ahO:x<t.nodes.length:=by omega
    have ahP:y<t.nodes.length:=by omega
    refine⟨az (c+1),it 2001 (az (w*(az ((az ((af t y).n-(af t x).n))+1)))),a,D.br ?_,λT cw=>?_⟩
    ·unfold Ea;exact D.ae (b8 hO) (D.ar (λ_=>D.ae (e7 (i:=1) a9) (D.ae (b8 ahP) (D.ae (e7 (i:=0) ak) (D.ae (b8 ahO) (D.ret rfl))))) λh=>absurd dm h)
    ·exact D.ar (λ_=>D.ae (e7 (i:=1) a9) (D.ae (b8 ahP) (D.ae (e7 (i:=0) ak) (D.ae (b8 ahO) cw)))) λh=>absurd dm h
   ·by_cases mb:(af t m).kind=44
    ·refine⟨c,w,az (a+1),D.br ?_,λT cw=>D.ar (λh=>absurd h dm) λ_=>D.ar (λ_=>cw) λh=>absurd mb h⟩;simp_all[Ea,D.ae,b8,D.ar,absurd,D.ret]
    ·by_cases qC:(af t m).kind=45
     ·refine⟨c,w,az (a- 1),D.br ?_,λT cw=>D.ar (λh=>absurd h dm) λ_=>D.ar (λh=>absurd h mb) λ_=>D.ar (λ_=>cw) λh=>absurd qC h⟩;simp_all[Ea,D.ae,b8,D.ar,absurd,D.ret]
     ·refine⟨c,w,a,D.br ?_,λT cw=>D.ar (λh=>absurd h dm) λ_=>D.ar (λh=>absurd h mb) λ_=>D.ar (λh=>absurd h qC) λ_=>cw⟩;simp_all[Ea,D.ae,b8,D.ar,absurd,D.ret]
  obtain⟨c',w',fo,YM,CW⟩:=atj;obtain⟨r,ea,fN⟩:=bx (i+1) U js c' w' fo nt;have YN:WN ⟨c',w',fo⟩=I (((decide (6<c'))||(decide (2000<w')))||(decide (8<fo))):=rfl;by_cases uI:(((decide (6<c'))||(decide (2000<w')))||(decide (8<fo)))=ad
  ·refine⟨((m:Int),5),fv.bu (D.br (D.ar (λ_=>D.aH aB (D.ae YM (D.ae YN (D.bK (λ_=>D.ret rfl) λh=>?_)))) λh=>absurd (show(i:Int)<(t.aD.length:Int) by omega) h)),fv.bu (D.br (D.ar (λ_=>D.aH aB (D.ae (b8 hO) (CW _ ?_))) λh=>absurd (show(i:Int)<(t.aD.length:Int) by omega) h))⟩
   ·simp_all
   ·unfold mq;simp_all[D.bK,D.aH,D.ret]
  ·have uI:(((decide (6<c'))||(decide (2000<w')))||(decide (8<fo)))=aS:=by simp_all
   by_cases hw:3000<LN t m
   ·refine⟨((m:Int),5),fv.bu (D.br (D.ar (λ_=>D.aH aB (D.ae YM (D.ae YN (D.bK (λh=>?_) λ_=>D.ae ahN (D.ar (λ_=>D.ret rfl) d_))))) λh=>absurd (show(i:Int)<(t.aD.length:Int) by omega) h)),fv.bu (D.br (D.ar (λ_=>D.aH aB (D.ae (b8 hO) (CW _ ?_))) λh=>absurd (show(i:Int)<(t.aD.length:Int) by omega) h))⟩
    ·simp_all
    ·unfold mq;exact D.bK (λh=>by simp_all) λ_=>D.ae tu (D.ar (λ_=>D.aH aB (D.ret rfl)) d_)
   ·refine⟨r,?_,?_⟩
    ·rw[<-ea];refine fv.on (s':=(((i+1:Nat):Int),js,c',w',fo)) (D.br (D.ar (λ_=>D.aH aB (D.ae YM (D.ae YN (D.bK (λh=>?_) λ_=>D.ae ahN (D.ar bt λ_=>D.ret ?_))))) λh=>absurd (show(i:Int)<(t.aD.length:Int) by omega) h))
     ·simp_all
     ·rw[bw U]
    ·rw[<-fN];refine fv.on (s':=(c',w',fo,((i+1:Nat):Int))) (D.br (D.ar (λ_=>D.aH aB (D.ae (b8 hO) (CW _ ?_))) λh=>absurd (show(i:Int)<(t.aD.length:Int) by omega) h));unfold mq;refine D.bK (λh=>by simp_all) λ_=>D.ae tu (D.ar bt λ_=>D.ret ?_);rw[bw U]
end
def atk{n:Nat}{t:aZ}(aj:cH t)(a6:10000000<=n):∃e r,BI (aM n) t=I e/\pR (aM n) t=I e/\zC (aM n) t=I r/\wS (aM n) t=I r/\YF n t r/\(e=0->r.2.2=0):=by
 obtain⟨r,h1,h2,ay⟩:=as3 (n:=n) aj U;rcases ay with⟨k,e,he,rfl,bl⟩|⟨aR,aY,LO,pf,O,M,P,bH,c5,dz,bl,rfl⟩
 ·refine⟨e,_,D.br ?_,D.br ?_,h1,h2,.inl ⟨k,e,he,rfl,bl⟩,λh=>absurd h he⟩
  ·simp_all[BI,Qr,D.ae,D.br,D.ret,D.dB,absurd]
  simp_all[pR,yl,D.ae,D.br,D.dB,D.ret,absurd]
 ·obtain⟨x,ea,fN⟩:=ati aj aR aY a6 (M:=M) (P:=P) t.aD.length 0 U [] 0 1 0 (λd e w h=>by cases h);refine⟨x.2,_,D.br ?_,D.br ?_,h1,h2,.inr ⟨aR,aY,LO,pf,O,M,P,bH,c5,dz,bl,rfl⟩,λ_=>rfl⟩
  ·unfold BI Qr;refine D.ae (z:=x) (D.br (D.ae bl ?_)) (D.ret rfl);show D (if(!decide ((0:Int)=0))=ad then I ((0:Int),(0:Int))else(WM t.nodes t.aD (c_ t) t.nodes.length M P).bind λaE=>WP (0,0,t.nodes,t.aD,c_ t,t.nodes.length,M,P) (aM n) (0,aE,0,1,0)) _;exact D.dB (λh=>absurd rfl h) λ_=>D.ae rfl (D.aX ea rfl)
  simp_all[pR,yl,D.ae,D.br,D.dB,absurd,D.aX,D.ret]
end Go.Proofs.YtjfgooffdmnnkaaGreatDoor

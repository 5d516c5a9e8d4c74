/- Expressions have as many cells as their types: all nodes. -/
import Derived.Test.YtgfggdcbhjhegaaGreatDoorWg
set_option linter.all false
set_option maxRecDepth 100000
set_option maxHeartbeats 1000000
namespace Go.Proofs.YtgfggdcbhjhegaaGreatDoor
open Go Go.Mi Go.RowKit Go.Dp
open Int renaming toNat_natCast->eq
open Int.ofNat renaming inj->ew
open List renaming getElem?_eq_getElem->cq,mem_of_getElem?->cC,getElem?_map->fv,mem_of_mem_tail->Ux,eq_nil_of_length_eq_zero->nl,mem_of_find?_eq_some->wa,getElem?_of_mem->fO,pairwise_cons->yr,length_take->jf,length_cons->pn,mem_append->ig,length_map->h6,append_nil->j3,sum_cons->nR,map_cons->gI,sum_nil->sI,map_nil->oc,length->p_
open Nat renaming le_refl->b5,mul_comm->ze,zero_le->gx
open Option renaming some->D,bind->aw
open Option.some renaming inj->pA
theorem Uy{k:Int}{a b:bt}(a9:gg a)(aB:gg b):gg (AJ k a b):=by
 unfold AJ
 repeat' split
 all_goals simp_all[Up,Ul]
section
variable {t : bf} {O : Nat -> ByteArray} {aT : Nat -> Int}
variable (ai : c7 t) (aO : hA t) (aS : ∀ i, i < t.nodes.length -> gv t i = 0) (bx : kO t O t.nodes.length)
include ai aO aS bx
theorem nS{j i:Nat}(ae:j<t.nodes.length)(ao:i<(af t j).a3.length):(bP t j i:Int)∈bd t j/\(bd t j)[i]? =D (bP t j i:Int):=by have fc:=c6 ae;have aE:(bd t j)[i]? =D ((bd t j)[i]'cK):=cq _;obtain⟨m,e,_⟩:=ib aO.cZ ae (cC aE);grind[bP,DV,cC]
theorem p4{j i:Nat}(ae:j<t.nodes.length)(ao:i<(af t j).a3.length):(dC t O j)[i]? =D (O (bP t j i)):=by grind[dC,nS]
theorem yw:∀(k j:Nat)(fr:gq)(f:Int)(e:Nat),dy t e j<k->gW t f e j->kr t j->hj t O fr j->je (bo t O aT j fr f e).1 (fu t (O j)):=by
 have ay:=aO.cZ;intro k;induction k with
 |zero=>omega
 |succ k bB=>
  intro j fr f e kU hC dE c1;have ae:=hC.1;have fc:=c6 ae;have qL:(af t j).kind≠20->(af t j).kind≠42->∀q∈bd t j,je (bo t O aT q.toNat fr f e).1 (fu t (O q.toNat)):=by intro k8 b9 q aE;obtain⟨m,rfl,_,h1,h2⟩:=hC.kb ai aO aS aE;exact bB m fr f e aa h1 (qK ai aO aS ae dE aE) (c1.kb ai aO aS ae aE ⟨k8,b9⟩)
  have tO:(af t j).kind≠20->(af t j).kind≠42->∀i,i<(af t j).a3.length->je (bo t O aT (bP t j i) fr f e).1 (fu t (O (bP t j i))):=λk8 b9 i ao=>qL k8 b9 (bP t j i:Int) (nS ai aO aS bx ae ao).1;rw[va ai aO aS hC dE];unfold kR;rcases Or.symm dE with yn|dE
  ·rw[if_neg aa,if_neg aa,if_neg aa,if_neg aa];dsimp only;rw[if_neg (show ¬(af t j).kind=4 by omega),if_neg (show ¬(af t j).kind=5 by omega),if_neg (show ¬(6<=(af t j).kind/\(af t j).kind<=16) by omega),if_neg (show ¬(af t j).kind=21 by omega),if_neg (show ¬(af t j).kind=22 by omega),if_neg (show ¬(af t j).kind=23 by omega)];have:=yv ai aO aS bx (qL aa aa);have aK:dC t O j=[O (dR t j)]:=by
    obtain⟨r,h1,_⟩:=na ay ae (by simp_all[mf]);have aM:r=[]:=by have h2:=congrArg p_ h1;grind[mf,nl,pn]
    unfold dC;grind
   rw[aK]at this;rw[bx.put j ae yn];simp_all
  ·have aM:=bx.AF j ae dE;have qd:(dC t O j).length=(af t j).a3.length:=sF ae;cases aM with
   |num h de=>rw[if_pos (.inl h),de,AK];grind[je.one,DS,Uw]
   |bool h de=>rw[if_pos (.inr h),de,vb];grind[je.one,DS,Uw]
   |wj h d az au de=>simp_all[if_neg,if_pos,AK,eq,rK,je.one,adp]
   |wk h d az au de=>rw[if_neg aa,if_pos h,az,eq];unfold rK;rw[if_neg aa,if_neg aa];have fj:=Ns ai aO aS ae h az (.inr au);have aJ:=(c1 d fj).2 au;grind[acx,ew,p3,sD]
   |wl h d az au lt de=>
    rw[if_neg aa,if_pos h,az,eq];unfold rK;rw[if_neg aa];rcases au with au|au
    ·rw[if_pos au,de];obtain⟨cQ,po,fj⟩:=wi ai ay ae (aS j ae) (by rw[h];rfl);have a5:d=cQ:=ew (az.symm.trans po);subst a5;obtain⟨h1,_,h2,aJ⟩:=Nq ai aO aS fj.lt au;have P2:=Us ai aO aS hC (fj.gM ay aa).2 au;refine bB _ _ _ _ aa h1 (.inl aJ) (hj.gM ai aO fj.lt (by rw[au];rfl) aa ?_ _);obtain⟨r,bp,_⟩:=na ay fj.lt (by rw[mf ay fj.lt aa];omega);simp_all
    ·rw[if_neg aa,de];exact(c1 d (Ns ai aO aS ae h az (.inl au))).1 au
   |lt h x au=>
    rw[if_neg aa,if_neg aa,if_pos h];have aK:=tH ay ae h;have bw:=nS ai aO aS bx ae (i:=0) aa;have h1:=nS ai aO aS bx ae (i:=1) aa;have gG:=p4 ai aO aS bx ae (i:=1) aa;rw[au]at gG;have a5:O (bP t j 1)=O j:=(pA gG).symm;obtain⟨vt,ou,_,eY,tS⟩:=hC.kb ai aO aS bw.1;have ou:bP t j 0=vt:=ew ou;obtain⟨mR,ep,_,eQ,sJ⟩:=hC.kb ai aO aS h1.1;have ep:bP t j 1=mR:=ew ep;rw[<-ou]at eY tS;rw[<-ep]at eQ sJ;have tC:dR t j=bP t j 0:=by obtain⟨r,bp,_⟩:=na ay ae aa;grind
    have v0:=bB (bP t j 0) fr f e aa eY (qK ai aO aS ae (.inl dE) bw.1) (c1.Hi ai aO aS ae h);rw[<-a5];exact bB _ _ _ _ aa eQ (qK ai aO aS ae (.inl dE) h1.1) (c1.Hj ai aO aS ae h cK)
   |bC h au=>
    rw[if_neg aa,if_neg aa,if_neg aa,if_pos (.inr (.inr h))];have aK:(af t j).a3.length=3:=by simp_all
    have v0:=tO aa aa 0 aa;have v1:=tO aa aa 1 aa;have v2:=tO aa aa 2 aa;have gG:=p4 ai aO aS bx ae (i:=1) aa;have jI:=p4 ai aO aS bx ae (i:=2) aa;grind[bP,pA,je.Ut,tQ]
   |wn h au de=>
    have hw:fu t (O j)=1:=by rw[de,vb]
    have aB:=(G' eO (dC t O j)).1 au;by_cases cy:(af t j).kind=5
    ·rw[if_neg aa,if_neg aa,if_neg aa,if_neg aa];dsimp only;rw[if_neg aa,if_pos cy,hw];exact je.one (Ul (tQ (yv ai aO aS bx (qL aa aa))))
    ·rw[if_neg aa,if_neg aa,if_neg aa,if_pos aa];have aK:=wr ay ae aa;have v0:=tO aa aa 0 aa;have v1:=tO aa aa 1 aa;have gG:=p4 ai aO aS bx ae (i:=1) aa;rw[aB _ (cC gG),vb]at v1;rw[hw];dsimp only;split
     ·exact je.Ut (tQ v0) _
     ·split
      ·exact v1
      ·rw[if_neg aa];exact je.one (Uh _)
   |wm h au de=>
    have hw:fu t (O j)=1:=by rw[de,AK]
    rw[if_neg aa,if_neg aa,if_neg aa,if_neg aa];have bg:=yv ai aO aS bx (qL aa aa);have rI:gg (ha (((bd t j).map λq=>bo t O aT q.toNat fr f e).flatMap (·.1)).tail):=by refine tQ (w:=_) ⟨rfl,λv wB=>bg.2 v (Ux wB)⟩
    dsimp only;rw[hw];by_cases bp:(af t j).kind=4
    ·rw[if_pos bp];exact je.one (Ul (tQ bg))
    ·rw[if_neg bp,if_neg aa,if_pos aa];exact je.one (Uy (tQ bg) rI)
   |bN h au de=>
    have hw:fu t (O j)=1:=by rw[de,vb]
    rw[if_neg aa,if_neg aa,if_neg aa,if_neg aa];have bg:=yv ai aO aS bx (qL aa aa);have rI:gg (ha (((bd t j).map λq=>bo t O aT q.toNat fr f e).flatMap (·.1)).tail):=by refine tQ (w:=_) ⟨rfl,λv wB=>bg.2 v (Ux wB)⟩
    dsimp only;rw[hw,if_neg aa,if_neg aa,if_pos aa];exact je.one (Uy (tQ bg) rI)
   |wo h au de=>
    have hw:fu t (O j)=1:=by rw[de,vb]
    rw[if_neg aa,if_neg aa,if_neg aa,if_neg aa];have bg:=yv ai aO aS bx (qL aa aa);have rI:gg (ha (((bd t j).map λq=>bo t O aT q.toNat fr f e).flatMap (·.1)).tail):=by refine tQ (w:=_) ⟨rfl,λv wB=>bg.2 v (Ux wB)⟩
    dsimp only;rw[hw,if_neg aa,if_neg aa,if_pos aa];exact je.one (Uy (tQ bg) rI)
   |call h d az b9 au de=>
    rw[if_neg aa,if_neg aa,if_neg aa,if_neg aa];dsimp only;rw[if_neg aa,if_neg aa,if_neg aa,if_pos h,az,eq];obtain⟨cQ,po,eI,_,aP⟩:=hC.call ai aO aS h;have a5:d=cQ:=ew (az.symm.trans po);subst a5;by_cases df:(af t d).n<(gF t j f e:Int)
    ·simp_all[if_pos,je.Ut,Nm]
    ·rw[if_neg df];obtain⟨eQ,sJ,_⟩:=aP df;have aB:=(nP ai ay eI b9).2.2;rw[de,<-bx.fn d eI b9];refine bB _ _ _ _ aa eQ (.inl aB) (hj.call ai aO eI b9 λa m a9=>?_);have E7:(dC t O j)[a]? =D (dn t m).bR:=by simp_all[lw,fv]
     have jO:a<(af t j).a3.length:=by grind
     obtain⟨ep,fD⟩:=nS ai aO aS bx ae jO;have iF:=p4 ai aO aS bx ae jO;rw[E7]at iF;have v:=tO aa aa a jO;rw[<-pA iF]at v;obtain⟨q,bk,_,ia,_⟩:=pe ai ay eI b9 a9;have bk:m=q:=ew bk;subst bk;have ge:m<t.nodes.length:=by omega
     grind[p3,sD,bo,bP]
   |field h s r au aM q aE de=>
    rw[if_neg aa,if_neg aa,if_neg aa,if_neg aa];dsimp only;rw[if_neg aa,if_neg aa,if_neg aa,if_neg aa,if_pos h];have aK:=mf ay ae (.inr (.inr (.inl h)));have jr:=p4 ai aO aS bx ae (i:=0) aa;rw[au]at jr;have es:O (bP t j 0)=s:=(pA jr).symm;rw[es,aM];dsimp only;rw[aE];dsimp only;have bg:=yv ai aO aS bx (qL aa aa);rw[au]at bg;have k0:=nS ai aO aS bx ae (i:=0) aa;obtain⟨bn,h1,h2,aJ,bp,cy,cY⟩:=mh ai aO aS bx (j:=bP t j 0) (by grind[ib,bP,ew]) (qK ai aO aS ae (.inl dE) k0.1);rw[es]at h1 aJ;have hB:bn=.hb s:=by
     obtain⟨fH,_,iS,yX⟩:=oq ay aM;have gu:fF s:=by grind[Az,AA]
     exact eK.inj h2 (show(eK.hb s).ok from gu) h1.symm
    subst hB;have Ap:=Uv ai aO aS bx cY aM;have pF:=Uu ai aO aS bx (af t j).bi (bd t r) 0 q aE;have hw:fu t (O j)=ez t (dn t q.toNat):=by obtain⟨fH,_,iS,_⟩:=oq ay aM;obtain⟨m,rfl,hm,ia⟩:=sC ai ay fH iS (wa aE);rw[de,eq,p3 (sD ai aO aa ia).1]
    rw[hw];have E_:=bg.1;simp only[gI,oc,nR,sI]at E_;rw[aJ,Ap]at E_;refine⟨?_,λv wB=>bg.2 v (List.mem_of_mem_drop (List.mem_of_mem_take wB))⟩;grind
   |index h bX cA au de=>
    rw[if_neg aa,if_neg aa,if_neg aa,if_neg aa];dsimp only;rw[if_neg aa,if_neg aa,if_neg aa,if_neg aa,if_neg aa,if_pos h];have aK:=wr ay ae (.inr (.inr h));have v0:=tO aa aa 0 aa;have v1:=tO aa aa 1 aa;have jr:=p4 ai aO aS bx ae (i:=0) aa;rw[au]at jr;have es:O (bP t j 0)=(eK.gl bX cA).bR:=(pA jr).symm;have k0:=nS ai aO aS bx ae (i:=0) aa;obtain⟨bn,h1,h2,aJ,bp,cy,cY⟩:=mh ai aO aS bx (j:=bP t j 0) (by grind[ib,bP,ew]) (qK ai aO aS ae (.inl dE) k0.1);rw[es]at h1 aJ;obtain⟨AL,e7,rfl⟩:=(eK.bw h2).1 (by rw[<-h1];exact p0 _ _);have c0:bX.bR=AL.bR:=(GR h1).1;obtain⟨c',ep,fD,iF⟩:=DL (d:=2*t.nodes.length+1) cY;have tb:=yu ep aa;have hw:fu t (O j)=ez t AL:=by rw[de,c0,p3 h2.1]
    rw[es,aJ,iF,<-tb,ze]at v0;rw[hw];exact⟨apj v0.1,apk v0.2 (tQ v1)⟩
   |wp h r az aM a_ au de=>
    rw[if_neg aa,if_neg aa,if_neg aa,if_neg aa];dsimp only;rw[if_neg aa,if_neg aa,if_neg aa,if_neg aa,if_neg aa,if_neg aa];have bg:=yv ai aO aS bx (qL aa aa);obtain⟨bn,h1,h2,aJ,bp,cy,cY⟩:=mh ai aO aS bx ae (.inl dE);have gu:=Az ay ae (AA _ aa);have hB:bn=.hb (af t j).bi:=eK.inj h2 (show(eK.hb (af t j).bi).ok from gu) (by rw[<-h1,de];rfl);subst hB;have Ap:=Uv ai aO aS bx cY aM;obtain⟨fH,_,iS,_⟩:=oq ay aM;have hm:(dC t O j).map (fu t)=(bd t r).map λq=>ez t (dn t q.toNat):=by grind[nc,List.map_map,List.map_congr_left,sC,p3,sD]
    simp_all
   |gl h x au de=>
    rw[if_neg aa,if_neg aa,if_neg aa,if_neg aa];dsimp only;rw[if_neg aa,if_neg aa,if_neg aa,if_neg aa,if_neg aa,if_neg aa];have bg:=yv ai aO aS bx (qL aa aa);obtain⟨bn,h1,h2,aJ,bp,cy,cY⟩:=mh ai aO aS bx ae (.inl dE);rw[de]at h1;obtain⟨AL,e7,rfl⟩:=(eK.bw h2).1 (by rw[<-h1];exact p0 _ _);obtain⟨c0,gA⟩:=GR h1;have aCv:=acP aO ae h;have gT:(bd t j).length=e7:=TD cK h2.2 gA;obtain⟨c',ep,fD,iF⟩:=DL (d:=2*t.nodes.length+1) cY;have tb:=yu ep aa;have ar:fu t x=ez t AL:=by rw[c0,p3 h2.1]
    rw[apu ai aO aS bx au,ar]at bg;rw[aJ,iF,<-tb];refine⟨?_,bg.2⟩;rw[bg.1,List.sum_replicate_nat,sF ae,<-fc,gT]
end
theorem qM(a b:Int):aH (aH a+b)=aH (a+b):=by grind[aH,IntKind.wrap,IntKind.signed,IntKind.bits]
def qN:List Int->List (List bt)->Int->List bt->List bt
 |d::ds,c::cs,x,acc=>qN ds cs x (if d=x then c else acc)
 |_,_,_,acc=>acc
theorem adE:∀{ds:List Int}{cs:List (List bt)}{p x:Int}{l acc:List bt},ds.length=cs.length->qN (ds++[p]) (cs++[l]) x acc=if p=x then l else qN ds cs x acc:=by
 intro ds;induction ds with
 |nil=>
  intro cs p x l acc h;cases cs with
  |nil=>rfl
  |cons c cs=>cases h
 |cons d ds bB=>
  intro cs p x l acc h;cases cs with
  |nil=>cases h
  |cons c cs=>exact bB dt
theorem apv:∀{ds:List Int}{cs:List (List bt)}{i:Nat}{x d:Int}{c acc:List bt},ds[i]? =D d->cs[i]? =D c->ds.length=cs.length->qN (ds.take (i+1)) (cs.take (i+1)) x acc=if d=x then c else qN (ds.take i) (cs.take i) x acc:=by simp_all[gd,adE]
noncomputable def ir(t:bf)(O:Nat->ByteArray)(aT:Nat->Int)(i:Nat):List bt:=
 if(af t i).kind=40 then [mg (aT i)]else if(af t i).kind=43\/(af t i).kind=44\/(af t i).kind=46 then((bd t i).map λq=>(bo t O aT q.toNat (λ_=>[]) (-1) 0).1).flatten else []
def qO(t:bf)(O:Nat->ByteArray)(aT:Nat->Int)(fU:List (List bt))(R:Nat):Prop:=
 fU.length<=t.aX.length/\∀(i q:Nat),t.aX[i]? =D (q:Int)->(i<fU.length->fU[i]? =D (ir t O aT q))/\(q<R->i<fU.length)
structure nT(t:bf)(F:l6)(fr:gq)(j:Nat):Prop where
 len:F.jk.length=F.cells.length
 iE:F.jk.length+j<=2000
 aq:∀d:Nat,(d:Int)∈(dz t j).1->(af t d).kind=20\/(af t d).kind=34->qN F.jk F.cells d []=fr d
section
variable {n : Nat} {t : bf} {O : Nat -> ByteArray} {aT : Nat -> Int}
variable {F:l6}
theorem apw(aK:F.jk.length=F.cells.length)(h2:F.jk.length<=100000)(x:Int):Mb (aZ n) F x=D (qN F.jk F.cells x []):=by
 refine I.bN ?_;unfold Mb aby;refine I.for F.jk.length (λi (o:List bt)=>(o,(i:Int))) (λi o=>o=qN (F.jk.take i) (F.cells.take i) x []) (t0:=[]) rfl rfl (λi o ao bq=>?_) λo bq=>?_
 ·subst bq;obtain⟨d,az⟩:∃d,F.jk[i]? =D d:=⟨_,cq ao⟩
  obtain⟨c,aP⟩:∃c,F.cells[i]? =D c:=⟨_,cq aa⟩
  have b2:=apv (x:=x) (acc:=[]) az aP aK;refine I.aC (λ_=>I.aL az (I.aC (λe=>I.aL aP (I.inl ⟨_,by rw[cM aa],?_⟩)) λe=>I.inl ⟨_,by rw[cM aa],?_⟩)) dv
  ·rw[b2,if_pos e]
  simp_all
 simp_all[I.aC,absurd,I.inr,List.take_of_length_le,b5]
theorem adF(h1:F.jk.length<=100000)(h2:F.cells.length<=100000)(p:Int)(l:List bt):Gt F p l=D ⟨F.jk++[p],F.cells++[l]⟩:=by refine I.bN ?_;unfold Gt;grind[I.aq,jj,I.ret]
variable (ai : c7 t) (aO : hA t) (aS : ∀ i, i < t.nodes.length -> gv t i = 0)
include ai aO aS
theorem apx{d:Nat}(az:d<t.nodes.length)(au:(af t d).kind=43):ir t O aT d=(bo t O aT (dR t d) (λ_=>[]) (-1) 0).1:=by
 have ay:=aO.cZ;have aK:=mf ay az aa;obtain⟨r,h1,_⟩:=na ay az aa;have aM:r=[]:=by simp_all[congrArg,p_,c6,pn,nl]
 simp_all[ir,if_neg,if_pos]
theorem apy{fU:List (List bt)}{F:l6}{fr:gq}{j:Nat}{f:Int}{e:Nat}(hC:gW t f e j)(au:(af t j).kind=3)(kE:qO t O aT fU (dz t j).2)(kc:nT t F fr j){cJ:List ByteArray}{wd mi:List Int}{jP:Nat}{a b c:Int}:
  Mc (aZ n) (j:Int) F t.nodes t.aX (c2 t) cJ wd mi jP fU a b c=D (rK t aT (bo t O aT) fr (eS t j).toNat):=by
 have ay:=aO.cZ;have hn:=ai.aX;have ae:=hC.1;obtain⟨d,az,fj⟩:=wi ai ay ae (aS j ae) (by rw[au];rfl);have aV:=fj.AD;unfold ko at aV;rw[au]at aV;simp only[decide_true,if_true,Bool.or_eq_true,decide_eq_true_eq]at aV;have nQ:aL (c2 t) (j:Int)=D (d:Int):=by rw[wq ae,az]
 rw[az,eq];refine I.bN ?_;unfold Mc;refine I.aq nQ ?_;unfold abz;by_cases aCw:(af t d).kind=40\/(af t d).kind=43
 ·obtain⟨g1,cf⟩:=fj.gM ay aa;obtain⟨U,adG⟩:=fO g1;have aM:=(At ay j ae).2.2.1;obtain⟨ef,eM⟩:=kE.2 U d adG;have jO:=eM aa;have iP:ir t O aT d=rK t aT (bo t O aT) fr d:=by
   unfold rK;by_cases hr:(af t d).kind=40
   ·rw[if_pos hr];unfold ir;rw[if_pos hr]
   ·rw[if_neg hr,if_pos aa];grind[apx]
  refine I.for fU.length (λi (_:Unit)=>(i:Int)) (λi _=>i<=U) (t0:=()) rfl (gx _) (λi _ ao bq=>?_) λ_ bq=>?_
  ·have dN:i<t.aX.length:=by grind
   obtain⟨q,aE⟩:∃q,t.aX[i]? =D q:=⟨_,cq dN⟩
   refine I.aC (λ_=>I.aL aE (I.aC (λe=>?_) λe=>I.inl ⟨(),by rw[cM aa],?_⟩)) dv
   ·have:i=U:=by
     rw[e]at aE;have h1:=ye ay.fI.pP aE adG;omega
    simp_all[I.aL,I.inr]
   grind
  ·omega
 ·have apz:=Ns ai aO aS ae au az aa;have zf:(d:Int) ∉ t.aX:=λh=>by
   have:=GX ay fj.lt h;rcases(show(af t d).kind=20\/(af t d).kind=34 by omega)with q|q<;>(rw[q]at this;cases this)
  refine I.for fU.length (λi (_:Unit)=>(i:Int)) (λ_ _=>True) (t0:=()) rfl trivial (λi _ ao _=>?_) λ_ _=>?_
  ·have dN:i<t.aX.length:=by have:=kE.1;omega
   obtain⟨q,aE⟩:∃q,t.aX[i]? =D q:=⟨_,cq dN⟩
   refine I.aC (λ_=>I.aL aE (I.aC (λe=>absurd (e▸cC aE) zf) λe=>I.inl ⟨(),by rw[cM aa],trivial⟩)) dv
  ·refine I.aC br λ_=>I.dk (I.aq (apw kc.len (by have:=kc.iE;omega) _) (I.ret ?_));unfold rK;rw[if_neg aa,if_neg aa];exact kc.aq d apz aa
theorem apA(a_:1000000<=n){s m0:ByteArray}{r:Nat}{q:Int}(aM:iN t s=D r)(aE:(bd t r).find? (λq=>decide ((af t q.toNat).bi=m0))=D q)
  (aP:∃c,gw t t.nodes.length (2*t.nodes.length+2) (.hb s)=D c/\c<=8):Mg (aZ n) t s m0=D (((lB t m0 (bd t r) 0:Nat):Int),((ez t (dn t q.toNat):Nat):Int)):=by
 have ay:=aO.cZ;have e0:=ai.nodes;obtain⟨fH,_,iS,_⟩:=oq ay aM;have h3:=ai.af fH;have fc:=c6 fH;obtain⟨c,aP,_⟩:=aP;obtain⟨i,cs,h1,_,h2,aJ,_⟩:=DK (d:=2*t.nodes.length+1) aP;rw[aM]at h1;cases h1;have eE:∀x∈bd t r,∃m:Nat,x=m/\(dn t m).ok/\(dn t m).bR.size<=5000/\ez t (dn t m)<=8/\gw t t.nodes.length (2*t.nodes.length+1) (dn t m)=D (ez t (dn t m)):=by
  intro x ar;obtain⟨m,rfl,hm,ia⟩:=sC ai ay fH iS ar;have wh:=sD ai aO (j:=m) aa ia;have:gw t t.nodes.length (2*t.nodes.length+1) (dn t ((m:Int)).toNat)∈cs.map D:=by grind
  obtain⟨y,bh,apB⟩:=List.mem_map.1 this;grind[eq,yu]
 refine I.bN ?_;unfold Mg;refine I.aq (M6 ai aO aa s) ?_;rw[aM];dsimp only;unfold abB;have aK:(bd t r).length<=800:=by simp_all
 have key:∀(jI:List Int)(gG:List Int)(a:Nat),bd t r=gG++jI->a<=8*gG.length->jI.find? (λq=>decide ((af t q.toNat).bi=m0))=D q->
   I (eP (λ(s:Int×Int)=>if(decide (s.2<((nb t r).length:Int)))=true then(aL (nc t r) s.2).bind λad=>aw (tw (aZ n) t ad) λaA=>aw (aL (nb t r) s.2) λaN=>if(decide (aN=m0))=true then(D (s.1,aA)).map .inr else D (.inl ((aH (s.1+aA)),(aH (s.2+1))))else(D ((0:Int),(0:Int))).map .inr) ((a:Int),(gG.length:Int))) (· =(((lB t m0 jI a:Nat):Int),((ez t (dn t q.toNat):Nat):Int))):=by
  intro jI;induction jI with
  |nil=>simp
  |cons x jI bB=>
   intro gG a qn a9 sA;have hlen:gG.length<(bd t r).length:=by grind
   have ar:(bd t r)[gG.length]? =D x:=by grind
   obtain⟨m,rfl,ag,ak,ap,an⟩:=eE x (cC ar);have a5:aL (nc t r) (gG.length:Int)=D (dn t m).bR:=e3 (by simp_all[nc,fv]);have bk:aL (nb t r) (gG.length:Int)=D (af t m).bi:=e3 (by simp_all[nb,fv]);have c0:=DM (n:=n) ai aO a_ _ n _ _ _ an aa ag aa;have oT:(nb t r).length=(bd t r).length:=by unfold nb;rw[h6]
   rw[List.find?_cons]at sA;refine I.ij (I.aC (λ_=>I.aq a5 (I.aq c0 (I.aq bk (I.aC (λe=>I.inr ?_) λe=>I.inl ?_)))) dv)
   ·rw[eq,decide_eq_true e]at sA;cases sA;unfold lB;rw[eq,if_pos e]
   ·rw[eq,decide_eq_false e]at sA;unfold lB;rw[eq,if_neg e];have:=bB (gG++[(m:Int)]) (a+ez t (dn t m)) cK dt sA;rw[List.length_append]at this;have gT:aH ((a:Int)+((ez t (dn t m):Nat):Int))=((a+ez t (dn t m):Nat):Int):=by grind[c8]
    have j2:aH ((gG.length:Int)+1)=((gG.length+[(m:Int)].length:Nat):Int):=by rw[cM aa];rfl
    simp_all
 exact key (bd t r) [] 0 rfl (gx _) aE
end
theorem adH(a b:Int):fR a b=max a b:=by unfold fR;split<;>omega
theorem apC:∀{ds:List Int}{cs:List (List bt)}{x:Int}{acc:List bt},x ∉ ds->qN ds cs x acc=acc:=by
 intro ds;induction ds with
 |nil=>simp_all[qN]
 |cons d ds bB=>
  intro cs x acc h;cases cs with
  |nil=>rfl
  |cons c cs=>show qN ds cs x (if d=x then c else acc)=acc;rw[if_neg (λ(e:d=x)=>h (e▸List.mem_cons_self)),bB λh2=>h (List.mem_cons_of_mem _ h2)]
theorem apD:∀{ps:List Int}{ls:List (List bt)}{a:Nat}{x:Int}{l acc:List bt},ps.Pairwise (· < ·)->ps[a]? =D x->ls[a]? =D l->qN ps ls x acc=l:=by
 intro ps;induction ps with
 |nil=>simp
 |cons p ps bB=>
  intro ls a x l acc hp hm aK;cases ls with
  |nil=>simp at aK
  |cons y ls=>
   show qN ps ls x (if p=x then y else acc)=l;have S_:=yr.1 hp;cases a with
   |zero=>simp at hm aK;subst hm;subst aK;rw[if_pos rfl];exact apC λh=>Int.lt_irrefl _ (S_.1 _ h)
   |succ a=>grind
theorem qO.mono{t:bf}{O:Nat->ByteArray}{aT:Nat->Int}{fU:List (List bt)}{R jR:Nat}(h:qO t O aT fU R)(aM:jR<=R):qO t O aT fU jR:=
 ⟨h.1,λi q aE=>⟨(h.2 i q aE).1,λaK=>(h.2 i q aE).2 aa⟩⟩
section
variable {n : Nat} {t : bf} {O : Nat -> ByteArray} {aT : Nat -> Int}
variable (ai : c7 t) (aO : hA t) (aS : ∀ i, i < t.nodes.length -> gv t i = 0)
include ai aO aS
variable {F:l6}{fr:gq}{j:Nat}
theorem nT.kb {m:Nat}(ae:j<t.nodes.length)(hm:(m:Int)∈bd t j)(au:(af t j).kind≠20/\(af t j).kind≠42)(h:nT t F fr j):nT t F fr m:=by have ay:=aO.cZ;obtain⟨m',e,ge⟩:=ib ay ae hm;have e:m=m':=ew e;subst e;refine⟨h.len,by have:=h.iE;omega,λd az=>?_⟩;rw[j9 ay aa (lv ay ae hm)]at az;refine h.aq d ?_;simp_all[f_,if_neg]
theorem nT.Hi(ae:j<t.nodes.length)(au:(af t j).kind=20)(h:nT t F fr j):nT t F fr (bP t j 0):=by
 have ay:=aO.cZ;have aK:=tH ay ae au;have fc:=c6 ae;obtain⟨r,h1,h2⟩:=na ay ae aa;obtain⟨y,bh⟩:=G1 (l:=r) dt;subst bh;have bw:bP t j 0=dR t j:=DV dt;have tR:=wc ay ae;rw[<-fc,h1]at tR;have cf:=(yr.1 tR).1 y fT;refine⟨h.len,by have:=h.iE;omega,λd az=>?_⟩;rw[bw,j9 ay aa (lv ay ae dt)]at az;refine h.aq d ?_;have:f_ t j (dR t j)=[]:=by unfold f_;rw[h1,if_neg];grind
 simp_all
theorem nT.Hj{l:List bt}(ae:j<t.nodes.length)(au:(af t j).kind=20)(h:nT t F fr j):nT t ⟨F.jk++[(j:Int)],F.cells++[l]⟩ (tN fr j l) (bP t j 1):=by
 have ay:=aO.cZ;have hlen:=tH ay ae au;have fc:=c6 ae;obtain⟨a,b,Hk⟩:=G0 (l:=bd t j) cK;obtain⟨m,e,ge⟩:=ib ay ae (show b∈bd t j by grind);subst e;have h1:bP t j 1=m:=DV dt;have r2:(m:Int)∈bd t j:=by grind
 have hle:=h.iE;have qd:=h.len;refine⟨dt,dt,λd az nM=>?_⟩;rw[h1,j9 ay aa (lv ay ae r2)]at az;show qN (F.jk++[(j:Int)]) (F.cells++[l]) d []=_;rw[adE qd];unfold tN;by_cases e:d=j
 ·subst e;rw[if_pos rfl,if_pos rfl]
 ·rw[if_neg e,if_neg aa];refine h.aq d ?_ nM;rcases ig.1 az with az|az
  ·unfold f_ at az;grind
  ·exact az
omit aS in
theorem nT.call{d:Nat}{ls:List (List bt)}(az:d<t.nodes.length)(b9:(af t d).kind=42)(yl:(dh t d).length=ls.length):nT t ⟨dh t d,ls⟩ (iO (dh t d) ls) (ey t d):=by
 have ay:=aO.cZ;have e0:=ai.nodes;obtain⟨jn,ic,oJ⟩:=nP ai ay az b9;have hm:(ey t d:Int)∈bd t d:=cC jn;have h3:=ai.af az;have tR:(dh t d).Pairwise (· < ·):=by grind[wc,dh,c6,List.Pairwise.sublist,List.take_sublist]
 refine⟨yl,?_,λx ar au=>?_⟩
 ·grind[dh,jf,c6]
 rw[j9 ay aa (lv ay az hm),pa az ((rD ay az).2 (Ha ay az b9)),j3]at ar;unfold f_ at ar;rw[if_neg (show ¬(af t d).kind=20 by omega),if_pos b9]at ar;split at ar
 ·rcases ig.1 ar with ar|ar
  ·obtain⟨a,a9⟩:=fO (show(x:Int)∈dh t d from ar);have jO:a<(dh t d).length:=(List.getElem?_eq_some_iff.1 a9).1;obtain⟨l,aK⟩:∃l,ls[a]? =D l:=⟨_,cq aa⟩
   grind[Nr,apD]
  grind
 ·cases ar
end
theorem apE{k:Int}(h:6<=k/\k<=16):∃c b,SM k=D (c,b)/\yt c/\c≠15/\c≠16/\∀x y,AJ k x y=if b=true then qJ 6 (kQ c x y)else kQ c x y:=by
 have:k=6\/k=7\/k=8\/k=9\/k=10\/k=11\/k=12\/k=13\/k=14\/k=15\/k=16:=by omega
 rcases this with h|h|h|h|h|h|h|h|h|h|h<;>subst h
 all_goals refine⟨_,_,rfl,?_,by decide,by decide,λx y=>rfl⟩
 all_goals (unfold yt;decide)
theorem je.Hl{l:List bt}(h:je l 1):l=[ha l]:=by
 match l,h.1 with
 |[a],_=>rfl
structure apF(t:bf)(O:Nat->ByteArray)(aT:Nat->Int)(j:Nat)(fr:gq)(f:Int)(e:Nat)(i:Nat)(m:Nat):Prop where
 eB:(m:Int)∈bd t j
 dx:(bd t j)[i]? =D (m:Int)
 ph:aL (af t j).a3 (i:Int)=D (m:Int)
 lt:m<j
 nj:gW t f e m
 ov:kr t m
 dy:Proofs.YtgfggdcbhjhegaaGreatDoor.dy t e m<Proofs.YtgfggdcbhjhegaaGreatDoor.dy t e j
 qP:hj t O fr m
 nU:je (bo t O aT m fr f e).1 (fu t (O m))
section
variable {t : bf} {O : Nat -> ByteArray} {aT : Nat -> Int}
variable (ai : c7 t) (aO : hA t) (aS : ∀ i, i < t.nodes.length -> gv t i = 0) (bx : kO t O t.nodes.length)
include ai aO aS bx
variable {e:Nat}{f:Int}{fr:gq}{j:Nat}
theorem mM(hC:gW t f e j)(dE:kr t j)(c1:hj t O fr j)(au:(af t j).kind≠20){i:Nat}(ao:i<(af t j).a3.length):apF t O aT j fr f e i (bP t j i):=by
 have ay:=aO.cZ;have ae:=hC.1;have b9:(af t j).kind≠42:=by
  intro h;rcases dE with h2|h2
  ·rw[h]at h2;cases h2
  ·omega
 obtain⟨h1,h2⟩:=nS ai aO aS bx ae ao;obtain⟨m,a5,aJ,bp,cy⟩:=hC.kb ai aO aS h1;have a5:bP t j i=m:=ew a5;rw[<-a5]at aJ bp cy;have cY:=qK ai aO aS ae dE h1;have gX:=c1.kb ai aO aS ae h1 ⟨au,b9⟩;exact⟨h1,h2,e3 (by rw[<-c6 ae];exact h2),aJ,bp,cY,cy,gX,yw ai aO aS bx _ _ _ _ _ (Nat.lt_succ_self _) bp cY gX⟩
theorem Hm(ae:j<t.nodes.length)(h:(af t j).a3.length=2):bd t j=[(bP t j 0:Int),(bP t j 1:Int)]:=by obtain⟨a,b,Hk⟩:=G0 (l:=bd t j) (by rw[c6 ae];exact h);have bw:=(nS ai aO aS bx ae (i:=0) aa).2;have h1:=(nS ai aO aS bx ae (i:=1) aa).2;rw[Hk]at bw h1⊢;rw[pA bw,pA h1]
theorem DX(ae:j<t.nodes.length)(h:4<=(af t j).kind/\(af t j).kind<=18):ei (af t j).kind=true/\fu t (O j)=1/\∀i,i<(af t j).a3.length->fu t (O (bP t j i))=1:=by
 have ar:ei (af t j).kind=true:=by
  have:(af t j).kind=4\/(af t j).kind=5\/(af t j).kind=6\/(af t j).kind=7\/(af t j).kind=8\/(af t j).kind=9\/(af t j).kind=10\/(af t j).kind=11\/(af t j).kind=12\/(af t j).kind=13\/(af t j).kind=14\/(af t j).kind=15\/(af t j).kind=16\/(af t j).kind=17\/(af t j).kind=18:=by omega
  rcases this with h|h|h|h|h|h|h|h|h|h|h|h|h|h|h<;>(rw[h];rfl)
 refine⟨ar,?_⟩;have key:∀{x:ByteArray},fu t x=1->h4 x (dC t O j)=true->∀i,i<(af t j).a3.length->fu t (O (bP t j i))=1:=by intro x ar aB i ao;have gG:=p4 ai aO aS bx ae ao;rw[(G' x (dC t O j)).1 aB _ (cC gG),ar]
 have aM:=bx.AF j ae ar;cases aM with
 |wm h au de=>grind[AK]
 |wn h au de=>grind[vb]
 |bN h au de=>grind[vb,AK]
 |wo h au de=>grind[vb,AK]
 |num h de=>omega
 |bool h de=>omega
 |wj h=>omega
 |wk h=>omega
 |wl h=>omega
 |bC h au=>omega
 |lt h=>omega
 |call h=>omega
 |field h=>omega
 |index h=>omega
 |wp h=>omega
 |gl h=>omega
theorem adI(ae:j<t.nodes.length)(h:(af t j).kind=19):(af t j).a3.length=3/\O (bP t j 0)=eO/\O (bP t j 1)=O j/\O (bP t j 2)=O j:=by
 have qd:(dC t O j).length=(af t j).a3.length:=sF ae;have aM:=bx.AF j ae (by rw[h];rfl);cases aM with
 |bC h au=>
  have aK:(af t j).a3.length=3:=by simp_all
  have jr:=p4 ai aO aS bx ae (i:=0) aa;have gG:=p4 ai aO aS bx ae (i:=1) aa;have jI:=p4 ai aO aS bx ae (i:=2) aa;simp_all
 |wm h _ de=>omega
 |wn h _ de=>omega
 |bN h _ de=>omega
 |wo h _ de=>omega
 |num h de=>omega
 |bool h de=>omega
 |wj h=>omega
 |wk h=>omega
 |wl h=>omega
 |lt h=>omega
 |call h=>omega
 |field h=>omega
 |index h=>omega
 |wp h=>omega
 |gl h=>omega
theorem adJ(hC:gW t f e j)(dE:kr t j)(c1:hj t O fr j)(h:(af t j).kind=21){d:Nat}(az:eS t j=d):
  hj t O (iO (dh t d) (((bd t j).map λq=>bo t O aT q.toNat fr f e).map (·.1))) (ey t d)/\(dh t d).length=(af t j).a3.length/\(af t j).a3.length+2=(af t d).a3.length/\O (ey t d)=O j/\d<t.nodes.length/\(af t d).kind=42:=by
 have ay:=aO.cZ;have ae:=hC.1;have qd:(dC t O j).length=(af t j).a3.length:=sF ae;have aM:=bx.AF j ae (by rw[h];rfl);cases aM with
 |call h d2 v_ b9 au de=>
  have bk:d=d2:=ew (az.symm.trans v_);subst bk;obtain⟨cQ,po,eI,_,aP⟩:=hC.call ai aO aS h;have a5:d=cQ:=ew (az.symm.trans po);subst a5;have pF:(dh t d).length=(af t j).a3.length:=by rw[<-qd,au];unfold lw;rw[h6]
  have uE:(dh t d).length=(bd t d).length- 2:=by grind[dh,jf]
  have no:=pY ay eI b9;rw[c6 eI]at uE;refine⟨hj.call ai aO eI b9 λa m a9=>?_,pF,aa,by rw[de,bx.fn d eI b9],eI,b9⟩;have E7:(dC t O j)[a]? =D (dn t m).bR:=by simp_all[lw,fv]
  have jO:a<(af t j).a3.length:=by grind
  have iF:=p4 ai aO aS bx ae jO;rw[E7]at iF;have bg:=mM (aT:=aT) ai aO aS bx hC dE c1 aa jO;have v:=bg.nU;rw[<-pA iF]at v;obtain⟨q,bk,_,ia,_⟩:=pe ai ay eI b9 a9;have bk:m=q:=ew bk;subst bk;have ge:m<t.nodes.length:=by omega
  rw[p3 (sD ai aO ge ia).1]at v;refine⟨(bo t O aT (bP t j a) fr f e).1,?_,v⟩;rw[fv,fv,bg.dx];rfl
 |bC h _=>omega
 |wm h _ de=>omega
 |wn h _ de=>omega
 |bN h _ de=>omega
 |wo h _ de=>omega
 |num h de=>omega
 |bool h de=>omega
 |wj h=>omega
 |wk h=>omega
 |wl h=>omega
 |lt h=>omega
 |field h=>omega
 |index h=>omega
 |wp h=>omega
 |gl h=>omega
theorem Uz(ae:j<t.nodes.length)(h:(af t j).kind=22):∃(r c:Nat)(q:Int),iN t (O (bP t j 0))=D r/\(bd t r).find? (λq=>decide ((af t q.toNat).bi=(af t j).bi))=D q/\
  fu t (O j)=ez t (dn t q.toNat)/\fu t (O (bP t j 0))=c/\lB t (af t j).bi (bd t r) 0+ez t (dn t q.toNat)<=c/\c<=8/\gw t t.nodes.length (2*t.nodes.length+2) (.hb (O (bP t j 0)))=D c/\(af t j).a3.length=1:=by
 have ay:=aO.cZ;have aM:=bx.AF j ae (by rw[h];rfl);cases aM with
 |field h s r au aM q aE de=>
  have aK:=mf ay ae (.inr (.inr (.inl h)));have jr:=p4 ai aO aS bx ae (i:=0) aa;rw[au]at jr;have es:O (bP t j 0)=s:=(pA jr).symm;have k0:=nS ai aO aS bx ae (i:=0) aa;obtain⟨bn,h1,h2,aJ,bp,cy,cY⟩:=mh ai aO aS bx (j:=bP t j 0) (by grind[ib,bP,ew]) (qK ai aO aS ae (.inl (by rw[h];rfl)) k0.1);rw[es]at h1 aJ;have hB:bn=.hb s:=by
   obtain⟨fH,_,iS,yX⟩:=oq ay aM;have gu:fF s:=by grind[Az,AA]
   exact eK.inj h2 (show(eK.hb s).ok from gu) h1.symm
  subst hB;have Ap:=Uv ai aO aS bx cY aM;have pF:=Uu ai aO aS bx (af t j).bi (bd t r) 0 q aE;have hw:fu t (O j)=ez t (dn t q.toNat):=by obtain⟨fH,_,iS,_⟩:=oq ay aM;obtain⟨m,rfl,hm,ia⟩:=sC ai ay fH iS (wa aE);rw[de,eq,p3 (sD ai aO aa ia).1]
  grind
 |bC h _=>omega
 |wm h _ de=>omega
 |wn h _ de=>omega
 |bN h _ de=>omega
 |wo h _ de=>omega
 |num h de=>omega
 |bool h de=>omega
 |wj h=>omega
 |wk h=>omega
 |wl h=>omega
 |lt h=>omega
 |call h=>omega
 |index h=>omega
 |wp h=>omega
 |gl h=>omega
theorem adK(ae:j<t.nodes.length)(h:(af t j).kind=23):∃k:Nat,fu t (O (bP t j 0))=fu t (O j)*k/\fu t (O j)*k<=8/\1<=fu t (O j)/\(1<=k/\k<=6)/\fu t (O (bP t j 1))=1/\(af t j).a3.length=2:=by
 have ay:=aO.cZ;have aM:=bx.AF j ae (by rw[h];rfl);cases aM with
 |index h bX cA au de=>
  have aK:=wr ay ae (.inr (.inr h));have jr:=p4 ai aO aS bx ae (i:=0) aa;have gG:=p4 ai aO aS bx ae (i:=1) aa;rw[au]at jr gG;have es:O (bP t j 0)=(eK.gl bX cA).bR:=(pA jr).symm;have apG:O (bP t j 1)=e2:=(pA gG).symm;have k0:=nS ai aO aS bx ae (i:=0) aa;obtain⟨bn,h1,h2,aJ,bp,cy,cY⟩:=mh ai aO aS bx (j:=bP t j 0) (by grind[ib,bP,ew]) (qK ai aO aS ae (.inl (by rw[h];rfl)) k0.1);rw[es]at h1 aJ;obtain⟨AL,e7,rfl⟩:=(eK.bw h2).1 (by rw[<-h1];exact p0 _ _);have c0:bX.bR=AL.bR:=(GR h1).1;obtain⟨c',ep,fD,iF⟩:=DL (d:=2*t.nodes.length+1) cY;have tb:=yu ep aa;have hw:fu t (O j)=ez t AL:=by rw[de,c0,p3 h2.1]
  have apH:=mh ai aO aS bx ae (.inl (by rw[h];rfl));obtain⟨aCx,_,_,gS,kY,iV,_⟩:=apH;refine⟨e7,?_,?_,aa,h2.2,by rw[apG,AK],aK⟩
  ·rw[es,aJ,iF,hw,tb,ze]
  grind
 |bC h _=>omega
 |wm h _ de=>omega
 |wn h _ de=>omega
 |bN h _ de=>omega
 |wo h _ de=>omega
 |num h de=>omega
 |bool h de=>omega
 |wj h=>omega
 |wk h=>omega
 |wl h=>omega
 |lt h=>omega
 |call h=>omega
 |field h=>omega
 |wp h=>omega
 |gl h=>omega
end
def fN(r:sH)(st op a':Int):List bt×Int×Int×Int:=(r.1,aH (st+(r.2.1:Int)),op,max a' (op+(r.2.2:Int)))
def Nt:∀(l:List Nat)(x:Nat),lA (l++[x])=max (lA l) x
 |[],x=>by show max x 0=max 0 x;omega
 |a::l,x=>by show max a (lA (l++[x]))=max (max a (lA l)) x;rw[Nt l x];omega
theorem yx(a b c:Int):aH (aH (aH a+b)+c)=aH (a+(b+c)):=by rw[qM (aH a+b),Int.add_assoc,qM]
theorem apI{v:bt}(h1:v.fault=0)(h2:v.n=0):v=⟨0,0⟩:=by
 cases v with
 |mk f n=>have h1:f=0:=h1;have h2:n=0:=h2;rw[h1,h2]
abbrev xj:=Int->l6->Int->Int->List bz->List Int->List Int->List ByteArray->List Int->List Int->Nat->List (List bt)->Int->Int->Int->Option (List bt×Int×Int×Int)
def AM(t:bf)(O:Nat->ByteArray)(aT:Nat->Int)(iW:List ByteArray)(lD mi:List Int)(jP:Nat)(fU:List (List bt))(r:xj)(K:Nat):Prop:=
 ∀(m:Nat)(fr:gq)(F:l6)(f:Int)(e:Nat)(st op a':Int),gW t f e m->kr t m->dy t e m<K->hj t O fr m->nT t F fr m->qO t O aT fU (dz t m).2->0<=op->op<=a'->op+dy t e m<=1000000000000->
  r m F f e t.nodes t.aX (c2 t) iW lD mi jP fU st op a'=D (fN (bo t O aT m fr f e) st op a')
section
variable {n : Nat} {t : bf} {O : Nat -> ByteArray} {aT : Nat -> Int} {iW : List ByteArray} {lD mi : List Int} {jP : Nat} {fU : List (List bt)} {K : Nat}
variable (ai : c7 t) (aO : hA t) (aS : ∀ i, i < t.nodes.length -> gv t i = 0) (bx : kO t O t.nodes.length) (a_ : 1000000 <= n)
variable (p5 : ∀ j, j < t.nodes.length -> ei (af t j).kind = true -> iW[j]? = D (O j)) (ow : ∀ j, j < t.nodes.length -> ei (af t j).kind = true -> lD[j]? = D (fu t (O j) : Int))
include ai aO aS bx a_ p5 ow
variable {F:l6}{e:Nat}{f:Int}{fr:gq}{j:Nat}{a' op st:Int}
theorem apJ{r:xj}(aM:AM t O aT iW lD mi jP fU r K)(hC:gW t f e j)(dE:kr t j)(kU:dy t e j<=K)(c1:hj t O fr j)(kc:nT t F fr j)(kE:qO t O aT fU (dz t j).2)(bw:0<=op)(h1:op<=a')(h2:op+dy t e j<=1000000000000)(au:6<=(af t j).kind/\(af t j).kind<=18):
  Me (aZ n) r (af t j) F f e t.nodes t.aX (c2 t) iW lD mi jP fU (aH (st+1)) op a'=D (ha (bo t O aT j fr f e).1,(fN (bo t O aT j fr f e) st op a').2):=by
 have ay:=aO.cZ;have ae:=hC.1;have aK:=wr ay ae (.inl au);obtain⟨_,hw,lz⟩:=DX ai aO aS bx ae aa;have k0:=mM (aT:=aT) ai aO aS bx hC dE c1 aa (i:=0) aa;have dA:=mM (aT:=aT) ai aO aS bx hC dE c1 aa (i:=1) aa;have v0:=k0.nU;have v1:=dA.nU;rw[lz 0 aa]at v0;rw[lz 1 aa]at v1;have tF:∀m:Nat,(m:Int)∈bd t j->(dz t m).2=(dz t j).2:=λm hm=>sG ay ae hm;have b9:(af t j).kind≠42:=by omega
 have UA:=k0.dy;have adL:=dA.dy;have oW:=aM _ fr F f e (aH (st+1)) op a' k0.nj k0.ov aa k0.qP (kc.kb ai aO aS ae k0.eB ⟨aa,b9⟩) (by rw[tF _ k0.eB];omega) bw h1 aa;have fH:=λst a' (h1:op<=a')=>aM _ fr F f e st op a' dA.nj dA.ov aa dA.qP (kc.kb ai aO aS ae dA.eB ⟨aa,b9⟩) (by rw[tF _ dA.eB];omega) bw h1 aa;have UB:=Hm ai aO aS bx ae aK;have pK:=va (O:=O) (aT:=aT) (fr:=fr) ai aO aS hC dE;have vc:=(v0.az (b5 _)).1;have Hn:=(v1.az (b5 _)).1;have adM:=vc.gH;have i0:aL (bo t O aT (bP t j 0) fr f e).1 0=D (ha (bo t O aT (bP t j 0) fr f e).1):=e3 (i:=0) (v0.az (b5 _)).2;have i1:aL (bo t O aT (bP t j 1) fr f e).1 0=D (ha (bo t O aT (bP t j 1) fr f e).1):=e3 (i:=0) (v1.az (b5 _)).2;have pz:op<=max a' (op+((bo t O aT (bP t j 0) fr f e).2.2:Int)):=by omega
 refine I.bN ?_;unfold Me;by_cases ku:(af t j).kind<=16
 ·obtain⟨c,b,aP,jb,ady,apK,hE⟩:=apE (show 6<=(af t j).kind/\(af t j).kind<=16 by omega);have cB:bo t O aT j fr f e=([AJ (af t j).kind (ha (bo t O aT (bP t j 0) fr f e).1) (ha (bo t O aT (bP t j 1) fr f e).1)],1+((bo t O aT (bP t j 0) fr f e).2.1+(bo t O aT (bP t j 1) fr f e).2.1),max (bo t O aT (bP t j 0) fr f e).2.2 (bo t O aT (bP t j 1) fr f e).2.2):=by
   rw[pK];unfold kR;rw[if_neg aa,if_neg aa,if_neg aa,if_neg aa];dsimp only;rw[if_neg aa,if_neg aa,if_pos aa,UB];simp only[gI,oc,List.flatMap_cons,List.flatMap_nil,j3,nR,sI,eq,lA,Nat.add_zero,Nat.max_zero];rw[v0.Hl];rfl
  rw[cB];refine I.aq aP (I.aq k0.ph (I.aq oW (I.aq i0 (I.aC (λh=>absurd h ady) λ_=>I.aC (λh=>absurd h apK) λ_=>?_))));unfold x7;refine I.aq dA.ph (I.aq (fH _ _ pz) (I.aq i1 (I.aq (ape jb vc Hn) ?_)));have a5:aH (aH (aH (st+1)+((bo t O aT (bP t j 0) fr f e).2.1:Int))+((bo t O aT (bP t j 1) fr f e).2.1:Int))=aH (st+((1+((bo t O aT (bP t j 0) fr f e).2.1+(bo t O aT (bP t j 1) fr f e).2.1):Nat):Int)):=by rw[yx];grind
  have bk:max (max a' (op+((bo t O aT (bP t j 0) fr f e).2.2:Int))) (op+((bo t O aT (bP t j 1) fr f e).2.2:Int))=max a' (op+((max (bo t O aT (bP t j 0) fr f e).2.2 (bo t O aT (bP t j 1) fr f e).2.2:Nat):Int)):=by omega
  unfold fN;dsimp only;rw[a5,bk,hE];cases b with
  |true=>exact I.aq (Uk (.inr rfl) (Up vc Hn)) (I.ret rfl)
  |false=>exact I.ret rfl
 ·have cB:=pK;unfold kR at cB;rw[if_neg aa,if_neg aa,if_neg aa,if_pos aa]at cB;dsimp only at cB;rw[cB];have jg:fu t (O j)=1:=hw;rw[jg];have a5:∀s:Int,aH (aH (st+1)+s)=aH (st+(1+s)):=λs=>by rw[qM];grind
  have c0:∀s s':Int,aH (aH (aH (st+1)+s)+s')=aH (st+(1+s+s')):=λs s'=>by rw[yx];grind
  have mR:=v1.Hl;by_cases u':(af t j).kind=17
  ·refine I.aq (z:=((15:Int),false)) (by rw[u'];rfl) (I.aq k0.ph (I.aq oW (I.aq i0 (I.aC (λ_=>?_) λh=>absurd rfl h))));refine I.aC (λa8=>I.aq (z:=ha (bo t O aT (bP t j 0) fr f e).1) (by unfold o6;rw[if_pos (decide_eq_true a8)]) (I.ret ?_)) λa8=>I.aC (λbj=>I.aq (z:=ha (bo t O aT (bP t j 0) fr f e).1) (by unfold o6;rw[if_neg dt,if_pos dt]) (I.ret ?_)) λbj=>I.aC u1 λ_=>?_
   ·rw[if_pos aa];unfold fN;dsimp only;rw[a5];show(_,_,_,_)=(_,_,_,_)
    rfl
   ·rw[if_neg aa,if_neg aa,if_neg aa];have:ha (bo t O aT (bP t j 0) fr f e).1=l0 (decide ((ha (bo t O aT (bP t j 0) fr f e).1).n≠0)):=by
     rw[decide_eq_false aa];exact apI aa bj
    unfold fN;dsimp only;rw[a5];exact congrArg (λv=>(v,_)) this
   ·rw[if_neg aa,if_pos aa];unfold x7;refine I.aq dA.ph (I.aq (fH _ _ pz) (I.aq i1 (I.aq (z:=ha (bo t O aT (bP t j 1) fr f e).1) (by unfold o6;rw[if_neg dt,if_neg dt,if_neg fT,if_pos eu]) (I.ret ?_))));unfold fN;dsimp only;rw[c0];have bk:max (max a' (op+((bo t O aT (bP t j 0) fr f e).2.2:Int))) (op+((bo t O aT (bP t j 1) fr f e).2.2:Int))=max a' (op+((max (bo t O aT (bP t j 0) fr f e).2.2 (bo t O aT (bP t j 1) fr f e).2.2:Nat):Int)):=by omega
    rw[bk];rfl
  ·have apL:(af t j).kind=18:=by omega
   refine I.aq (z:=((16:Int),false)) (by rw[apL];rfl) (I.aq k0.ph (I.aq oW (I.aq i0 (I.aC u1 λ_=>I.aC (λ_=>?_) λh=>absurd rfl h))));refine I.aC (λa8=>I.aq (z:=ha (bo t O aT (bP t j 0) fr f e).1) (by unfold o6;rw[if_pos (decide_eq_true a8)]) (I.ret ?_)) λa8=>I.eh (λbj=>I.aq (z:=num 1) (by unfold o6;rw[if_neg dt,if_neg fT,if_pos dt];rfl) (I.ret ?_)) λbj=>?_
   ·rw[if_pos aa];unfold fN;dsimp only;rw[a5];rfl
   ·rw[if_neg aa,if_neg aa,if_neg aa];unfold fN;dsimp only;rw[a5,decide_eq_true bj];rfl
   ·rw[if_neg aa,if_pos aa];unfold x7;refine I.aq dA.ph (I.aq (fH _ _ pz) (I.aq i1 (I.aq (z:=ha (bo t O aT (bP t j 1) fr f e).1) (by unfold o6;rw[if_neg dt,if_neg fT,if_neg dt,if_pos eu]) (I.ret ?_))));unfold fN;dsimp only;rw[c0];have bk:max (max a' (op+((bo t O aT (bP t j 0) fr f e).2.2:Int))) (op+((bo t O aT (bP t j 1) fr f e).2.2:Int))=max a' (op+((max (bo t O aT (bP t j 0) fr f e).2.2 (bo t O aT (bP t j 1) fr f e).2.2:Nat):Int)):=by omega
    rw[bk];rfl
theorem apM{r:xj}(aM:AM t O aT iW lD mi jP fU r K)(hC:gW t f e j)(dE:kr t j)(kU:dy t e j<=K)(c1:hj t O fr j)(kc:nT t F fr j)(kE:qO t O aT fU (dz t j).2)(bw:0<=op)(h1:op<=a')(h2:op+dy t e j<=1000000000000)(au:(af t j).kind=19):
  Mf (aZ n) r (af t j) (fu t (O j):Int) F f e t.nodes t.aX (c2 t) iW lD mi jP fU (aH (st+1)) op a'=D (fN (bo t O aT j fr f e) st op a'):=by
 have ay:=aO.cZ;have ae:=hC.1;obtain⟨aK,eH,_,_⟩:=adI ai aO aS bx ae au;obtain⟨bn,_,_,gS,_,iV,_⟩:=mh ai aO aS bx ae dE;have k0:=mM (aT:=aT) ai aO aS bx hC dE c1 aa (i:=0) aa;have dA:=mM (aT:=aT) ai aO aS bx hC dE c1 aa (i:=1) aa;have e7:=mM (aT:=aT) ai aO aS bx hC dE c1 aa (i:=2) aa;have v0:=k0.nU;rw[eH,vb]at v0;have tF:∀m:Nat,(m:Int)∈bd t j->(dz t m).2=(dz t j).2:=λm hm=>sG ay ae hm;have UA:=k0.dy;have adL:=dA.dy;have aCy:=e7.dy;have oW:=aM _ fr F f e (aH (st+1)) op a' k0.nj k0.ov aa k0.qP (kc.kb ai aO aS ae k0.eB ⟨aa,aa⟩) (by rw[tF _ k0.eB];omega) bw h1 aa;have fH:=λst a' (h1:op<=a')=>aM _ fr F f e st op a' dA.nj dA.ov aa dA.qP (kc.kb ai aO aS ae dA.eB ⟨aa,aa⟩) (by rw[tF _ dA.eB];omega) bw h1 aa;have iC:=λst a' (h1:op<=a')=>aM _ fr F f e st op a' e7.nj e7.ov aa e7.qP (kc.kb ai aO aS ae e7.eB ⟨aa,aa⟩) (by rw[tF _ e7.eB];omega) bw h1 aa;have cB:=va (O:=O) (aT:=aT) (fr:=fr) ai aO aS hC dE;unfold kR at cB;rw[if_neg aa,if_neg aa,if_neg aa,if_pos aa]at cB;dsimp only at cB;have vc:=(v0.az (b5 _)).1;have adM:=vc.gH;have i0:aL (bo t O aT (bP t j 0) fr f e).1 0=D (ha (bo t O aT (bP t j 0) fr f e).1):=e3 (i:=0) (v0.az (b5 _)).2;have pz:op<=max a' (op+((bo t O aT (bP t j 0) fr f e).2.2:Int)):=by omega
 have a5:∀s:Int,aH (aH (st+1)+s)=aH (st+(1+s)):=λs=>by rw[qM];grind
 have c0:∀s s':Int,aH (aH (aH (st+1)+s)+s')=aH (st+(1+s+s')):=λs s'=>by rw[yx];grind
 have bk:∀a b:Nat,max (max a' (op+(a:Int))) (op+(b:Int))=max a' (op+((max a b:Nat):Int)):=λa b=>by omega
 refine I.bN ?_;unfold Mf;rw[cB];refine I.aq k0.ph (I.aq oW (I.aq i0 (I.aC (λa8=>?_) λa8=>I.aC (λbj=>?_) λbj=>?_)))
 ·rw[if_pos aa];refine I.aq (DT _ aa) (I.ret ?_);simp_all[fN]
 ·rw[if_neg aa,if_neg aa,if_pos aa];refine I.aq e7.ph (I.aq (iC _ _ pz) (I.ret ?_));simp_all[fN]
 ·rw[if_neg aa,if_pos aa];refine I.aq dA.ph (I.aq (fH _ _ pz) (I.ret ?_));simp_all[fN]
end
end Go.Proofs.YtgfggdcbhjhegaaGreatDoor

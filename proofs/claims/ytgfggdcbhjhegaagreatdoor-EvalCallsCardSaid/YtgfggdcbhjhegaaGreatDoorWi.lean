/- The reference's evaluator: calls, all nodes. -/
import Derived.Test.YtgfggdcbhjhegaaGreatDoorWh
set_option linter.all false
set_option maxRecDepth 100000
set_option maxHeartbeats 1000000
namespace Go.Proofs.YtgfggdcbhjhegaaGreatDoor
open Go Go.Mi Go.RowKit Go.Dp
open Bool renaming and_eq_true->ea,true->ah,or_eq_false_iff->iM,or_eq_true->hk
open Int renaming toNat_natCast->eq,add_zero->AN,le_refl->me
open Int.ofNat renaming inj->ew
open List renaming getElem?_eq_getElem->cq,mem_of_getElem?->cC,getElem?_eq_some_iff->cz,map->ox,take_of_length_le->fz,map_cons->gI,map_append->lk,append_nil->j3,map_nil->oc,length_append->ky,getElem?_map->fv,flatMap_cons->iX,flatMap_nil->yy,filter_cons->AO,replicate->dm,getElem?_of_mem->fO,getElem?_range->Ay,take_sublist_take_left->adN,take->uB,take_succ_cons->EH,pairwise_cons->yr,getElem?_take->kx,length_take->jf,sum_append->wC,sum_cons->nR,sum_nil->sI,mem_map->lH
open Nat renaming le_refl->b5,le_trans->jC,add_le_add->AP,lt_succ_self->qI
open Option renaming some->D,map_some->lV,bind->aw
theorem adO{l:List sH}{k:Nat}(h:∀r∈l,r.1.length<=k):(l.flatMap (·.1)).length<=k*l.length:=by
 induction l with
 |nil=>simp
 |cons a r bB=>grind[List.mem_cons_self,List.mem_cons_of_mem,ky,List.length_cons,Nat.mul_add]
section
variable {n : Nat} {t : bf} {O : Nat -> ByteArray} {aT : Nat -> Int} {iW : List ByteArray} {lD mi : List Int} {jP : Nat} {fU : List (List bt)} {K : Nat}
variable (ai : c7 t) (aO : hA t) (aS : ∀ i, i < t.nodes.length -> gv t i = 0) (bx : kO t O t.nodes.length) (a_ : 1000000 <= n)
variable (p5 : ∀ j, j < t.nodes.length -> ei (af t j).kind = ah -> iW[j]? = D (O j)) (ow : ∀ j, j < t.nodes.length -> ei (af t j).kind = ah -> lD[j]? = D (fu t (O j) : Int))
include ai aO aS bx
variable {j:Nat}
theorem Ho(ae:j<t.nodes.length)(h:(af t j).a3.length=1):bd t j=[(bP t j 0:Int)]:=by obtain⟨a,Hk⟩:=G1 (l:=bd t j) (by rw[c6 ae];exact h);have bw:=(nS ai aO aS bx ae (i:=0) aa).2;rw[Hk]at bw⊢;rw[Option.some.inj bw]
include a_ p5 ow
variable {d e:Nat}{a' op:Int}{r:xj}{st:Int}
theorem adP{ls:List (List bt)}(aM:AM t O aT iW lD mi jP fU r K)(eI:d<t.nodes.length)(b9:(af t d).kind=42)(rL:gW t d e (ey t d))(Nu:dy t e (ey t d)<K)(eQ:hj t O (iO (dh t d) ls) (ey t d))(jb:(dh t d).length=ls.length)(kE:qO t O aT fU d)(bw:0<=op)(h1:op<=a')(h2:op+1+dy t e (ey t d)<=1000000000000):
  SO (aZ n) ls (af t d) r (d:Int) (e:Int) t.nodes t.aX (c2 t) iW lD mi jP fU st op a' (0,[],[])=D (fN ((bo t O aT (ey t d) (iO (dh t d) ls) d e).1,(bo t O aT (ey t d) (iO (dh t d) ls) d e).2.1,1+(bo t O aT (ey t d) (iO (dh t d) ls) d e).2.2) st op a'):=by
 have ay:=aO.cZ;have e0:=ai.nodes;obtain⟨jS,od,Nv⟩:=nP ai ay eI b9;have Ub:=DR ai ay eI b9;have M_:=ai.af eI;have fc:=c6 eI;have no:=pY ay eI b9;have UC:(dh t d).length<=800:=by grind[dh,jf]
 refine I.bN ?_;unfold SO;refine I.for ls.length (λi (_:Unit)=>((i:Int),(dh t d).take i,ls.take i)) (λ_ _=>True) (t0:=()) rfl trivial (λi _ ao _=>?_) λ_ _=>?_
 ·obtain⟨p,hp⟩:∃p,(dh t d)[i]? =D p:=⟨_,cq aa⟩
  obtain⟨l,aK⟩:∃l,ls[i]? =D l:=⟨_,cq ao⟩
  have apN:(af t d).a3[i]? =D p:=by grind[pe]
  refine I.aC (λ_=>I.aL apN (I.aL aK (I.aq (adF dt dt _ _) (I.inl ⟨(),?_,trivial⟩)))) dv;rw[cM aa,gd hp,gd aK]
 ·refine I.aC br λ_=>I.dk ?_;rw[fz (show(dh t d).length<=ls.length by omega),fz (b5 _)];have a5:aH (((af t d).a3.length:Int)- 1)=(((bd t d).length- 1:Nat):Int):=by grind[c8]
  rw[a5];have bk:aH (op+1)=op+1:=c8 aa aa;rw[bk,adH];refine I.aq (z:=(ey t d:Int)) (e3 cK) (I.aq (aM _ (iO (dh t d) ls) ⟨dh t d,ls⟩ (d:Int) e st (op+1) (max a' (op+1)) rL (.inl Nv) Nu eQ (nT.call ai aO eI b9 aa) (qO.mono kE aa) aa aa aa) (I.ret ?_));unfold fN;dsimp only;have c0:aH (op+1- 1)=op:=by grind[c8]
  have gA:max (max a' (op+1)) (op+1+((bo t O aT (ey t d) (iO (dh t d) ls) d e).2.2:Int))=max a' (op+((1+(bo t O aT (ey t d) (iO (dh t d) ls) d e).2.2:Nat):Int)):=by omega
  rw[c0,gA]
variable {f:Int}{fr:gq}
theorem apO(aM:AM t O aT iW lD mi jP fU r K)(hC:gW t f e j)(dE:kr t j)(kU:dy t e j<=K)(c1:hj t O fr j)(kE:qO t O aT fU (dz t j).2)(bw:0<=op)(h1:op<=a')(h2:op+dy t e j<=1000000000000)(au:(af t j).kind=21)(az:eS t j=d):
  Df (aZ n) r (d:Int) (((bd t j).map λq=>bo t O aT q.toNat fr f e).map (·.1)) (fu t (O j):Int) f e t.nodes t.aX (c2 t) iW lD mi jP fU st op a'=D (
   if(af t d).n<(gF t j f e:Int)then(dm (fu t (O j)) (pg 4),st,op,a')else fN ((bo t O aT (ey t d) (iO (dh t d) (((bd t j).map λq=>bo t O aT q.toNat fr f e).map (·.1))) d (gF t j f e)).1,(bo t O aT (ey t d) (iO (dh t d) (((bd t j).map λq=>bo t O aT q.toNat fr f e).map (·.1))) d (gF t j f e)).2.1,1+(bo t O aT (ey t d) (iO (dh t d) (((bd t j).map λq=>bo t O aT q.toNat fr f e).map (·.1))) d (gF t j f e)).2.2) st op a'):=by
 have ay:=aO.cZ;have ae:=hC.1;have e0:=ai.nodes;obtain⟨eQ,jb,ll,lL,x_,x'⟩:=adJ (aT:=aT) ai aO aS bx hC dE c1 au az;obtain⟨cQ,po,eI,b9,aP⟩:=hC.call ai aO aS au;have ep:d=cQ:=ew (az.symm.trans po);subst ep;obtain⟨cQ,po,_,_,tF⟩:=T9 ai ay aS ae au;have ep:d=cQ:=ew (az.symm.trans po);subst ep;obtain⟨jS,od,Nv⟩:=nP ai ay eI b9;have Ub:=DR ai ay eI b9;have h3:=ai.af ae;have M_:=ai.af eI;have fc:=c6 eI;obtain⟨bn,_,_,gS,_,iV,_⟩:=mh ai aO aS bx ae dE;have hle:=hC.iE ai aO aS;have wv:(((bd t j).map λq=>bo t O aT q.toNat fr f e).map (·.1)).length=(af t j).a3.length:=by simp[c6 ae]
 generalize (((bd t j).map λq=>bo t O aT q.toNat fr f e).map (·.1))=ls at eQ wv⊢;have key:∀z c,z=(gF t j f e:Int)->I (De (af t d) (aZ n) (fu t (O j):Int) st op a' ls r (d:Int) t.nodes t.aX (c2 t) iW lD mi jP fU (z,c)) (· =(if(af t d).n<(gF t j f e:Int)then(dm (fu t (O j)) (pg 4),st,op,a')else fN ((bo t O aT (ey t d) (iO (dh t d) ls) d (gF t j f e)).1,(bo t O aT (ey t d) (iO (dh t d) ls) d (gF t j f e)).2.1,1+(bo t O aT (ey t d) (iO (dh t d) ls) d (gF t j f e)).2.2) st op a')):=by
  intro z c bj;subst bj;unfold De;refine I.aC (λdf=>?_) λdf=>?_
  ·rw[if_pos df];grind[I.aq,Da,pg,DT,I.ret]
  ·rw[if_neg df];obtain⟨rL,Nu,_⟩:=aP df;exact I.aY (adP ai aO aS bx a_ p5 ow (r:=r) aM eI b9 rL aa eQ aa (qO.mono kE aa) bw h1 aa) rfl
 refine I.bN ?_;unfold Df;refine I.aq (cw eI) (I.aC (λh=>?_) λh=>?_)
 ·refine key _ _ ?_;unfold gF;rw[az,if_pos h,cM aa]
 simp_all[gF,if_neg]
theorem apP{v w:Nat}(aM:AM t O aT iW lD mi jP fU r K)(hC:gW t f e j)(dE:kr t j)(kU:dy t e j<=K)(c1:hj t O fr j)(kE:qO t O aT fU (dz t j).2)(bw:0<=op)(h1:op<=a')(h2:op+dy t e j<=1000000000000)
  (au:¬((af t j).kind=1\/(af t j).kind=2)/\(af t j).kind≠3/\¬(6<=(af t j).kind/\(af t j).kind<=18)/\(af t j).kind≠19/\(af t j).kind≠20) (hlen:(((bd t j).map λq=>bo t O aT q.toNat fr f e).flatMap (·.1)).length<=6400):
  Mj (af t j) (aZ n) iW t.nodes t.aX lD (j:Int) (c2 t) r f e mi jP fU (((bd t j).map λq=>bo t O aT q.toNat fr f e).map (·.1),((bd t j).map λq=>bo t O aT q.toNat fr f e).flatMap (·.1),aH (st+((1+(((bd t j).map λq=>bo t O aT q.toNat fr f e).map (·.2.1)).sum:Nat):Int)),op,max a' (op+(lA (((bd t j).map λq=>bo t O aT q.toNat fr f e).map (·.2.2)):Int)),v,w)=D (fN (bo t O aT j fr f e) st op a'):=by
 have ay:=aO.cZ;have ae:=hC.1;have cB:=va (O:=O) (aT:=aT) (fr:=fr) ai aO aS hC dE;unfold kR at cB;rw[if_neg au.1,if_neg au.2.1,if_neg au.2.2.2.2,if_neg (show ¬((af t j).kind=17\/(af t j).kind=18\/(af t j).kind=19) by omega)]at cB;dsimp only at cB;rw[cB];obtain⟨bn,_,_,gS,kY,iV,_⟩:=mh ai aO aS bx ae dE;refine I.bN ?_;unfold Mj;refine I.aC (λbp=>?_) λbp=>I.aC (λcy=>?_) λcy=>I.aC (λDY=>?_) λDY=>I.aC (λDZ=>?_) λDZ=>I.aC (λj_=>?_) λj_=>?_
 ·rw[if_pos bp];have aK:=mf ay ae aa;obtain⟨_,_,lz⟩:=DX ai aO aS bx ae aa;have k0:=mM (aT:=aT) ai aO aS bx hC dE c1 aa (i:=0) aa;have v0:=k0.nU;rw[lz 0 aa]at v0;rw[Ho ai aO aS bx ae aK];simp only[gI,oc,iX,yy,j3,eq];exact I.aq (e3 (i:=0) (v0.az (b5 _)).2) (I.aq (Uk (.inl rfl) (v0.az (b5 _)).1) (I.aq (DT _ (k:=1) aa) (I.ret rfl)))
 ·rw[if_neg bp,if_pos cy];have aK:=mf ay ae aa;obtain⟨_,_,lz⟩:=DX ai aO aS bx ae aa;have k0:=mM (aT:=aT) ai aO aS bx hC dE c1 aa (i:=0) aa;have v0:=k0.nU;rw[lz 0 aa]at v0;rw[Ho ai aO aS bx ae aK];simp only[gI,oc,iX,yy,j3,eq];exact I.aq (e3 (i:=0) (v0.az (b5 _)).2) (I.aq (Uk (.inr rfl) (v0.az (b5 _)).1) (I.aq (DT _ (k:=1) aa) (I.ret rfl)))
 ·rw[if_neg bp,if_neg cy,if_neg aa,if_neg aa,if_pos DY];obtain⟨rr,c,q,f1,f2,f3,f4,f5,f6,f7,f8⟩:=Uz ai aO aS bx ae DY;have k0:=mM (aT:=aT) ai aO aS bx hC dE c1 aa (i:=0) aa;have v0:=k0.nU;rw[f4]at v0;have mY:ei (af t (bP t j 0)).kind=ah:=by
   have nh:=pb ai ay ae (show(af t j).a3[0]? =D (bP t j 0:Int) by rw[<-c6 ae];exact k0.dx);simp_all[m_,if_neg]
  rw[f1];dsimp only;rw[f2];dsimp only;rw[Ho ai aO aS bx ae f8];simp only[gI,oc,iX,yy,j3,eq];refine I.aq k0.ph (I.aq (e3 (p5 _ k0.nj.1 mY)) (I.aq (apA ai aO aS a_ f1 f2 ⟨c,f7,f6⟩) ?_));have tT:hG (bo t O aT (bP t j 0) fr f e).1 ((lB t (af t j).bi (bd t rr) 0:Nat):Int) (aH (((lB t (af t j).bi (bd t rr) 0:Nat):Int)+((ez t (dn t q.toNat):Nat):Int)))=D (((bo t O aT (bP t j 0) fr f e).1.drop (lB t (af t j).bi (bd t rr) 0)).take (ez t (dn t q.toNat))):=by have gO:=v0.1;rw[c8 aa aa];unfold hG;rw[if_pos ⟨aa,aa,aa⟩,eq];congr 2;omega
  refine I.aq tT (I.aq (r4 dt) (I.ret rfl))
 ·rw[if_neg bp,if_neg cy,if_neg aa,if_neg aa,if_neg DY,if_pos DZ];obtain⟨k,f1,f2,f3,f4,f5,f6⟩:=adK ai aO aS bx ae DZ;have k0:=mM (aT:=aT) ai aO aS bx hC dE c1 aa (i:=0) aa;have dA:=mM (aT:=aT) ai aO aS bx hC dE c1 aa (i:=1) aa;have v0:=k0.nU;have v1:=dA.nU;rw[f1]at v0;rw[f5]at v1;have ar:ei (af t j).kind=ah:=by rw[DZ];rfl
  rw[Hm ai aO aS bx ae f6];simp only[gI,oc,eq];exact I.aq (e3 (i:=0) rfl) (I.aq (e3 (ow _ ae ar)) (I.aq (e3 (i:=1) rfl) (I.aq (e3 (i:=0) (v1.az (b5 _)).2) (I.aq (aps (by rw[v0.1];exact f2) aa (v1.az (b5 _)).1) (I.ret rfl)))))
 ·rw[if_neg bp,if_neg cy,if_neg aa,if_pos j_];have ar:ei (af t j).kind=ah:=by rw[j_];rfl
  obtain⟨d,az,eI,b9,aP⟩:=hC.call ai aO aS j_;rw[az,eq];refine I.aq (show aL (c2 t) (j:Int)=D (d:Int) by rw[wq ae,az]) (I.aq (e3 (ow _ ae ar)) (I.aq (apO ai aO aS bx a_ p5 ow (r:=r) aM hC dE kU c1 kE bw aa h2 j_ az) (I.ret ?_)));by_cases df:(af t d).n<(gF t j f e:Int)
  ·rw[if_pos df,if_pos df];rfl
  ·rw[if_neg df,if_neg df];unfold fN;dsimp only;rw[qM];generalize dw:bo t O aT (ey t d) (iO (dh t d) (ox (λx=>x.1) (ox (λq=>bo t O aT q.toNat fr f e) (bd t j)))) d (gF t j f e)=B;generalize eT:(ox (λx=>x.2.1) (ox (λq=>bo t O aT q.toNat fr f e) (bd t j))).sum=S;generalize eZ:lA (ox (λx=>x.2.2) (ox (λq=>bo t O aT q.toNat fr f e) (bd t j)))=M;have a5:(st+((1+S:Nat):Int)+(B.2.1:Int))=st+((1+S+B.2.1:Nat):Int):=by omega
   have bk:max (max a' (op+(M:Int))) (op+((1+B.2.2:Nat):Int))=max a' (op+((max M (1+B.2.2):Nat):Int)):=by omega
   rw[a5,bk]
 ·rw[if_neg bp,if_neg cy,if_neg aa,if_neg j_,if_neg DY,if_neg DZ];exact I.ret rfl
theorem apQ{F:l6}(aM:AM t O aT iW lD mi jP fU r K)(hC:gW t f e j)(dE:kr t j)(kU:dy t e j<=K)(c1:hj t O fr j)(kc:nT t F fr j)(kE:qO t O aT fU (dz t j).2)(bw:0<=op)(h1:op<=a')(h2:op+dy t e j<=1000000000000):
  Mo (aZ n) r (j:Int) F f e t.nodes t.aX (c2 t) iW lD mi jP fU st op a'=D (fN (bo t O aT j fr f e) st op a'):=by
 have ay:=aO.cZ;have ae:=hC.1;have e0:=ai.nodes;have h3:=ai.af ae;have fc:=c6 ae;have pK:=va (O:=O) (aT:=aT) (fr:=fr) ai aO aS hC dE;obtain⟨bn,_,_,gS,kY,iV,_⟩:=mh ai aO aS bx ae dE;have qj:max a' (op+((0:Nat):Int))=a':=by omega
 refine I.bN ?_;unfold Mo;refine I.aq (cw ae) (I.bC (λdA=>?_) λdA=>I.aC (λgN=>?_) λgN=>I.bC (λr1=>?_) λr1=>I.aC (λHh=>?_) λHh=>I.aC (λlC=>?_) λlC=>?_)
 ·rw[hk,decide_eq_true_eq,decide_eq_true_eq]at dA;refine I.aq (show sr (af t j).n=D (num (af t j).n)from rfl) (I.aq (DT _ (k:=1) aa) (I.ret ?_));simp_all[kR,fN,if_pos]
 ·refine I.aq (apy ai aO aS hC gN kE kc) (I.ret ?_);simp_all[kR,fN,if_neg,if_pos]
 ·rw[ea,decide_eq_true_eq,decide_eq_true_eq]at r1;obtain⟨_,hw,_⟩:=DX ai aO aS bx ae aa;have bg:=yw (aT:=aT) ai aO aS bx _ j fr f e (qI _) hC dE c1;rw[hw]at bg;refine I.aq (apJ ai aO aS bx a_ p5 ow aM hC dE kU c1 kc kE bw h1 h2 r1) (I.aq (DT _ (k:=1) aa) (I.ret ?_));unfold fN;dsimp only;rw[show dm 1 (ha (bo t O aT j fr f e).1)=(bo t O aT j fr f e).1 from bg.Hl.symm]
 ·have ar:ei (af t j).kind=ah:=by rw[Hh];rfl
  exact I.aq (e3 (ow _ ae ar)) (I.aq (apM ai aO aS bx a_ p5 ow aM hC dE kU c1 kc kE bw h1 h2 Hh) (I.ret rfl))
 ·have aK:=tH ay ae lC;have ou:=nS ai aO aS bx ae (i:=0) aa;have ep:=nS ai aO aS bx ae (i:=1) aa;obtain⟨vt,de,jr,eY,tS⟩:=hC.kb ai aO aS ou.1;have de:bP t j 0=vt:=ew de;obtain⟨mR,a5,gG,eQ,sJ⟩:=hC.kb ai aO aS ep.1;have a5:bP t j 1=mR:=ew a5;rw[<-de]at jr eY tS;rw[<-a5]at gG eQ sJ;have f0:=c1.Hi ai aO aS ae lC;have tC:dR t j=bP t j 0:=by
   obtain⟨r,bp,_⟩:=na ay ae aa;grind
  have er:=qK ai aO aS ae dE ou.1;have rL:=qK ai aO aS ae dE ep.1;have v0:=yw (aT:=aT) ai aO aS bx _ (bP t j 0) fr f e (qI _) eY er f0;have f1:=c1.Hj ai aO aS ae lC (by rw[tC];exact v0);have i0:aL (af t j).a3 0=D (bP t j 0:Int):=e3 (i:=0) cK;have i1:aL (af t j).a3 1=D (bP t j 1:Int):=e3 (i:=1) cK;have qd:=kc.len;have hle:=kc.iE;have oW:=sG ay ae ou.1;have fH:=sG ay ae ep.1;refine I.aq i1 (I.aq i0 (I.aq (aM _ fr F f e _ _ _ eY er aa f0 (kc.Hi ai aO aS ae lC) cK bw h1 aa) (I.aq (adF aa aa _ _) (I.aq (aM _ _ _ f e _ _ _ eQ rL aa f1 (kc.Hj ai aO aS ae lC) cK bw (show op<=max a' (op+((bo t O aT (bP t j 0) fr f e).2.2:Int)) by omega) (show op+(dy t e (bP t j 1):Int)<=1000000000000 by omega)) (I.ret ?_)))));rw[pK];unfold kR;rw[if_neg aa,if_neg aa,if_pos lC];unfold fN;dsimp only;generalize bo t O aT (bP t j 1) (tN fr j (bo t O aT (bP t j 0) fr f e).1) f e=B;generalize bo t O aT (bP t j 0) fr f e=A;rw[yx];grind
 ·rw[iM,decide_eq_false_iff_not,decide_eq_false_iff_not]at dA;have apR:¬(6<=(af t j).kind/\(af t j).kind<=18):=by
   simp_all
  have jO:∀x∈(bd t j).map (λq=>bo t O aT q.toNat fr f e),x.1.length<=8:=by
   intro x ar;obtain⟨q,aE,rfl⟩:=lH.1 ar;obtain⟨i,ao⟩:=fO aE;have dN:i<(af t j).a3.length:=by grind
   have k:=mM (aT:=aT) ai aO aS bx hC dE c1 lC dN;rw[k.dx]at ao;cases ao;obtain⟨_,_,_,aJ,_,cy,_⟩:=mh ai aO aS bx k.nj.1 k.ov;have:=k.nU.1;simp_all
  unfold abD;refine I.for (af t j).a3.length (λi (_:Unit)=>((((bd t j).take i).map λq=>bo t O aT q.toNat fr f e).map (·.1),(((bd t j).take i).map λq=>bo t O aT q.toNat fr f e).flatMap (·.1),(i:Int),aH (st+((1+((((bd t j).take i).map λq=>bo t O aT q.toNat fr f e).map (·.2.1)).sum:Nat):Int)),op,max a' (op+(lA ((((bd t j).take i).map λq=>bo t O aT q.toNat fr f e).map (·.2.2)):Int)),i,i)) (λ_ _=>True) (t0:=()) ?_ trivial (λi _ ao _=>?_) λ_ _=>?_
  ·show _=(_,_,_,aH (st+1),op,max a' (op+((0:Nat):Int)),_,_)
   grind
  ·have k:=mM (aT:=aT) ai aO aS bx hC dE c1 lC ao;have q3:=k.dy;have aCz:=sG ay ae k.eB;have b9:(af t j).kind≠42:=by
    intro h;rcases dE with h2|h2
    ·rw[h]at h2;cases h2
    ·omega
   obtain⟨_,_,_,Ed,_,apS,_⟩:=mh ai aO aS bx k.nj.1 k.ov;have E_:=k.nU.1;have oT:((((bd t j).take i).map λq=>bo t O aT q.toNat fr f e).flatMap (·.1)).length<=8*800:=by have aJ:=adO (l:=((bd t j).take i).map λq=>bo t O aT q.toNat fr f e) (k:=8) λx ar=>jO x (by grind);grind
   have apT:(bo t O aT (bP t j i) fr f e).1.length<=8:=by omega
   have Hp:op<=max a' (op+(lA ((((bd t j).take i).map λq=>bo t O aT q.toNat fr f e).map (·.2.2)):Int)):=by omega
   have rG:((((bd t j).take i).map λq=>bo t O aT q.toNat fr f e).map (·.1)).length<=800:=by grind
   refine I.aC (λ_=>I.aq k.ph (I.aq (aM _ fr F f e _ _ _ k.nj k.ov aa k.qP (kc.kb ai aO aS ae k.eB ⟨lC,b9⟩) cK bw Hp aa) (I.aq (jj (jC (AP rG (b5 1)) eu)) (I.aq (jj (jC (AP oT apT) eu)) (I.inl ⟨(),?_,trivial⟩))))) dv;rw[gd k.dx];simp only[lk,gI,oc,List.flatMap_append,iX,yy,j3,wC,nR,sI,eq,Nt];unfold fN;dsimp only;rw[cM aa,qM];generalize bo t O aT (bP t j i) fr f e=B;generalize (ox (λx=>x.2.1) (ox (λq=>bo t O aT q.toNat fr f e) (uB i (bd t j)))).sum=S;generalize lA (ox (λx=>x.2.2) (ox (λq=>bo t O aT q.toNat fr f e) (uB i (bd t j))))=M;have bk:st+((1+S:Nat):Int)+(B.2.1:Int)=st+((1+(S+(B.2.1+0)):Nat):Int):=by omega
   have c0:max (max a' (op+(M:Int))) (op+(B.2.2:Int))=max a' (op+((max M B.2.2:Nat):Int)):=by omega
   rw[bk,c0]
  ·refine I.aC br λ_=>I.dk ?_;rw[fz cK];refine I.aY (apP ai aO aS bx a_ p5 ow (r:=r) aM hC dE kU c1 kE bw h1 h2 ⟨aa,gN,apR,Hh,lC⟩ ?_) rfl;have aJ:=adO jO;grind
theorem UD:∀k,AM t O aT iW lD mi jP fU (Mp (aZ n) k) k:=by
 intro k;induction k with
 |zero=>intro m fr F f e st op a' _ _ h;omega
 |succ k bB=>intro m fr F f e st op a' hC dE kU c1 kc kE bw h1 h2;exact apQ ai aO aS bx a_ p5 ow bB hC dE aa c1 kc kE bw h1 h2
end
theorem Hq(a:Int):aH (aH a)=aH a:=by
 have:=qM a 0
 rwa[AN,AN]at this
abbrev nV(k:Int):Prop:=k=43\/k=44\/k=46
section
variable (t : bf) (w : List Int)
def vd(i:Nat):Int:=(af t (bP t i 0)).n
def ve(i:Nat):Int:=(af t (bP t i 1)).n
def nW(l:List Int):List Int:=l.filter λq=>decide ((af t q.toNat).kind=40)
def AQ(i:Nat):Nat:=(nW t (t.aX.takeWhile λq=>decide (q≠(i:Int)))).length
def f'(i:Nat):Int:=(w[AQ t i]?).getD 0
def tU:List Int->Nat->Bool
 |[],k=>decide (k=w.length)
 |q::oa,k=>if(af t q.toNat).kind=40 then(match w[k]? with|none=>false|some x=>decide (vd t q.toNat<=x)&&decide (x<=ve t q.toNat)&&tU oa (k+1))else tU oa k
theorem UE(q:Int)(oa:List Int)(k:Nat):tU t w (q::oa) k=if(af t q.toNat).kind=40 then(match w[k]? with|none=>false|some x=>decide (vd t q.toNat<=x)&&decide (x<=ve t q.toNat)&&tU t w oa (k+1))else tU t w oa k:=rfl
def h7(p:Nat):Bool:=tU t w (t.aX.take p) 0
end
noncomputable def mj(t:bf)(O:Nat->ByteArray)(aT:Nat->Int)(l:List Int):List sH:=l.map λq=>bo t O aT q.toNat (λ_=>[]) (-1) 0
noncomputable def mN(t:bf)(O:Nat->ByteArray)(aT:Nat->Int)(i:Nat):Nat×Nat:=
 if nV (af t i).kind then(((mj t O aT (bd t i)).map (·.2.1)).sum,lA ((mj t O aT (bd t i)).map (·.2.2)))else(0,0)
section
variable {n : Nat} {t : bf} {O : Nat -> ByteArray} {aT : Nat -> Int} {iW : List ByteArray} {lD w : List Int} {jP : Nat} {fU : List (List bt)}
theorem apU{l:List Int}(h:l.Pairwise (· < ·)){a:Nat}{q:Int}(aE:l[a]? =D q):(l.takeWhile λx=>decide (x≠q))=l.take a:=by
 induction l generalizing a with
 |nil=>simp
 |cons x l bB=>
  cases a with
  |zero=>simp_all
  |succ a=>
   have jN:l[a]? =D q:=by simp_all
   have:=(yr.1 h).1 q (cC jN);rw[List.takeWhile_cons,if_pos dt,bB (yr.1 h).2 jN];rfl
theorem UF(ay:ik t){a i:Nat}(h:t.aX[a]? =D (i:Int)):AQ t i=(nW t (t.aX.take a)).length:=by unfold AQ;rw[apU ay.fI.pP h]
theorem Nw(gG jI:List Int):nW t (gG++jI)=nW t gG++nW t jI:=by unfold nW;rw[List.filter_append]
theorem apV:∀{l:List Int}{k a i:Nat},tU t w l k=ah->l[a]? =D (i:Int)->(af t i).kind=40->∃x,w[k+(nW t (l.take a)).length]? =D x/\vd t i<=x/\x<=ve t i:=by
 intro l;induction l with
 |nil=>simp
 |cons q l bB=>
  intro k a i h aE au;rw[UE]at h;cases a with
  |zero=>
   have aE:q=(i:Int):=by simp_all
   subst aE;rw[eq,if_pos au]at h;cases e:w[k]? with
   |none=>simp_all
   |some x=>rw[e]at h;dsimp only at h;rw[ea,ea,decide_eq_true_eq,decide_eq_true_eq]at h;exact⟨x,e,h.1.1,h.1.2⟩
  |succ a=>
   have aE:l[a]? =D (i:Int):=by simp_all
   by_cases hr:(af t q.toNat).kind=40
   ·rw[if_pos hr]at h;cases e:w[k]? with
    |none=>simp_all
    |some x=>
     rw[e]at h;dsimp only at h;rw[ea]at h;obtain⟨y,h1,h2⟩:=bB h.2 aE au;refine⟨y,?_,h2⟩;rw[<-h1,EH];have:(nW t (q::l.take a)).length=(nW t (l.take a)).length+1:=by simp_all[nW,AO,if_pos]
     grind
   simp_all[if_neg,EH,nW,AO]
variable (ai : c7 t) (aO : hA t)
include ai aO
theorem UG{i:Nat}(ao:i<t.nodes.length)(h:(af t i).kind=40):(-9999<=vd t i/\ve t i<=9999)/\(af t i).a3.length=2/\aL (af t i).a3 0=D (bP t i 0:Int)/\aL (af t i).a3 1=D (bP t i 1:Int)/\bP t i 0<i/\bP t i 1<i:=by
 have ay:=aO.cZ;have aK:(af t i).a3.length=2:=by grind[rF,jB]
 have fc:=c6 ao;have key:∀a,a< 2->(af t i).a3[a]? =D (bP t i a:Int)/\bP t i a<i/\(af t (bP t i a)).kind=1:=by intro a a9;have aE:(bd t i)[a]? =D ((bd t i)[a]'cK):=cq _;obtain⟨m,e,hm⟩:=ib ay ao (cC aE);have bk:bP t i a=m:=DV (by rw[aE,e]);rw[bk];rw[e,fc]at aE;have nh:=pb ai ay ao aE;simp_all[m_,if_neg,if_pos,decide_eq_true_eq]
 obtain⟨aj,a6,dg⟩:=key 0 aa;obtain⟨jS,od,Nv⟩:=key 1 aa;have adQ:∀j,j<t.nodes.length->(af t j).kind=1-> -9999<=(af t j).n/\(af t j).n<=9999:=by intro j ae au;have h2:=((ay.o_ j _ (lS ae)).1).num;have aJ:=GF (af t j);simp_all[m8]
 exact⟨⟨(adQ _ aa dg).1,(adQ _ aa Nv).2⟩,aK,e3 (i:=0) aj,e3 (i:=1) jS,a6,od⟩
theorem apW{p:Int}(hp: -1<=p)(uE:p<=100000000):tz (aZ n) t p w=D (h7 t w (p+1).toNat)\/w.length>=1000000:=by
 by_cases kd:w.length>=1000000
 ·omega
 refine .inl (I.bN ?_);have ay:=aO.cZ;have hn:=ai.aX;unfold tz abv h7;refine I.for (min (p+1).toNat t.aX.length) (λi (k:Nat)=>((k:Int),(i:Int))) (λi k=>k<=i/\tU t w (t.aX.take (p+1).toNat) 0=tU t w ((t.aX.take (p+1).toNat).drop i) k) (t0:=0) rfl ⟨b5 _,by rw[List.drop_zero]⟩ (λi k ao bq=>?_) λk bq=>?_
 ·obtain⟨D',bq⟩:=bq;have dN:i<t.aX.length:=by omega
  obtain⟨q,aE⟩:∃q,t.aX[i]? =D q:=⟨_,cq dN⟩
  obtain⟨m,rfl,_,hm⟩:=ay.fI.eB _ (cC aE);have az:(t.aX.take (p+1).toNat).drop i=(m:Int)::(t.aX.take (p+1).toNat).drop (i+1):=Ao cK;rw[az]at bq;rw[UE]at bq;rw[eq]at bq;refine I.bC (λ_=>I.aL aE (I.aq (cw hm) (I.eh (λhr=>?_) λhr=>?_))) λh=>?_
  ·rw[if_neg hr]at bq;grind[I.inl,cM]
  ·rw[if_pos hr]at bq;obtain⟨_,no,er,rL,jr,gG⟩:=UG ai aO hm hr;refine I.aC (λkd=>I.inr ?_) λkd=>?_
   ·rw[bq,List.getElem?_eq_none aa]
   ·obtain⟨x,ar⟩:∃x,w[k]? =D x:=⟨_,cq aa⟩
    rw[ar]at bq;dsimp only at bq;refine I.aL ar (I.aq er (I.aq (cw (show bP t m 0<t.nodes.length by omega)) (I.aC (λs0=>I.inr ?_) λs0=>I.aL ar (I.aq rL (I.aq (cw (show bP t m 1<t.nodes.length by omega)) (I.aC (λul=>I.inr ?_) λul=>I.inl ⟨k+1,by rw[cM aa,cM aa],aa,?_⟩))))))
    ·grind[decide_eq_false,vd]
    ·rw[bq,decide_eq_false (show ¬x<=ve t m from by unfold ve;omega),Bool.and_false];rfl
    simp_all[decide_eq_true,vd,ve]
  grind
 ·refine I.bC (λh=>?_) λ_=>I.inr ?_
  ·grind
  ·rw[bq.2,List.drop_eq_nil_of_le fT];unfold tU;grind
variable (aS : ∀ i, i < t.nodes.length -> gv t i = 0) (bx : kO t O t.nodes.length) (a_ : 1000000 <= n) (fP : 9999999 <= n)
variable (p5 : ∀ j, j < t.nodes.length -> ei (af t j).kind = ah -> iW[j]? = D (O j)) (ow : ∀ j, j < t.nodes.length -> ei (af t j).kind = ah -> lD[j]? = D (fu t (O j) : Int))
include aS bx
theorem AR{i:Nat}(ao:i<t.nodes.length)(au:nV (af t i).kind){q:Int}(aE:q∈bd t i):∃m:Nat,q=m/\m<i/\gW t (-1) 0 m/\ei (af t m).kind=ah/\(dz t m).2=i/\hj t O (λ_=>[]) m/\nT t ⟨[],[]⟩ (λ_=>[]) m/\(bo t O aT m (λ_=>[]) (-1) 0).1.length<=8:=by
 have ay:=aO.cZ;have e0:=ai.nodes;unfold nV at au;have hn:jo (af t i).kind=ah:=by rcases au with h|h|h<;>(rw[h];rfl)
 obtain⟨m,rfl,hm,hC,aM⟩:=Nj ai aO aS ao hn aa aE;obtain⟨a,a9⟩:=fO aE;have nh:=pb ai ay ao (show(af t i).a3[a]? =D (m:Int) by rw[<-c6 ao];exact a9);unfold m_ at nh;rw[if_neg aa,if_neg aa,if_neg aa,if_neg aa,if_neg aa]at nh;have c1:=hj.gM (O:=O) ai aO ao hn aa aE (λ_=>[]);obtain⟨bn,_,_,gS,_,iV,_⟩:=mh ai aO aS bx (show m<t.nodes.length by omega) (.inl nh);have bg:=(yw (aT:=aT) ai aO aS bx _ m _ _ _ (qI _) hC (.inl nh) c1).1;exact⟨m,rfl,hm,hC,nh,aM,c1,⟨rfl,dt,λ_ _ _=>rfl⟩,aa⟩
include a_ fP p5 ow
omit ai aO aS bx a_ fP p5 ow in
theorem UH(ay:ik t){a:Nat}{i:Nat}(ao:t.aX[a]? =D (i:Int))(e:fU=(t.aX.take a).map λq=>ir t O aT q.toNat):fU.length=a/\qO t O aT fU i:=by
 have jO:a<t.aX.length:=(cz.1 ao).1;have aK:fU.length=a:=by grind
 refine⟨aK,aa,λk q aE=>⟨λau=>?_,λau=>?_⟩⟩
 ·rw[e,fv,kx,if_pos aa,aE,lV,eq]
 ·have:=(ye ay.fI.pP aE ao).1 aa;omega
theorem adR{a i:Nat}{st op a':Int}(ao:t.aX[a]? =D (i:Int))(kE:fU=(t.aX.take a).map λq=>ir t O aT q.toNat)(hw:∀d,(af t d).kind=40->(d:Int)∈t.aX.take (a+1)->w[AQ t d]? =D (aT d)/\ -9999<=aT d/\aT d<=9999)(cB:aH st=st)(bw:0<=op)(h1:op<=a')(h2:op<=100000):
  I (Gx (aZ n) t.nodes t.aX (c2 t) iW lD w jP fU st op a') λr=>r.1=(t.aX.take (a+1)).map (λq=>ir t O aT q.toNat)/\r.2.1=aH (st+((mN t O aT i).1:Int))/\r.2.2.1=op/\r.2.2.2.1=max a' (op+((mN t O aT i).2:Int)):=by
 have ay:=aO.cZ;have e0:=ai.nodes;have hn:=ai.aX;obtain⟨aK,jh⟩:=UH ay ao kE;have jO:a<t.aX.length:=(cz.1 ao).1;obtain⟨g5,e,_,g1⟩:=ay.fI.eB _ (cC ao);have e:i=g5:=ew e;subst e;have h3:=ai.af g1;have fc:=c6 g1;have apX:(t.aX.take (a+1)).map (λq=>ir t O aT q.toNat)=fU++[ir t O aT i]:=by rw[kE,gd ao,lk];rfl
 rw[apX];have Nx:∀(x:List bt)(eQ jb ll:Int) v k,x=ir t O aT i->Dh fU jP (x,eQ,jb,ll,v,k)=D (fU++[ir t O aT i],eQ,jb,ll,jP+1):=by rintro x eQ jb ll v k rfl;unfold Dh;exact I.bN (I.aq (jj (jC (AP (show fU.length<=800 by omega) (b5 1)) eu)) (I.ret rfl))
 unfold Gx;rw[aK];refine I.aL ao (I.aq (cw g1) (I.aC (λhr=>?_) λhr=>I.bC (λau=>?_) λau=>?_))
 ·obtain⟨wz,yq,Ua⟩:=hw i hr (by rw[gd ao];simp);have eT:mN t O aT i=(0,0):=by unfold mN;rw[if_neg (show ¬nV (af t i).kind by omega)]
  have qQ:ir t O aT i=[num (aT i)]:=by unfold ir mg;rw[if_pos hr,if_pos ⟨yq,Ua⟩]
  rw[eT];unfold abG;refine I.for a (λk (_:Unit)=>(((nW t (t.aX.take k)).length:Int),(k:Int))) (λ_ _=>True) (t0:=()) rfl trivial (λk _ au _=>?_) λ_ _=>?_
  ·obtain⟨q,aE⟩:∃q,t.aX[k]? =D q:=⟨_,cq aa⟩
   obtain⟨m,rfl,_,hm⟩:=ay.fI.eB _ (cC aE);have eE:(nW t (t.aX.take k)).length<=800:=by refine jC (List.length_filter_le _ _) ?_;grind
   refine I.aC (λ_=>I.aL aE (I.aq (cw hm) (I.aC (λh=>I.inl ⟨(),?_,trivial⟩) λh=>I.inl ⟨(),?_,trivial⟩))) dv
   ·rw[gd aE,Nw,ky,cM aa,cM aa];simp_all[nW,AO,if_pos]
   ·rw[gd aE,Nw,ky,cM aa];simp_all[nW,AO,if_neg]
  ·refine I.aC br λ_=>I.dk ?_;unfold SR;rw[UF ay ao]at wz;refine I.aL wz (I.aq (show sr (aT i)=D (num (aT i))from rfl) (I.aq (r4 fT) (I.aY (Nx _ _ _ _ _ _ qQ.symm) ⟨rfl,?_,rfl,?_⟩)))
   ·show st=aH (st+0);rw[AN,cB]
   grind
 ·rw[hk,hk,decide_eq_true_eq,decide_eq_true_eq,decide_eq_true_eq]at au;have lz:nV (af t i).kind:=au;have eT:mN t O aT i=(((mj t O aT (bd t i)).map (·.2.1)).sum,lA ((mj t O aT (bd t i)).map (·.2.2))):=by unfold mN;rw[if_pos lz]
  have qQ:ir t O aT i=((mj t O aT (bd t i)).map (·.1)).flatten:=by unfold ir mj;rw[if_neg aa,if_pos au,List.map_map];rfl
  rw[eT];unfold abF;have qj:max a' (op+((0:Nat):Int))=a':=by omega
  refine I.for (af t i).a3.length (λk (_:Unit)=>(((mj t O aT ((bd t i).take k)).map (·.1)).flatten,(k:Int),aH (st+((((mj t O aT ((bd t i).take k)).map (·.2.1)).sum:Nat):Int)),op,max a' (op+(lA ((mj t O aT ((bd t i).take k)).map (·.2.2)):Int)),k)) (λk _=>((mj t O aT ((bd t i).take k)).map (·.1)).flatten.length<=8*k) (t0:=()) ?_ (by simp[mj]) (λk _ nM bq=>?_) λ_ _=>?_
  ·show _=(_,_,aH (st+((0:Nat):Int)),op,max a' (op+((0:Nat):Int)),_)
   rw[qj,show st+((0:Nat):Int)=st by omega,cB];rfl
  ·obtain⟨q,aE⟩:∃q,(bd t i)[k]? =D q:=⟨_,cq cK⟩
   obtain⟨m,rfl,hm,hC,ar,aM,c1,kc,gO⟩:=AR (aT:=aT) ai aO aS bx g1 lz (cC aE);have jN:aL (af t i).a3 (k:Int)=D (m:Int):=e3 cK;have kU:=hC.dy ai aO aS;have Ar:mj t O aT ((bd t i).take (k+1))=mj t O aT ((bd t i).take k)++[bo t O aT m (λ_=>[]) (-1) 0]:=by unfold mj;rw[gd aE,lk];rfl
   have Hp:op<=max a' (op+(lA ((mj t O aT ((bd t i).take k)).map (·.2.2)):Int)):=by omega
   have apY:=UD ai aO aS bx a_ p5 ow (mi:=w) (jP:=jP) (fU:=fU) n m (λ_=>[]) ⟨[],[]⟩ (-1) 0 (aH (st+((((mj t O aT ((bd t i).take k)).map (·.2.1)).sum:Nat):Int))) op (max a' (op+(lA ((mj t O aT ((bd t i).take k)).map (·.2.2)):Int))) hC (.inl ar) aa c1 kc (by rw[aM];exact jh) bw Hp aa;refine I.aC (λ_=>I.aq jN (I.aq apY (I.aq (jj (jC (AP bq gO) aa)) (I.inl ⟨(),?_,?_⟩)))) dv
   ·rw[Ar];simp only[lk,gI,oc,List.flatten_append,List.flatten_cons,List.flatten_nil,j3,wC,nR,sI,Nt];unfold fN;dsimp only;rw[cM aa,qM];generalize bo t O aT m (λ_=>[]) (-1) 0=B;generalize (ox (λx=>x.2.1) (mj t O aT (uB k (bd t i)))).sum=S;generalize lA (ox (λx=>x.2.2) (mj t O aT (uB k (bd t i))))=M;have bk:st+(S:Int)+(B.2.1:Int)=st+((S+(B.2.1+0):Nat):Int):=by omega
    have c0:max (max a' (op+(M:Int))) (op+(B.2.2:Int))=max a' (op+((max M B.2.2:Nat):Int)):=by omega
    rw[bk,c0]
   grind
  ·refine I.aC br λ_=>I.dk ?_;simp_all[fz,b5,I.aY]
 ·rw[iM,iM,decide_eq_false_iff_not,decide_eq_false_iff_not,decide_eq_false_iff_not]at au;have eT:mN t O aT i=(0,0):=by unfold mN;rw[if_neg (show ¬nV (af t i).kind by omega)]
  have qQ:ir t O aT i=[]:=by unfold ir;rw[if_neg hr,if_neg aa]
  rw[eT];refine I.aY (Nx _ _ _ _ _ _ qQ.symm) ⟨rfl,?_,rfl,?_⟩
  ·show st=aH (st+0);rw[AN,cB]
  grind
theorem apZ{p:Nat}(hp:p<=t.aX.length)(hw:∀d,(af t d).kind=40->(d:Int)∈t.aX.take p->w[AQ t d]? =D (aT d)/\ -9999<=aT d/\aT d<=9999):
  I (v7 (aZ n) ((p:Int)- 1) t.nodes t.aX (c2 t) iW lD w jP [] 0 0 0) λr=>r.1=(t.aX.take p).map (λq=>ir t O aT q.toNat)/\aH r.2.1=r.2.1/\r.2.2.1=0/\0<=r.2.2.2.1:=by
 have ay:=aO.cZ;have hn:=ai.aX;unfold v7 abH;refine I.for p (λk (s:List (List bt)×Int×Int×Int×Nat)=>s) (λk s=>s.1=(t.aX.take k).map (λq=>ir t O aT q.toNat)/\aH s.2.1=s.2.1/\s.2.2.1=0/\0<=s.2.2.2.1) (t0:=([],0,0,0,jP)) rfl ⟨rfl,rfl,rfl,me _⟩ (λk s au bq=>?_) λs bq=>?_
 ·obtain⟨l,st,op,a',v⟩:=s;obtain⟨aK,h1,h2,aJ⟩:=bq;have h2:op=0:=h2;have aJ:0<=a':=aJ;subst h2;have rG:l.length=k:=by
   grind
  obtain⟨q,aE⟩:∃q,t.aX[k]? =D q:=⟨_,cq aa⟩
  obtain⟨m,rfl,_,hm⟩:=ay.fI.eB _ (cC aE);refine I.aC (λ_=>I.bind (adR ai aO aS bx a_ fP p5 ow aE aK (λd az hm=>hw d az ?_) h1 (me _) aJ aa) λz bj=>I.inl ⟨z,rfl,bj.1,?_,bj.2.2.1,?_⟩) dv
  ·exact(adN (show k+1<=p by omega)).subset hm
  ·rw[bj.2.1,Hq]
  omega
 ·obtain⟨l,st,op,a',v⟩:=s;have rG:l.length=p:=by
   simp_all
  exact I.aC br λ_=>I.inr bq
end
noncomputable def sK(t:bf)(O:Nat->ByteArray)(k:Nat):List Int:=(List.range k).map λi=>if ei (af t i).kind=ah then(fu t (O i):Int)else 0
noncomputable def qR(t:bf)(O:Nat->ByteArray)(w:List Int)(p:Nat):List (List bt):=(t.aX.take p).map λq=>ir t O (f' t w) q.toNat
section
variable {n : Nat} {t : bf} {O : Nat -> ByteArray} {w : List Int}
theorem Hr(ai:c7 t)(aO:hA t){p:Nat}(h:h7 t w p=ah):∀d,(af t d).kind=40->(d:Int)∈t.aX.take p->w[AQ t d]? =D (f' t w d)/\ -9999<=f' t w d/\f' t w d<=9999:=by
 intro d au hm;have ay:=aO.cZ;obtain⟨a,a9⟩:=fO hm;have u5:a<(t.aX.take p).length:=(cz.1 a9).1;rw[jf]at u5;have r7:t.aX[a]? =D (d:Int):=by grind
 obtain⟨x,h1,h2,aJ⟩:=apV h a9 au;rw[List.take_take,Nat.min_eq_left aa,Nat.zero_add,<-UF ay r7]at h1;obtain⟨m,e,_,eI⟩:=ay.fI.eB _ (cC r7);have e:d=m:=ew e;subst e;have aP:=(UG ai aO eI au).1;grind[f']
variable (ai : c7 t) (aO : hA t) (aS : ∀ i, i < t.nodes.length -> gv t i = 0) (bx : kO t O t.nodes.length) (fP : 10000000 <= n)
variable (k' : uV (aZ n) t = D (⟨c2 t⟩, 0, 0)) (lx : tx (aZ n) t = D (⟨eN t O t.nodes.length⟩, 0, 0))
include ai aO aS bx fP k' lx
theorem Hs:x6 (aZ n) t w=D (t.nodes,t.aX,c2 t,eN t O t.nodes.length,sK t O t.nodes.length,w,[],0,0,0,0):=by
 have e0:=ai.nodes;refine I.bN ?_;unfold x6;refine I.aq k' (I.aq lx ?_);unfold abw;have Nx:∀(k v:Nat)(x:Int),k<t.nodes.length->x=(if ei (af t k).kind=ah then(fu t (O k):Int)else 0)->I (Gr (sK t O k) (k:Int) v x) (ln (λs'=>∃rc:Nat,s'=(((k+1:Nat):Int),sK t O (k+1),rc)/\True) (· =(t.nodes,t.aX,c2 t,eN t O t.nodes.length,sK t O t.nodes.length,w,[],0,0,0,0))):=by
  intro k v x au ar;unfold Gr;refine I.aq (jj (by simp[sK];omega)) (I.inl ⟨v+1,?_,trivial⟩);rw[cM aa];have:sK t O (k+1)=sK t O k++[x]:=by simp_all[sK,List.range_succ,lk]
  rw[this]
 refine I.for t.nodes.length (λk (v:Nat)=>((k:Int),sK t O k,v)) (λ_ _=>True) (t0:=0) rfl trivial (λk v au _=>?_) λv _=>?_
 ·have ar:aL (eN t O t.nodes.length) (k:Int)=D (if ei (af t k).kind=ah then O k else fd):=e3 (by grind[eN,Ay]);refine I.aC (λ_=>I.aq ar (I.eh (λe5=>?_) λhe=>?_)) dv
  ·have hex:ei (af t k).kind=ah:=by
    by_cases h:ei (af t k).kind=ah
    ·exact h
    ·rw[if_neg h]at e5;exact absurd rfl e5
   rw[if_pos hex]at ar;obtain⟨bn,h1,h2,aJ,bp,cy,cY⟩:=mh ai aO aS bx au (.inl hex);obtain⟨UI,ep,fD⟩:=bx.ex k au hex;have ff:bn.bR.size< 100000:=by have:=fD.size;grind
   refine I.aq ar (I.aq (z:=(fu t (O k):Int)) ?_ (Nx k v _ au (by rw[if_pos hex])));rw[aJ,h1];exact DM ai aO aa _ n _ _ _ cY aa h2 ff
  ·have hex:¬ei (af t k).kind=ah:=by
    intro h;rw[if_pos h]at he;obtain⟨bn,h1,h2,_⟩:=mh ai aO aS bx au (.inl h);have ff:=eK.pos h2;rw[<-h1,he]at ff;exact absurd ff eu
   grind
 simp_all[I.aC,absurd,I.inr]
omit k' lx aS fP in
theorem yz:∀j,j<t.nodes.length->ei (af t j).kind=ah->(eN t O t.nodes.length)[j]? =D (O j):=λj ae au=>by unfold eN;rw[fv,Ay ae,lV,if_pos au]
omit k' lx aS fP in
theorem Ht:∀j,j<t.nodes.length->ei (af t j).kind=ah->(sK t O t.nodes.length)[j]? =D (fu t (O j):Int):=λj ae au=>by unfold sK;rw[fv,Ay ae,lV,if_pos au]
theorem Hu{p:Nat}(hp:p<=t.aX.length)(a8:∀d,(af t d).kind=40->(d:Int)∈t.aX.take p->w[AQ t d]? =D (f' t w d)/\ -9999<=f' t w d/\f' t w d<=9999){q:Int}(aE:q=(p:Int)- 1):
  I (v7 (aZ n) q t.nodes t.aX (c2 t) (eN t O t.nodes.length) (sK t O t.nodes.length) w 0 [] 0 0 0) λr=>r.1=qR t O w p/\aH r.2.1=r.2.1/\r.2.2.1=0/\0<=r.2.2.2.1:=by
 subst aE;exact apZ ai aO aS bx aa aa (yz ai aO bx) (Ht ai aO bx) hp a8
variable {a i:Nat}
theorem adS(ao:t.aX[a]? =D (i:Int))(a8:h7 t w (a+1)=ah):Gy (aZ n) t (a:Int) w=D (ir t O (f' t w) i):=by have jO:a<t.aX.length:=(cz.1 ao).1;refine I.bN ?_;unfold Gy;refine I.aq (Hs ai aO aS bx fP k' lx) (I.bind (Hu ai aO aS bx fP k' lx (p:=a+1) aa (Hr ai aO a8) aa) λz bj=>?_);rw[bj.1];refine I.aq (e3 (i:=a) (x:=ir t O (f' t w) i) ?_) (I.ret rfl);simp_all[qR,fv,kx,if_pos]
theorem ap0(ao:t.aX[a]? =D (i:Int))(a8:h7 t w (a+1)=ah){v:bt}(bg:(ir t O (f' t w) i)[0]? =D v):Gz (aZ n) t (a:Int) w=D (decide (v.fault=0)&& !decide (v.n=0)):=by unfold Gz;rw[adS ai aO aS bx fP k' lx ao a8,Option.bind_some,show(0:Int)=((0:Nat):Int)from rfl,e3 bg];rfl
theorem ap1(a8:h7 t w t.aX.length=ah):My (aZ n) t w=D (qR t O w t.aX.length):=by have hn:=ai.aX;refine I.bN ?_;unfold My;refine I.aq (Hs ai aO aS bx fP k' lx) (I.bind (Hu ai aO aS bx fP k' lx (p:=t.aX.length) (b5 _) (Hr ai aO a8) (by rw[c8 aa aa])) λz bj=>I.ret bj.1)
theorem ap2(ao:t.aX[a]? =D (i:Int))(a8:h7 t w (a+1)=ah):MA (aZ n) t (a:Int) w=D (aH ((mN t O (f' t w) i).1:Int),((mN t O (f' t w) i).2:Int)):=by have jO:a<t.aX.length:=(cz.1 ao).1;have hn:=ai.aX;have pi:=Hr ai aO a8;refine I.bN ?_;unfold MA;refine I.aq (Hs ai aO aS bx fP k' lx) (I.bind (Hu ai aO aS bx fP k' lx (p:=a) aa (λd az hm=>pi d az ((adN (Nat.le_succ a)).subset hm)) (by rw[c8 aa aa])) λz bj=>?_);obtain⟨l,st,op,a',v⟩:=z;obtain⟨h1,h2,aJ,bp⟩:=bj;have aJ:op=0:=aJ;subst aJ;refine I.bind (adR ai aO aS bx aa aa (yz ai aO bx) (Ht ai aO bx) ao h1 pi (show aH 0=0 from rfl) (me _) (me _) aa) λr aM=>I.ret ?_;simp_all
end
structure AS(n:Nat)(t:bf)(O:Nat->ByteArray):Prop where
 ok:c7 t
 wf:hA t
 ht:∀i,i<t.nodes.length->gv t i=0
 g2:kO t O t.nodes.length
 qS:10000000<=n
 adT:∃M P,j' t O t.nodes.length P/\ne t t.nodes.length M/\sn (aZ n) t=D (.inr (0,0,t.nodes,t.aX,c2 t,t.nodes.length,M,P))
def nX(t:bf)(W:List (ByteArray×Int)):Prop:=∀s c,dP W s=D c->c=(fu t s:Int)
def UJ(t:bf)(O:Nat->ByteArray)(m:Nat)(sp:oi):Prop:=∀r q,iN t (O (bP t m 0))=D r->(bd t r).find? (λq=>decide ((af t q.toNat).bi=(af t m).bi))=D q->sp=⟨((lB t (af t m).bi (bd t r) 0:Nat):Int),((ez t (dn t q.toNat):Nat):Int)⟩
def Hv(t:bf)(O:Nat->ByteArray)(S:List (Int×oi)):Prop:=∀(m:Nat) sp,dP S (m:Int)=D sp->UJ t O m sp
section
variable {n : Nat} {t : bf} {O : Nat -> ByteArray}
theorem nX.put{W:List (ByteArray×Int)}(h:nX t W){s:ByteArray}{c:Int}(aP:c=(fu t s:Int)):nX t (d_ W s c):=by
 intro s' c' dp;rw[u6]at dp;split at dp
 ·simp_all
 ·exact h s' c' dp
theorem Hv.put{S:List (Int×oi)}(h:Hv t O S){m:Nat}{sp:oi}(aV:UJ t O m sp):Hv t O (d_ S (m:Int) sp):=by
 intro m' ap3 dp;rw[u6]at dp;split at dp
 ·grind
 ·exact h m' ap3 dp
variable (bV : AS n t O)
include bV
variable {c:Nat}{bn:eK}
theorem ap4(aP:gw t t.nodes.length (2*t.nodes.length+2) bn=D c)(gO:c<=8)(au:bn.ok)(aV:bn.bR.size< 100000):Ll (aZ n) t bn.bR=D ((c:Int),0):=by
 have ai:=bV.ok;have aO:=bV.wf;have e0:=ai.nodes;have fP:=bV.qS;obtain⟨M,P,cL,eZ,wy⟩:=bV.adT;have hm:zL (aZ n) bn.bR t.nodes t.aX (c2 t) t.nodes.length M P=D ((c:Int),ah):=by
  refine TP ai aO aa (λs i aM ao=>?_) (λm hm ia=>?_) (2*t.nodes.length+2) n bn c aP aa au aV
  ·rw[eZ s];unfold u7;rw[aM];dsimp only;rw[if_pos ao]
  ·have:=cL.2 m hm;rw[if_pos hm]at this;rw[this,bV.g2.ot m hm ia]
 refine I.bN ?_;unfold Ll;refine I.aq wy ?_;simp only[Sum.elim_inr];exact I.eh (λh=>absurd trivial h) λ_=>I.aq (acL au aa (acO n bn aa au aa)) (I.bC cF λ_=>I.aq hm (I.bC cF λ_=>I.aC br λ_=>I.ret rfl))
variable {iW:List ByteArray}{L:List (Int×List bt)}{S:List (Int×oi)}{W:List (ByteArray×Int)}{eu:List Int}{a':Int}{nm:List (Int×Int)}{op st:Int}
theorem UK(aP:gw t t.nodes.length (2*t.nodes.length+2) bn=D c)(gO:c<=8)(au:bn.ok)(aV:bn.bR.size< 100000)(vf:nX t W):
  I (xY (aZ n) bn.bR t.nodes t.aX st op a' eu iW nm L W S) λz=>z.1=(fu t bn.bR:Int)/\nX t z.2:=by
 have hw:fu t bn.bR=c:=by rw[p3 au,yu aP (b5 _)]
 unfold xY;refine I.bC (λh=>?_) λh=>?_
 ·exact I.aq (ap4 bV aP gO au aV) (I.ret ⟨by rw[hw],vf.put (by rw[hw])⟩)
 ·cases e:dP W bn.bR with
  |none=>simp_all
  |some c'=>exact I.ret ⟨vf _ _ e,vf⟩
variable {j:Nat}
theorem adU(ae:j<t.nodes.length)(dE:ei (af t j).kind=ah)(vf:nX t W):
  I (xY (aZ n) (O j) t.nodes t.aX st op a' eu iW nm L W S) λz=>z.1=(fu t (O j):Int)/\nX t z.2:=by
 have e0:=bV.ok.nodes;obtain⟨bn,h1,h2,aJ,bp,cy,cY⟩:=mh bV.ok bV.wf bV.ht bV.g2 ae (.inl dE);obtain⟨UI,ep,fD⟩:=bV.g2.ex j ae dE;have ff:=fD.size;grind[UK]
theorem adV(ae:j<t.nodes.length)(dE:ei (af t j).kind=ah)(vf:nX t W)(v:bt):
  I (Ga (aZ n) (j:Int) v t.nodes t.aX st op a' eu (eN t O t.nodes.length) nm L W S) λz=>z.1=dm (fu t (O j)) v/\nX t z.2:=by
 obtain⟨bn,h1,h2,aJ,bp,cy,cY⟩:=mh bV.ok bV.wf bV.ht bV.g2 ae (.inl dE);unfold Ga;refine I.aq (e3 (yz bV.ok bV.wf bV.g2 j ae dE)) (I.bind (adU bV ae dE vf) λz bj=>?_);grind[I.aq,aph,I.ret]
theorem adW:∀(f j:Nat),j<f->j<t.nodes.length->k9 (af t j).kind=ah->
  Gb (aZ n) f (j:Int) t.nodes t.aX st op a' eu iW nm L W S=D (gf t j).bR:=by
 have ai:=bV.ok;have aO:=bV.wf;have ay:=aO.cZ;intro f;induction f with
 |zero=>omega
 |succ f bB=>
  intro j anK ae au;show Lo (aZ n) (Gb (aZ n) f) (j:Int) t.nodes t.aX st op a' eu iW nm L W S=_;rw[GU ai ay ae au];refine I.bN ?_;unfold Lo;refine I.aq (cw ae) (I.aC (λh=>I.ret (by rw[if_pos h];rfl)) λsy=>I.aC (λh=>I.ret (by rw[if_neg sy,if_pos h];rfl)) λpd=>I.aC (λh=>I.ret (by rw[if_neg sy,if_neg pd,if_pos h];rfl)) λDH=>?_);rw[if_neg sy,if_neg pd,if_neg DH];unfold k9 at au;simp only[ea,decide_eq_true_eq]at au;obtain⟨h1,h2,aJ⟩:=pc ai ay ae (.inl aa);have cY:=M5 aO ae aa;have de:aL (af t j).a3 0=D (dR t j:Int):=by rw[<-c6 ae,h1];rfl
  have ff:=(DI ai aO _ aa aJ).2;have sT:=ai.nodes;have az:Utf8.encode (IntKind.i32.wrap (aH (48+(af t j).n)))=g0 (af t j).n.toNat:=by
   have:(af t j).n=1\/(af t j).n=2\/(af t j).n=3\/(af t j).n=4\/(af t j).n=5\/(af t j).n=6:=by omega
   rcases this with h|h|h|h|h|h<;>(rw[h];decide)
  have li:(g0 (af t j).n.toNat).size=1:=rfl;have s1:((⟨#[91]⟩:ByteArray)++(gf t (dR t j)).bR).size=1+(gf t (dR t j)).bR.size:=by rw[ByteArray.size_append];rfl
  have s2:(((⟨#[91]⟩:ByteArray)++(gf t (dR t j)).bR)++⟨#[59,32]⟩).size=1+(gf t (dR t j)).bR.size+2:=by rw[ByteArray.size_append,s1];rfl
  have s6:((((⟨#[91]⟩:ByteArray)++(gf t (dR t j)).bR)++⟨#[59,32]⟩)++g0 (af t j).n.toNat).size=1+(gf t (dR t j)).bR.size+2+1:=by simp_all
  have ep:(⟨#[91]⟩:ByteArray).size=1:=rfl;have fD:(⟨#[59,32]⟩:ByteArray).size=2:=rfl;have iF:(⟨#[93]⟩:ByteArray).size=1:=rfl;rw[az];exact I.aq de (I.aq (bB _ aa aa aJ) (I.aq (sB aa) (I.aq (sB aa) (I.aq (sB aa) (I.aq (sB aa) (I.ret rfl))))))
theorem ap5 {r:Nat}{q:Int}(ae:j<t.nodes.length)(au:(af t j).kind=22)(aM:iN t (O (bP t j 0))=D r)(aE:(bd t r).find? (λq=>decide ((af t q.toNat).bi=(af t j).bi))=D q):
  Lu (aZ n) t (O (bP t j 0)) (af t j).bi=D (((lB t (af t j).bi (bd t r) 0:Nat):Int),((ez t (dn t q.toNat):Nat):Int),0):=by
 have ai:=bV.ok;have aO:=bV.wf;have ay:=aO.cZ;have e0:=ai.nodes;have fP:=bV.qS;obtain⟨M,P,cL,eZ,wy⟩:=bV.adT;obtain⟨gJ,c,fs,f1,f2,f3,f4,f5,f6,f7,f8⟩:=Uz ai aO bV.ht bV.g2 ae au;have qG:r=gJ:=Option.some.inj (aM.symm.trans f1);subst qG;obtain⟨fH,_,iS,_⟩:=oq ay aM;have h3:=ai.af fH;have fc:=c6 fH;obtain⟨i,cs,h1,_,h2,aJ,_⟩:=DK (d:=2*t.nodes.length+1) f7;rw[aM]at h1;cases h1;have eE:∀x∈bd t r,∃m:Nat,x=m/\m<t.nodes.length/\(af t m).kind=34/\(dn t m).ok/\(dn t m).bR.size<=5000/\ez t (dn t m)<=8/\gw t t.nodes.length (2*t.nodes.length+1) (dn t m)=D (ez t (dn t m)):=by
  intro x ar;obtain⟨m,rfl,hm,ia⟩:=sC ai ay fH iS ar;have wh:=sD ai aO (j:=m) aa ia;have:gw t t.nodes.length (2*t.nodes.length+1) (dn t ((m:Int)).toNat)∈cs.map D:=by grind
  obtain⟨y,bh,apB⟩:=lH.1 this;grind[eq,yu]
 have aCA:dP M (O (bP t j 0))=D (r:Int):=by rw[eZ];unfold u7;rw[aM];dsimp only;rw[if_pos fH]
 refine I.bN ?_;unfold Lu Sf;refine I.aq (z:=Sum.inr (bd t r,0,t.nodes,t.aX,c2 t,t.nodes.length,M,P)) (I.bN (I.aq wy ?_)) ?_
 ·simp only[Sum.elim_inr];simp_all[I.eh,absurd,trivial,I.bC,I.aq,af,cw,I.ret]
 simp only[Sum.elim_inr];refine I.eh (λh=>absurd trivial h) λ_=>?_;unfold aaL;have aK:(bd t r).length<=800:=by simp_all
 have key:∀(jI:List Int)(gG:List Int)(a:Nat),bd t r=gG++jI->a<=8*gG.length->jI.find? (λq=>decide ((af t q.toNat).bi=(af t j).bi))=D q->
   I (eP (λ(s:Int×Int)=>if(decide (s.2<((bd t r).length:Int)))=ah then(aL (bd t r) s.2).bind λaA=>aw (fK t.nodes.length P aA) λaN=>aw (zL (aZ n) aN.1.2 t.nodes t.aX (c2 t) t.nodes.length M P) λa0=>aw (aL t.nodes aA) λbe=>if(decide (be.bi=(af t j).bi))=ah then(D (s.1,a0.1,(0:Int))).map .inr else D (.inl ((aH (s.1+a0.1)),(aH (s.2+1))))else(D ((0:Int),(0:Int),(7:Int))).map .inr) ((a:Int),(gG.length:Int))) (· =(((lB t (af t j).bi jI a:Nat):Int),((ez t (dn t q.toNat):Nat):Int),0)):=by
  intro jI;induction jI with
  |nil=>simp
  |cons x jI bB=>
   intro gG a qn a9 sA;have hlen:gG.length<(bd t r).length:=by grind
   have ar:(bd t r)[gG.length]? =D x:=by grind
   obtain⟨m,rfl,ab,ap6,ag,ak,ap,an⟩:=eE x (cC ar);have ap7:P[m]? =D (dn t m).bR:=by have:=cL.2 m ab;rw[if_pos ab]at this;rw[this,bV.g2.ot m ab ap6]
   have hm:zL (aZ n) (dn t m).bR t.nodes t.aX (c2 t) t.nodes.length M P=D ((ez t (dn t m):Int),ah):=by
    refine TP ai aO aa (λs i aM ao=>?_) (λm hm ia=>?_) (2*t.nodes.length+1) n _ _ an aa ag aa
    ·rw[eZ s];unfold u7;rw[aM];dsimp only;rw[if_pos ao]
    ·have:=cL.2 m hm;rw[if_pos hm]at this;rw[this,bV.g2.ot m hm ia]
   rw[List.find?_cons]at sA;refine I.ij (I.aC (λ_=>I.aL ar (I.aq (k7 ap7 ab) (I.aq hm (I.aq (cw ab) (I.aC (λe=>I.inr ?_) λe=>I.inl ?_))))) dv)
   ·rw[eq,decide_eq_true e]at sA;cases sA;unfold lB;rw[eq,if_pos e]
   ·rw[eq,decide_eq_false e]at sA;unfold lB;rw[eq,if_neg e];have:=bB (gG++[(m:Int)]) (a+ez t (dn t m)) cK dt sA;rw[ky]at this;have gT:aH ((a:Int)+((ez t (dn t m):Nat):Int))=((a+ez t (dn t m):Nat):Int):=by grind[c8]
    have j2:aH ((gG.length:Int)+1)=((gG.length+[(m:Int)].length:Nat):Int):=by rw[cM aa];rfl
    grind
 exact key (bd t r) [] 0 rfl (Nat.zero_le _) aE
end
end Go.Proofs.YtgfggdcbhjhegaaGreatDoor

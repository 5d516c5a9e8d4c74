/- Lemmas. -/
import Derived.Test.YtjfgooffdmnnkaaGreatDoorWh
set_option linter.all false
set_option maxRecDepth 100000
set_option maxHeartbeats 1000000
namespace Go.Proofs.YtjfgooffdmnnkaaGreatDoor
open Go Go.Mi Go.RowKit Go.Dp
open Bool renaming and_eq_true->dn,true->ad,or_eq_false_iff->jy,or_eq_true->jq
open _root_.ByteArray renaming mk->bk,size_append->mu
open Int renaming toNat_natCast->dA,add_zero->Sm,le_refl->g_
open Int.ofNat renaming inj->fC
open List renaming mem_of_getElem?->cm,getElem?_eq_getElem->bN,getElem?_eq_some_iff->cz,map->qH,take_of_length_le->g4,map_cons->hH,map_append->hT,append_nil->iZ,map_nil->qp,length_append->hW,getElem?_map->gQ,flatMap_cons->kp,flatMap_nil->Ci,filter_cons->EQ,replicate->cC,getElem?_of_mem->hf,getElem?_range->Ez,take->x2,take_succ_cons->Jc,pairwise_cons->Cb,getElem?_take->kd,length_take->fF,sum_append->aij,sum_cons->z8,sum_nil->z9,mem_map->lz
open Nat renaming le_refl->bL,le_trans->gE,add_le_add->Sn,lt_succ_self->yL
open Option renaming some->I,map_some->nE,bind->au
def aik{l:List v3}{k:Nat}(h:∀r∈l,r.1.length<=k):(l.flatMap (·.1)).length<=k*l.length:=by
 induction l with
 |nil=>simp
 |cons a r bx=>grind[List.mem_cons_self,List.mem_cons_of_mem,hW,List.length_cons,Nat.mul_add]
section
variable {n : Nat} {t : aZ} {O : Nat -> ByteArray} {a3 : Nat -> Int} {kN : List ByteArray} {nj oA : List Int} {lR : Nat} {dc : List (List b6)} {K : Nat}
variable (aj : cH t) (aR : fZ t) (aY : ∀ i, i < t.nodes.length -> gS t i = 0) (bH : mv t O t.nodes.length) (a6 : 1000000 <= n)
variable (sx : ∀ j, j < t.nodes.length -> eV (af t j).kind = ad -> kN[j]? = I (O j)) (qG : ∀ j, j < t.nodes.length -> eV (af t j).kind = ad -> nj[j]? = I (gv t (O j) : Int))
include aj aR aY bH
variable {j:Nat}
theorem LZ(ag:j<t.nodes.length)(h:(af t j).a8.length=1):bn t j=[(bz t j 0:Int)]:=by obtain⟨a,LV⟩:=Lz (l:=bn t j) (by rw[dJ ag];exact h);have bh:=(p6 aj aR aY bH ag (i:=0) U).2;rw[LV]at bh⊢;rw[Option.some.inj bh]
include a6 sx qG
variable {d e:Nat}{bi op:Int}{r:AX}{st:Int}
theorem at2{ls:List (List b6)}(aO:EP t O a3 kN nj oA lR dc r K)(fh:d<t.nodes.length)(c7:(af t d).kind=42)(rB:hZ t d e (fD t d))(qI:ed t e (fD t d)<K)(fe:iH t O (k_ (eY t d) ls) (fD t d))(hX:(eY t d).length=ls.length)(ml:tD t O a3 dc d)(bh:0<=op)(h1:op<=bi)(h2:op+1+ed t e (fD t d)<=1000000000000):
  Xn (aM n) ls (af t d) r (d:Int) (e:Int) t.nodes t.aD (c_ t) kN nj oA lR dc st op bi (0,[],[])=I (hz ((bB t O a3 (fD t d) (k_ (eY t d) ls) d e).1,(bB t O a3 (fD t d) (k_ (eY t d) ls) d e).2.1,1+(bB t O a3 (fD t d) (k_ (eY t d) ls) d e).2.2) st op bi):=by
 have aI:=aR.dI;have fz:=aj.nodes;obtain⟨hF,gI,So⟩:=rx aj aI fh c7;have YK:=Ie aj aI fh c7;have R4:=aj.af fh;have gL:=dJ fh;have kR:=to aI fh c7;have aIE:(eY t d).length<=800:=by grind[eY,fF]
 refine D.br ?_;unfold Xn;refine D.for ls.length (λi (_:Unit)=>((i:Int),(eY t d).take i,ls.take i)) (λ_ _=>True) (t0:=()) rfl trivial (λi _ hi _=>?_) λ_ _=>?_
 ·obtain⟨p,hp⟩:∃p,(eY t d)[i]? =I p:=⟨_,bN U⟩
  obtain⟨l,aC⟩:∃l,ls[i]? =I l:=⟨_,bN hi⟩
  have at3:(af t d).a8[i]? =I p:=by grind[xa]
  refine D.ar (λ_=>D.aH at3 (D.aH aC (D.ae (aic dZ dZ _ _) (D.inl ⟨(),?_,trivial⟩)))) d_;rw[bw U,da hp,da aC]
 ·refine D.ar bt λ_=>D.bu ?_;rw[g4 (show(eY t d).length<=ls.length by omega),g4 (bL _)];have a2:az (((af t d).a8.length:Int)- 1)=(((bn t d).length- 1:Nat):Int):=by grind[b3]
  rw[a2];have bc:az (op+1)=op+1:=b3 U U;rw[bc,aie];refine D.ae (z:=(fD t d:Int)) (e7 dq) (D.ae (aO _ (k_ (eY t d) ls) ⟨eY t d,ls⟩ (d:Int) e st (op+1) (max bi (op+1)) rB (.inl So) qI fe (p7.call aj aR fh c7 U) (tD.mono ml U) U U U) (D.ret ?_));unfold hz;dsimp only;have cR:az (op+1- 1)=op:=by grind[b3]
  have go:max (max bi (op+1)) (op+1+((bB t O a3 (fD t d) (k_ (eY t d) ls) d e).2.2:Int))=max bi (op+((1+(bB t O a3 (fD t d) (k_ (eY t d) ls) d e).2.2:Nat):Int)):=by omega
  rw[cR,go]
variable {f:Int}{fr:hr}
theorem at4(aO:EP t O a3 kN nj oA lR dc r K)(hC:hZ t f e j)(eg:md t j)(pu:ed t e j<=K)(dH:iH t O fr j)(ml:tD t O a3 dc (d' t j).2)(bh:0<=op)(h1:op<=bi)(h2:op+ed t e j<=1000000000000)(ap:(af t j).kind=21)(aG:fE t j=d):
  Rg (aM n) r (d:Int) (((bn t j).map λq=>bB t O a3 q.toNat fr f e).map (·.1)) (gv t (O j):Int) f e t.nodes t.aD (c_ t) kN nj oA lR dc st op bi=I (
   if(af t d).n<(hD t j f e:Int)then(cC (gv t (O j)) (rz 4),st,op,bi)else hz ((bB t O a3 (fD t d) (k_ (eY t d) (((bn t j).map λq=>bB t O a3 q.toNat fr f e).map (·.1))) d (hD t j f e)).1,(bB t O a3 (fD t d) (k_ (eY t d) (((bn t j).map λq=>bB t O a3 q.toNat fr f e).map (·.1))) d (hD t j f e)).2.1,1+(bB t O a3 (fD t d) (k_ (eY t d) (((bn t j).map λq=>bB t O a3 q.toNat fr f e).map (·.1))) d (hD t j f e)).2.2) st op bi):=by
 have aI:=aR.dI;have ag:=hC.1;have fz:=aj.nodes;obtain⟨fe,hX,pE,oS,Sp,ail⟩:=aig (a3:=a3) aj aR aY bH hC eg dH ap aG;obtain⟨db,uL,fh,c7,ax⟩:=hC.call aj aR aY ap;have ea:d=db:=fC (aG.symm.trans uL);subst ea;obtain⟨db,uL,_,_,w3⟩:=YH aj aI aY ag ap;have ea:d=db:=fC (aG.symm.trans uL);subst ea;obtain⟨hF,gI,So⟩:=rx aj aI fh c7;have YK:=Ie aj aI fh c7;have j7:=aj.af ag;have R4:=aj.af fh;have gL:=dJ fh;obtain⟨bv,_,_,dE,_,jY,_⟩:=oz aj aR aY bH ag eg;have hle:=hC.jW aj aR aY;have z3:(((bn t j).map λq=>bB t O a3 q.toNat fr f e).map (·.1)).length=(af t j).a8.length:=by simp[dJ ag]
 generalize (((bn t j).map λq=>bB t O a3 q.toNat fr f e).map (·.1))=ls at fe z3⊢;have key:∀z c,z=(hD t j f e:Int)->D (Lb (af t d) (aM n) (gv t (O j):Int) st op bi ls r (d:Int) t.nodes t.aD (c_ t) kN nj oA lR dc (z,c)) (· =(if(af t d).n<(hD t j f e:Int)then(cC (gv t (O j)) (rz 4),st,op,bi)else hz ((bB t O a3 (fD t d) (k_ (eY t d) ls) d (hD t j f e)).1,(bB t O a3 (fD t d) (k_ (eY t d) ls) d (hD t j f e)).2.1,1+(bB t O a3 (fD t d) (k_ (eY t d) ls) d (hD t j f e)).2.2) st op bi)):=by
  intro z c aP;subst aP;unfold Lb;refine D.ar (λdL=>?_) λdL=>?_
  ·rw[if_pos dL];grind[D.ae,HC,rz,Ih,D.ret]
  ·rw[if_neg dL];obtain⟨rB,qI,_⟩:=ax dL;exact D.aX (at2 aj aR aY bH a6 sx qG (r:=r) aO fh c7 rB U fe U (tD.mono ml U) bh h1 U) rfl
 refine D.br ?_;unfold Rg;refine D.ae (b8 fh) (D.ar (λh=>?_) λh=>?_)
 ·refine key _ _ ?_;unfold hD;rw[aG,if_pos h,bw U]
 simp_all[hD,if_neg]
theorem at5{v w:Nat}(aO:EP t O a3 kN nj oA lR dc r K)(hC:hZ t f e j)(eg:md t j)(pu:ed t e j<=K)(dH:iH t O fr j)(ml:tD t O a3 dc (d' t j).2)(bh:0<=op)(h1:op<=bi)(h2:op+ed t e j<=1000000000000)
  (ap:¬((af t j).kind=1\/(af t j).kind=2)/\(af t j).kind≠3/\¬(6<=(af t j).kind/\(af t j).kind<=18)/\(af t j).kind≠19/\(af t j).kind≠20) (hlen:(((bn t j).map λq=>bB t O a3 q.toNat fr f e).flatMap (·.1)).length<=6400):
  Rh (af t j) (aM n) kN t.nodes t.aD nj (j:Int) (c_ t) r f e oA lR dc (((bn t j).map λq=>bB t O a3 q.toNat fr f e).map (·.1),((bn t j).map λq=>bB t O a3 q.toNat fr f e).flatMap (·.1),az (st+((1+(((bn t j).map λq=>bB t O a3 q.toNat fr f e).map (·.2.1)).sum:Nat):Int)),op,max bi (op+(ng (((bn t j).map λq=>bB t O a3 q.toNat fr f e).map (·.2.2)):Int)),v,w)=I (hz (bB t O a3 j fr f e) st op bi):=by
 have aI:=aR.dI;have ag:=hC.1;have cS:=yO (O:=O) (a3:=a3) (fr:=fr) aj aR aY hC eg;unfold mz at cS;rw[if_neg ap.1,if_neg ap.2.1,if_neg ap.2.2.2.2,if_neg (show ¬((af t j).kind=17\/(af t j).kind=18\/(af t j).kind=19) by omega)]at cS;dsimp only at cS;rw[cS];obtain⟨bv,_,_,dE,k3,jY,_⟩:=oz aj aR aY bH ag eg;refine D.br ?_;unfold Rh;refine D.ar (λbl=>?_) λbl=>D.ar (λbO=>?_) λbO=>D.ar (λL0=>?_) λL0=>D.ar (λL1=>?_) λL1=>D.ar (λn1=>?_) λn1=>?_
 ·rw[if_pos bl];have aC:=n2 aI ag U;obtain⟨_,_,nf⟩:=Il aj aR aY bH ag U;have k0:=oB (a3:=a3) aj aR aY bH hC eg dH U (i:=0) U;have v0:=k0.p8;rw[nf 0 U]at v0;rw[LZ aj aR aY bH ag aC];simp only[hH,qp,kp,Ci,iZ,dA];exact D.ae (e7 (i:=0) (v0.aG (bL _)).2) (D.ae (YS (.inl rfl) (v0.aG (bL _)).1) (D.ae (Ih _ (k:=1) U) (D.ret rfl)))
 ·rw[if_neg bl,if_pos bO];have aC:=n2 aI ag U;obtain⟨_,_,nf⟩:=Il aj aR aY bH ag U;have k0:=oB (a3:=a3) aj aR aY bH hC eg dH U (i:=0) U;have v0:=k0.p8;rw[nf 0 U]at v0;rw[LZ aj aR aY bH ag aC];simp only[hH,qp,kp,Ci,iZ,dA];exact D.ae (e7 (i:=0) (v0.aG (bL _)).2) (D.ae (YS (.inr rfl) (v0.aG (bL _)).1) (D.ae (Ih _ (k:=1) U) (D.ret rfl)))
 ·rw[if_neg bl,if_neg bO,if_neg U,if_neg U,if_pos L0];obtain⟨rr,c,q,f1,f2,f3,f4,f5,f6,f7,f8⟩:=Y7 aj aR aY bH ag L0;have k0:=oB (a3:=a3) aj aR aY bH hC eg dH U (i:=0) U;have v0:=k0.p8;rw[f4]at v0;have oP:eV (af t (bz t j 0)).kind=ad:=by
   have pd:=ru aj aI ag (show(af t j).a8[0]? =I (bz t j 0:Int) by rw[<-dJ ag];exact k0.at_);simp_all[o6,if_neg]
  rw[f1];dsimp only;rw[f2];dsimp only;rw[LZ aj aR aY bH ag f8];simp only[hH,qp,kp,Ci,iZ,dA];refine D.ae k0.rA (D.ae (e7 (sx _ k0.pg.1 oP)) (D.ae (atO aj aR aY a6 f1 f2 ⟨c,f7,f6⟩) ?_));have ER:iC (bB t O a3 (bz t j 0) fr f e).1 ((nh t (af t j).text (bn t rr) 0:Nat):Int) (az (((nh t (af t j).text (bn t rr) 0:Nat):Int)+((gC t (e9 t q.toNat):Nat):Int)))=I (((bB t O a3 (bz t j 0) fr f e).1.drop (nh t (af t j).text (bn t rr) 0)).take (gC t (e9 t q.toNat))):=by have g8:=v0.1;rw[b3 U U];unfold iC;rw[if_pos ⟨U,U,U⟩,dA];congr 2;omega
  refine D.ae ER (D.ae (acd dZ) (D.ret rfl))
 ·rw[if_neg bl,if_neg bO,if_neg U,if_neg U,if_neg L0,if_pos L1];obtain⟨k,f1,f2,f3,f4,f5,f6⟩:=aih aj aR aY bH ag L1;have k0:=oB (a3:=a3) aj aR aY bH hC eg dH U (i:=0) U;have bX:=oB (a3:=a3) aj aR aY bH hC eg dH U (i:=1) U;have v0:=k0.p8;have v1:=bX.p8;rw[f1]at v0;rw[f5]at v1;have ak:eV (af t j).kind=ad:=by rw[L1];rfl
  rw[LX aj aR aY bH ag f6];simp only[hH,qp,dA];exact D.ae (e7 (i:=0) rfl) (D.ae (e7 (qG _ ag ak)) (D.ae (e7 (i:=1) rfl) (D.ae (e7 (i:=0) (v1.aG (bL _)).2) (D.ae (atG (by rw[v0.1];exact f2) U (v1.aG (bL _)).1) (D.ret rfl)))))
 ·rw[if_neg bl,if_neg bO,if_neg U,if_pos n1];have ak:eV (af t j).kind=ad:=by rw[n1];rfl
  obtain⟨d,aG,fh,c7,ax⟩:=hC.call aj aR aY n1;rw[aG,dA];refine D.ae (show aH (c_ t) (j:Int)=I (d:Int) by rw[zZ ag,aG]) (D.ae (e7 (qG _ ag ak)) (D.ae (at4 aj aR aY bH a6 sx qG (r:=r) aO hC eg pu dH ml bh U h2 n1 aG) (D.ret ?_)));by_cases dL:(af t d).n<(hD t j f e:Int)
  ·rw[if_pos dL,if_pos dL];rfl
  ·rw[if_neg dL,if_neg dL];unfold hz;dsimp only;rw[tB];generalize eO:bB t O a3 (fD t d) (k_ (eY t d) (qH (λx=>x.1) (qH (λq=>bB t O a3 q.toNat fr f e) (bn t j)))) d (hD t j f e)=B;generalize fG:(qH (λx=>x.2.1) (qH (λq=>bB t O a3 q.toNat fr f e) (bn t j))).sum=S;generalize dz:ng (qH (λx=>x.2.2) (qH (λq=>bB t O a3 q.toNat fr f e) (bn t j)))=M;have a2:(st+((1+S:Nat):Int)+(B.2.1:Int))=st+((1+S+B.2.1:Nat):Int):=by omega
   have bc:max (max bi (op+(M:Int))) (op+((1+B.2.2:Nat):Int))=max bi (op+((max M (1+B.2.2):Nat):Int)):=by omega
   rw[a2,bc]
 ·rw[if_neg bl,if_neg bO,if_neg U,if_neg n1,if_neg L0,if_neg L1];exact D.ret rfl
theorem at6{F:nT}(aO:EP t O a3 kN nj oA lR dc r K)(hC:hZ t f e j)(eg:md t j)(pu:ed t e j<=K)(dH:iH t O fr j)(mX:p7 t F fr j)(ml:tD t O a3 dc (d' t j).2)(bh:0<=op)(h1:op<=bi)(h2:op+ed t e j<=1000000000000):
  Ro (aM n) r (j:Int) F f e t.nodes t.aD (c_ t) kN nj oA lR dc st op bi=I (hz (bB t O a3 j fr f e) st op bi):=by
 have aI:=aR.dI;have ag:=hC.1;have fz:=aj.nodes;have j7:=aj.af ag;have gL:=dJ ag;have r4:=yO (O:=O) (a3:=a3) (fr:=fr) aj aR aY hC eg;obtain⟨bv,_,_,dE,k3,jY,_⟩:=oz aj aR aY bH ag eg;have sW:max bi (op+((0:Nat):Int))=bi:=by omega
 refine D.br ?_;unfold Ro;refine D.ae (b8 ag) (D.bK (λbX=>?_) λbX=>D.ar (λdQ=>?_) λdQ=>D.bK (λpw=>?_) λpw=>D.ar (λLR=>?_) λLR=>D.ar (λni=>?_) λni=>?_)
 ·rw[jq,decide_eq_true_eq,decide_eq_true_eq]at bX;refine D.ae (show vL (af t j).n=I (num (af t j).n)from rfl) (D.ae (Ih _ (k:=1) U) (D.ret ?_));simp_all[mz,hz,if_pos]
 ·refine D.ae (atM aj aR aY hC dQ ml mX) (D.ret ?_);simp_all[mz,hz,if_neg,if_pos]
 ·rw[dn,decide_eq_true_eq,decide_eq_true_eq]at pw;obtain⟨_,hw,_⟩:=Il aj aR aY bH ag U;have bp:=EN (a3:=a3) aj aR aY bH _ j fr f e (yL _) hC eg dH;rw[hw]at bp;refine D.ae (atY aj aR aY bH a6 sx qG aO hC eg pu dH mX ml bh h1 h2 pw) (D.ae (Ih _ (k:=1) U) (D.ret ?_));unfold hz;dsimp only;rw[show cC 1 (ij (bB t O a3 j fr f e).1)=(bB t O a3 j fr f e).1 from bp.LW.symm]
 ·have ak:eV (af t j).kind=ad:=by rw[LR];rfl
  exact D.ae (e7 (qG _ ag ak)) (D.ae (at1 aj aR aY bH a6 sx qG aO hC eg pu dH mX ml bh h1 h2 LR) (D.ret rfl))
 ·have aC:=w7 aI ag ni;have lu:=p6 aj aR aY bH ag (i:=0) U;have ea:=p6 aj aR aY bH ag (i:=1) U;obtain⟨y9,dg,h0,fS,xj⟩:=hC.lQ aj aR aY lu.1;have dg:bz t j 0=y9:=fC dg;obtain⟨nG,a2,fW,fe,v4⟩:=hC.lQ aj aR aY ea.1;have a2:bz t j 1=nG:=fC a2;rw[<-dg]at h0 fS xj;rw[<-a2]at fW fe v4;have f0:=dH.LS aj aR aY ag ni;have uy:eL t j=bz t j 0:=by
   obtain⟨r,bl,_⟩:=o7 aI ag U;grind
  have fc:=tz aj aR aY ag eg lu.1;have rB:=tz aj aR aY ag eg ea.1;have v0:=EN (a3:=a3) aj aR aY bH _ (bz t j 0) fr f e (yL _) fS fc f0;have f1:=dH.LU aj aR aY ag ni (by rw[uy];exact v0);have i0:aH (af t j).a8 0=I (bz t j 0:Int):=e7 (i:=0) dq;have i1:aH (af t j).a8 1=I (bz t j 1:Int):=e7 (i:=1) dq;have sO:=mX.len;have hle:=mX.jW;have pJ:=vY aI ag lu.1;have gR:=vY aI ag ea.1;refine D.ae i1 (D.ae i0 (D.ae (aO _ fr F f e _ _ _ fS fc U f0 (mX.LS aj aR aY ag ni) dq bh h1 U) (D.ae (aic U U _ _) (D.ae (aO _ _ _ f e _ _ _ fe rB U f1 (mX.LU aj aR aY ag ni) dq bh (show op<=max bi (op+((bB t O a3 (bz t j 0) fr f e).2.2:Int)) by omega) (show op+(ed t e (bz t j 1):Int)<=1000000000000 by omega)) (D.ret ?_)))));rw[r4];unfold mz;rw[if_neg U,if_neg U,if_pos ni];unfold hz;dsimp only;generalize bB t O a3 (bz t j 1) (xe fr j (bB t O a3 (bz t j 0) fr f e).1) f e=B;generalize bB t O a3 (bz t j 0) fr f e=A;rw[Ch];grind
 ·rw[jy,decide_eq_false_iff_not,decide_eq_false_iff_not]at bX;have at7:¬(6<=(af t j).kind/\(af t j).kind<=18):=by
   simp_all
  have hd:∀x∈(bn t j).map (λq=>bB t O a3 q.toNat fr f e),x.1.length<=8:=by
   intro x ak;obtain⟨q,aB,rfl⟩:=lz.1 ak;obtain⟨i,hi⟩:=hf aB;have c4:i<(af t j).a8.length:=by grind
   have k:=oB (a3:=a3) aj aR aY bH hC eg dH ni c4;rw[k.at_]at hi;cases hi;obtain⟨_,_,_,ay,_,bO,_⟩:=oz aj aR aY bH k.pg.1 k.qF;have:=k.p8.1;simp_all
  unfold age;refine D.for (af t j).a8.length (λi (_:Unit)=>((((bn t j).take i).map λq=>bB t O a3 q.toNat fr f e).map (·.1),(((bn t j).take i).map λq=>bB t O a3 q.toNat fr f e).flatMap (·.1),(i:Int),az (st+((1+((((bn t j).take i).map λq=>bB t O a3 q.toNat fr f e).map (·.2.1)).sum:Nat):Int)),op,max bi (op+(ng ((((bn t j).take i).map λq=>bB t O a3 q.toNat fr f e).map (·.2.2)):Int)),i,i)) (λ_ _=>True) (t0:=()) ?_ trivial (λi _ hi _=>?_) λ_ _=>?_
  ·show _=(_,_,_,az (st+1),op,max bi (op+((0:Nat):Int)),_,_)
   grind
  ·have k:=oB (a3:=a3) aj aR aY bH hC eg dH ni hi;have t_:=k.ed;have aIF:=vY aI ag k.fw;have c7:(af t j).kind≠42:=by
    intro h;rcases eg with h2|h2
    ·rw[h]at h2;cases h2
    ·omega
   obtain⟨_,_,_,rO,_,at8,_⟩:=oz aj aR aY bH k.pg.1 k.qF;have JE:=k.p8.1;have q_:((((bn t j).take i).map λq=>bB t O a3 q.toNat fr f e).flatMap (·.1)).length<=8*800:=by have ay:=aik (l:=((bn t j).take i).map λq=>bB t O a3 q.toNat fr f e) (k:=8) λx ak=>hd x (by grind);grind
   have at9:(bB t O a3 (bz t j i) fr f e).1.length<=8:=by omega
   have L2:op<=max bi (op+(ng ((((bn t j).take i).map λq=>bB t O a3 q.toNat fr f e).map (·.2.2)):Int)):=by omega
   have p1:((((bn t j).take i).map λq=>bB t O a3 q.toNat fr f e).map (·.1)).length<=800:=by grind
   refine D.ar (λ_=>D.ae k.rA (D.ae (aO _ fr F f e _ _ _ k.pg k.qF U k.tE (mX.lQ aj aR aY ag k.fw ⟨ni,c7⟩) dq bh L2 U) (D.ae (eX (gE (Sn p1 (bL 1)) ci)) (D.ae (eX (gE (Sn q_ at9) ci)) (D.inl ⟨(),?_,trivial⟩))))) d_;rw[da k.at_];simp only[hT,hH,qp,List.flatMap_append,kp,Ci,iZ,aij,z8,z9,dA,Sl];unfold hz;dsimp only;rw[bw U,tB];generalize bB t O a3 (bz t j i) fr f e=B;generalize (qH (λx=>x.2.1) (qH (λq=>bB t O a3 q.toNat fr f e) (x2 i (bn t j)))).sum=S;generalize ng (qH (λx=>x.2.2) (qH (λq=>bB t O a3 q.toNat fr f e) (x2 i (bn t j))))=M;have bc:st+((1+S:Nat):Int)+(B.2.1:Int)=st+((1+(S+(B.2.1+0)):Nat):Int):=by omega
   have cR:max (max bi (op+(M:Int))) (op+(B.2.2:Int))=max bi (op+((max M B.2.2:Nat):Int)):=by omega
   rw[bc,cR]
  ·refine D.ar bt λ_=>D.bu ?_;rw[g4 dq];refine D.aX (at5 aj aR aY bH a6 sx qG (r:=r) aO hC eg pu dH ml bh h1 h2 ⟨U,dQ,at7,LR,ni⟩ ?_) rfl;have ay:=aik hd;grind
theorem aua:∀k,EP t O a3 kN nj oA lR dc (Rp (aM n) k) k:=by
 intro k;induction k with
 |zero=>intro m fr F f e st op bi _ _ h;omega
 |succ k bx=>intro m fr F f e st op bi hC eg pu dH mX ml bh h1 h2;exact at6 aj aR aY bH a6 sx qG bx hC eg U dH mX ml bh h1 h2
end
theorem Sq(a:Int):az (az a)=az a:=by
 have:=tB a 0
 rwa[Sm,Sm]at this
abbrev xk(k:Int):Prop:=k=43\/k=44\/k=46
section
variable (t : aZ) (w : List Int)
def ez(i:Nat):Int:=(af t (bz t i 0)).n
def eD(i:Nat):Int:=(af t (bz t i 1)).n
def p9(l:List Int):List Int:=l.filter λq=>decide ((af t q.toNat).kind=40)
def ES(i:Nat):Nat:=(p9 t (t.aD.takeWhile λq=>decide (q≠(i:Int)))).length
def k'(i:Nat):Int:=(w[ES t i]?).getD 0
def nk:List Int->Nat->Bool
 |[],k=>decide (k=w.length)
 |q::ql,k=>if(af t q.toNat).kind=40 then(match w[k]? with|none=>false|some x=>decide (ez t q.toNat<=x)&&decide (x<=eD t q.toNat)&&nk ql (k+1))else nk ql k
theorem ET(q:Int)(ql:List Int)(k:Nat):nk t w (q::ql) k=if(af t q.toNat).kind=40 then(match w[k]? with|none=>false|some x=>decide (ez t q.toNat<=x)&&decide (x<=eD t q.toNat)&&nk t w ql (k+1))else nk t w ql k:=rfl
def jX(p:Nat):Bool:=nk t w (t.aD.take p) 0
end
noncomputable def n5(t:aZ)(O:Nat->ByteArray)(a3:Nat->Int)(l:List Int):List v3:=l.map λq=>bB t O a3 q.toNat (λ_=>[]) (-1) 0
noncomputable def rC(t:aZ)(O:Nat->ByteArray)(a3:Nat->Int)(i:Nat):Nat×Nat:=
 if xk (af t i).kind then(((n5 t O a3 (bn t i)).map (·.2.1)).sum,ng ((n5 t O a3 (bn t i)).map (·.2.2)))else(0,0)
section
variable {n : Nat} {t : aZ} {O : Nat -> ByteArray} {a3 : Nat -> Int} {kN : List ByteArray} {nj w : List Int} {lR : Nat} {dc : List (List b6)}
theorem aub{l:List Int}(h:l.Pairwise (· < ·)){a:Nat}{q:Int}(aB:l[a]? =I q):(l.takeWhile λx=>decide (x≠q))=l.take a:=by
 induction l generalizing a with
 |nil=>simp
 |cons x l bx=>
  cases a with
  |zero=>simp_all
  |succ a=>
   have lr:l[a]? =I q:=by simp_all
   have:=(Cb.1 h).1 q (cm lr);rw[List.takeWhile_cons,if_pos dZ,bx (Cb.1 h).2 lr];rfl
theorem Y_(aI:dD t){a i:Nat}(h:t.aD[a]? =I (i:Int)):ES t i=(p9 t (t.aD.take a)).length:=by unfold ES;rw[aub aI.ht.r8 h]
theorem Sr(fW jj:List Int):p9 t (fW++jj)=p9 t fW++p9 t jj:=by unfold p9;rw[List.filter_append]
def auc:∀{l:List Int}{k a i:Nat},nk t w l k=ad->l[a]? =I (i:Int)->(af t i).kind=40->∃x,w[k+(p9 t (l.take a)).length]? =I x/\ez t i<=x/\x<=eD t i:=by
 intro l;induction l with
 |nil=>simp
 |cons q l bx=>
  intro k a i h aB ap;rw[ET]at h;cases a with
  |zero=>
   have aB:q=(i:Int):=by simp_all
   subst aB;rw[dA,if_pos ap]at h;cases e:w[k]? with
   |none=>simp_all
   |some x=>rw[e]at h;dsimp only at h;rw[dn,dn,decide_eq_true_eq,decide_eq_true_eq]at h;exact⟨x,e,h.1.1,h.1.2⟩
  |succ a=>
   have aB:l[a]? =I (i:Int):=by simp_all
   by_cases dm:(af t q.toNat).kind=40
   ·rw[if_pos dm]at h;cases e:w[k]? with
    |none=>simp_all
    |some x=>
     rw[e]at h;dsimp only at h;rw[dn]at h;obtain⟨y,h1,h2⟩:=bx h.2 aB ap;refine⟨y,?_,h2⟩;rw[<-h1,Jc];have:(p9 t (q::l.take a)).length=(p9 t (l.take a)).length+1:=by simp_all[p9,EQ,if_pos]
     grind
   simp_all[if_neg,Jc,p9,EQ]
variable (aj : cH t) (aR : fZ t)
include aj aR
theorem oC{i:Nat}(hi:i<t.nodes.length)(h:(af t i).kind=40):(-9999<=ez t i/\eD t i<=9999)/\(af t i).a8.length=2/\aH (af t i).a8 0=I (bz t i 0:Int)/\aH (af t i).a8 1=I (bz t i 1:Int)/\bz t i 0<i/\bz t i 1<i:=by
 have aI:=aR.dI;have aC:(af t i).a8.length=2:=by grind[uE,k7]
 have gL:=dJ hi;have key:∀a,a< 2->(af t i).a8[a]? =I (bz t i a:Int)/\bz t i a<i/\(af t (bz t i a)).kind=1:=by intro a a4;have aB:(bn t i)[a]? =I ((bn t i)[a]'dq):=bN _;obtain⟨m,e,hm⟩:=jz aI hi (cm aB);have bc:bz t i a=m:=Ij (by rw[aB,e]);rw[bc];rw[e,gL]at aB;have pd:=ru aj aI hi aB;simp_all[o6,if_neg,if_pos,decide_eq_true_eq]
 obtain⟨an,a',dr⟩:=key 0 U;obtain⟨hF,gI,So⟩:=key 1 U;have aim:∀j,j<t.nodes.length->(af t j).kind=1-> -9999<=(af t j).n/\(af t j).n<=9999:=by intro j ag ap;have h2:=((aI.qy j _ (k9 ag)).1).num;have ay:=Le (af t j);simp_all[oZ]
 exact⟨⟨(aim _ U dr).1,(aim _ U So).2⟩,aC,e7 (i:=0) an,e7 (i:=1) hF,a',gI⟩
variable (aY : ∀ i, i < t.nodes.length -> gS t i = 0) (bH : mv t O t.nodes.length) (a6 : 1000000 <= n) (kg : 9999999 <= n)
variable (sx : ∀ j, j < t.nodes.length -> eV (af t j).kind = ad -> kN[j]? = I (O j)) (qG : ∀ j, j < t.nodes.length -> eV (af t j).kind = ad -> nj[j]? = I (gv t (O j) : Int))
include aY bH
theorem Y'{i:Nat}(hi:i<t.nodes.length)(ap:xk (af t i).kind){q:Int}(aB:q∈bn t i):∃m:Nat,q=m/\m<i/\hZ t (-1) 0 m/\eV (af t m).kind=ad/\(d' t m).2=i/\iH t O (λ_=>[]) m/\p7 t ⟨[],[]⟩ (λ_=>[]) m/\(bB t O a3 m (λ_=>[]) (-1) 0).1.length<=8:=by
 have aI:=aR.dI;have fz:=aj.nodes;unfold xk at ap;have ey:kT (af t i).kind=ad:=by rcases ap with h|h|h<;>(rw[h];rfl)
 obtain⟨m,rfl,hm,hC,aO⟩:=Sc aj aR aY hi ey U aB;obtain⟨a,a4⟩:=hf aB;have pd:=ru aj aI hi (show(af t i).a8[a]? =I (m:Int) by rw[<-dJ hi];exact a4);unfold o6 at pd;rw[if_neg U,if_neg U,if_neg U,if_neg U,if_neg U]at pd;have dH:=iH.kk (O:=O) aj aR hi ey U aB (λ_=>[]);obtain⟨bv,_,_,dE,_,jY,_⟩:=oz aj aR aY bH (show m<t.nodes.length by omega) (.inl pd);have bp:=(EN (a3:=a3) aj aR aY bH _ m _ _ _ (yL _) hC (.inl pd) dH).1;exact⟨m,rfl,hm,hC,pd,aO,dH,⟨rfl,dZ,λ_ _ _=>rfl⟩,U⟩
include a6 kg sx qG
omit aj aR aY bH a6 kg sx qG in
theorem aud(aI:dD t){a:Nat}{i:Nat}(hi:t.aD[a]? =I (i:Int))(e:dc=(t.aD.take a).map λq=>kM t O a3 q.toNat):dc.length=a/\tD t O a3 dc i:=by
 have hd:a<t.aD.length:=(cz.1 hi).1;have aC:dc.length=a:=by grind
 refine⟨aC,U,λk q aB=>⟨λap=>?_,λap=>?_⟩⟩
 ·rw[e,gQ,kd,if_pos U,aB,nE,dA]
 ·have:=(B1 aI.ht.r8 aB hi).1 U;omega
theorem aue{a i:Nat}{st op bi:Int}(hi:t.aD[a]? =I (i:Int))(ml:dc=(t.aD.take a).map λq=>kM t O a3 q.toNat)(hw:∀d,(af t d).kind=40->(d:Int)∈t.aD.take (a+1)->w[ES t d]? =I (a3 d)/\ -9999<=a3 d/\a3 d<=9999)(cS:az st=st)(bh:0<=op)(h1:op<=bi)(h2:op<=100000):
  D (Rv (aM n) t.nodes t.aD (c_ t) kN nj w lR dc st op bi) λr=>r.1=(t.aD.take (a+1)).map (λq=>kM t O a3 q.toNat)/\r.2.1=az (st+((rC t O a3 i).1:Int))/\r.2.2.1=op/\r.2.2.2.1=max bi (op+((rC t O a3 i).2:Int)):=by
 have aI:=aR.dI;have fz:=aj.nodes;have ey:=aj.aD;obtain⟨aC,kQ⟩:=aud aI hi ml;have hd:a<t.aD.length:=(cz.1 hi).1;obtain⟨jH,e,_,n3⟩:=aI.ht.fw _ (cm hi);have e:i=jH:=fC e;subst e;have j7:=aj.af n3;have gL:=dJ n3;have auf:(t.aD.take (a+1)).map (λq=>kM t O a3 q.toNat)=dc++[kM t O a3 i]:=by rw[ml,da hi,hT];rfl
 rw[auf];have Ss:∀(x:List b6)(fe hX pE:Int) v k,x=kM t O a3 i->HG dc lR (x,fe,hX,pE,v,k)=I (dc++[kM t O a3 i],fe,hX,pE,lR+1):=by rintro x fe hX pE v k rfl;unfold HG;exact D.br (D.ae (eX (gE (Sn (show dc.length<=800 by omega) (bL 1)) ci)) (D.ret rfl))
 unfold Rv;rw[aC];refine D.aH hi (D.ae (b8 n3) (D.ar (λdm=>?_) λdm=>D.bK (λap=>?_) λap=>?_))
 ·obtain⟨vZ,yM,R'⟩:=hw i dm (by rw[da hi];simp);have fG:rC t O a3 i=(0,0):=by unfold rC;rw[if_neg (show ¬xk (af t i).kind by omega)]
  have rD:kM t O a3 i=[num (a3 i)]:=by unfold kM n4;rw[if_pos dm,if_pos ⟨yM,R'⟩]
  rw[fG];unfold agj;refine D.for a (λk (_:Unit)=>(((p9 t (t.aD.take k)).length:Int),(k:Int))) (λ_ _=>True) (t0:=()) rfl trivial (λk _ ap _=>?_) λ_ _=>?_
  ·obtain⟨q,aB⟩:∃q,t.aD[k]? =I q:=⟨_,bN U⟩
   obtain⟨m,rfl,_,hm⟩:=aI.ht.fw _ (cm aB);have dy:(p9 t (t.aD.take k)).length<=800:=by refine gE (List.length_filter_le _ _) ?_;grind
   refine D.ar (λ_=>D.aH aB (D.ae (b8 hm) (D.ar (λh=>D.inl ⟨(),?_,trivial⟩) λh=>D.inl ⟨(),?_,trivial⟩))) d_
   ·rw[da aB,Sr,hW,bw U,bw U];simp_all[p9,EQ,if_pos]
   ·rw[da aB,Sr,hW,bw U];simp_all[p9,EQ,if_neg]
  ·refine D.ar bt λ_=>D.bu ?_;unfold Xq;rw[Y_ aI hi]at vZ;refine D.aH vZ (D.ae (show vL (a3 i)=I (num (a3 i))from rfl) (D.ae (acd cW) (D.aX (Ss _ _ _ _ _ _ rD.symm) ⟨rfl,?_,rfl,?_⟩)))
   ·show st=az (st+0);rw[Sm,cS]
   grind
 ·rw[jq,jq,decide_eq_true_eq,decide_eq_true_eq,decide_eq_true_eq]at ap;have nf:xk (af t i).kind:=ap;have fG:rC t O a3 i=(((n5 t O a3 (bn t i)).map (·.2.1)).sum,ng ((n5 t O a3 (bn t i)).map (·.2.2))):=by unfold rC;rw[if_pos nf]
  have rD:kM t O a3 i=((n5 t O a3 (bn t i)).map (·.1)).flatten:=by unfold kM n5;rw[if_neg U,if_pos ap,List.map_map];rfl
  rw[fG];unfold agi;have sW:max bi (op+((0:Nat):Int))=bi:=by omega
  refine D.for (af t i).a8.length (λk (_:Unit)=>(((n5 t O a3 ((bn t i).take k)).map (·.1)).flatten,(k:Int),az (st+((((n5 t O a3 ((bn t i).take k)).map (·.2.1)).sum:Nat):Int)),op,max bi (op+(ng ((n5 t O a3 ((bn t i).take k)).map (·.2.2)):Int)),k)) (λk _=>((n5 t O a3 ((bn t i).take k)).map (·.1)).flatten.length<=8*k) (t0:=()) ?_ (by simp[n5]) (λk _ pZ a7=>?_) λ_ _=>?_
  ·show _=(_,_,az (st+((0:Nat):Int)),op,max bi (op+((0:Nat):Int)),_)
   rw[sW,show st+((0:Nat):Int)=st by omega,cS];rfl
  ·obtain⟨q,aB⟩:∃q,(bn t i)[k]? =I q:=⟨_,bN dq⟩
   obtain⟨m,rfl,hm,hC,ak,aO,dH,mX,g8⟩:=Y' (a3:=a3) aj aR aY bH n3 nf (cm aB);have lr:aH (af t i).a8 (k:Int)=I (m:Int):=e7 dq;have pu:=hC.ed aj aR aY;have Er:n5 t O a3 ((bn t i).take (k+1))=n5 t O a3 ((bn t i).take k)++[bB t O a3 m (λ_=>[]) (-1) 0]:=by unfold n5;rw[da aB,hT];rfl
   have L2:op<=max bi (op+(ng ((n5 t O a3 ((bn t i).take k)).map (·.2.2)):Int)):=by omega
   have aug:=aua aj aR aY bH a6 sx qG (oA:=w) (lR:=lR) (dc:=dc) n m (λ_=>[]) ⟨[],[]⟩ (-1) 0 (az (st+((((n5 t O a3 ((bn t i).take k)).map (·.2.1)).sum:Nat):Int))) op (max bi (op+(ng ((n5 t O a3 ((bn t i).take k)).map (·.2.2)):Int))) hC (.inl ak) U dH mX (by rw[aO];exact kQ) bh L2 U;refine D.ar (λ_=>D.ae lr (D.ae aug (D.ae (eX (gE (Sn a7 g8) U)) (D.inl ⟨(),?_,?_⟩)))) d_
   ·rw[Er];simp only[hT,hH,qp,List.flatten_append,List.flatten_cons,List.flatten_nil,iZ,aij,z8,z9,Sl];unfold hz;dsimp only;rw[bw U,tB];generalize bB t O a3 m (λ_=>[]) (-1) 0=B;generalize (qH (λx=>x.2.1) (n5 t O a3 (x2 k (bn t i)))).sum=S;generalize ng (qH (λx=>x.2.2) (n5 t O a3 (x2 k (bn t i))))=M;have bc:st+(S:Int)+(B.2.1:Int)=st+((S+(B.2.1+0):Nat):Int):=by omega
    have cR:max (max bi (op+(M:Int))) (op+(B.2.2:Int))=max bi (op+((max M B.2.2:Nat):Int)):=by omega
    rw[bc,cR]
   grind
  ·refine D.ar bt λ_=>D.bu ?_;simp_all[g4,bL,D.aX]
 ·rw[jy,jy,decide_eq_false_iff_not,decide_eq_false_iff_not,decide_eq_false_iff_not]at ap;have fG:rC t O a3 i=(0,0):=by unfold rC;rw[if_neg (show ¬xk (af t i).kind by omega)]
  have rD:kM t O a3 i=[]:=by unfold kM;rw[if_neg dm,if_neg U]
  rw[fG];refine D.aX (Ss _ _ _ _ _ _ rD.symm) ⟨rfl,?_,rfl,?_⟩
  ·show st=az (st+0);rw[Sm,cS]
  grind
theorem auh{p:Nat}(hp:p<=t.aD.length)(hw:∀d,(af t d).kind=40->(d:Int)∈t.aD.take p->w[ES t d]? =I (a3 d)/\ -9999<=a3 d/\a3 d<=9999):
  D (Lc (aM n) ((p:Int)- 1) t.nodes t.aD (c_ t) kN nj w lR [] 0 0 0) λr=>r.1=(t.aD.take p).map (λq=>kM t O a3 q.toNat)/\az r.2.1=r.2.1/\r.2.2.1=0/\0<=r.2.2.2.1:=by
 have aI:=aR.dI;have ey:=aj.aD;unfold Lc agk;refine D.for p (λk (s:List (List b6)×Int×Int×Int×Nat)=>s) (λk s=>s.1=(t.aD.take k).map (λq=>kM t O a3 q.toNat)/\az s.2.1=s.2.1/\s.2.2.1=0/\0<=s.2.2.2.1) (t0:=([],0,0,0,lR)) rfl ⟨rfl,rfl,rfl,g_ _⟩ (λk s ap a7=>?_) λs a7=>?_
 ·obtain⟨l,st,op,bi,v⟩:=s;obtain⟨aC,h1,h2,ay⟩:=a7;have h2:op=0:=h2;have ay:0<=bi:=ay;subst h2;have p1:l.length=k:=by
   grind
  obtain⟨q,aB⟩:∃q,t.aD[k]? =I q:=⟨_,bN U⟩
  obtain⟨m,rfl,_,hm⟩:=aI.ht.fw _ (cm aB);refine D.ar (λ_=>D.bind (aue aj aR aY bH a6 kg sx qG aB aC (λd aG hm=>hw d aG ?_) h1 (g_ _) ay U) λz aP=>D.inl ⟨z,rfl,aP.1,?_,aP.2.2.1,?_⟩) d_
  ·exact(List.take_sublist_take_left (show k+1<=p by omega)).subset hm
  ·rw[aP.2.1,Sq]
  omega
 ·obtain⟨l,st,op,bi,v⟩:=s;have p1:l.length=p:=by
   simp_all
  exact D.ar bt λ_=>D.inr a7
end
noncomputable def v5(t:aZ)(O:Nat->ByteArray)(k:Nat):List Int:=(List.range k).map λi=>if eV (af t i).kind=ad then(gv t (O i):Int)else 0
noncomputable def ain(t:aZ)(O:Nat->ByteArray)(w:List Int)(p:Nat):List (List b6):=(t.aD.take p).map λq=>kM t O (k' t w) q.toNat
section
variable {n : Nat} {t : aZ} {O : Nat -> ByteArray} {w : List Int}
def aui(aj:cH t)(aR:fZ t){p:Nat}(h:jX t w p=ad):∀d,(af t d).kind=40->(d:Int)∈t.aD.take p->w[ES t d]? =I (k' t w d)/\ -9999<=k' t w d/\k' t w d<=9999:=by
 intro d ap hm;have aI:=aR.dI;obtain⟨a,a4⟩:=hf hm;have uG:a<(t.aD.take p).length:=(cz.1 a4).1;rw[fF]at uG;have nR:t.aD[a]? =I (d:Int):=by grind
 obtain⟨x,h1,h2,ay⟩:=auc h a4 ap;rw[List.take_take,Nat.min_eq_left U,Nat.zero_add,<-Y_ aI nR]at h1;obtain⟨m,e,_,fh⟩:=aI.ht.fw _ (cm nR);have e:d=m:=fC e;subst e;have ax:=(oC aj aR fh ap).1;grind[k']
variable (aj : cH t) (aR : fZ t) (aY : ∀ i, i < t.nodes.length -> gS t i = 0) (bH : mv t O t.nodes.length) (kg : 10000000 <= n)
variable (pf : yk (aM n) t = I (⟨c_ t⟩, 0, 0)) (p5 : wS (aM n) t = I (⟨fQ t O t.nodes.length⟩, 0, 0))
include aj aR aY bH kg pf p5
theorem auj:Q_ (aM n) t w=I (t.nodes,t.aD,c_ t,fQ t O t.nodes.length,v5 t O t.nodes.length,w,[],0,0,0,0):=by
 have fz:=aj.nodes;refine D.br ?_;unfold Q_;refine D.ae pf (D.ae p5 ?_);unfold af7;have Ss:∀(k v:Nat)(x:Int),k<t.nodes.length->x=(if eV (af t k).kind=ad then(gv t (O k):Int)else 0)->D (K_ (v5 t O k) (k:Int) v x) (jv (λs'=>∃hs:Nat,s'=(((k+1:Nat):Int),v5 t O (k+1),hs)/\True) (· =(t.nodes,t.aD,c_ t,fQ t O t.nodes.length,v5 t O t.nodes.length,w,[],0,0,0,0))):=by
  intro k v x ap ak;unfold K_;refine D.ae (eX (by simp[v5];omega)) (D.inl ⟨v+1,?_,trivial⟩);rw[bw U];have:v5 t O (k+1)=v5 t O k++[x]:=by simp_all[v5,List.range_succ,hT]
  rw[this]
 refine D.for t.nodes.length (λk (v:Nat)=>((k:Int),v5 t O k,v)) (λ_ _=>True) (t0:=0) rfl trivial (λk v ap _=>?_) λv _=>?_
 ·have ak:aH (fQ t O t.nodes.length) (k:Int)=I (if eV (af t k).kind=ad then O k else gd):=e7 (by grind[fQ,Ez]);refine D.ar (λ_=>D.ae ak (D.dB (λfM=>?_) λhe=>?_)) d_
  ·have hex:eV (af t k).kind=ad:=by
    by_cases h:eV (af t k).kind=ad
    ·exact h
    ·rw[if_neg h]at fM;exact absurd rfl fM
   rw[if_pos hex]at ak;obtain⟨bv,h1,h2,ay,bl,bO,cX⟩:=oz aj aR aY bH ap (.inl hex);obtain⟨auk,ea,fN⟩:=bH.ex k ap hex;have gw:bv.b9.size< 100000:=by have:=fN.size;grind
   refine D.ae ak (D.ae (z:=(gv t (O k):Int)) ?_ (Ss k v _ ap (by rw[if_pos hex])));rw[ay,h1];exact Yl aj aR U _ n _ _ _ cX U h2 gw
  ·have hex:¬eV (af t k).kind=ad:=by
    intro h;rw[if_pos h]at he;obtain⟨bv,h1,h2,_⟩:=oz aj aR aY bH ap (.inl h);have gw:=ft.pos h2;rw[<-h1,he]at gw;exact absurd gw ci
   grind
 simp_all[D.ar,absurd,D.inr]
omit pf p5 aY kg in
theorem St:∀j,j<t.nodes.length->eV (af t j).kind=ad->(fQ t O t.nodes.length)[j]? =I (O j):=λj ag ap=>by unfold fQ;rw[gQ,Ez ag,nE,if_pos ap]
omit pf p5 aY kg in
theorem aul:∀j,j<t.nodes.length->eV (af t j).kind=ad->(v5 t O t.nodes.length)[j]? =I (gv t (O j):Int):=λj ag ap=>by unfold v5;rw[gQ,Ez ag,nE,if_pos ap]
theorem aum{p:Nat}(hp:p<=t.aD.length)(bg:∀d,(af t d).kind=40->(d:Int)∈t.aD.take p->w[ES t d]? =I (k' t w d)/\ -9999<=k' t w d/\k' t w d<=9999){q:Int}(aB:q=(p:Int)- 1):
  D (Lc (aM n) q t.nodes t.aD (c_ t) (fQ t O t.nodes.length) (v5 t O t.nodes.length) w 0 [] 0 0 0) λr=>r.1=ain t O w p/\az r.2.1=r.2.1/\r.2.2.1=0/\0<=r.2.2.2.1:=by
 subst aB;exact auh aj aR aY bH U U (St aj aR bH) (aul aj aR bH) hp bg
theorem aun{a i:Nat}(hi:t.aD[a]? =I (i:Int))(bg:jX t w (a+1)=ad):Rx (aM n) t (a:Int) w=I (kM t O (k' t w) i):=by have hd:a<t.aD.length:=(cz.1 hi).1;refine D.br ?_;unfold Rx;refine D.ae (auj aj aR aY bH kg pf p5) (D.bind (aum aj aR aY bH kg pf p5 (p:=a+1) U (aui aj aR bg) U) λz aP=>?_);rw[aP.1];refine D.ae (e7 (i:=a) (x:=kM t O (k' t w) i) ?_) (D.ret rfl);simp_all[ain,gQ,kd,if_pos]
theorem auo{a i:Nat}(hi:t.aD[a]? =I (i:Int))(bg:jX t w (a+1)=ad){v:b6}(bp:(kM t O (k' t w) i)[0]? =I v):yy (aM n) t (a:Int) w=I (decide (v.cU=0)&& !decide (v.n=0)):=by unfold yy;rw[aun aj aR aY bH kg pf p5 hi bg,Option.bind_some,show(0:Int)=((0:Nat):Int)from rfl,e7 bp];rfl
end
structure EU(n:Nat)(t:aZ)(O:Nat->ByteArray):Prop where
 ok:cH t
 wf:fZ t
 mw:∀i,i<t.nodes.length->gS t i=0
 oD:mv t O t.nodes.length
 p_:10000000<=n
 aio:∃M P,lP t O t.nodes.length P/\pa t t.nodes.length M/\vB (aM n) t=I (.inr (0,0,t.nodes,t.aD,c_ t,t.nodes.length,M,P))
def tF(t:aZ)(W:List (ByteArray×Int)):Prop:=∀s c,eE W s=I c->c=(gv t s:Int)
def Za(t:aZ)(O:Nat->ByteArray)(m:Nat)(sp:qt):Prop:=∀r q,j9 t (O (bz t m 0))=I r->(bn t r).find? (λq=>decide ((af t q.toNat).text=(af t m).text))=I q->sp=⟨((nh t (af t m).text (bn t r) 0:Nat):Int),((gC t (e9 t q.toNat):Nat):Int)⟩
def L3(t:aZ)(O:Nat->ByteArray)(S:List (Int×qt)):Prop:=∀(m:Nat) sp,eE S (m:Int)=I sp->Za t O m sp
section
variable {n : Nat} {t : aZ} {O : Nat -> ByteArray}
theorem tF.put{W:List (ByteArray×Int)}(h:tF t W){s:ByteArray}{c:Int}(ax:c=(gv t s:Int)):tF t (fB W s c):=by
 intro s' c' cr;rw[sr]at cr;split at cr
 ·simp_all
 ·exact h s' c' cr
theorem L3.put{S:List (Int×qt)}(h:L3 t O S){m:Nat}{sp:qt}(aQ:Za t O m sp):L3 t O (fB S (m:Int) sp):=by
 intro m' aup cr;rw[sr]at cr;split at cr
 ·grind
 ·exact h m' aup cr
variable (bZ : EU n t O)
include bZ
variable {c:Nat}{bv:ft}
theorem auq(ax:hP t t.nodes.length (2*t.nodes.length+2) bv=I c)(g8:c<=8)(ap:bv.ok)(aQ:bv.b9.size< 100000):QO (aM n) t bv.b9=I ((c:Int),0):=by
 have aj:=bZ.ok;have aR:=bZ.wf;have fz:=aj.nodes;have kg:=bZ.p_;obtain⟨M,P,c5,dz,z5⟩:=bZ.aio;have hm:D_ (aM n) bv.b9 t.nodes t.aD (c_ t) t.nodes.length M P=I ((c:Int),ad):=by
  refine Yn aj aR U (λs i aO hi=>?_) (λm hm j8=>?_) (2*t.nodes.length+2) n bv c ax U ap aQ
  ·rw[dz s];unfold yI;rw[aO];dsimp only;rw[if_pos hi]
  ·have:=c5.2 m hm;rw[if_pos hm]at this;rw[this,bZ.oD.qE m hm j8]
 refine D.br ?_;unfold QO;refine D.ae z5 ?_;simp only[Sum.elim_inr];exact D.dB (λh=>absurd trivial h) λ_=>D.ae (ahk ap U (ahn n bv U ap U)) (D.bK dF λ_=>D.ae hm (D.bK dF λ_=>D.ar bt λ_=>D.ret rfl))
variable {kN:List ByteArray}{L:List (Int×List b6)}{S:List (Int×qt)}{W:List (ByteArray×Int)}{ci:List Int}{bi:Int}{eJ:List (Int×Int)}{op st:Int}
theorem aip(ax:hP t t.nodes.length (2*t.nodes.length+2) bv=I c)(g8:c<=8)(ap:bv.ok)(aQ:bv.b9.size< 100000)(Cj:tF t W):
  D (Ej (aM n) bv.b9 t.nodes t.aD st op bi ci kN eJ L W S) λz=>z.1=(gv t bv.b9:Int)/\tF t z.2:=by
 have hw:gv t bv.b9=c:=by rw[tx ap,Cf ax (bL _)]
 unfold Ej;refine D.bK (λh=>?_) λh=>?_
 ·exact D.ae (auq bZ ax g8 ap aQ) (D.ret ⟨by rw[hw],Cj.put (by rw[hw])⟩)
 ·cases e:eE W bv.b9 with
  |none=>simp_all
  |some c'=>exact D.ret ⟨Cj _ _ e,Cj⟩
variable {j:Nat}
theorem aiq(ag:j<t.nodes.length)(eg:eV (af t j).kind=ad)(Cj:tF t W):
  D (Ej (aM n) (O j) t.nodes t.aD st op bi ci kN eJ L W S) λz=>z.1=(gv t (O j):Int)/\tF t z.2:=by
 have fz:=bZ.ok.nodes;obtain⟨bv,h1,h2,ay,bl,bO,cX⟩:=oz bZ.ok bZ.wf bZ.mw bZ.oD ag (.inl eg);obtain⟨auk,ea,fN⟩:=bZ.oD.ex j ag eg;have gw:=fN.size;grind[aip]
theorem air(ag:j<t.nodes.length)(eg:eV (af t j).kind=ad)(Cj:tF t W)(v:b6):
  D (KW (aM n) (j:Int) v t.nodes t.aD st op bi ci (fQ t O t.nodes.length) eJ L W S) λz=>z.1=cC (gv t (O j)) v/\tF t z.2:=by
 obtain⟨bv,h1,h2,ay,bl,bO,cX⟩:=oz bZ.ok bZ.wf bZ.mw bZ.oD ag (.inl eg);unfold KW;refine D.ae (e7 (St bZ.ok bZ.wf bZ.oD j ag eg)) (D.bind (aiq bZ ag eg Cj) λz aP=>?_);grind[D.ae,atv,D.ret]
theorem aur:∀(f j:Nat),j<f->j<t.nodes.length->mW (af t j).kind=ad->
  KX (aM n) f (j:Int) t.nodes t.aD st op bi ci kN eJ L W S=I (hU t j).b9:=by
 have aj:=bZ.ok;have aR:=bZ.wf;have aI:=aR.dI;intro f;induction f with
 |zero=>omega
 |succ f bx=>
  intro j arX ag ap;show QR (aM n) (KX (aM n) f) (j:Int) t.nodes t.aD st op bi ci kN eJ L W S=_;rw[Lr aj aI ag ap];refine D.br ?_;unfold QR;refine D.ae (b8 ag) (D.ar (λh=>D.ret (by rw[if_pos h];rfl)) λw5=>D.ar (λh=>D.ret (by rw[if_neg w5,if_pos h];rfl)) λB7=>D.ar (λh=>D.ret (by rw[if_neg w5,if_neg B7,if_pos h];rfl)) λH7=>?_);rw[if_neg w5,if_neg B7,if_neg H7];unfold mW at ap;simp only[dn,decide_eq_true_eq]at ap;obtain⟨h1,h2,ay⟩:=tq aj aI ag (.inl U);have cX:=R1 aR ag U;have dg:aH (af t j).a8 0=I (eL t j:Int):=by rw[<-dJ ag,h1];rfl
  have gw:=(Ls aj aR _ U ay).2;have we:=aj.nodes;have aG:Utf8.encode (IntKind.i32.wrap (az (48+(af t j).n)))=h' (af t j).n.toNat:=by
   have:(af t j).n=1\/(af t j).n=2\/(af t j).n=3\/(af t j).n=4\/(af t j).n=5\/(af t j).n=6:=by omega
   rcases this with h|h|h|h|h|h<;>(rw[h];decide)
  have m7:(h' (af t j).n.toNat).size=1:=rfl;have s1:((bk #[91])++(hU t (eL t j)).b9).size=1+(hU t (eL t j)).b9.size:=by rw[mu];rfl
  have s2:(((bk #[91])++(hU t (eL t j)).b9)++⟨#[59,32]⟩).size=1+(hU t (eL t j)).b9.size+2:=by rw[mu,s1];rfl
  have h6:((((bk #[91])++(hU t (eL t j)).b9)++⟨#[59,32]⟩)++h' (af t j).n.toNat).size=1+(hU t (eL t j)).b9.size+2+1:=by simp_all
  have ea:(bk #[91]).size=1:=rfl;have fN:(bk #[59,32]).size=2:=rfl;have jZ:(bk #[93]).size=1:=rfl;rw[aG];exact D.ae dg (D.ae (bx _ U U ay) (D.ae (vT U) (D.ae (vT U) (D.ae (vT U) (D.ae (vT U) (D.ret rfl))))))
theorem aus {r:Nat}{q:Int}(ag:j<t.nodes.length)(ap:(af t j).kind=22)(aO:j9 t (O (bz t j 0))=I r)(aB:(bn t r).find? (λq=>decide ((af t q.toNat).text=(af t j).text))=I q):
  QY (aM n) t (O (bz t j 0)) (af t j).text=I (((nh t (af t j).text (bn t r) 0:Nat):Int),((gC t (e9 t q.toNat):Nat):Int),0):=by
 have aj:=bZ.ok;have aR:=bZ.wf;have aI:=aR.dI;have fz:=aj.nodes;have kg:=bZ.p_;obtain⟨M,P,c5,dz,z5⟩:=bZ.aio;obtain⟨h5,c,gn,f1,f2,f3,f4,f5,f6,f7,f8⟩:=Y7 aj aR bZ.mw bZ.oD ag ap;have tt:r=h5:=Option.some.inj (aO.symm.trans f1);subst tt;obtain⟨gR,_,gG,_⟩:=qD aI aO;have j7:=aj.af gR;have gL:=dJ gR;obtain⟨i,cs,h1,_,h2,ay,_⟩:=H9 (d:=2*t.nodes.length+1) f7;rw[aO]at h1;cases h1;have dy:∀x∈bn t r,∃m:Nat,x=m/\m<t.nodes.length/\(af t m).kind=34/\(e9 t m).ok/\(e9 t m).b9.size<=5000/\gC t (e9 t m)<=8/\hP t t.nodes.length (2*t.nodes.length+1) (e9 t m)=I (gC t (e9 t m)):=by
  intro x ak;obtain⟨m,rfl,hm,j8⟩:=vV aj aI gR gG ak;have B8:=w_ aj aR (j:=m) U j8;have:hP t t.nodes.length (2*t.nodes.length+1) (e9 t ((m:Int)).toNat)∈cs.map I:=by grind
  obtain⟨y,a9,atP⟩:=lz.1 this;grind[dA,Cf]
 have aIG:eE M (O (bz t j 0))=I (r:Int):=by rw[dz];unfold yI;rw[aO];dsimp only;rw[if_pos gR]
 refine D.br ?_;unfold QY Xc;refine D.ae (z:=Sum.inr (bn t r,0,t.nodes,t.aD,c_ t,t.nodes.length,M,P)) (D.br (D.ae z5 ?_)) ?_
 ·simp only[Sum.elim_inr];simp_all[D.dB,absurd,trivial,D.bK,D.ae,af,b8,D.ret]
 simp only[Sum.elim_inr];refine D.dB (λh=>absurd trivial h) λ_=>?_;unfold afY;have aC:(bn t r).length<=800:=by simp_all
 have key:∀(jj:List Int)(fW:List Int)(a:Nat),bn t r=fW++jj->a<=8*fW.length->jj.find? (λq=>decide ((af t q.toNat).text=(af t j).text))=I q->
   D (fv (λ(s:Int×Int)=>if(decide (s.2<((bn t r).length:Int)))=ad then(aH (bn t r) s.2).bind λaE=>au (gz t.nodes.length P aE) λaW=>au (D_ (aM n) aW.1.2 t.nodes t.aD (c_ t) t.nodes.length M P) λa_=>au (aH t.nodes aE) λbq=>if(decide (bq.text=(af t j).text))=ad then(I (s.1,a_.1,(0:Int))).map .inr else I (.inl ((az (s.1+a_.1)),(az (s.2+1))))else(I ((0:Int),(0:Int),(7:Int))).map .inr) ((a:Int),(fW.length:Int))) (· =(((nh t (af t j).text jj a:Nat):Int),((gC t (e9 t q.toNat):Nat):Int),0)):=by
  intro jj;induction jj with
  |nil=>simp
  |cons x jj bx=>
   intro fW a q' a4 vS;have hlen:fW.length<(bn t r).length:=by grind
   have ak:(bn t r)[fW.length]? =I x:=by grind
   obtain⟨m,rfl,ab,aut,al,am,ao,ah⟩:=dy x (cm ak);have auu:P[m]? =I (e9 t m).b9:=by have:=c5.2 m ab;rw[if_pos ab]at this;rw[this,bZ.oD.qE m ab aut]
   have hm:D_ (aM n) (e9 t m).b9 t.nodes t.aD (c_ t) t.nodes.length M P=I ((gC t (e9 t m):Int),ad):=by
    refine Yn aj aR U (λs i aO hi=>?_) (λm hm j8=>?_) (2*t.nodes.length+1) n _ _ ah U al U
    ·rw[dz s];unfold yI;rw[aO];dsimp only;rw[if_pos hi]
    ·have:=c5.2 m hm;rw[if_pos hm]at this;rw[this,bZ.oD.qE m hm j8]
   rw[List.find?_cons]at vS;refine D.step (D.ar (λ_=>D.aH ak (D.ae (hN auu ab) (D.ae hm (D.ae (b8 ab) (D.ar (λe=>D.inr ?_) λe=>D.inl ?_))))) d_)
   ·rw[dA,decide_eq_true e]at vS;cases vS;unfold nh;rw[dA,if_pos e]
   ·rw[dA,decide_eq_false e]at vS;unfold nh;rw[dA,if_neg e];have:=bx (fW++[(m:Int)]) (a+gC t (e9 t m)) dq dZ vS;rw[hW]at this;have gN:az ((a:Int)+((gC t (e9 t m):Nat):Int))=((a+gC t (e9 t m):Nat):Int):=by grind[b3]
    have ki:az ((fW.length:Int)+1)=((fW.length+[(m:Int)].length:Nat):Int):=by rw[bw U];rfl
    grind
 exact key (bn t r) [] 0 rfl (Nat.zero_le _) aB
end
end Go.Proofs.YtjfgooffdmnnkaaGreatDoor

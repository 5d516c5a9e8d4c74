/- Lemmas. -/
import Derived.Test.YtjfgooffdmnnkaaGreatDoorWi
set_option linter.all false
set_option maxRecDepth 100000
set_option maxHeartbeats 1000000
namespace Go.Proofs.YtjfgooffdmnnkaaGreatDoor
open Go Go.Mi Go.RowKit Go.Dp
open Bool renaming or_eq_true->jq,or_eq_false_iff->jy,not_eq_false'->yz,not_eq_true'->oQ,false_and->ja,true_and->fm,false->aS,true->ad,and_eq_true->dn
open Int renaming toNat_natCast->dA
open Int.ofNat renaming inj->fC
open List renaming getElem?_eq_getElem->bN,mem_of_getElem?->cm,take_of_length_le->g4,mem_append->h3,append_nil->iZ,map_cons->hH,length_append->hW,map_nil->qp,flatMap_cons->kp,flatMap_nil->Ci,sum_cons->z8,sum_nil->z9,mem_append_left->AS,map->qH,getElem?_of_mem->hf,take_sublist->ais,filter_cons->EQ
open Nat renaming le_refl->bL,le_succ_of_le->Im,lt_succ_self->yL,le_succ->A0,le_trans->gE,add_zero->oJ,max_zero->ait
open Option renaming some->I
abbrev sy:=List (Int×Int)
abbrev ix:=List (Int×List b6)
abbrev ph:=List (ByteArray×Int)
abbrev bS:=List (Int×qt)
abbrev Su:=List b6×Int×Int×Int×ix×ph×bS×ix
abbrev z_:=Int->List bm->List Int->Int->Int->Int->List Int->List ByteArray->Int->Int->sy->ix->ph->bS->ix->Option Su
abbrev L4:=List Int->List bm->List Int->Int->Int->Int->List Int->List ByteArray->Int->Int->sy->ix->ph->bS->ix->Option Su
structure sz(t:aZ)(O:Nat->ByteArray)(a3:Nat->Int)(L:ix)(W:ph)(S:bS):Prop where
 EV:∀(d:Nat) l,eE L (d:Int)=I l->(af t d).kind=43->l=(bB t O a3 (eL t d) (λ_=>[]) (-1) 0).1
 Ck:tF t W
 Cl:L3 t O S
def qJ(t:aZ)(c3:ix)(fr:hr)(j:Nat):Prop:=∀d:Nat,(d:Int)∈(d' t j).1->(af t d).kind=20\/(af t d).kind=34->(eE c3 (d:Int)).getD []=fr d
def pi(t:aZ)(b g5:ix)(p:Nat):Prop:=∀d:Nat,(af t d).kind=34\/p<=d->eE g5 (d:Int)=eE b (d:Int)
structure rL(t:aZ)(O:Nat->ByteArray)(a3:Nat->Int)(r:v3)(st op bi:Int)(c3:ix)(p:Nat)(z:Su):Prop where
 val:z.1=r.1
 Sv:z.2.1=az (st+(r.2.1:Int))
 Sw:z.2.2.1=op
 qs:z.2.2.2.1=max bi (op+(r.2.2:Int))
 EW:sz t O a3 z.2.2.2.2.1 z.2.2.2.2.2.1 z.2.2.2.2.2.2.1
 Zb:pi t c3 z.2.2.2.2.2.2.2 p
def tG(t:aZ)(O:Nat->ByteArray)(a3:Nat->Int)(eJ:sy)(R:Nat)(r:z_)(V:Nat):Prop:=
 ∀(m:Nat)(fr:hr)(f:Int)(e:Nat)(st op bi:Int)(L:ix)(W:ph)(S:bS)(c3:ix),hZ t f e m->md t m->ed t e m<V->iH t O fr m->qJ t c3 fr m->(d' t m).2<=R->sz t O a3 L W S->0<=op->op<=bi->op+ed t e m<=1000000000000->
  D (r m t.nodes t.aD st op bi (c_ t) (fQ t O t.nodes.length) f e eJ L W S c3) (rL t O a3 (bB t O a3 m fr f e) st op bi c3 (m+1))
structure qr(t:aZ)(O:Nat->ByteArray)(R V p:Nat)(fr:hr)(f:Int)(e:Nat)(c3:ix)(m:Nat):Prop where
 lt:m<p
 pg:hZ t f e m
 qF:md t m
 ed:Proofs.YtjfgooffdmnnkaaGreatDoor.ed t e m<V
 tE:iH t O fr m
 zM:qJ t c3 fr m
 w2:(d' t m).2<=R
 Zc:∀d:Nat,(d:Int)∈(d' t m).1->(af t d).kind=20->p<=d
noncomputable def hV(t:aZ)(O:Nat->ByteArray)(a3:Nat->Int)(fr:hr)(f:Int)(e:Nat)(l:List Int):v3:=
 ((l.map λq=>bB t O a3 q.toNat fr f e).flatMap (·.1),((l.map λq=>bB t O a3 q.toNat fr f e).map (·.2.1)).sum,ng ((l.map λq=>bB t O a3 q.toNat fr f e).map (·.2.2)))
def Cm(t:aZ)(O:Nat->ByteArray)(a3:Nat->Int)(eJ:sy)(R:Nat)(r:L4)(V:Nat):Prop:=
 ∀(l:List Int)(p:Nat)(fr:hr)(f:Int)(e:Nat)(st op bi:Int)(L:ix)(W:ph)(S:bS)(c3:ix),(∀q∈l,∃m:Nat,q=m/\qr t O R V p fr f e c3 m)->l.length<=800->az st=st->sz t O a3 L W S->0<=op->op<=bi->op+V<=1000000000000->
  D (r l t.nodes t.aD st op bi (c_ t) (fQ t O t.nodes.length) f e eJ L W S c3) (rL t O a3 (hV t O a3 fr f e l) st op bi c3 p)
section
variable {n : Nat} {t : aZ} {O : Nat -> ByteArray} {a3 : Nat -> Int} {eJ : sy} {R V : Nat}
def pi.mono{b g5:ix}{p vg:Nat}(h:pi t b g5 p)(hp:p<=vg):pi t b g5 vg:=λd aG=>h d (aG.imp id λq=>gE hp q)
def pi.refl(b:ix)(p:Nat):pi t b b p:=λ_ _=>rfl
theorem pi.trans{b g5 aiu:ix}{p:Nat}(h:pi t b g5 p)(cr:pi t g5 aiu p):pi t b aiu p:=λd aG=>(cr d aG).trans (h d aG)
theorem pi.put{b g5:ix}{p j:Nat}{l:List b6}(h:pi t (fB b (j:Int) l) g5 p)(ag:j<p)(ap:(af t j).kind≠34):pi t b g5 p:=λd aG=>by rw[h d aG,sr,if_neg];grind
def qJ.ia{b g5:ix}{fr:hr}{j p:Nat}(h:qJ t b fr j)(aQ:pi t b g5 p)(bp:∀d:Nat,(d:Int)∈(d' t j).1->(af t d).kind=20->p<=d):qJ t g5 fr j:=λd aG ap=>by rw[aQ d (ap.symm.imp id λnz=>bp d aG nz)];exact h d aG ap
theorem aiv(aj:cH t)(aI:dD t):∀j,j<t.nodes.length->∀d:Nat,(d:Int)∈(d' t j).1->(af t d).kind=20->j<d:=by
 refine HX aI (λj ag e d aG=>?_) λj p ag hp Eu hm e bx d aG ap=>?_
 ·simp_all[sn]
 ·rw[l_ aI ag e]at aG;rcases h3.1 aG with aG|aG
  ·unfold hl at aG;split at aG
   ·split at aG
    ·grind
    ·split at aG
     ·next c7=>
      rcases h3.1 aG with aG|aG
      ·obtain⟨a,a4⟩:=hf (show(d:Int)∈eY t p from aG);grind[xa,fC]
      grind
     ·cases aG
   ·cases aG
  grind
def aiw{k:Int}(h:6<=k/\k<=16):∃c b,Hv k=I (c,b,ad)/\Cd c/\∀x y,EL k x y=if b=ad then tw 6 (my c x y)else my c x y:=by
 have:k=6\/k=7\/k=8\/k=9\/k=10\/k=11\/k=12\/k=13\/k=14\/k=15\/k=16:=by omega
 rcases this with h|h|h|h|h|h|h|h|h|h|h<;>subst h
 all_goals refine⟨_,_,rfl,?_,λx y=>rfl⟩
 all_goals (unfold Cd;decide)
def auv{j:Nat}(eg:md t j)(h:¬(4<=(af t j).kind/\(af t j).kind<=16)):Hv (af t j).kind=I (0,aS,aS):=by
 have:(af t j).kind=1\/(af t j).kind=2\/(af t j).kind=3\/(af t j).kind=17\/(af t j).kind=18\/(af t j).kind=19\/(af t j).kind=20\/(af t j).kind=21\/(af t j).kind=22\/(af t j).kind=23\/(af t j).kind=24\/(af t j).kind=25\/(af t j).kind=26:=by
  rcases eg with h2|h2
  ·unfold eV at h2;grind
  ·omega
 rcases this with h|h|h|h|h|h|h|h|h|h|h|h|h<;>(rw[h];rfl)
variable (bZ : EU n t O)
include bZ
variable {fr:hr}{j:Nat}
theorem qJ.lQ{b:ix} {m:Nat}(ag:j<t.nodes.length)(hm:(m:Int)∈bn t j)(ap:(af t j).kind≠20/\(af t j).kind≠42)(h:qJ t b fr j):qJ t b fr m:=by have aI:=bZ.wf.dI;obtain⟨m',e,hO⟩:=jz aI ag hm;have e:m=m':=fC e;subst e;intro d aG;rw[l_ aI U (ny aI ag hm)]at aG;refine h d ?_;simp_all[hl,if_neg]
variable {e:Nat}{f:Int}
theorem In{c3:ix}(hC:hZ t f e j)(eg:md t j)(dH:iH t O fr j)(mr:qJ t c3 fr j)(aK:(d' t j).2<=R)(ap:(af t j).kind≠20):∀q∈bn t j,∃m:Nat,q=m/\qr t O R (ed t e j) j fr f e c3 m:=by
 intro q aB;have aI:=bZ.wf.dI;have ag:=hC.1;have c7:(af t j).kind≠42:=by
  intro h;rcases eg with h2|h2
  ·rw[h]at h2;cases h2
  ·omega
 obtain⟨m,rfl,hm,h1,h2⟩:=hC.lQ bZ.ok bZ.wf bZ.mw aB;refine⟨m,rfl,hm,h1,tz bZ.ok bZ.wf bZ.mw ag eg aB,h2,dH.lQ bZ.ok bZ.wf bZ.mw ag aB ⟨ap,c7⟩,mr.lQ bZ ag aB ⟨ap,c7⟩,by grind[vY],λd aG nz=>?_⟩;rw[l_ aI U (ny aI ag aB)]at aG;have:hl t j m=[]:=by unfold hl;rw[if_neg ap,if_neg c7];split<;>rfl
 rw[this]at aG;exact Nat.le_of_lt (aiv bZ.ok aI j ag d aG nz)
theorem aix{Cn:L4}(aO:tG t O a3 eJ R (Xg (aM n) Cn) V):Cm t O a3 eJ R (HA (aM n) Cn) V:=by
 intro l p fr f e st op bi L W S c3 aC hlen cS fG bh h1 h2;have fz:=bZ.ok.nodes;unfold HA af2;have sW:max bi (op+((0:Nat):Int))=bi:=by omega
 refine D.for l.length (λi (s:ix×ph×bS×ix)=>((hV t O a3 fr f e (l.take i)).1,(i:Int),az (st+((hV t O a3 fr f e (l.take i)).2.1:Int)),op,max bi (op+((hV t O a3 fr f e (l.take i)).2.2:Int)),s.1,s.2.1,s.2.2.1,s.2.2.2)) (λi s=>sz t O a3 s.1 s.2.1 s.2.2.1/\pi t c3 s.2.2.2 p/\(hV t O a3 fr f e (l.take i)).1.length<=8*i) (t0:=(L,W,S,c3)) ?_ ⟨fG,pi.refl _ _,by simp[hV]⟩ (λi s hi a7=>?_) λs a7=>?_
 ·show _=([],0,az (st+((0:Nat):Int)),op,max bi (op+((0:Nat):Int)),L,W,S,c3)
  rw[sW,show st+((0:Nat):Int)=st by omega,cS]
 ·obtain⟨Zd,Co,Ze,hF⟩:=s;obtain⟨auw,lq,aux⟩:=a7;obtain⟨q,aB⟩:∃q,l[i]? =I q:=⟨_,bN hi⟩
  obtain⟨m,rfl,ap⟩:=aC q (cm aB);have mr:=ap.zM.ia lq ap.Zc;have bp:=(EN (a3:=a3) bZ.ok bZ.wf bZ.mw bZ.oD _ m fr f e (yL _) ap.pg ap.qF ap.tE).1;obtain⟨_,_,_,rO,_,at8,_⟩:=oz bZ.ok bZ.wf bZ.mw bZ.oD ap.pg.1 ap.qF;have pu:=ap.ed;have L2:op<=max bi (op+((hV t O a3 fr f e (l.take i)).2.2:Int)):=by omega
  refine D.ar (λ_=>D.aH aB (D.bind (aO m fr f e (az (st+((hV t O a3 fr f e (l.take i)).2.1:Int))) op _ Zd Co Ze hF ap.pg ap.qF ap.ed ap.tE mr ap.w2 auw bh L2 U) λz aP=>?_)) d_;obtain⟨h0,ir,fK,d0,sA,uM,sB,eu⟩:=z;obtain⟨a2,bc,cR,go,gN,ki⟩:=aP;dsimp only at a2 bc cR go gN ki;subst a2;subst bc;(have cR:=cR.symm;subst cR);subst go
  refine D.ae (eX (gE (Nat.add_le_add aux (show(bB t O a3 m fr f e).1.length<=8 by omega)) U)) (D.inl ⟨(sA,uM,sB,eu),?_,gN,lq.trans (ki.mono ap.lt),?_⟩)
  ·have Er:hV t O a3 fr f e (l.take (i+1))=((hV t O a3 fr f e (l.take i)).1++(bB t O a3 m fr f e).1,(hV t O a3 fr f e (l.take i)).2.1+(bB t O a3 m fr f e).2.1,max (hV t O a3 fr f e (l.take i)).2.2 (bB t O a3 m fr f e).2.2):=by
    unfold hV;rw[da aB];simp only[List.map_append,hH,qp,List.flatMap_append,kp,Ci,iZ,List.sum_append,z8,z9,dA,Sl,oJ]
   rw[Er];dsimp only;rw[bw U,tB];have bc:st+((hV t O a3 fr f e (l.take i)).2.1:Int)+((bB t O a3 m fr f e).2.1:Int)=st+(((hV t O a3 fr f e (l.take i)).2.1+(bB t O a3 m fr f e).2.1:Nat):Int):=by omega
   have cR:max (max bi (op+((hV t O a3 fr f e (l.take i)).2.2:Int))) (op+((bB t O a3 m fr f e).2.2:Int))=max bi (op+((max (hV t O a3 fr f e (l.take i)).2.2 (bB t O a3 m fr f e).2.2:Nat):Int)):=by omega
   rw[bc,cR]
  ·have Er:(hV t O a3 fr f e (l.take (i+1))).1=(hV t O a3 fr f e (l.take i)).1++(bB t O a3 m fr f e).1:=by
    unfold hV;rw[da aB];simp
   grind
 ·refine D.ar bt λ_=>D.inr ?_;rw[g4 (bL _)];exact⟨rfl,rfl,rfl,rfl,a7.1,a7.2.1⟩
variable {bi op st:Int}
theorem auy{r:L4}{L:ix}{W:ph}{S:bS}{c3:ix}(aO:Cm t O a3 eJ R r (ed t e j))(hC:hZ t f e j)(eg:md t j)(dH:iH t O fr j)(mr:qJ t c3 fr j)(aK:(d' t j).2<=R)(fG:sz t O a3 L W S)(bh:0<=op)(h1:op<=bi)(h2:op+ed t e j<=1000000000000){c:Int}{b:Bool}(hm:Hv (af t j).kind=I (c,b,ad))(ap:4<=(af t j).kind/\(af t j).kind<=16):
  D (QK (aM n) r (j:Int) c b t.nodes t.aD (az (st+1)) op bi (c_ t) (fQ t O t.nodes.length) f e eJ L W S c3) (rL t O a3 (bB t O a3 j fr f e) st op bi c3 (j+1)):=by
 have aj:=bZ.ok;have aR:=bZ.wf;have aY:=bZ.mw;have bH:=bZ.oD;have aI:=aR.dI;have ag:=hC.1;have j7:=aj.af ag;have gL:=dJ ag;have iO:=aO (bn t j) j fr f e (az (st+1)) op bi L W S c3 (In bZ hC eg dH mr aK U) dq (Sq _) fG bh h1 h2;have r4:=yO (O:=O) (a3:=a3) (fr:=fr) aj aR aY hC eg;obtain⟨_,hw,nf⟩:=Il aj aR aY bH ag U;unfold QK;rw[gL]at iO;refine D.ae (b8 ag) (D.bind iO λz aP=>?_);obtain⟨h0,ir,fK,d0,sA,uM,sB,eu⟩:=z;obtain⟨a2,bc,cR,go,gN,ki⟩:=aP;dsimp only at a2 bc cR go gN ki;subst a2;subst bc;(have cR:=cR.symm;subst cR);subst go
 rw[<-gL];have fi:∀v:b6,bB t O a3 j fr f e=([v],1+(hV t O a3 fr f e (bn t j)).2.1,(hV t O a3 fr f e (bn t j)).2.2)->rL t O a3 (bB t O a3 j fr f e) st op bi c3 (j+1) ([v],az (az (st+1)+((hV t O a3 fr f e (bn t j)).2.1:Int)),op,max bi (op+((hV t O a3 fr f e (bn t j)).2.2:Int)),sA,uM,sB,eu):=by intro v bp;refine⟨by rw[bp],?_,rfl,by rw[bp],gN,ki.mono (A0 _)⟩;rw[bp];show az (az (st+1)+((hV t O a3 fr f e (bn t j)).2.1:Int))=az (st+((1+(hV t O a3 fr f e (bn t j)).2.1:Nat):Int));rw[tB];grind
 by_cases qC:(af t j).kind=4\/(af t j).kind=5
 ·have aC:=n2 aI ag U;have k0:=oB (a3:=a3) aj aR aY bH hC eg dH U (i:=0) U;have v0:=k0.p8;rw[nf 0 U]at v0;have mn:(hV t O a3 fr f e (bn t j)).1=(bB t O a3 (bz t j 0) fr f e).1:=by
   grind[hV,LZ,dA]
  have auz:(c=5\/c=6)/\b=aS/\bB t O a3 j fr f e=([tw c (ij (hV t O a3 fr f e (bn t j)).1)],1+(hV t O a3 fr f e (bn t j)).2.1,(hV t O a3 fr f e (bn t j)).2.2):=by
   have cS:=r4;unfold mz at cS;rw[if_neg U,if_neg U,if_neg U,if_neg U]at cS;dsimp only at cS;rcases qC with bl|bl
   ·rw[bl]at hm;cases hm;rw[if_pos bl]at cS;exact⟨.inl rfl,rfl,cS⟩
   ·rw[bl]at hm;cases hm;rw[if_neg U,if_pos bl]at cS;exact⟨.inr rfl,rfl,cS⟩
  obtain⟨ax,rfl,cS⟩:=auz;rw[mn]at cS⊢;have i0:aH (bB t O a3 (bz t j 0) fr f e).1 0=I (ij (bB t O a3 (bz t j 0) fr f e).1):=e7 (i:=0) (v0.aG (bL _)).2;have hlen:((bB t O a3 (bz t j 0) fr f e).1.length:Int)=1:=by rw[v0.1];rfl
  exact D.ar (λ_=>D.ae i0 (D.ae (ahZ ax (v0.aG (bL _)).1) (D.bK dF λ_=>D.ret (fi _ cS)))) λh=>absurd hlen h
 ·have aC:=z0 aI ag (.inl U);obtain⟨c',g5,wB,BW,iL⟩:=aiw (show 6<=(af t j).kind/\(af t j).kind<=16 by omega);rw[hm]at wB;cases wB;have k0:=oB (a3:=a3) aj aR aY bH hC eg dH U (i:=0) U;have bX:=oB (a3:=a3) aj aR aY bH hC eg dH U (i:=1) U;have v0:=k0.p8;have v1:=bX.p8;rw[nf 0 U]at v0;rw[nf 1 U]at v1;have yQ:=(v0.aG (bL _)).1;have LY:=(v1.aG (bL _)).1;have mn:(hV t O a3 fr f e (bn t j)).1=[ij (bB t O a3 (bz t j 0) fr f e).1,ij (bB t O a3 (bz t j 1) fr f e).1]:=by
   unfold hV;rw[LX aj aR aY bH ag aC];simp only[hH,qp,kp,Ci,iZ,dA];rw[v0.LW,v1.LW];rfl
  have cS:bB t O a3 j fr f e=([EL (af t j).kind (ij (bB t O a3 (bz t j 0) fr f e).1) (ij (bB t O a3 (bz t j 1) fr f e).1)],1+(hV t O a3 fr f e (bn t j)).2.1,(hV t O a3 fr f e (bn t j)).2.2):=by have cS:=r4;unfold mz at cS;rw[if_neg U,if_neg U,if_neg U,if_neg U]at cS;dsimp only at cS;rw[if_neg U,if_neg U,if_pos U,show((bn t j).map λq=>bB t O a3 q.toNat fr f e).flatMap (·.1)=(hV t O a3 fr f e (bn t j)).1 from rfl,mn]at cS;exact cS
  rw[mn];rw[iL]at cS;refine D.ar (λh=>absurd h cW) λ_=>D.ae (e7 (i:=0) rfl) (D.ae (e7 (i:=1) rfl) (D.ae (atq BW yQ LY) ?_));cases b with
  |true=>exact D.ae (ahZ (.inr rfl) (YX yQ LY)) (D.ret (fi _ cS))
  |false=>exact D.ret (fi _ cS)
theorem auA{r:z_}{L:ix}{W:ph}{S:bS}{c3:ix}(i_:∀d:Nat,(af t d).kind=40->d<R->(eE eJ (d:Int)).getD 0=a3 d)(aO:tG t O a3 eJ R r (ed t e j))(hC:hZ t f e j)(dH:iH t O fr j)(mr:qJ t c3 fr j)(aK:(d' t j).2<=R)(fG:sz t O a3 L W S)(bh:0<=op)(h1:op<=bi)(h2:op+ed t e j<=1000000000000)(ap:(af t j).kind=3):
  D (QM (aM n) r (j:Int) t.nodes t.aD (az (st+1)) op bi (c_ t) (fQ t O t.nodes.length) f e eJ L W S c3) λz=>z.1=uK t a3 (bB t O a3) fr (fE t j).toNat/\sz t O a3 z.2.1 z.2.2.1 z.2.2.2:=by
 have aj:=bZ.ok;have aR:=bZ.wf;have aY:=bZ.mw;have bH:=bZ.oD;have aI:=aR.dI;have ag:=hC.1;obtain⟨d,aG,gu⟩:=zR aj aI ag (aY j ag) (by rw[ap];rfl);have aQ:=gu.EE;unfold l9 at aQ;rw[ap]at aQ;simp only[decide_true,if_true,jq,decide_eq_true_eq]at aQ;have p4:aH (c_ t) (j:Int)=I (d:Int):=by rw[zZ ag,aG]
 rw[aG,dA];have w3:=(Et aI j ag).2.2.1;unfold QM uK;refine D.ae p4 (D.ae (b8 gu.lt) (D.ar (λdm=>?_) λdm=>D.ar (λxg=>?_) λxg=>?_))
 ·have b':=(gu.kk aI U).2;rw[if_pos dm];grind[D.ae,uJ,D.ret]
 ·rw[if_neg dm,if_pos xg];have b':=(gu.kk aI U).2;obtain⟨fe,hX,pE,oS⟩:=Si aj aR aY gu.lt xg;have pu:=Y0 aj aR aY hC b' xg;have hle:=hC.jW aj aR aY;have tA:(eL t d:Int)∈bn t d:=by
   grind[o7,n2,List.mem_cons_self]
  refine D.bK (λ_=>?_) λaQ=>?_
  ·have i0:aH (af t d).a8 0=I (eL t d:Int):=by
    obtain⟨r,bl,_⟩:=o7 aI gu.lt (by grind[n2]);rw[<-dJ gu.lt,bl];rfl
   have nM:(d' t (eL t d)).1=[]:=by rw[l_ aI U (ny aI gu.lt tA),sn gu.lt ((vQ aI gu.lt).2 (B4 aI gu.lt (by rw[xg];rfl)))];simp_all[hl,eL,if_neg,af]
   refine D.ae (show KT=I (-1,0,[])from rfl) (D.ae i0 (D.bind (aO (eL t d) (λ_=>[]) (-1) 0 (az (st+1)) op bi L W S [] fe (.inl oS) pu (iH.kk aj aR gu.lt (by rw[xg];rfl) U tA _) (λx ak=>by simp_all) U fG bh h1 U) λz aP=>D.ret ⟨aP.val,⟨λdb l cr sL=>?_,aP.EW.Ck,aP.EW.Cl⟩⟩));rw[sr]at cr;split at cr
   ·next bc=>
    cases cr;have:d=db:=fC bc;subst this;exact aP.val
   ·exact aP.EW.EV db l cr sL
  ·cases a2:eE L (d:Int)with
   |none=>simp_all
   |some l=>exact D.ret ⟨fG.EV d l a2 xg,fG⟩
 ·rw[if_neg dm,if_neg xg];exact D.ret ⟨mr d (Sk aj aR aY ag ap aG U) U,fG⟩
end
abbrev aiy:=Int->Int->List b6->List bm->List Int->Int->Int->Int->List Int->List ByteArray->sy->ix->ph->bS->Option (List b6×Int×Int×Int×ix×ph×bS)
def Io(t:aZ)(O:Nat->ByteArray)(a3:Nat->Int)(eJ:sy)(R:Nat)(r:aiy)(V:Nat):Prop:=
 ∀(d e:Nat)(ls:List (List b6))(st op bi:Int)(L:ix)(W:ph)(S:bS),d<t.nodes.length->(af t d).kind=42->hZ t d e (fD t d)->ed t e (fD t d)<V->iH t O (k_ (eY t d) ls) (fD t d)->(eY t d).length=ls.length->d<=R->sz t O a3 L W S->0<=op->op<=bi->op+1+ed t e (fD t d)<=1000000000000->
  D (r d e ls.flatten t.nodes t.aD st op bi (c_ t) (fQ t O t.nodes.length) eJ L W S) λz=>
   z.1=(bB t O a3 (fD t d) (k_ (eY t d) ls) d e).1/\z.2.1=az (st+((bB t O a3 (fD t d) (k_ (eY t d) ls) d e).2.1:Int))/\z.2.2.1=op/\z.2.2.2.1=max bi (op+((1+(bB t O a3 (fD t d) (k_ (eY t d) ls) d e).2.2:Nat):Int))/\sz t O a3 z.2.2.2.2.1 z.2.2.2.2.2.1 z.2.2.2.2.2.2
section
variable {n : Nat} {t : aZ} {O : Nat -> ByteArray} {a3 : Nat -> Int} {eJ : sy} {R V : Nat}
variable (bZ : EU n t O)
include bZ
variable {e:Nat}{f:Int}{fr:hr}{j:Nat}{bi op st:Int}
theorem auB{r:z_}{L:ix}{W:ph}{S:bS}{c3:ix}(aO:tG t O a3 eJ R r (ed t e j))(hC:hZ t f e j)(eg:md t j)(dH:iH t O fr j)(mr:qJ t c3 fr j)(aK:(d' t j).2<=R)(fG:sz t O a3 L W S)(bh:0<=op)(h1:op<=bi)(h2:op+ed t e j<=1000000000000)(ap:(af t j).kind=17\/(af t j).kind=18\/(af t j).kind=19):
  D (QQ (aM n) r (j:Int) t.nodes t.aD (az (st+1)) op bi (c_ t) (fQ t O t.nodes.length) f e eJ L W S c3) (rL t O a3 (bB t O a3 j fr f e) st op bi c3 (j+1)):=by
 have aj:=bZ.ok;have aR:=bZ.wf;have aY:=bZ.mw;have bH:=bZ.oD;have aI:=aR.dI;have ag:=hC.1;have gL:=dJ ag;have ak:eV (af t j).kind=ad:=by rcases ap with h|h|h<;>(rw[h];rfl)
 have aC:2<=(af t j).a8.length/\((af t j).kind=19->(af t j).a8.length=3)/\gv t (O (bz t j 0))=1/\((af t j).kind≠19->gv t (O j)=1):=by grind[af,aif,yP,absurd,z0,Il]
 obtain⟨kR,EK,auC,vZ⟩:=aC;have zh:=In (R:=R) (c3:=c3) bZ hC eg dH mr aK U;have k0:=oB (a3:=a3) aj aR aY bH hC eg dH U (i:=0) U;have v0:=k0.p8;rw[auC]at v0;have cS:=yO (O:=O) (a3:=a3) (fr:=fr) aj aR aY hC eg;unfold mz at cS;rw[if_neg U,if_neg U,if_neg U,if_pos ap]at cS;dsimp only at cS;have yQ:=(v0.aG (bL _)).1;have JS:=yQ.gF;have i0:aH (bB t O a3 (bz t j 0) fr f e).1 0=I (ij (bB t O a3 (bz t j 0) fr f e).1):=e7 (i:=0) (v0.aG (bL _)).2;have L5:∀i,i<(af t j).a8.length->qr t O R (ed t e j) j fr f e c3 (bz t j i)/\aH (af t j).a8 (i:Int)=I (bz t j i:Int):=by intro i hi;obtain⟨ea,fN⟩:=p6 aj aR aY bH ag hi;grind[bz,fC,e7]
 have fS:=(L5 0 U).1;have Y8:=fS.ed;unfold QQ;refine D.ae (b8 ag) (D.ae k0.rA (D.bind (aO (bz t j 0) fr f e (az (st+1)) op bi L W S c3 fS.pg fS.qF fS.ed fS.tE fS.zM fS.w2 fG bh h1 U) λz aP=>?_));obtain⟨h0,ir,fK,d0,sA,uM,sB,eu⟩:=z;obtain⟨a2,bc,cR,go,gN,ki⟩:=aP;dsimp only at a2 bc cR go gN ki;subst a2;subst bc;(have cR:=cR.symm;subst cR);subst go
 have rR:op<=max bi (op+((bB t O a3 (bz t j 0) fr f e).2.2:Int)):=by omega
 have aiz:∀i,0<i->i<(af t j).a8.length->bB t O a3 j fr f e=((bB t O a3 (bz t j i) fr f e).1,1+(bB t O a3 (bz t j 0) fr f e).2.1+(bB t O a3 (bz t j i) fr f e).2.1,max (bB t O a3 (bz t j 0) fr f e).2.2 (bB t O a3 (bz t j i) fr f e).2.2)->
   D (r (bz t j i:Int) t.nodes t.aD (az (az (st+1)+((bB t O a3 (bz t j 0) fr f e).2.1:Int))) op (max bi (op+((bB t O a3 (bz t j 0) fr f e).2.2:Int))) (c_ t) (fQ t O t.nodes.length) f e eJ sA uM sB eu) (rL t O a3 (bB t O a3 j fr f e) st op bi c3 (j+1)):=by
  intro i kW hi jh;have fe:=(L5 i hi).1;have aii:=fe.ed;refine(aO (bz t j i) fr f e _ op _ sA uM sB eu fe.pg fe.qF fe.ed fe.tE (fe.zM.ia (ki.mono fS.lt) fe.Zc) fe.w2 gN bh rR U).mono λz aP=>?_;refine⟨by rw[aP.val,jh],?_,aP.Sw,?_,aP.EW,(ki.mono (Im fS.lt)).trans (aP.Zb.mono (Im fe.lt))⟩
  ·rw[aP.Sv,jh,Ch];grind
  ·rw[aP.qs,jh];show max (max bi (op+((bB t O a3 (bz t j 0) fr f e).2.2:Int))) (op+((bB t O a3 (bz t j i) fr f e).2.2:Int))=max bi (op+((max (bB t O a3 (bz t j 0) fr f e).2.2 (bB t O a3 (bz t j i) fr f e).2.2:Nat):Int));omega
 have done:∀(l:List b6) tH,bB t O a3 j fr f e=(l,1+(bB t O a3 (bz t j 0) fr f e).2.1,(bB t O a3 (bz t j 0) fr f e).2.2)->tF t tH->rL t O a3 (bB t O a3 j fr f e) st op bi c3 (j+1) (l,az (az (st+1)+((bB t O a3 (bz t j 0) fr f e).2.1:Int)),op,max bi (op+((bB t O a3 (bz t j 0) fr f e).2.2:Int)),sA,tH,sB,eu):=by intro l tH jh mA;refine⟨by rw[jh],?_,rfl,by rw[jh],⟨gN.EV,mA,gN.Cl⟩,ki.mono (Im fS.lt)⟩;rw[jh];show az (az (st+1)+((bB t O a3 (bz t j 0) fr f e).2.1:Int))=az (st+((1+(bB t O a3 (bz t j 0) fr f e).2.1:Nat):Int));rw[tB];grind
 refine D.ae i0 (D.ae (z:=(decide ((ij (bB t O a3 (bz t j 0) fr f e).1).cU=0)&& !decide ((ij (bB t O a3 (bz t j 0) fr f e).1).n=0))) rfl (D.dB (λbg=>?_) λbg=>?_))
 ·rw[if_pos U]at cS;refine D.bind (air bZ ag ak gN.Ck _) λz aP=>D.ret ?_;obtain⟨l,tH⟩:=z;obtain⟨c9,dU⟩:=aP;have c9:l=_:=c9;subst c9;exact done _ _ cS dU
 ·have aF:(decide ((ij (bB t O a3 (bz t j 0) fr f e).1).cU=0)&& !decide ((ij (bB t O a3 (bz t j 0) fr f e).1).n=0))= !decide ((ij (bB t O a3 (bz t j 0) fr f e).1).n=0):=by rw[decide_eq_true bg,fm]
  rw[aF];rw[if_neg U]at cS;refine D.bK (λax=>?_) λax=>?_
  ·simp only[jq,dn,decide_eq_true_eq,oQ,decide_eq_false_iff_not,yz]at ax;rw[if_pos U]at cS;exact D.ae (L5 1 U).2 (D.bind (aiz 1 U U cS) λz aP=>D.ret aP)
  ·have lI:¬(((af t j).kind=18/\(ij (bB t O a3 (bz t j 0) fr f e).1).n=0)\/((af t j).kind≠18/\(ij (bB t O a3 (bz t j 0) fr f e).1).n≠0)):=by
    intro gf;rw[<-Bool.not_eq_true]at ax;apply ax;simp only[jq,dn,decide_eq_true_eq,oQ,decide_eq_false_iff_not,yz];omega
   rw[if_neg lI]at cS;refine D.ar (λSx=>?_) λSx=>?_
   ·rw[if_pos Sx]at cS;have:=EK Sx;exact D.ae (L5 2 U).2 (D.bind (aiz 2 U U cS) λz aP=>D.ret aP)
   ·rw[if_neg Sx]at cS;refine D.bK (λaP=>?_) λaP=>?_
    ·rw[oQ,decide_eq_false_iff_not]at aP;rw[decide_eq_true aP]at cS;exact D.ae (uJ 1) (D.ret (done _ _ cS gN.Ck))
    ·rw[yz,decide_eq_true_eq]at aP;rw[decide_eq_false U]at cS;exact D.ae (uJ 0) (D.ret (done _ _ cS gN.Ck))
theorem auD{r:z_}{L:ix}{W:ph}{S:bS}{c3:ix}(aO:tG t O a3 eJ R r (ed t e j))(hC:hZ t f e j)(eg:md t j)(dH:iH t O fr j)(mr:qJ t c3 fr j)(aK:(d' t j).2<=R)(fG:sz t O a3 L W S)(bh:0<=op)(h1:op<=bi)(h2:op+ed t e j<=1000000000000)(ap:(af t j).kind=22):
  D (QZ (aM n) r (j:Int) t.nodes t.aD (az (st+1)) op bi (c_ t) (fQ t O t.nodes.length) f e eJ L W S c3) (rL t O a3 (bB t O a3 j fr f e) st op bi c3 (j+1)):=by
 have aj:=bZ.ok;have aR:=bZ.wf;have aY:=bZ.mw;have bH:=bZ.oD;have aI:=aR.dI;have ag:=hC.1;have gL:=dJ ag;obtain⟨rr,c,q,f1,f2,f3,f4,f5,f6,f7,f8⟩:=Y7 aj aR aY bH ag ap;have k0:=oB (a3:=a3) aj aR aY bH hC eg dH U (i:=0) U;have v0:=k0.p8;rw[f4]at v0;have oP:eV (af t (bz t j 0)).kind=ad:=by have pd:=ru aj aI ag (show(af t j).a8[0]? =I (bz t j 0:Int) by rw[<-gL];exact k0.at_);simp_all[o6,if_neg]
 obtain⟨m,a2,fS⟩:=In (R:=R) (c3:=c3) bZ hC eg dH mr aK U _ k0.fw;have a2:bz t j 0=m:=fC a2;rw[<-a2]at fS;have Y8:=fS.ed;have cS:=yO (O:=O) (a3:=a3) (fr:=fr) aj aR aY hC eg;unfold mz at cS;rw[if_neg U,if_neg U,if_neg U,if_neg U]at cS;dsimp only at cS;rw[if_neg U,if_neg U,if_neg U,if_neg U,if_pos ap,f1]at cS;dsimp only at cS;rw[f2]at cS;dsimp only at cS;rw[LZ aj aR aY bH ag f8]at cS;simp only[hH,qp,kp,Ci,iZ,dA,z8,z9,ng,oJ,ait]at cS;have key:∀Dn,L3 t O Dn->∀k,D (KZ (af t j) r t.nodes t.aD (az (st+1)) op bi (c_ t) (fQ t O t.nodes.length) f e eJ L W c3 (Dn,k,((nh t (af t j).text (bn t rr) 0:Nat):Int),((gC t (e9 t q.toNat):Nat):Int))) (rL t O a3 (bB t O a3 j fr f e) st op bi c3 (j+1)):=by
  intro Dn auE k;unfold KZ;refine D.ae k0.rA (D.bind (aO (bz t j 0) fr f e (az (st+1)) op bi L W Dn c3 fS.pg fS.qF fS.ed fS.tE fS.zM fS.w2 ⟨fG.EV,fG.Ck,auE⟩ bh h1 U) λz aP=>?_);obtain⟨h0,ir,fK,d0,sA,uM,sB,eu⟩:=z;obtain⟨a2,bc,cR,go,gN,ki⟩:=aP;dsimp only at a2 bc cR go gN ki;subst a2;subst bc;(have cR:=cR.symm;subst cR);subst go
  have g8:=v0.1;have ER:iC (bB t O a3 (bz t j 0) fr f e).1 ((nh t (af t j).text (bn t rr) 0:Nat):Int) ((bB t O a3 (bz t j 0) fr f e).1.length:Int)=I ((bB t O a3 (bz t j 0) fr f e).1.drop (nh t (af t j).text (bn t rr) 0)):=by unfold iC;rw[if_pos ⟨U,U,U⟩,dA,dA,<-List.length_drop,g4 (bL _)]
  have EK:xU ((bB t O a3 (bz t j 0) fr f e).1.drop (nh t (af t j).text (bn t rr) 0)) 0 ((gC t (e9 t q.toNat):Nat):Int) ((gC t (e9 t q.toNat):Nat):Int)=I (((bB t O a3 (bz t j 0) fr f e).1.drop (nh t (af t j).text (bn t rr) 0)).take (gC t (e9 t q.toNat))):=by unfold xU iC;grind
  refine D.ae ER (D.ae EK (D.ret ⟨by rw[cS],?_,rfl,by rw[cS],gN,ki.mono (Im fS.lt)⟩));rw[cS];show az (az (st+1)+((bB t O a3 (bz t j 0) fr f e).2.1:Int))=az (st+((1+(bB t O a3 (bz t j 0) fr f e).2.1:Nat):Int));rw[tB];grind
 have q':∀sp,Za t O j sp->sp=⟨((nh t (af t j).text (bn t rr) 0:Nat):Int),((gC t (e9 t q.toNat):Nat):Int)⟩:=λsp h=>h rr q f1 f2;unfold QZ;refine D.ae (b8 ag) (D.bK (λ_=>?_) λh=>?_)
 ·refine D.ae k0.rA (D.ae (e7 (St aj aR bH _ k0.pg.1 oP)) (D.ae (aus bZ ag ap f1 f2) (key _ (fG.Cl.put (m:=j) λh5 gn c9 dU=>?_) _)));simp_all
 ·cases a2:eE S (j:Int)with
  |none=>simp_all
  |some sp=>have:=q' sp (fG.Cl j sp a2);rw[this];exact key S fG.Cl _
end
section
variable {n : Nat} {t : aZ} {O : Nat -> ByteArray} {a3 : Nat -> Int} {eJ : sy} {R V : Nat}
def tG.mono{r:z_}{V L6:Nat}(h:tG t O a3 eJ R r V)(bp:L6<=V):tG t O a3 eJ R r L6:=λm fr f e st op bi L W S c3 h1 h2 ay=>h m fr f e st op bi L W S c3 h1 h2 U
def Io.mono{r:aiy}{V L6:Nat}(h:Io t O a3 eJ R r V)(bp:L6<=V):Io t O a3 eJ R r L6:=λd e ls st op bi L W S h1 h2 ay bl=>h d e ls st op bi L W S h1 h2 ay U
def auF:∀{ls:List (List b6)}{i:Nat}{l:List b6},ls[i]? =I l->(ls.drop i).flatten=l++(ls.drop (i+1)).flatten:=by intro ls i l h;rw[HP h,List.flatten_cons]
variable (bZ : EU n t O)
include bZ
variable {d:Nat}
theorem auG(aG:d<t.nodes.length)(c7:(af t d).kind=42):∀a m:Nat,(eY t d)[a]? =I (m:Int)->(m:Int)∈(d' t (fD t d)).1:=by intro a m a4;have aI:=bZ.wf.dI;obtain⟨lq,ku,q1⟩:=rx bZ.ok aI aG c7;rw[l_ aI U (ny aI aG (cm lq))];refine AS _ ?_;unfold hl;rw[if_pos dZ,if_neg U,if_pos c7];exact AS _ (cm a4)
variable {f bi op st:Int}
theorem auH{ls:List (List b6)} {e:Int}{L:ix}{W:ph}{S:bS}(aG:d<t.nodes.length)(c7:(af t d).kind=42)(B9:(eY t d).length=ls.length)(hw:∀a m:Nat,(eY t d)[a]? =I (m:Int)->∃l,ls[a]? =I l/\l.length=gC t (e9 t m))(Cj:tF t W):
  D (QW (aM n) (d:Int) ls.flatten t.nodes t.aD st op bi (c_ t) (fQ t O t.nodes.length) f e eJ L W S []) λz=>tF t z.2.2/\∀a m:Nat,(eY t d)[a]? =I (m:Int)->eE z.2.1 (m:Int)=ls[a]? :=by
 have aj:=bZ.ok;have aR:=bZ.wf;have aI:=aR.dI;have fz:=aj.nodes;have j7:=aj.af aG;have gL:=dJ aG;have kg:=bZ.p_;have kR:=to aI aG c7;have sP:(eY t d).length=(af t d).a8.length- 2:=by grind[eY,List.length_take]
 have xi:(eY t d).Pairwise (· < ·):=by grind[zO,eY,List.Pairwise.sublist,ais]
 have ER:iC (af t d).a8 0 (az (((af t d).a8.length:Int)- 2))=I (eY t d):=by rw[b3 U U];unfold iC;rw[if_pos ⟨U,U,U⟩];grind[eY]
 unfold QW;refine D.ae (b8 aG) (D.ae ER ?_);unfold afV;refine D.for ls.length (λi (s:ph×ix)=>((i:Int),(ls.drop i).flatten,s.1,s.2)) (λi s=>tF t s.1/\∀a m:Nat,a<i->(eY t d)[a]? =I (m:Int)->eE s.2 (m:Int)=ls[a]?) (t0:=(W,[])) rfl ⟨Cj,λa m h=>by omega⟩ (λi s hi a7=>?_) λs a7=>?_
 ·obtain⟨p,hp⟩:∃p,(eY t d)[i]? =I p:=⟨_,bN U⟩
  obtain⟨m,rfl,hm,j8,_⟩:=xa aj aI aG c7 hp;obtain⟨l,aC,auI⟩:=hw i m hp;obtain⟨_,t2,t3⟩:=tq aj aI (show m<t.nodes.length by omega) (.inr j8);have B8:=w_ aj aR (show m<t.nodes.length by omega) j8;have auJ:W_ (aM n) (eL t m:Int) t.nodes t.aD st op bi (c_ t) (fQ t O t.nodes.length) eJ L s.1 S=I (e9 t m).b9:=aur bZ n (eL t m) U U t3;have dy:∃c,c<=8/\hP t t.nodes.length (2*t.nodes.length+2) (e9 t m)=I c:=by obtain⟨h1,gu⟩:=bZ.oD.ty (eL t m) U t3;obtain⟨c,_,hX,_,oS⟩:=gu.gC U;exact⟨c,hX,oS⟩
  obtain⟨c,aiA,ax⟩:=dy;have aIH:=Cf ax (bL _);refine D.ar (λ_=>D.aH hp (D.ae (b8 (show m<t.nodes.length by omega)) (D.ae (R2 aj aI (show m<t.nodes.length by omega) (.inr j8)) (D.ae auJ (D.bind (aip bZ ax aiA B8.1 U a7.1) λz aP=>?_))))) d_;obtain⟨aa,Co⟩:=z;obtain⟨c9,dU⟩:=aP;have c9:aa=_:=c9;subst c9;rw[tx B8.1,<-auI];have q_:=auF aC;have If:iC (ls.drop i).flatten 0 (l.length:Int)=I l:=by rw[q_];unfold iC;rw[if_pos ⟨U,U,dZ⟩];simp
  have Cp:iC (ls.drop i).flatten (l.length:Int) ((ls.drop i).flatten.length:Int)=I (ls.drop (i+1)).flatten:=by rw[q_];unfold iC;rw[if_pos ⟨U,dZ,U⟩,dA,dA,List.drop_left' rfl,hW,Nat.add_sub_cancel_left,g4 (bL _)]
  have a9:QT (m:Int) (l.length:Int) (ls.drop i).flatten f e s.2=I ((ls.drop (i+1)).flatten,fB s.2 (m:Int) l):=by simp_all[QT,D.br,D.ae,D.ret]
  refine D.ae a9 (D.inl ⟨(Co,fB s.2 (m:Int) l),by rw[bw U],dU,λa m' a4 wB=>?_⟩);show eE (fB s.2 (m:Int) l) (m':Int)=ls[a]?;rw[sr];by_cases RV:a=i
  ·subst RV;rw[hp]at wB;have so:(m:Int)=m':=Option.some.inj wB;rw[if_pos so,aC]
  ·rw[if_neg (λso=>by
    have h1:=(B1 xi wB hp).2 U;omega)]
   grind
 ·refine D.ar bt λ_=>D.inr ⟨a7.1,λa m a4=>a7.2 a m ?_ a4⟩;grind
theorem auK{r:z_}(aF:tG t O a3 eJ R r V):Io t O a3 eJ R (Hy (aM n) r) V:=by
 intro d e ls st op bi L W S aG c7 hC pu dH B9 aK fG bh h1 h2;have aj:=bZ.ok;have aR:=bZ.wf;have aI:=aR.dI;have fz:=aj.nodes;have j7:=aj.af aG;have gL:=dJ aG;obtain⟨lq,ku,q1⟩:=rx aj aI aG c7;have kR:=to aI aG c7;have xi:(eY t d).Pairwise (· < ·):=by grind[zO,eY,List.Pairwise.sublist,ais]
 have nM:=auG bZ aG c7;have hw:∀a m:Nat,(eY t d)[a]? =I (m:Int)->∃l,ls[a]? =I l/\l.length=gC t (e9 t m):=by
  intro a m a4;have hd:=(List.getElem?_eq_some_iff.1 a4).1;obtain⟨l,aC⟩:∃l,ls[a]? =I l:=⟨_,bN U⟩
  obtain⟨q,bc,_,j8,_⟩:=xa aj aI aG c7 a4;have bc:m=q:=fC bc;subst bc;have:=(dH m (nM a m a4)).2 j8;rw[Sj xi a4 aC]at this;exact⟨l,aC,this.1⟩
 unfold Hy;refine D.ae (z:=(d:Int)) rfl (D.bind (auH (f:=d) (e:=e) bZ aG c7 B9 hw fG.Ck) λz aP=>?_);obtain⟨aII,c3,Co⟩:=z;obtain⟨c9,dU⟩:=aP;have a2:az (op+1)=op+1:=b3 U U;have Ip:aH (af t d).a8 (az (((af t d).a8.length:Int)- 1))=I (fD t d:Int):=by grind[az,af,bn,b3,e7]
 have mr:qJ t c3 (k_ (eY t d) ls) (fD t d):=by
  intro x ak ap;rw[l_ aI U (ny aI aG (cm lq)),sn aG ((vQ aI aG).2 (LM aI aG c7)),iZ]at ak;unfold hl at ak;rw[if_neg (show ¬(af t d).kind=20 by omega),if_pos c7]at ak;split at ak
  ·rcases h3.1 ak with ak|ak
   ·grind[hf,eY,Sj]
   grind
  ·cases ak
 have w3:=Ie aj aI aG c7;refine D.ae (z:=(op+1,max bi (op+1))) (by rw[<-aie,<-a2];rfl) (D.ae (b8 aG) (D.ae Ip (D.bind (aF (fD t d) (k_ (eY t d) ls) (d:Int) e st (op+1) (max bi (op+1)) L Co S c3 hC (.inl q1) pu dH mr U ⟨fG.EV,c9,fG.Cl⟩ U U U) λz aP=>?_)));obtain⟨h0,ir,fK,d0,sA,uM,sB,eu⟩:=z;obtain⟨a2,bc,cR,go,gN,ki⟩:=aP;dsimp only at a2 bc cR go gN ki;refine D.ae (z:=az (fK- 1)) rfl (D.ret ⟨a2,bc,?_,?_,gN⟩)
 ·grind[az,b3]
 grind
theorem aiB{r:z_} {j:Nat}{fr:hr}{e:Nat}{c3:ix}{z:Su}(aO:Io t O a3 eJ R (Hy (aM n) r) (ed t e j))(hC:hZ t f e j)(eg:md t j)(dH:iH t O fr j)(aK:(d' t j).2<=R)(bh:0<=op)(h1:op<=bi)(h2:op+ed t e j<=1000000000000)(ap:(af t j).kind=21)(aG:fE t j=d)(aP:rL t O a3 (hV t O a3 fr f e (bn t j)) (az (st+1)) op bi c3 j z):
  D (KY t.nodes (d:Int) (aM n) (j:Int) t.aD z (c_ t) (fQ t O t.nodes.length) eJ r (hD t j f e)) (rL t O a3 (bB t O a3 j fr f e) st op bi c3 (j+1)):=by
 have aj:=bZ.ok;have aR:=bZ.wf;have aY:=bZ.mw;have bH:=bZ.oD;have aI:=aR.dI;have ag:=hC.1;obtain⟨fe,hX,pE,oS,Sp,ail⟩:=aig (a3:=a3) aj aR aY bH hC eg dH ap aG;obtain⟨db,uL,fh,c7,ax⟩:=hC.call aj aR aY ap;have ea:d=db:=fC (aG.symm.trans uL);subst ea;obtain⟨db,uL,_,_,w3⟩:=YH aj aI aY ag ap;have ea:d=db:=fC (aG.symm.trans uL);subst ea;have ak:eV (af t j).kind=ad:=by rw[ap];rfl
 have cS:=yO (O:=O) (a3:=a3) (fr:=fr) aj aR aY hC eg;unfold mz at cS;rw[if_neg U,if_neg U,if_neg U,if_neg U]at cS;dsimp only at cS;rw[if_neg U,if_neg U,if_neg U,if_pos ap,aG,dA]at cS;obtain⟨h0,ir,fK,d0,sA,uM,sB,eu⟩:=z;obtain⟨a2,bc,cR,go,gN,ki⟩:=aP;dsimp only at a2 bc cR go gN ki;subst a2;subst bc;(have cR:=cR.symm;subst cR);subst go
 have es:1+(qH (λx=>x.2.1) (qH (λq=>bB t O a3 q.toNat fr f e) (bn t j))).sum=1+(hV t O a3 fr f e (bn t j)).2.1:=rfl;have em:ng (qH (λx=>x.2.2) (qH (λq=>bB t O a3 q.toNat fr f e) (bn t j)))=(hV t O a3 fr f e (bn t j)).2.2:=rfl;rw[es,em]at cS;unfold KY;refine D.ae (b8 fh) (D.ar (λdL=>?_) λdL=>?_)
 ·rw[if_pos dL]at cS;refine D.bind (air bZ ag ak gN.Ck _) λz aP=>D.ret ?_;obtain⟨l,tH⟩:=z;obtain⟨c9,dU⟩:=aP;have c9:l=_:=c9;subst c9;refine⟨by rw[cS];rfl,?_,rfl,by rw[cS],⟨gN.EV,dU,gN.Cl⟩,ki.mono (A0 _)⟩;rw[cS];show az (az (st+1)+((hV t O a3 fr f e (bn t j)).2.1:Int))=az (st+((1+(hV t O a3 fr f e (bn t j)).2.1:Nat):Int));rw[tB];grind
 ·rw[if_neg dL]at cS;obtain⟨rB,qI,_⟩:=ax dL;have q_:(hV t O a3 fr f e (bn t j)).1=(((bn t j).map λq=>bB t O a3 q.toNat fr f e).map (·.1)).flatten:=by
   show((bn t j).map λq=>bB t O a3 q.toNat fr f e).flatMap (·.1)=_;rw[List.flatMap_def]
  have p1:(eY t d).length=(((bn t j).map λq=>bB t O a3 q.toNat fr f e).map (·.1)).length:=by rw[hX];simp[dJ ag]
  dsimp only;rw[q_];generalize B9:(((bn t j).map λq=>bB t O a3 q.toNat fr f e).map (·.1))=ls at*;refine D.bind (aO d (hD t j f e) ls _ op _ sA uM sB fh c7 rB qI fe p1 U gN bh U U) λz aP=>D.ret ?_;obtain⟨fW,s1,er,d1,Zd,Co,Ze⟩:=z;obtain⟨c9,dU,dE,k3,jY⟩:=aP;dsimp only at c9 dU dE k3 jY;generalize bB t O a3 (fD t d) (k_ (eY t d) ls) d (hD t j f e)=B at*;generalize (hV t O a3 fr f e (bn t j))=A at*;refine⟨dq,?_,dE,?_,jY,ki.mono (A0 _)⟩
  ·rw[cS];show s1=az (st+((1+A.2.1+B.2.1:Nat):Int));rw[dU,Ch];grind
  grind
end
section
variable {n : Nat} {t : aZ} {O : Nat -> ByteArray} {a3 : Nat -> Int} {eJ : sy} {R V : Nat}
variable (bZ : EU n t O)
include bZ
theorem auL{Cn:L4}{r:z_}{j:Nat}{fr:hr}{f:Int}{e:Nat}{st op bi:Int}{L:ix}{W:ph}{S:bS}{c3:ix}(i_:∀d:Nat,(af t d).kind=40->d<R->(eE eJ (d:Int)).getD 0=a3 d)(aO:tG t O a3 eJ R r (ed t e j))(a4:Cm t O a3 eJ R Cn (ed t e j))(ax:Io t O a3 eJ R (Hy (aM n) r) (ed t e j))(hC:hZ t f e j)(eg:md t j)(dH:iH t O fr j)(mr:qJ t c3 fr j)(aK:(d' t j).2<=R)(fG:sz t O a3 L W S)(bh:0<=op)(h1:op<=bi)(h2:op+ed t e j<=1000000000000):
  D (Q3 (aM n) r Cn (j:Int) t.nodes t.aD st op bi (c_ t) (fQ t O t.nodes.length) f e eJ L W S c3) (rL t O a3 (bB t O a3 j fr f e) st op bi c3 (j+1)):=by
 have aj:=bZ.ok;have aR:=bZ.wf;have aY:=bZ.mw;have bH:=bZ.oD;have aI:=aR.dI;have ag:=hC.1;have j7:=aj.af ag;have gL:=dJ ag;have r4:=yO (O:=O) (a3:=a3) (fr:=fr) aj aR aY hC eg;have sW:max bi (op+((0:Nat):Int))=bi:=by omega
 unfold Q3;by_cases iL:4<=(af t j).kind/\(af t j).kind<=16
 ·have ax:∃c b,Hv (af t j).kind=I (c,b,ad):=by
   by_cases qC:(af t j).kind=4\/(af t j).kind=5
   ·rcases qC with h|h<;>(rw[h];exact⟨_,_,rfl⟩)
   ·obtain⟨c,b,h,_⟩:=aiw (show 6<=(af t j).kind/\(af t j).kind<=16 by omega);simp_all
  obtain⟨c,b,ax⟩:=ax;refine D.ae (b8 ag) (D.ae ax (D.bK (λ_=>?_) dF));exact D.bind (auy bZ (a4) hC eg dH mr aK fG bh h1 h2 ax iL) λz aP=>D.ret aP
 refine D.ae (b8 ag) (D.ae (auv eg iL) (D.bK dF λ_=>D.bK (λbX=>?_) λbX=>D.ar (λdQ=>?_) λdQ=>D.bK (λyN=>?_) λyN=>D.ar (λni=>?_) λni=>D.ar (λIk=>?_) λIk=>D.ar (λaiC=>?_) λaiC=>D.ar (λSy=>?_) λSy=>?_))
 ·rw[jq,decide_eq_true_eq,decide_eq_true_eq]at bX;have cS:=r4;unfold mz at cS;rw[if_pos bX]at cS;have we:=Y4 aj aR aY bH ag bX;refine D.ae (uJ _) (D.ret ⟨?_,dZ,rfl,?_,fG,pi.refl _ _⟩)
  ·rw[cS];show [n4 (af t j).n]=[num (af t j).n]
   unfold n4;rw[if_pos we]
  grind
 ·have cS:=r4;unfold mz at cS;rw[if_neg U,if_pos dQ]at cS;refine D.bind (auA bZ i_ aO hC dH mr aK fG bh h1 h2 dQ) λz aP=>D.ret ⟨?_,dZ,rfl,?_,aP.2,pi.refl _ _⟩
  ·grind
  grind
 ·rw[jq,jq,decide_eq_true_eq,decide_eq_true_eq,decide_eq_true_eq]at yN;exact D.bind (auB bZ aO hC eg dH mr aK fG bh h1 h2 U) λz aP=>D.ret aP
 ·have cS:=r4;unfold mz at cS;rw[if_neg U,if_neg U,if_pos ni]at cS;have aC:=w7 aI ag ni;have lu:=p6 aj aR aY bH ag (i:=0) U;have ea:=p6 aj aR aY bH ag (i:=1) U;obtain⟨y9,dg,h0,fS,xj⟩:=hC.lQ aj aR aY lu.1;have dg:bz t j 0=y9:=fC dg;obtain⟨nG,a2,fW,fe,v4⟩:=hC.lQ aj aR aY ea.1;have a2:bz t j 1=nG:=fC a2;rw[<-dg]at h0 fS xj;rw[<-a2]at fW fe v4;have f0:=dH.LS aj aR aY ag ni;have uy:eL t j=bz t j 0:=by
   obtain⟨r,bl,_⟩:=o7 aI ag U;grind
  have fc:=tz aj aR aY ag eg lu.1;have rB:=tz aj aR aY ag eg ea.1;have v0:=EN (a3:=a3) aj aR aY bH _ (bz t j 0) fr f e (yL _) fS fc f0;have f1:=dH.LU aj aR aY ag ni (by rw[uy];exact v0);have i0:aH (af t j).a8 0=I (bz t j 0:Int):=e7 (i:=0) dq;have i1:aH (af t j).a8 1=I (bz t j 1:Int):=e7 (i:=1) dq;have pJ:=vY aI ag lu.1;have gR:=vY aI ag ea.1;have Y9:=LX aj aR aY bH ag aC;have aIJ:bz t j 0<bz t j 1:=by grind[zO,List.pairwise_cons,List.mem_singleton]
  have eu:qJ t c3 fr (bz t j 0):=by
   intro d aG;rw[l_ aI U (ny aI ag lu.1)]at aG;refine mr d ?_;have:hl t j (bz t j 0)=[]:=by unfold hl;rw[Y9,if_neg];grind
   simp_all
  refine D.ae i0 (D.bind (aO _ fr f e (az (st+1)) op bi L W S c3 fS fc xj f0 eu U fG bh h1 U) λz aP=>?_);obtain⟨NX,ir,fK,d0,sA,uM,sB,Zf⟩:=z;obtain⟨c9,dU,dE,k3,jY,EX⟩:=aP;dsimp only at c9 dU dE k3 jY EX;subst c9;subst dU;(have dE:=dE.symm;subst dE);subst k3
  have hF:qJ t (fB Zf (j:Int) (bB t O a3 (bz t j 0) fr f e).1) (xe fr j (bB t O a3 (bz t j 0) fr f e).1) (bz t j 1):=by
   intro d aG pZ;rw[l_ aI U (ny aI ag ea.1)]at aG;rw[sr];unfold xe;by_cases so:d=j
   ·simp_all
   ·rw[if_neg U,if_neg so];have zK:(d:Int)∈(d' t j).1:=by
     rcases h3.1 aG with aG|aG
     ·unfold hl at aG;grind
     ·exact aG
    rw[EX d (pZ.symm.imp id λnz=>by have:=aiv aj aI j ag d zK nz;omega)];exact mr d zK pZ
  refine D.ae i1 (D.bind (aO _ _ f e _ op (max bi (op+((bB t O a3 (bz t j 0) fr f e).2.2:Int))) sA uM sB _ fe rB v4 f1 hF U jY bh U U) λz aP=>D.ret ?_);refine⟨by rw[cS];exact aP.val,?_,aP.Sw,?_,aP.EW,(EX.mono U).trans (pi.put (aP.Zb.mono U) (yL j) U)⟩
  ·rw[cS];refine aP.Sv.trans ?_;generalize bB t O a3 (bz t j 1) (xe fr j (bB t O a3 (bz t j 0) fr f e).1) f e=B;generalize bB t O a3 (bz t j 0) fr f e=A;show az (az (az (st+1)+(A.2.1:Int))+(B.2.1:Int))=az (st+((1+A.2.1+B.2.1:Nat):Int));rw[Ch];grind
  ·rw[cS];refine aP.qs.trans ?_;grind
 ·obtain⟨d,aG,fh,c7,_⟩:=hC.call aj aR aY Ik;have iO:=(a4) (bn t j) j fr f e (az (st+1)) op bi L W S c3 (In bZ hC eg dH mr aK U) dq (Sq _) fG bh h1 h2;rw[gL]at iO;unfold Xb;have p4:aH (c_ t) (j:Int)=I (d:Int):=by rw[zZ ag,aG]
  have hle:=hC.jW aj aR aY;refine D.bind (D.ae (b8 ag) (D.bind iO λz aP=>D.ae p4 (D.ar (λh=>?_) λh=>?_))) λz aP=>D.ret aP
  ·have so:(hD t j f e:Int)=az ((e:Int)+1):=by unfold hD;rw[aG,if_pos h,bw U]
   rw[<-so];exact aiB bZ (ax) hC eg dH aK bh h1 h2 Ik aG dq
  ·have so:(hD t j f e:Int)=0:=by simp_all[hD,if_neg]
   rw[<-so];exact aiB bZ (ax) hC eg dH aK bh h1 h2 Ik aG dq
 ·exact D.bind (auD bZ aO hC eg dH mr aK fG bh h1 h2 aiC) λz aP=>D.ret aP
 ·have cS:=r4;unfold mz at cS;rw[if_neg U,if_neg U,if_neg U,if_neg U]at cS;dsimp only at cS;rw[if_neg U,if_neg U,if_neg U,if_neg U,if_neg U,if_pos Sy]at cS;obtain⟨k,f1,f2,f3,f4,f5,f6⟩:=aih aj aR aY bH ag Sy;have k0:=oB (a3:=a3) aj aR aY bH hC eg dH U (i:=0) U;have bX:=oB (a3:=a3) aj aR aY bH hC eg dH U (i:=1) U;have v0:=k0.p8;have v1:=bX.p8;rw[f1]at v0;rw[f5]at v1;rw[LX aj aR aY bH ag f6]at cS;simp only[hH,qp,z8,z9,ng,dA,oJ,ait]at cS;have zh:=In (R:=R) (c3:=c3) bZ hC eg dH mr aK U;obtain⟨y9,dg,fS⟩:=zh _ k0.fw;have dg:bz t j 0=y9:=fC dg;rw[<-dg]at fS;obtain⟨nG,a2,fe⟩:=zh _ bX.fw;have a2:bz t j 1=nG:=fC a2;rw[<-a2]at fe;have xj:=fS.ed;have v4:=fe.ed;have ak:eV (af t j).kind=ad:=by rw[Sy];rfl
  refine D.ae k0.rA (D.bind (aO _ fr f e (az (st+1)) op bi L W S c3 fS.pg fS.qF fS.ed fS.tE fS.zM fS.w2 fG bh h1 U) λz aP=>?_);obtain⟨NX,ir,fK,d0,sA,uM,sB,Zf⟩:=z;obtain⟨c9,dU,dE,k3,jY,EX⟩:=aP;dsimp only at c9 dU dE k3 jY EX;subst c9;subst dU;(have dE:=dE.symm;subst dE);subst k3
  refine D.ae (e7 (St aj aR bH j ag ak)) (D.bind (aiq bZ ag ak jY.Ck) λw hw=>?_);obtain⟨auM,Co⟩:=w;obtain⟨iK,ke⟩:=hw;have iK:auM=_:=iK;subst iK;refine D.ae bX.rA (D.bind (aO _ fr f e _ op (max bi (op+((bB t O a3 (bz t j 0) fr f e).2.2:Int))) sA Co sB Zf fe.pg fe.qF fe.ed fe.tE (fe.zM.ia (EX.mono fS.lt) fe.Zc) fe.w2 ⟨jY.EV,ke,jY.Cl⟩ bh U U) λz aP=>?_);obtain⟨If,s1,er,d1,Zd,acv,Ze,aIK⟩:=z;obtain⟨al,am,ao,ah,aq,av⟩:=aP;dsimp only at al am ao ah aq av;subst al;refine D.ae (e7 (i:=0) (v1.aG (bL _)).2) (D.ae (atz v0.1 f2 f3 f4 v0.2 (v1.aG (bL _)).1) (D.ret ⟨by rw[cS],?_,ao,?_,aq,(EX.mono (Im fS.lt)).trans (av.mono (Im fe.lt))⟩))
  ·rw[cS];refine am.trans ?_;generalize bB t O a3 (bz t j 1) fr f e=B;generalize bB t O a3 (bz t j 0) fr f e=A;show az (az (az (st+1)+(A.2.1:Int))+(B.2.1:Int))=az (st+((1+(A.2.1+B.2.1):Nat):Int));rw[Ch];grind
  grind
 ·rw[jy,decide_eq_false_iff_not,decide_eq_false_iff_not]at bX;rw[jy,jy,decide_eq_false_iff_not,decide_eq_false_iff_not,decide_eq_false_iff_not]at yN;have cS:=r4;unfold mz at cS;rw[if_neg U,if_neg U,if_neg U,if_neg U]at cS;dsimp only at cS;rw[if_neg U,if_neg U,if_neg U,if_neg U,if_neg U,if_neg U]at cS;have iO:=(a4) (bn t j) j fr f e (az (st+1)) op bi L W S c3 (In bZ hC eg dH mr aK U) dq (Sq _) fG bh h1 h2;rw[gL]at iO;refine D.bind iO λz aP=>D.ret ⟨?_,?_,aP.Sw,?_,aP.EW,aP.Zb.mono (A0 _)⟩
  ·rw[cS,gL];exact aP.val
  ·rw[cS,gL];refine aP.Sv.trans ?_;show az (az (st+1)+((hV t O a3 fr f e (af t j).a8).2.1:Int))=az (st+((1+(hV t O a3 fr f e (af t j).a8).2.1:Nat):Int));rw[tB];grind
  ·rw[cS,gL];exact aP.qs
end
section
variable {n : Nat} {t : aZ} {O : Nat -> ByteArray} {a3 : Nat -> Int} {eJ : sy} {R V : Nat}
variable (bZ : EU n t O) (i_ : ∀ d : Nat, (af t d).kind = 40 -> d < R -> (eE eJ (d : Int)).getD 0 = a3 d)
include bZ
theorem tG.zI{r:z_}(h:tG t O a3 eJ R r (min n V)):tG t O a3 eJ R r V:=λm fr f e st op bi L W S c3 h1 h2 ay=>h m fr f e st op bi L W S c3 h1 h2 (by have:=h1.ed bZ.ok bZ.wf bZ.mw;have:=bZ.p_;omega)
include i_
theorem auN{Cn:L4}(a4:∀v,v<=V->Cm t O a3 eJ R Cn v):∀k,tG t O a3 eJ R (Q4 (aM n) Cn k) (min k (V+1)):=by
 intro k;induction k with
 |zero=>intro m fr f e st op bi L W S c3 _ _ h;omega
 |succ k bx=>intro m fr f e st op bi L W S c3 h1 h2 ay bl bO cX hq g8 kg AP;have aO:=bx.mono (show ed t e m<=min k (V+1) by omega);exact auL bZ i_ aO (a4 _ U) (auK bZ aO) h1 h2 bl bO cX hq g8 kg AP
theorem auO:∀k v,v<=k->Cm t O a3 eJ R (HB (aM n) (k+1)) v:=by
 intro k;induction k with
 |zero=>
  intro v bp;obtain rfl:v=0:=by omega
  show Cm t O a3 eJ R (HA (aM n) (HB (aM n) 0)) 0;exact aix bZ λm fr f e st op bi L W S c3 _ _ h=>by omega
 |succ k bx=>intro v bp;show Cm t O a3 eJ R (HA (aM n) (HB (aM n) (k+1))) v;exact aix bZ (tG.zI bZ ((auN bZ i_ (V:=k) (λv bp=>bx v bp) n).mono U))
theorem auP:Cm t O a3 eJ R (Xi (aM n)) 9999999:=by
 have kg:=bZ.p_;obtain⟨k,rfl⟩:∃k,n=k+1:=⟨n- 1,U⟩
 exact auO bZ i_ k _ U
end
section
variable {n : Nat} {t : aZ} {O : Nat -> ByteArray} {a3 : Nat -> Int} {eJ : sy} {R V : Nat} {w : List Int}
def Iq(t:aZ)(w:List Int)(p:Nat)(eJ:sy):Prop:=∀d:Nat,(af t d).kind=40->(d:Int)∈t.aD.take p->eE eJ (d:Int)=I (k' t w d)
def auQ(aj:cH t)(aR:fZ t){p:Nat}(hp:p<=t.aD.length){ci:List Int}{kN:List ByteArray}{L:ix}{W:ph}{S:bS}(Ir:w.length<=1000000){q:Int}(aB:q=(p:Int)- 1):
  D (Qv (aM n) q w t.nodes t.aD 0 0 0 ci kN [] L W S) λz=>z.1=jX t w p/\(z.1=ad->Iq t w p z.2):=by
 subst aB;have aI:=aR.dI;have ey:=aj.aD;have a2:az ((p:Int)- 1+1)=(p:Int):=by rw[show(p:Int)- 1+1=(p:Int) by omega,b3 U U]
 have ER:iC t.aD 0 (p:Int)=I (t.aD.take p):=by simp_all[iC,if_pos]
 unfold Qv WS;refine D.ae (z:=(p:Int)- 1) rfl ?_;rw[a2,ER,Option.bind_some];unfold afI;have sP:(t.aD.take p).length=p:=by simp_all
 refine D.bind (Q:=λz=>match z with| .inl a=>a.1=aS/\jX t w p=aS| .inr a=>jX t w p=decide (a.2.1=(w.length:Int))/\(jX t w p=ad->Iq t w p a.2.2)) ?_ λz aP=>?_
 ·refine D.for p (λi (s:Nat×sy)=>((i:Int),aS,(s.1:Int),s.2)) (λi s=>(s.1=(p9 t (t.aD.take i)).length/\s.1<=w.length)/\jX t w p=nk t w ((t.aD.take p).drop i) s.1/\(jX t w p=ad->Iq t w i s.2)) (t0:=(0,[])) rfl ⟨⟨rfl,Nat.zero_le _⟩,by rw[List.drop_zero];rfl,λ_ d _ hm=>by simp_all⟩ (λi s hi a7=>?_) λs a7=>?_
  ·obtain⟨k,eJ⟩:=s;obtain⟨⟨ap,Sz⟩,nH,i_⟩:=a7;dsimp only at ap Sz nH i_;obtain⟨x,ak⟩:∃x,t.aD[i]? =I x:=⟨_,bN U⟩
   obtain⟨m,rfl,_,hm⟩:=aI.ht.fw _ (cm ak);have w4:(t.aD.take p)[i]? =I (m:Int):=by grind
   have aG:(t.aD.take p).drop i=(m:Int)::(t.aD.take p).drop (i+1):=HP w4;have j7:k<=i:=by rw[ap];refine gE (List.length_filter_le _ _) ?_;grind
   rw[aG,ET,dA]at nH;refine D.ar (λ_=>D.aH w4 (D.ae (b8 hm) (D.ar (λdm=>?_) λdm=>?_))) d_
   ·rw[if_pos dm]at nH;obtain⟨_,kR,fc,rB,h0,fW⟩:=oC aj aR hm dm;refine D.ae fc (D.ae (b8 (show bz t m 0<t.nodes.length by omega)) (D.ae rB (D.ae (b8 (show bz t m 1<t.nodes.length by omega)) ?_)));by_cases aiD:k<w.length
    ·obtain⟨y,a9⟩:∃y,w[k]? =I y:=⟨_,bN aiD⟩
     rw[a9]at nH;dsimp only at nH;by_cases y4:ez t m<=y
     ·by_cases AH:y<=eD t m
      ·rw[decide_eq_true y4,decide_eq_true AH,fm,fm]at nH;refine D.ae (z:=Sum.inr (aS,((k+1:Nat):Int),fB eJ (m:Int) y)) ?_ ?_
       ·refine D.br ?_;unfold Hs;refine D.ar bt λ_=>D.aH a9 (D.ar (λh=>absurd h (by grind[ez])) λ_=>D.aH a9 (D.ar (λh=>absurd h (by grind[eD])) λ_=>D.aH a9 (D.ret ?_)));rw[bw U]
       ·refine D.inl ⟨(k+1,fB eJ (m:Int) y),by rw[bw U],⟨?_,aiD⟩,nH,λgf d Zg Zh=>?_⟩
        ·simp_all[da,Sr,hW,p9,EQ,if_pos]
        ·show eE (fB eJ (m:Int) y) (d:Int)=_;rw[sr];by_cases so:(m:Int)=d
         ·rw[if_pos so];grind[fC,k',Y_]
         ·rw[if_neg so];refine i_ gf d Zg ?_;rw[da ak]at Zh;grind
      ·rw[decide_eq_false AH,Bool.and_false,ja]at nH;refine D.ae (z:=Sum.inl (aS,(k:Int),eJ)) ?_ (D.inr ⟨rfl,nH⟩);refine D.br ?_;unfold Hs;exact D.ar bt λ_=>D.aH a9 (D.ar (λh=>absurd h (by grind[ez])) λ_=>D.aH a9 (D.ar (λ_=>D.ret rfl) λh=>absurd (by simp_all[eD]) h))
     ·rw[decide_eq_false y4,ja,ja]at nH;refine D.ae (z:=Sum.inl (aS,(k:Int),eJ)) ?_ (D.inr ⟨rfl,nH⟩);refine D.br ?_;unfold Hs;exact D.ar bt λ_=>D.aH a9 (D.ar (λ_=>D.ret rfl) λh=>absurd (by simp_all[ez]) h)
    ·rw[List.getElem?_eq_none U]at nH;dsimp only at nH;refine D.ae (z:=Sum.inl (aS,(k:Int),eJ)) ?_ (D.inr ⟨rfl,nH⟩);refine D.br ?_;unfold Hs;exact D.ar (λ_=>D.ret rfl) d_
   ·rw[if_neg dm]at nH;refine D.inl ⟨(k,eJ),by rw[bw U],⟨?_,Sz⟩,nH,λgf d Zg Zh=>?_⟩
    ·simp_all[da,Sr,hW,p9,EQ,if_neg]
    ·refine i_ gf d Zg ?_;rw[da ak]at Zh;grind
  ·obtain⟨k,eJ⟩:=s;obtain⟨⟨ap,Sz⟩,nH,i_⟩:=a7;dsimp only at ap Sz nH i_;refine D.ar bt λ_=>D.inr ⟨?_,i_⟩;rw[nH,List.drop_eq_nil_of_le U];show decide (k=w.length)=decide ((k:Int)=(w.length:Int));grind
 grind[D.ret,trans]
end
end Go.Proofs.YtjfgooffdmnnkaaGreatDoor

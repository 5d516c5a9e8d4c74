/- The program's evaluator: what its parts promise; lists, operations, names. -/
import Derived.Test.YtgfggdcbhjhegaaGreatDoorWi
set_option linter.all false
set_option maxRecDepth 100000
set_option maxHeartbeats 1000000
namespace Go.Proofs.YtgfggdcbhjhegaaGreatDoor
open Go Go.Mi Go.RowKit Go.Dp
open Bool renaming or_eq_true->hk,or_eq_false_iff->iM,not_eq_false'->qy,not_eq_true'->mZ,false_and->hV,true_and->hJ,false->aQ,true->ah,and_eq_true->ea
open Int renaming toNat_natCast->eq
open Int.ofNat renaming inj->ew
open List renaming getElem?_eq_getElem->cq,mem_of_getElem?->cC,take_of_length_le->fz,mem_append->ig,append_nil->j3,map_cons->gI,length_append->ky,map_nil->oc,flatMap_cons->iX,flatMap_nil->yy,sum_cons->nR,sum_nil->sI,mem_append_left->xb,map->ox,getElem?_of_mem->fO,take_sublist->adX,filter_cons->AO
open Nat renaming le_refl->b5,le_succ_of_le->D0,lt_succ_self->qI,le_succ->AT,le_trans->jC,add_zero->mO,max_zero->adY
open Option renaming some->D
abbrev pj:=List (Int×Int)
abbrev hc:=List (Int×List bt)
abbrev lU:=List (ByteArray×Int)
abbrev bI:=List (Int×oi)
abbrev Ny:=List bt×Int×Int×Int×hc×lU×bI×hc
abbrev wD:=Int->List bz->List Int->Int->Int->Int->List Int->List ByteArray->Int->Int->pj->hc->lU->bI->hc->Option Ny
abbrev Hw:=List Int->List bz->List Int->Int->Int->Int->List Int->List ByteArray->Int->Int->pj->hc->lU->bI->hc->Option Ny
structure pk(t:bf)(O:Nat->ByteArray)(aT:Nat->Int)(L:hc)(W:lU)(S:bI):Prop where
 AU:∀(d:Nat) l,dP L (d:Int)=D l->(af t d).kind=43->l=(bo t O aT (dR t d) (λ_=>[]) (-1) 0).1
 yA:nX t W
 yB:Hv t O S
def oy(t:bf)(cI:hc)(fr:gq)(j:Nat):Prop:=∀d:Nat,(d:Int)∈(dz t j).1->(af t d).kind=20\/(af t d).kind=34->(dP cI (d:Int)).getD []=fr d
def nk(t:bf)(b gi:hc)(p:Nat):Prop:=∀d:Nat,(af t d).kind=34\/p<=d->dP gi (d:Int)=dP b (d:Int)
structure pt(t:bf)(O:Nat->ByteArray)(aT:Nat->Int)(r:sH)(st op a':Int)(cI:hc)(p:Nat)(z:Ny):Prop where
 val:z.1=r.1
 Nz:z.2.1=aH (st+(r.2.1:Int))
 NA:z.2.2.1=op
 og:z.2.2.2.1=max a' (op+(r.2.2:Int))
 AV:pk t O aT z.2.2.2.2.1 z.2.2.2.2.2.1 z.2.2.2.2.2.2.1
 UL:nk t cI z.2.2.2.2.2.2.2 p
def pm(t:bf)(O:Nat->ByteArray)(aT:Nat->Int)(nm:pj)(R:Nat)(r:wD)(V:Nat):Prop:=
 ∀(m:Nat)(fr:gq)(f:Int)(e:Nat)(st op a':Int)(L:hc)(W:lU)(S:bI)(cI:hc),gW t f e m->kr t m->dy t e m<V->hj t O fr m->oy t cI fr m->(dz t m).2<=R->pk t O aT L W S->0<=op->op<=a'->op+dy t e m<=1000000000000->
  I (r m t.nodes t.aX st op a' (c2 t) (eN t O t.nodes.length) f e nm L W S cI) (pt t O aT (bo t O aT m fr f e) st op a' cI (m+1))
structure of(t:bf)(O:Nat->ByteArray)(R V p:Nat)(fr:gq)(f:Int)(e:Nat)(cI:hc)(m:Nat):Prop where
 lt:m<p
 nj:gW t f e m
 ov:kr t m
 dy:Proofs.YtgfggdcbhjhegaaGreatDoor.dy t e m<V
 qP:hj t O fr m
 wb:oy t cI fr m
 tE:(dz t m).2<=R
 UM:∀d:Nat,(d:Int)∈(dz t m).1->(af t d).kind=20->p<=d
noncomputable def gR(t:bf)(O:Nat->ByteArray)(aT:Nat->Int)(fr:gq)(f:Int)(e:Nat)(l:List Int):sH:=
 ((l.map λq=>bo t O aT q.toNat fr f e).flatMap (·.1),((l.map λq=>bo t O aT q.toNat fr f e).map (·.2.1)).sum,lA ((l.map λq=>bo t O aT q.toNat fr f e).map (·.2.2)))
def yC(t:bf)(O:Nat->ByteArray)(aT:Nat->Int)(nm:pj)(R:Nat)(r:Hw)(V:Nat):Prop:=
 ∀(l:List Int)(p:Nat)(fr:gq)(f:Int)(e:Nat)(st op a':Int)(L:hc)(W:lU)(S:bI)(cI:hc),(∀q∈l,∃m:Nat,q=m/\of t O R V p fr f e cI m)->l.length<=800->aH st=st->pk t O aT L W S->0<=op->op<=a'->op+V<=1000000000000->
  I (r l t.nodes t.aX st op a' (c2 t) (eN t O t.nodes.length) f e nm L W S cI) (pt t O aT (gR t O aT fr f e l) st op a' cI p)
section
variable {n : Nat} {t : bf} {O : Nat -> ByteArray} {aT : Nat -> Int} {nm : pj} {R V : Nat}
theorem nk.mono{b gi:hc}{p r':Nat}(h:nk t b gi p)(hp:p<=r'):nk t b gi r':=λd az=>h d (az.imp id λq=>jC hp q)
theorem nk.refl(b:hc)(p:Nat):nk t b b p:=λ_ _=>rfl
theorem nk.trans{b gi adZ:hc}{p:Nat}(h:nk t b gi p)(dp:nk t gi adZ p):nk t b adZ p:=λd az=>(dp d az).trans (h d az)
theorem nk.put{b gi:hc}{p j:Nat}{l:List bt}(h:nk t (d_ b (j:Int) l) gi p)(ae:j<p)(au:(af t j).kind≠34):nk t b gi p:=λd az=>by rw[h d az,u6,if_neg];grind
theorem oy.UN{b gi:hc}{fr:gq}{j p:Nat}(h:oy t b fr j)(aV:nk t b gi p)(bg:∀d:Nat,(d:Int)∈(dz t j).1->(af t d).kind=20->p<=d):oy t gi fr j:=λd az au=>by rw[aV d (au.symm.imp id λk8=>bg d az k8)];exact h d az au
theorem ad0(ai:c7 t)(ay:ik t):∀j,j<t.nodes.length->∀d:Nat,(d:Int)∈(dz t j).1->(af t d).kind=20->j<d:=by
 refine Dy ay (λj ae e d az=>?_) λj p ae hp Au hm e bB d az au=>?_
 ·simp_all[pa]
 ·rw[j9 ay ae e]at az;rcases ig.1 az with az|az
  ·unfold f_ at az;split at az
   ·split at az
    ·grind
    ·split at az
     ·next b9=>
      rcases ig.1 az with az|az
      ·obtain⟨a,a9⟩:=fO (show(d:Int)∈dh t p from az);grind[pe,ew]
      grind
     ·cases az
   ·cases az
  grind
theorem ad1{k:Int}(h:6<=k/\k<=16):∃c b,CQ k=D (c,b,ah)/\yt c/\∀x y,AJ k x y=if b=ah then qJ 6 (kQ c x y)else kQ c x y:=by
 have:k=6\/k=7\/k=8\/k=9\/k=10\/k=11\/k=12\/k=13\/k=14\/k=15\/k=16:=by omega
 rcases this with h|h|h|h|h|h|h|h|h|h|h<;>subst h
 all_goals refine⟨_,_,rfl,?_,λx y=>rfl⟩
 all_goals (unfold yt;decide)
theorem ap8{j:Nat}(dE:kr t j)(h:¬(4<=(af t j).kind/\(af t j).kind<=16)):CQ (af t j).kind=D (0,aQ,aQ):=by
 have:(af t j).kind=1\/(af t j).kind=2\/(af t j).kind=3\/(af t j).kind=17\/(af t j).kind=18\/(af t j).kind=19\/(af t j).kind=20\/(af t j).kind=21\/(af t j).kind=22\/(af t j).kind=23\/(af t j).kind=24\/(af t j).kind=25\/(af t j).kind=26:=by
  rcases dE with h2|h2
  ·unfold ei at h2;grind
  ·omega
 rcases this with h|h|h|h|h|h|h|h|h|h|h|h|h<;>(rw[h];rfl)
variable (bV : AS n t O)
include bV
variable {fr:gq}{j:Nat}
theorem oy.kb{b:hc} {m:Nat}(ae:j<t.nodes.length)(hm:(m:Int)∈bd t j)(au:(af t j).kind≠20/\(af t j).kind≠42)(h:oy t b fr j):oy t b fr m:=by have ay:=bV.wf.cZ;obtain⟨m',e,ge⟩:=ib ay ae hm;have e:m=m':=ew e;subst e;intro d az;rw[j9 ay aa (lv ay ae hm)]at az;refine h d ?_;simp_all[f_,if_neg]
variable {e:Nat}{f:Int}
theorem D1{cI:hc}(hC:gW t f e j)(dE:kr t j)(c1:hj t O fr j)(kN:oy t cI fr j)(bv:(dz t j).2<=R)(au:(af t j).kind≠20):∀q∈bd t j,∃m:Nat,q=m/\of t O R (dy t e j) j fr f e cI m:=by
 intro q aE;have ay:=bV.wf.cZ;have ae:=hC.1;have b9:(af t j).kind≠42:=by
  intro h;rcases dE with h2|h2
  ·rw[h]at h2;cases h2
  ·omega
 obtain⟨m,rfl,hm,h1,h2⟩:=hC.kb bV.ok bV.wf bV.ht aE;refine⟨m,rfl,hm,h1,qK bV.ok bV.wf bV.ht ae dE aE,h2,c1.kb bV.ok bV.wf bV.ht ae aE ⟨au,b9⟩,kN.kb bV ae aE ⟨au,b9⟩,by grind[sG],λd az k8=>?_⟩;rw[j9 ay aa (lv ay ae aE)]at az;have:f_ t j m=[]:=by unfold f_;rw[if_neg au,if_neg b9];split<;>rfl
 rw[this]at az;exact Nat.le_of_lt (ad0 bV.ok ay j ae d az k8)
theorem ad2{wE:Hw}(aM:pm t O aT nm R (zU (aZ n) wE) V):yC t O aT nm R (CU (aZ n) wE) V:=by
 intro l p fr f e st op a' L W S cI aK hlen cB eT bw h1 h2;have e0:=bV.ok.nodes;unfold CU aaP;have qj:max a' (op+((0:Nat):Int))=a':=by omega
 refine I.for l.length (λi (s:hc×lU×bI×hc)=>((gR t O aT fr f e (l.take i)).1,(i:Int),aH (st+((gR t O aT fr f e (l.take i)).2.1:Int)),op,max a' (op+((gR t O aT fr f e (l.take i)).2.2:Int)),s.1,s.2.1,s.2.2.1,s.2.2.2)) (λi s=>pk t O aT s.1 s.2.1 s.2.2.1/\nk t cI s.2.2.2 p/\(gR t O aT fr f e (l.take i)).1.length<=8*i) (t0:=(L,W,S,cI)) ?_ ⟨eT,nk.refl _ _,by simp[gR]⟩ (λi s ao bq=>?_) λs bq=>?_
 ·show _=([],0,aH (st+((0:Nat):Int)),op,max a' (op+((0:Nat):Int)),L,W,S,cI)
  rw[qj,show st+((0:Nat):Int)=st by omega,cB]
 ·obtain⟨UO,sL,UP,jS⟩:=s;obtain⟨ap9,jn,aqa⟩:=bq;obtain⟨q,aE⟩:∃q,l[i]? =D q:=⟨_,cq ao⟩
  obtain⟨m,rfl,au⟩:=aK q (cC aE);have kN:=au.wb.UN jn au.UM;have bg:=(yw (aT:=aT) bV.ok bV.wf bV.ht bV.g2 _ m fr f e (qI _) au.nj au.ov au.qP).1;obtain⟨_,_,_,Ed,_,apS,_⟩:=mh bV.ok bV.wf bV.ht bV.g2 au.nj.1 au.ov;have kU:=au.dy;have Hp:op<=max a' (op+((gR t O aT fr f e (l.take i)).2.2:Int)):=by omega
  refine I.aC (λ_=>I.aL aE (I.bind (aM m fr f e (aH (st+((gR t O aT fr f e (l.take i)).2.1:Int))) op _ UO sL UP jS au.nj au.ov au.dy au.qP kN au.tE ap9 bw Hp aa) λz bj=>?_)) dv;obtain⟨jr,jv,eH,d0,oz,p6,oA,fg⟩:=z;obtain⟨a5,bk,c0,gA,gT,j2⟩:=bj;dsimp only at a5 bk c0 gA gT j2;subst a5;subst bk;(have c0:=c0.symm;subst c0);subst gA
  refine I.aq (jj (jC (Nat.add_le_add aqa (show(bo t O aT m fr f e).1.length<=8 by omega)) aa)) (I.inl ⟨(oz,p6,oA,fg),?_,gT,jn.trans (j2.mono au.lt),?_⟩)
  ·have Ar:gR t O aT fr f e (l.take (i+1))=((gR t O aT fr f e (l.take i)).1++(bo t O aT m fr f e).1,(gR t O aT fr f e (l.take i)).2.1+(bo t O aT m fr f e).2.1,max (gR t O aT fr f e (l.take i)).2.2 (bo t O aT m fr f e).2.2):=by
    unfold gR;rw[gd aE];simp only[List.map_append,gI,oc,List.flatMap_append,iX,yy,j3,List.sum_append,nR,sI,eq,Nt,mO]
   rw[Ar];dsimp only;rw[cM aa,qM];have bk:st+((gR t O aT fr f e (l.take i)).2.1:Int)+((bo t O aT m fr f e).2.1:Int)=st+(((gR t O aT fr f e (l.take i)).2.1+(bo t O aT m fr f e).2.1:Nat):Int):=by omega
   have c0:max (max a' (op+((gR t O aT fr f e (l.take i)).2.2:Int))) (op+((bo t O aT m fr f e).2.2:Int))=max a' (op+((max (gR t O aT fr f e (l.take i)).2.2 (bo t O aT m fr f e).2.2:Nat):Int)):=by omega
   rw[bk,c0]
  ·have Ar:(gR t O aT fr f e (l.take (i+1))).1=(gR t O aT fr f e (l.take i)).1++(bo t O aT m fr f e).1:=by
    unfold gR;rw[gd aE];simp
   grind
 ·refine I.aC br λ_=>I.inr ?_;rw[fz (b5 _)];exact⟨rfl,rfl,rfl,rfl,bq.1,bq.2.1⟩
variable {a' op st:Int}
theorem aqb{r:Hw}{L:hc}{W:lU}{S:bI}{cI:hc}(aM:yC t O aT nm R r (dy t e j))(hC:gW t f e j)(dE:kr t j)(c1:hj t O fr j)(kN:oy t cI fr j)(bv:(dz t j).2<=R)(eT:pk t O aT L W S)(bw:0<=op)(h1:op<=a')(h2:op+dy t e j<=1000000000000){c:Int}{b:Bool}(hm:CQ (af t j).kind=D (c,b,ah))(au:4<=(af t j).kind/\(af t j).kind<=16):
  I (Lh (aZ n) r (j:Int) c b t.nodes t.aX (aH (st+1)) op a' (c2 t) (eN t O t.nodes.length) f e nm L W S cI) (pt t O aT (bo t O aT j fr f e) st op a' cI (j+1)):=by
 have ai:=bV.ok;have aO:=bV.wf;have aS:=bV.ht;have bx:=bV.g2;have ay:=aO.cZ;have ae:=hC.1;have h3:=ai.af ae;have fc:=c6 ae;have hl:=aM (bd t j) j fr f e (aH (st+1)) op a' L W S cI (D1 bV hC dE c1 kN bv aa) cK (Hq _) eT bw h1 h2;have pK:=va (O:=O) (aT:=aT) (fr:=fr) ai aO aS hC dE;obtain⟨_,hw,lz⟩:=DX ai aO aS bx ae aa;unfold Lh;rw[fc]at hl;refine I.aq (cw ae) (I.bind hl λz bj=>?_);obtain⟨jr,jv,eH,d0,oz,p6,oA,fg⟩:=z;obtain⟨a5,bk,c0,gA,gT,j2⟩:=bj;dsimp only at a5 bk c0 gA gT j2;subst a5;subst bk;(have c0:=c0.symm;subst c0);subst gA
 rw[<-fc];have fin:∀v:bt,bo t O aT j fr f e=([v],1+(gR t O aT fr f e (bd t j)).2.1,(gR t O aT fr f e (bd t j)).2.2)->pt t O aT (bo t O aT j fr f e) st op a' cI (j+1) ([v],aH (aH (st+1)+((gR t O aT fr f e (bd t j)).2.1:Int)),op,max a' (op+((gR t O aT fr f e (bd t j)).2.2:Int)),oz,p6,oA,fg):=by intro v bg;refine⟨by rw[bg],?_,rfl,by rw[bg],gT,j2.mono (AT _)⟩;rw[bg];show aH (aH (st+1)+((gR t O aT fr f e (bd t j)).2.1:Int))=aH (st+((1+(gR t O aT fr f e (bd t j)).2.1:Nat):Int));rw[qM];grind
 by_cases oo:(af t j).kind=4\/(af t j).kind=5
 ·have aK:=mf ay ae aa;have k0:=mM (aT:=aT) ai aO aS bx hC dE c1 aa (i:=0) aa;have v0:=k0.nU;rw[lz 0 aa]at v0;have lh:(gR t O aT fr f e (bd t j)).1=(bo t O aT (bP t j 0) fr f e).1:=by
   grind[gR,Ho,eq]
  have aqc:(c=5\/c=6)/\b=aQ/\bo t O aT j fr f e=([qJ c (ha (gR t O aT fr f e (bd t j)).1)],1+(gR t O aT fr f e (bd t j)).2.1,(gR t O aT fr f e (bd t j)).2.2):=by
   have cB:=pK;unfold kR at cB;rw[if_neg aa,if_neg aa,if_neg aa,if_neg aa]at cB;dsimp only at cB;rcases oo with bp|bp
   ·rw[bp]at hm;cases hm;rw[if_pos bp]at cB;exact⟨.inl rfl,rfl,cB⟩
   ·rw[bp]at hm;cases hm;rw[if_neg aa,if_pos bp]at cB;exact⟨.inr rfl,rfl,cB⟩
  obtain⟨aP,rfl,cB⟩:=aqc;rw[lh]at cB⊢;have i0:aL (bo t O aT (bP t j 0) fr f e).1 0=D (ha (bo t O aT (bP t j 0) fr f e).1):=e3 (i:=0) (v0.az (b5 _)).2;have hlen:((bo t O aT (bP t j 0) fr f e).1.length:Int)=1:=by rw[v0.1];rfl
  exact I.aC (λ_=>I.aq i0 (I.aq (ads aP (v0.az (b5 _)).1) (I.bC cF λ_=>I.ret (fin _ cB)))) λh=>absurd hlen h
 ·have aK:=wr ay ae (.inl aa);obtain⟨c',gi,td,MP,hE⟩:=ad1 (show 6<=(af t j).kind/\(af t j).kind<=16 by omega);rw[hm]at td;cases td;have k0:=mM (aT:=aT) ai aO aS bx hC dE c1 aa (i:=0) aa;have dA:=mM (aT:=aT) ai aO aS bx hC dE c1 aa (i:=1) aa;have v0:=k0.nU;have v1:=dA.nU;rw[lz 0 aa]at v0;rw[lz 1 aa]at v1;have vc:=(v0.az (b5 _)).1;have Hn:=(v1.az (b5 _)).1;have lh:(gR t O aT fr f e (bd t j)).1=[ha (bo t O aT (bP t j 0) fr f e).1,ha (bo t O aT (bP t j 1) fr f e).1]:=by
   unfold gR;rw[Hm ai aO aS bx ae aK];simp only[gI,oc,iX,yy,j3,eq];rw[v0.Hl,v1.Hl];rfl
  have cB:bo t O aT j fr f e=([AJ (af t j).kind (ha (bo t O aT (bP t j 0) fr f e).1) (ha (bo t O aT (bP t j 1) fr f e).1)],1+(gR t O aT fr f e (bd t j)).2.1,(gR t O aT fr f e (bd t j)).2.2):=by have cB:=pK;unfold kR at cB;rw[if_neg aa,if_neg aa,if_neg aa,if_neg aa]at cB;dsimp only at cB;rw[if_neg aa,if_neg aa,if_pos aa,show((bd t j).map λq=>bo t O aT q.toNat fr f e).flatMap (·.1)=(gR t O aT fr f e (bd t j)).1 from rfl,lh]at cB;exact cB
  rw[lh];rw[hE]at cB;refine I.aC (λh=>absurd h fT) λ_=>I.aq (e3 (i:=0) rfl) (I.aq (e3 (i:=1) rfl) (I.aq (apc MP vc Hn) ?_));cases b with
  |true=>exact I.aq (ads (.inr rfl) (Up vc Hn)) (I.ret (fin _ cB))
  |false=>exact I.ret (fin _ cB)
theorem aqd{r:wD}{L:hc}{W:lU}{S:bI}{cI:hc}(gu:∀d:Nat,(af t d).kind=40->d<R->(dP nm (d:Int)).getD 0=aT d)(aM:pm t O aT nm R r (dy t e j))(hC:gW t f e j)(c1:hj t O fr j)(kN:oy t cI fr j)(bv:(dz t j).2<=R)(eT:pk t O aT L W S)(bw:0<=op)(h1:op<=a')(h2:op+dy t e j<=1000000000000)(au:(af t j).kind=3):
  I (Lj (aZ n) r (j:Int) t.nodes t.aX (aH (st+1)) op a' (c2 t) (eN t O t.nodes.length) f e nm L W S cI) λz=>z.1=rK t aT (bo t O aT) fr (eS t j).toNat/\pk t O aT z.2.1 z.2.2.1 z.2.2.2:=by
 have ai:=bV.ok;have aO:=bV.wf;have aS:=bV.ht;have bx:=bV.g2;have ay:=aO.cZ;have ae:=hC.1;obtain⟨d,az,fj⟩:=wi ai ay ae (aS j ae) (by rw[au];rfl);have aV:=fj.AD;unfold ko at aV;rw[au]at aV;simp only[decide_true,if_true,hk,decide_eq_true_eq]at aV;have nQ:aL (c2 t) (j:Int)=D (d:Int):=by rw[wq ae,az]
 rw[az,eq];have tF:=(At ay j ae).2.2.1;unfold Lj rK;refine I.aq nQ (I.aq (cw fj.lt) (I.aC (λhr=>?_) λhr=>I.aC (λtP=>?_) λtP=>?_))
 ·have cf:=(fj.gM ay aa).2;rw[if_pos hr];grind[I.aq,rJ,I.ret]
 ·rw[if_neg hr,if_pos tP];have cf:=(fj.gM ay aa).2;obtain⟨eQ,jb,ll,lL⟩:=Nq ai aO aS fj.lt tP;have kU:=Us ai aO aS hC cf tP;have hle:=hC.iE ai aO aS;have qL:(dR t d:Int)∈bd t d:=by
   grind[na,mf,List.mem_cons_self]
  refine I.bC (λ_=>?_) λaV=>?_
  ·have i0:aL (af t d).a3 0=D (dR t d:Int):=by
    obtain⟨r,bp,_⟩:=na ay fj.lt (by grind[mf]);rw[<-c6 fj.lt,bp];rfl
   have qm:(dz t (dR t d)).1=[]:=by rw[j9 ay aa (lv ay fj.lt qL),pa fj.lt ((rD ay fj.lt).2 (yh ay fj.lt (by rw[tP];rfl)))];simp_all[f_,dR,if_neg,af]
   refine I.aq (show zR=D (-1,0,[])from rfl) (I.aq i0 (I.bind (aM (dR t d) (λ_=>[]) (-1) 0 (aH (st+1)) op a' L W S [] eQ (.inl lL) kU (hj.gM ai aO fj.lt (by rw[tP];rfl) aa qL _) (λx ar=>by simp_all) aa eT bw h1 aa) λz bj=>I.ret ⟨bj.val,⟨λcQ l dp yM=>?_,bj.AV.yA,bj.AV.yB⟩⟩));rw[u6]at dp;split at dp
   ·next bk=>
    cases dp;have:d=cQ:=ew bk;subst this;exact bj.val
   ·exact bj.AV.AU cQ l dp yM
  ·cases a5:dP L (d:Int)with
   |none=>simp_all
   |some l=>exact I.ret ⟨eT.AU d l a5 tP,eT⟩
 ·rw[if_neg hr,if_neg tP];exact I.ret ⟨kN d (Ns ai aO aS ae au az aa) aa,eT⟩
end
abbrev ad3:=Int->Int->List bt->List bz->List Int->Int->Int->Int->List Int->List ByteArray->pj->hc->lU->bI->Option (List bt×Int×Int×Int×hc×lU×bI)
def AW(t:bf)(O:Nat->ByteArray)(aT:Nat->Int)(nm:pj)(R:Nat)(r:ad3)(V:Nat):Prop:=
 ∀(d e:Nat)(ls:List (List bt))(st op a':Int)(L:hc)(W:lU)(S:bI),d<t.nodes.length->(af t d).kind=42->gW t d e (ey t d)->dy t e (ey t d)<V->hj t O (iO (dh t d) ls) (ey t d)->(dh t d).length=ls.length->d<=R->pk t O aT L W S->0<=op->op<=a'->op+1+dy t e (ey t d)<=1000000000000->
  I (r d e ls.flatten t.nodes t.aX st op a' (c2 t) (eN t O t.nodes.length) nm L W S) λz=>
   z.1=(bo t O aT (ey t d) (iO (dh t d) ls) d e).1/\z.2.1=aH (st+((bo t O aT (ey t d) (iO (dh t d) ls) d e).2.1:Int))/\z.2.2.1=op/\z.2.2.2.1=max a' (op+((1+(bo t O aT (ey t d) (iO (dh t d) ls) d e).2.2:Nat):Int))/\pk t O aT z.2.2.2.2.1 z.2.2.2.2.2.1 z.2.2.2.2.2.2
section
variable {n : Nat} {t : bf} {O : Nat -> ByteArray} {aT : Nat -> Int} {nm : pj} {R V : Nat}
variable (bV : AS n t O)
include bV
variable {e:Nat}{f:Int}{fr:gq}{j:Nat}{a' op st:Int}
theorem aqe{r:wD}{L:hc}{W:lU}{S:bI}{cI:hc}(aM:pm t O aT nm R r (dy t e j))(hC:gW t f e j)(dE:kr t j)(c1:hj t O fr j)(kN:oy t cI fr j)(bv:(dz t j).2<=R)(eT:pk t O aT L W S)(bw:0<=op)(h1:op<=a')(h2:op+dy t e j<=1000000000000)(au:(af t j).kind=17\/(af t j).kind=18\/(af t j).kind=19):
  I (Ln (aZ n) r (j:Int) t.nodes t.aX (aH (st+1)) op a' (c2 t) (eN t O t.nodes.length) f e nm L W S cI) (pt t O aT (bo t O aT j fr f e) st op a' cI (j+1)):=by
 have ai:=bV.ok;have aO:=bV.wf;have aS:=bV.ht;have bx:=bV.g2;have ay:=aO.cZ;have ae:=hC.1;have fc:=c6 ae;have ar:ei (af t j).kind=ah:=by rcases au with h|h|h<;>(rw[h];rfl)
 have aK:2<=(af t j).a3.length/\((af t j).kind=19->(af t j).a3.length=3)/\fu t (O (bP t j 0))=1/\((af t j).kind≠19->fu t (O j)=1):=by grind[af,adI,vb,absurd,wr,DX]
 obtain⟨no,Hg,aqf,wz⟩:=aK;have Fl:=D1 (R:=R) (cI:=cI) bV hC dE c1 kN bv aa;have k0:=mM (aT:=aT) ai aO aS bx hC dE c1 aa (i:=0) aa;have v0:=k0.nU;rw[aqf]at v0;have cB:=va (O:=O) (aT:=aT) (fr:=fr) ai aO aS hC dE;unfold kR at cB;rw[if_neg aa,if_neg aa,if_neg aa,if_pos au]at cB;dsimp only at cB;have vc:=(v0.az (b5 _)).1;have adM:=vc.gH;have i0:aL (bo t O aT (bP t j 0) fr f e).1 0=D (ha (bo t O aT (bP t j 0) fr f e).1):=e3 (i:=0) (v0.az (b5 _)).2;have NB:∀i,i<(af t j).a3.length->of t O R (dy t e j) j fr f e cI (bP t j i)/\aL (af t j).a3 (i:Int)=D (bP t j i:Int):=by intro i ao;obtain⟨ep,fD⟩:=nS ai aO aS bx ae ao;grind[bP,ew,e3]
 have eY:=(NB 0 aa).1;have UA:=eY.dy;unfold Ln;refine I.aq (cw ae) (I.aq k0.ph (I.bind (aM (bP t j 0) fr f e (aH (st+1)) op a' L W S cI eY.nj eY.ov eY.dy eY.qP eY.wb eY.tE eT bw h1 aa) λz bj=>?_));obtain⟨jr,jv,eH,d0,oz,p6,oA,fg⟩:=z;obtain⟨a5,bk,c0,gA,gT,j2⟩:=bj;dsimp only at a5 bk c0 gA gT j2;subst a5;subst bk;(have c0:=c0.symm;subst c0);subst gA
 have pz:op<=max a' (op+((bo t O aT (bP t j 0) fr f e).2.2:Int)):=by omega
 have ad4:∀i,0<i->i<(af t j).a3.length->bo t O aT j fr f e=((bo t O aT (bP t j i) fr f e).1,1+(bo t O aT (bP t j 0) fr f e).2.1+(bo t O aT (bP t j i) fr f e).2.1,max (bo t O aT (bP t j 0) fr f e).2.2 (bo t O aT (bP t j i) fr f e).2.2)->
   I (r (bP t j i:Int) t.nodes t.aX (aH (aH (st+1)+((bo t O aT (bP t j 0) fr f e).2.1:Int))) op (max a' (op+((bo t O aT (bP t j 0) fr f e).2.2:Int))) (c2 t) (eN t O t.nodes.length) f e nm oz p6 oA fg) (pt t O aT (bo t O aT j fr f e) st op a' cI (j+1)):=by
  intro i ju ao iP;have eQ:=(NB i ao).1;have adL:=eQ.dy;refine(aM (bP t j i) fr f e _ op _ oz p6 oA fg eQ.nj eQ.ov eQ.dy eQ.qP (eQ.wb.UN (j2.mono eY.lt) eQ.UM) eQ.tE gT bw pz aa).mono λz bj=>?_;refine⟨by rw[bj.val,iP],?_,bj.NA,?_,bj.AV,(j2.mono (D0 eY.lt)).trans (bj.UL.mono (D0 eQ.lt))⟩
  ·rw[bj.Nz,iP,yx];grind
  ·rw[bj.og,iP];show max (max a' (op+((bo t O aT (bP t j 0) fr f e).2.2:Int))) (op+((bo t O aT (bP t j i) fr f e).2.2:Int))=max a' (op+((max (bo t O aT (bP t j 0) fr f e).2.2 (bo t O aT (bP t j i) fr f e).2.2:Nat):Int));omega
 have done:∀(l:List bt) rM,bo t O aT j fr f e=(l,1+(bo t O aT (bP t j 0) fr f e).2.1,(bo t O aT (bP t j 0) fr f e).2.2)->nX t rM->pt t O aT (bo t O aT j fr f e) st op a' cI (j+1) (l,aH (aH (st+1)+((bo t O aT (bP t j 0) fr f e).2.1:Int)),op,max a' (op+((bo t O aT (bP t j 0) fr f e).2.2:Int)),oz,rM,oA,fg):=by intro l rM iP ml;refine⟨by rw[iP],?_,rfl,by rw[iP],⟨gT.AU,ml,gT.yB⟩,j2.mono (D0 eY.lt)⟩;rw[iP];show aH (aH (st+1)+((bo t O aT (bP t j 0) fr f e).2.1:Int))=aH (st+((1+(bo t O aT (bP t j 0) fr f e).2.1:Nat):Int));rw[qM];grind
 refine I.aq i0 (I.aq (z:=(decide ((ha (bo t O aT (bP t j 0) fr f e).1).fault=0)&& !decide ((ha (bo t O aT (bP t j 0) fr f e).1).n=0))) rfl (I.eh (λa8=>?_) λa8=>?_))
 ·rw[if_pos aa]at cB;refine I.bind (adV bV ae ar gT.yA _) λz bj=>I.ret ?_;obtain⟨l,rM⟩:=z;obtain⟨ef,eM⟩:=bj;have ef:l=_:=ef;subst ef;exact done _ _ cB eM
 ·have aB:(decide ((ha (bo t O aT (bP t j 0) fr f e).1).fault=0)&& !decide ((ha (bo t O aT (bP t j 0) fr f e).1).n=0))= !decide ((ha (bo t O aT (bP t j 0) fr f e).1).n=0):=by rw[decide_eq_true a8,hJ]
  rw[aB];rw[if_neg aa]at cB;refine I.bC (λaP=>?_) λaP=>?_
  ·simp only[hk,ea,decide_eq_true_eq,mZ,decide_eq_false_iff_not,qy]at aP;rw[if_pos aa]at cB;exact I.aq (NB 1 aa).2 (I.bind (ad4 1 aa aa cB) λz bj=>I.ret bj)
  ·have pM:¬(((af t j).kind=18/\(ha (bo t O aT (bP t j 0) fr f e).1).n=0)\/((af t j).kind≠18/\(ha (bo t O aT (bP t j 0) fr f e).1).n≠0)):=by
    intro fG;rw[<-Bool.not_eq_true]at aP;apply aP;simp only[hk,ea,decide_eq_true_eq,mZ,decide_eq_false_iff_not,qy];omega
   rw[if_neg pM]at cB;refine I.aC (λAX=>?_) λAX=>?_
   ·rw[if_pos AX]at cB;have:=Hg AX;exact I.aq (NB 2 aa).2 (I.bind (ad4 2 aa aa cB) λz bj=>I.ret bj)
   ·rw[if_neg AX]at cB;refine I.bC (λbj=>?_) λbj=>?_
    ·rw[mZ,decide_eq_false_iff_not]at bj;rw[decide_eq_true bj]at cB;exact I.aq (rJ 1) (I.ret (done _ _ cB gT.yA))
    ·rw[qy,decide_eq_true_eq]at bj;rw[decide_eq_false aa]at cB;exact I.aq (rJ 0) (I.ret (done _ _ cB gT.yA))
theorem aqg{r:wD}{L:hc}{W:lU}{S:bI}{cI:hc}(aM:pm t O aT nm R r (dy t e j))(hC:gW t f e j)(dE:kr t j)(c1:hj t O fr j)(kN:oy t cI fr j)(bv:(dz t j).2<=R)(eT:pk t O aT L W S)(bw:0<=op)(h1:op<=a')(h2:op+dy t e j<=1000000000000)(au:(af t j).kind=22):
  I (Lv (aZ n) r (j:Int) t.nodes t.aX (aH (st+1)) op a' (c2 t) (eN t O t.nodes.length) f e nm L W S cI) (pt t O aT (bo t O aT j fr f e) st op a' cI (j+1)):=by
 have ai:=bV.ok;have aO:=bV.wf;have aS:=bV.ht;have bx:=bV.g2;have ay:=aO.cZ;have ae:=hC.1;have fc:=c6 ae;obtain⟨rr,c,q,f1,f2,f3,f4,f5,f6,f7,f8⟩:=Uz ai aO aS bx ae au;have k0:=mM (aT:=aT) ai aO aS bx hC dE c1 aa (i:=0) aa;have v0:=k0.nU;rw[f4]at v0;have mY:ei (af t (bP t j 0)).kind=ah:=by have nh:=pb ai ay ae (show(af t j).a3[0]? =D (bP t j 0:Int) by rw[<-fc];exact k0.dx);simp_all[m_,if_neg]
 obtain⟨m,a5,eY⟩:=D1 (R:=R) (cI:=cI) bV hC dE c1 kN bv aa _ k0.eB;have a5:bP t j 0=m:=ew a5;rw[<-a5]at eY;have UA:=eY.dy;have cB:=va (O:=O) (aT:=aT) (fr:=fr) ai aO aS hC dE;unfold kR at cB;rw[if_neg aa,if_neg aa,if_neg aa,if_neg aa]at cB;dsimp only at cB;rw[if_neg aa,if_neg aa,if_neg aa,if_neg aa,if_pos au,f1]at cB;dsimp only at cB;rw[f2]at cB;dsimp only at cB;rw[Ho ai aO aS bx ae f8]at cB;simp only[gI,oc,iX,yy,j3,eq,nR,sI,lA,mO,adY]at cB;have key:∀zv,Hv t O zv->∀k,I (Ge (af t j) r t.nodes t.aX (aH (st+1)) op a' (c2 t) (eN t O t.nodes.length) f e nm L W cI (zv,k,((lB t (af t j).bi (bd t rr) 0:Nat):Int),((ez t (dn t q.toNat):Nat):Int))) (pt t O aT (bo t O aT j fr f e) st op a' cI (j+1)):=by
  intro zv aqh k;unfold Ge;refine I.aq k0.ph (I.bind (aM (bP t j 0) fr f e (aH (st+1)) op a' L W zv cI eY.nj eY.ov eY.dy eY.qP eY.wb eY.tE ⟨eT.AU,eT.yA,aqh⟩ bw h1 aa) λz bj=>?_);obtain⟨jr,jv,eH,d0,oz,p6,oA,fg⟩:=z;obtain⟨a5,bk,c0,gA,gT,j2⟩:=bj;dsimp only at a5 bk c0 gA gT j2;subst a5;subst bk;(have c0:=c0.symm;subst c0);subst gA
  have gO:=v0.1;have tT:hG (bo t O aT (bP t j 0) fr f e).1 ((lB t (af t j).bi (bd t rr) 0:Nat):Int) ((bo t O aT (bP t j 0) fr f e).1.length:Int)=D ((bo t O aT (bP t j 0) fr f e).1.drop (lB t (af t j).bi (bd t rr) 0)):=by unfold hG;rw[if_pos ⟨aa,aa,aa⟩,eq,eq,<-List.length_drop,fz (b5 _)]
  have Hg:uv ((bo t O aT (bP t j 0) fr f e).1.drop (lB t (af t j).bi (bd t rr) 0)) 0 ((ez t (dn t q.toNat):Nat):Int) ((ez t (dn t q.toNat):Nat):Int)=D (((bo t O aT (bP t j 0) fr f e).1.drop (lB t (af t j).bi (bd t rr) 0)).take (ez t (dn t q.toNat))):=by unfold uv hG;grind
  refine I.aq tT (I.aq Hg (I.ret ⟨by rw[cB],?_,rfl,by rw[cB],gT,j2.mono (D0 eY.lt)⟩));rw[cB];show aH (aH (st+1)+((bo t O aT (bP t j 0) fr f e).2.1:Int))=aH (st+((1+(bo t O aT (bP t j 0) fr f e).2.1:Nat):Int));rw[qM];grind
 have qn:∀sp,UJ t O j sp->sp=⟨((lB t (af t j).bi (bd t rr) 0:Nat):Int),((ez t (dn t q.toNat):Nat):Int)⟩:=λsp h=>h rr q f1 f2;unfold Lv;refine I.aq (cw ae) (I.bC (λ_=>?_) λh=>?_)
 ·refine I.aq k0.ph (I.aq (e3 (yz ai aO bx _ k0.nj.1 mY)) (I.aq (ap5 bV ae au f1 f2) (key _ (eT.yB.put (m:=j) λgJ fs ef eM=>?_) _)));simp_all
 ·cases a5:dP S (j:Int)with
  |none=>simp_all
  |some sp=>have:=qn sp (eT.yB j sp a5);rw[this];exact key S eT.yB _
end
section
variable {n : Nat} {t : bf} {O : Nat -> ByteArray} {aT : Nat -> Int} {nm : pj} {R V : Nat}
theorem pm.mono{r:wD}{V Hx:Nat}(h:pm t O aT nm R r V)(bg:Hx<=V):pm t O aT nm R r Hx:=λm fr f e st op a' L W S cI h1 h2 aJ=>h m fr f e st op a' L W S cI h1 h2 aa
theorem AW.mono{r:ad3}{V Hx:Nat}(h:AW t O aT nm R r V)(bg:Hx<=V):AW t O aT nm R r Hx:=λd e ls st op a' L W S h1 h2 aJ bp=>h d e ls st op a' L W S h1 h2 aJ aa
theorem aqi:∀{ls:List (List bt)}{i:Nat}{l:List bt},ls[i]? =D l->(ls.drop i).flatten=l++(ls.drop (i+1)).flatten:=by intro ls i l h;rw[Ao h,List.flatten_cons]
variable (bV : AS n t O)
include bV
variable {d:Nat}
theorem aqj(az:d<t.nodes.length)(b9:(af t d).kind=42):∀a m:Nat,(dh t d)[a]? =D (m:Int)->(m:Int)∈(dz t (ey t d)).1:=by intro a m a9;have ay:=bV.wf.cZ;obtain⟨jn,ic,oJ⟩:=nP bV.ok ay az b9;rw[j9 ay aa (lv ay az (cC jn))];refine xb _ ?_;unfold f_;rw[if_pos dt,if_neg aa,if_pos b9];exact xb _ (cC a9)
variable {f a' op st:Int}
theorem aqk{ls:List (List bt)} {e:Int}{L:hc}{W:lU}{S:bI}(az:d<t.nodes.length)(b9:(af t d).kind=42)(yl:(dh t d).length=ls.length)(hw:∀a m:Nat,(dh t d)[a]? =D (m:Int)->∃l,ls[a]? =D l/\l.length=ez t (dn t m))(vf:nX t W):
  I (Ls (aZ n) (d:Int) ls.flatten t.nodes t.aX st op a' (c2 t) (eN t O t.nodes.length) f e nm L W S []) λz=>nX t z.2.2/\∀a m:Nat,(dh t d)[a]? =D (m:Int)->dP z.2.1 (m:Int)=ls[a]? :=by
 have ai:=bV.ok;have aO:=bV.wf;have ay:=aO.cZ;have e0:=ai.nodes;have h3:=ai.af az;have fc:=c6 az;have fP:=bV.qS;have no:=pY ay az b9;have pF:(dh t d).length=(af t d).a3.length- 2:=by grind[dh,List.length_take]
 have tR:(dh t d).Pairwise (· < ·):=by grind[wc,dh,List.Pairwise.sublist,adX]
 have tT:hG (af t d).a3 0 (aH (((af t d).a3.length:Int)- 2))=D (dh t d):=by rw[c8 aa aa];unfold hG;rw[if_pos ⟨aa,aa,aa⟩];grind[dh]
 unfold Ls;refine I.aq (cw az) (I.aq tT ?_);unfold aaI;refine I.for ls.length (λi (s:lU×hc)=>((i:Int),(ls.drop i).flatten,s.1,s.2)) (λi s=>nX t s.1/\∀a m:Nat,a<i->(dh t d)[a]? =D (m:Int)->dP s.2 (m:Int)=ls[a]?) (t0:=(W,[])) rfl ⟨vf,λa m h=>by omega⟩ (λi s ao bq=>?_) λs bq=>?_
 ·obtain⟨p,hp⟩:∃p,(dh t d)[i]? =D p:=⟨_,cq aa⟩
  obtain⟨m,rfl,hm,ia,_⟩:=pe ai ay az b9 hp;obtain⟨l,aK,aql⟩:=hw i m hp;obtain⟨_,t2,t3⟩:=pc ai ay (show m<t.nodes.length by omega) (.inr ia);have wh:=sD ai aO (show m<t.nodes.length by omega) ia;have UQ:Gc (aZ n) (dR t m:Int) t.nodes t.aX st op a' (c2 t) (eN t O t.nodes.length) nm L s.1 S=D (dn t m).bR:=adW bV n (dR t m) aa aa t3;have eE:∃c,c<=8/\gw t t.nodes.length (2*t.nodes.length+2) (dn t m)=D c:=by obtain⟨h1,fj⟩:=bV.g2.ty (dR t m) aa t3;obtain⟨c,_,jb,_,lL⟩:=fj.ez aa;exact⟨c,jb,lL⟩
  obtain⟨c,abQ,aP⟩:=eE;have aCB:=yu aP (b5 _);refine I.aC (λ_=>I.aL hp (I.aq (cw (show m<t.nodes.length by omega)) (I.aq (GV ai ay (show m<t.nodes.length by omega) (.inr ia)) (I.aq UQ (I.bind (UK bV aP abQ wh.1 aa bq.1) λz bj=>?_))))) dv;obtain⟨Z,sL⟩:=z;obtain⟨ef,eM⟩:=bj;have ef:Z=_:=ef;subst ef;rw[p3 wh.1,<-aql];have oT:=aqi aK;have Ni:hG (ls.drop i).flatten 0 (l.length:Int)=D l:=by rw[oT];unfold hG;rw[if_pos ⟨aa,aa,dt⟩];simp
  have aqm:hG (ls.drop i).flatten (l.length:Int) ((ls.drop i).flatten.length:Int)=D (ls.drop (i+1)).flatten:=by rw[oT];unfold hG;rw[if_pos ⟨aa,dt,aa⟩,eq,eq,List.drop_left' rfl,ky,Nat.add_sub_cancel_left,fz (b5 _)]
  have bh:Lq (m:Int) (l.length:Int) (ls.drop i).flatten f e s.2=D ((ls.drop (i+1)).flatten,d_ s.2 (m:Int) l):=by simp_all[Lq,I.bN,I.aq,I.ret]
  refine I.aq bh (I.inl ⟨(sL,d_ s.2 (m:Int) l),by rw[cM aa],eM,λa m' a9 td=>?_⟩);show dP (d_ s.2 (m:Int) l) (m':Int)=ls[a]?;rw[u6];by_cases M0:a=i
  ·subst M0;rw[hp]at td;have pZ:(m:Int)=m':=Option.some.inj td;rw[if_pos pZ,aK]
  ·rw[if_neg (λpZ=>by
    have h1:=(ye tR td hp).2 aa;omega)]
   grind
 ·refine I.aC br λ_=>I.inr ⟨bq.1,λa m a9=>bq.2 a m ?_ a9⟩;grind
theorem ad5{r:wD}(aB:pm t O aT nm R r V):AW t O aT nm R (xZ (aZ n) r) V:=by
 intro d e ls st op a' L W S az b9 hC kU c1 yl bv eT bw h1 h2;have ai:=bV.ok;have aO:=bV.wf;have ay:=aO.cZ;have e0:=ai.nodes;have h3:=ai.af az;have fc:=c6 az;obtain⟨jn,ic,oJ⟩:=nP ai ay az b9;have no:=pY ay az b9;have tR:(dh t d).Pairwise (· < ·):=by grind[wc,dh,List.Pairwise.sublist,adX]
 have qm:=aqj bV az b9;have hw:∀a m:Nat,(dh t d)[a]? =D (m:Int)->∃l,ls[a]? =D l/\l.length=ez t (dn t m):=by
  intro a m a9;have jO:=(List.getElem?_eq_some_iff.1 a9).1;obtain⟨l,aK⟩:∃l,ls[a]? =D l:=⟨_,cq aa⟩
  obtain⟨q,bk,_,ia,_⟩:=pe ai ay az b9 a9;have bk:m=q:=ew bk;subst bk;have:=(c1 m (qm a m a9)).2 ia;rw[Nr tR a9 aK]at this;exact⟨l,aK,this.1⟩
 unfold xZ;refine I.aq (z:=(d:Int)) rfl (I.bind (aqk (f:=d) (e:=e) bV az b9 yl hw eT.yA) λz bj=>?_);obtain⟨aCC,cI,sL⟩:=z;obtain⟨ef,eM⟩:=bj;have a5:aH (op+1)=op+1:=c8 aa aa;have aqn:aL (af t d).a3 (aH (((af t d).a3.length:Int)- 1))=D (ey t d:Int):=by grind[aH,af,bd,c8,e3]
 have kN:oy t cI (iO (dh t d) ls) (ey t d):=by
  intro x ar au;rw[j9 ay aa (lv ay az (cC jn)),pa az ((rD ay az).2 (Ha ay az b9)),j3]at ar;unfold f_ at ar;rw[if_neg (show ¬(af t d).kind=20 by omega),if_pos b9]at ar;split at ar
  ·rcases ig.1 ar with ar|ar
   ·grind[fO,dh,Nr]
   grind
  ·cases ar
 have tF:=DR ai ay az b9;refine I.aq (z:=(op+1,max a' (op+1))) (by rw[<-adH,<-a5];rfl) (I.aq (cw az) (I.aq aqn (I.bind (aB (ey t d) (iO (dh t d) ls) (d:Int) e st (op+1) (max a' (op+1)) L sL S cI hC (.inl oJ) kU c1 kN aa ⟨eT.AU,ef,eT.yB⟩ aa aa aa) λz bj=>?_)));obtain⟨jr,jv,eH,d0,oz,p6,oA,fg⟩:=z;obtain⟨a5,bk,c0,gA,gT,j2⟩:=bj;dsimp only at a5 bk c0 gA gT j2;refine I.aq (z:=aH (eH- 1)) rfl (I.ret ⟨a5,bk,?_,?_,gT⟩)
 ·grind[aH,c8]
 grind
theorem ad6{r:wD} {j:Nat}{fr:gq}{e:Nat}{cI:hc}{z:Ny}(aM:AW t O aT nm R (xZ (aZ n) r) (dy t e j))(hC:gW t f e j)(dE:kr t j)(c1:hj t O fr j)(bv:(dz t j).2<=R)(bw:0<=op)(h1:op<=a')(h2:op+dy t e j<=1000000000000)(au:(af t j).kind=21)(az:eS t j=d)(bj:pt t O aT (gR t O aT fr f e (bd t j)) (aH (st+1)) op a' cI j z):
  I (Gd t.nodes (d:Int) (aZ n) (j:Int) t.aX z (c2 t) (eN t O t.nodes.length) nm r (gF t j f e)) (pt t O aT (bo t O aT j fr f e) st op a' cI (j+1)):=by
 have ai:=bV.ok;have aO:=bV.wf;have aS:=bV.ht;have bx:=bV.g2;have ay:=aO.cZ;have ae:=hC.1;obtain⟨eQ,jb,ll,lL,x_,x'⟩:=adJ (aT:=aT) ai aO aS bx hC dE c1 au az;obtain⟨cQ,po,eI,b9,aP⟩:=hC.call ai aO aS au;have ep:d=cQ:=ew (az.symm.trans po);subst ep;obtain⟨cQ,po,_,_,tF⟩:=T9 ai ay aS ae au;have ep:d=cQ:=ew (az.symm.trans po);subst ep;have ar:ei (af t j).kind=ah:=by rw[au];rfl
 have cB:=va (O:=O) (aT:=aT) (fr:=fr) ai aO aS hC dE;unfold kR at cB;rw[if_neg aa,if_neg aa,if_neg aa,if_neg aa]at cB;dsimp only at cB;rw[if_neg aa,if_neg aa,if_neg aa,if_pos au,az,eq]at cB;obtain⟨jr,jv,eH,d0,oz,p6,oA,fg⟩:=z;obtain⟨a5,bk,c0,gA,gT,j2⟩:=bj;dsimp only at a5 bk c0 gA gT j2;subst a5;subst bk;(have c0:=c0.symm;subst c0);subst gA
 have es:1+(ox (λx=>x.2.1) (ox (λq=>bo t O aT q.toNat fr f e) (bd t j))).sum=1+(gR t O aT fr f e (bd t j)).2.1:=rfl;have em:lA (ox (λx=>x.2.2) (ox (λq=>bo t O aT q.toNat fr f e) (bd t j)))=(gR t O aT fr f e (bd t j)).2.2:=rfl;rw[es,em]at cB;unfold Gd;refine I.aq (cw eI) (I.aC (λdf=>?_) λdf=>?_)
 ·rw[if_pos df]at cB;refine I.bind (adV bV ae ar gT.yA _) λz bj=>I.ret ?_;obtain⟨l,rM⟩:=z;obtain⟨ef,eM⟩:=bj;have ef:l=_:=ef;subst ef;refine⟨by rw[cB];rfl,?_,rfl,by rw[cB],⟨gT.AU,eM,gT.yB⟩,j2.mono (AT _)⟩;rw[cB];show aH (aH (st+1)+((gR t O aT fr f e (bd t j)).2.1:Int))=aH (st+((1+(gR t O aT fr f e (bd t j)).2.1:Nat):Int));rw[qM];grind
 ·rw[if_neg df]at cB;obtain⟨rL,Nu,_⟩:=aP df;have oT:(gR t O aT fr f e (bd t j)).1=(((bd t j).map λq=>bo t O aT q.toNat fr f e).map (·.1)).flatten:=by
   show((bd t j).map λq=>bo t O aT q.toNat fr f e).flatMap (·.1)=_;rw[List.flatMap_def]
  have rG:(dh t d).length=(((bd t j).map λq=>bo t O aT q.toNat fr f e).map (·.1)).length:=by rw[jb];simp[c6 ae]
  dsimp only;rw[oT];generalize yl:(((bd t j).map λq=>bo t O aT q.toNat fr f e).map (·.1))=ls at*;refine I.bind (aM d (gF t j f e) ls _ op _ oz p6 oA eI b9 rL Nu eQ rG aa gT bw aa aa) λz bj=>I.ret ?_;obtain⟨gG,s1,dq,d1,UO,sL,UP⟩:=z;obtain⟨ef,eM,gS,kY,iV⟩:=bj;dsimp only at ef eM gS kY iV;generalize bo t O aT (ey t d) (iO (dh t d) ls) d (gF t j f e)=B at*;generalize (gR t O aT fr f e (bd t j))=A at*;refine⟨cK,?_,gS,?_,iV,j2.mono (AT _)⟩
  ·rw[cB];show s1=aH (st+((1+A.2.1+B.2.1:Nat):Int));rw[eM,yx];grind
  grind
end
section
variable {n : Nat} {t : bf} {O : Nat -> ByteArray} {aT : Nat -> Int} {nm : pj} {R V : Nat}
variable (bV : AS n t O)
include bV
theorem aqo{wE:Hw}{r:wD}{j:Nat}{fr:gq}{f:Int}{e:Nat}{st op a':Int}{L:hc}{W:lU}{S:bI}{cI:hc}(gu:∀d:Nat,(af t d).kind=40->d<R->(dP nm (d:Int)).getD 0=aT d)(aM:pm t O aT nm R r (dy t e j))(a9:yC t O aT nm R wE (dy t e j))(aP:AW t O aT nm R (xZ (aZ n) r) (dy t e j))(hC:gW t f e j)(dE:kr t j)(c1:hj t O fr j)(kN:oy t cI fr j)(bv:(dz t j).2<=R)(eT:pk t O aT L W S)(bw:0<=op)(h1:op<=a')(h2:op+dy t e j<=1000000000000):
  I (Lz (aZ n) r wE (j:Int) t.nodes t.aX st op a' (c2 t) (eN t O t.nodes.length) f e nm L W S cI) (pt t O aT (bo t O aT j fr f e) st op a' cI (j+1)):=by
 have ai:=bV.ok;have aO:=bV.wf;have aS:=bV.ht;have bx:=bV.g2;have ay:=aO.cZ;have ae:=hC.1;have h3:=ai.af ae;have fc:=c6 ae;have pK:=va (O:=O) (aT:=aT) (fr:=fr) ai aO aS hC dE;have qj:max a' (op+((0:Nat):Int))=a':=by omega
 unfold Lz;by_cases hE:4<=(af t j).kind/\(af t j).kind<=16
 ·have aP:∃c b,CQ (af t j).kind=D (c,b,ah):=by
   by_cases oo:(af t j).kind=4\/(af t j).kind=5
   ·rcases oo with h|h<;>(rw[h];exact⟨_,_,rfl⟩)
   ·obtain⟨c,b,h,_⟩:=ad1 (show 6<=(af t j).kind/\(af t j).kind<=16 by omega);simp_all
  obtain⟨c,b,aP⟩:=aP;refine I.aq (cw ae) (I.aq aP (I.bC (λ_=>?_) cF));exact I.bind (aqb bV (a9) hC dE c1 kN bv eT bw h1 h2 aP hE) λz bj=>I.ret bj
 refine I.aq (cw ae) (I.aq (ap8 dE hE) (I.bC cF λ_=>I.bC (λdA=>?_) λdA=>I.aC (λgN=>?_) λgN=>I.bC (λu'=>?_) λu'=>I.aC (λlC=>?_) λlC=>I.aC (λDW=>?_) λDW=>I.aC (λad7=>?_) λad7=>I.aC (λNC=>?_) λNC=>?_))
 ·rw[hk,decide_eq_true_eq,decide_eq_true_eq]at dA;have cB:=pK;unfold kR at cB;rw[if_pos dA]at cB;have sT:=Uw ai aO aS bx ae dA;refine I.aq (rJ _) (I.ret ⟨?_,dt,rfl,?_,eT,nk.refl _ _⟩)
  ·rw[cB];show [mg (af t j).n]=[num (af t j).n]
   unfold mg;rw[if_pos sT]
  grind
 ·have cB:=pK;unfold kR at cB;rw[if_neg aa,if_pos gN]at cB;refine I.bind (aqd bV gu aM hC c1 kN bv eT bw h1 h2 gN) λz bj=>I.ret ⟨?_,dt,rfl,?_,bj.2,nk.refl _ _⟩
  ·grind
  grind
 ·rw[hk,hk,decide_eq_true_eq,decide_eq_true_eq,decide_eq_true_eq]at u';exact I.bind (aqe bV aM hC dE c1 kN bv eT bw h1 h2 aa) λz bj=>I.ret bj
 ·have cB:=pK;unfold kR at cB;rw[if_neg aa,if_neg aa,if_pos lC]at cB;have aK:=tH ay ae lC;have ou:=nS ai aO aS bx ae (i:=0) aa;have ep:=nS ai aO aS bx ae (i:=1) aa;obtain⟨vt,de,jr,eY,tS⟩:=hC.kb ai aO aS ou.1;have de:bP t j 0=vt:=ew de;obtain⟨mR,a5,gG,eQ,sJ⟩:=hC.kb ai aO aS ep.1;have a5:bP t j 1=mR:=ew a5;rw[<-de]at jr eY tS;rw[<-a5]at gG eQ sJ;have f0:=c1.Hi ai aO aS ae lC;have tC:dR t j=bP t j 0:=by
   obtain⟨r,bp,_⟩:=na ay ae aa;grind
  have er:=qK ai aO aS ae dE ou.1;have rL:=qK ai aO aS ae dE ep.1;have v0:=yw (aT:=aT) ai aO aS bx _ (bP t j 0) fr f e (qI _) eY er f0;have f1:=c1.Hj ai aO aS ae lC (by rw[tC];exact v0);have i0:aL (af t j).a3 0=D (bP t j 0:Int):=e3 (i:=0) cK;have i1:aL (af t j).a3 1=D (bP t j 1:Int):=e3 (i:=1) cK;have oW:=sG ay ae ou.1;have fH:=sG ay ae ep.1;have UB:=Hm ai aO aS bx ae aK;have aCD:bP t j 0<bP t j 1:=by grind[wc,List.pairwise_cons,List.mem_singleton]
  have fg:oy t cI fr (bP t j 0):=by
   intro d az;rw[j9 ay aa (lv ay ae ou.1)]at az;refine kN d ?_;have:f_ t j (bP t j 0)=[]:=by unfold f_;rw[UB,if_neg];grind
   simp_all
  refine I.aq i0 (I.bind (aM _ fr f e (aH (st+1)) op a' L W S cI eY er tS f0 fg aa eT bw h1 aa) λz bj=>?_);obtain⟨Jg,jv,eH,d0,oz,p6,oA,UR⟩:=z;obtain⟨ef,eM,gS,kY,iV,AY⟩:=bj;dsimp only at ef eM gS kY iV AY;subst ef;subst eM;(have gS:=gS.symm;subst gS);subst kY
  have jS:oy t (d_ UR (j:Int) (bo t O aT (bP t j 0) fr f e).1) (tN fr j (bo t O aT (bP t j 0) fr f e).1) (bP t j 1):=by
   intro d az nM;rw[j9 ay aa (lv ay ae ep.1)]at az;rw[u6];unfold tN;by_cases pZ:d=j
   ·simp_all
   ·rw[if_neg aa,if_neg pZ];have v_:(d:Int)∈(dz t j).1:=by
     rcases ig.1 az with az|az
     ·unfold f_ at az;grind
     ·exact az
    rw[AY d (nM.symm.imp id λk8=>by have:=ad0 ai ay j ae d v_ k8;omega)];exact kN d v_ nM
  refine I.aq i1 (I.bind (aM _ _ f e _ op (max a' (op+((bo t O aT (bP t j 0) fr f e).2.2:Int))) oz p6 oA _ eQ rL sJ f1 jS aa iV bw aa aa) λz bj=>I.ret ?_);refine⟨by rw[cB];exact bj.val,?_,bj.NA,?_,bj.AV,(AY.mono aa).trans (nk.put (bj.UL.mono aa) (qI j) aa)⟩
  ·rw[cB];refine bj.Nz.trans ?_;generalize bo t O aT (bP t j 1) (tN fr j (bo t O aT (bP t j 0) fr f e).1) f e=B;generalize bo t O aT (bP t j 0) fr f e=A;show aH (aH (aH (st+1)+(A.2.1:Int))+(B.2.1:Int))=aH (st+((1+A.2.1+B.2.1:Nat):Int));rw[yx];grind
  ·rw[cB];refine bj.og.trans ?_;grind
 ·obtain⟨d,az,eI,b9,_⟩:=hC.call ai aO aS DW;have hl:=(a9) (bd t j) j fr f e (aH (st+1)) op a' L W S cI (D1 bV hC dE c1 kN bv aa) cK (Hq _) eT bw h1 h2;rw[fc]at hl;unfold Se;have nQ:aL (c2 t) (j:Int)=D (d:Int):=by rw[wq ae,az]
  have hle:=hC.iE ai aO aS;refine I.bind (I.aq (cw ae) (I.bind hl λz bj=>I.aq nQ (I.aC (λh=>?_) λh=>?_))) λz bj=>I.ret bj
  ·have pZ:(gF t j f e:Int)=aH ((e:Int)+1):=by unfold gF;rw[az,if_pos h,cM aa]
   rw[<-pZ];exact ad6 bV (aP) hC dE c1 bv bw h1 h2 DW az cK
  ·have pZ:(gF t j f e:Int)=0:=by simp_all[gF,if_neg]
   rw[<-pZ];exact ad6 bV (aP) hC dE c1 bv bw h1 h2 DW az cK
 ·exact I.bind (aqg bV aM hC dE c1 kN bv eT bw h1 h2 ad7) λz bj=>I.ret bj
 ·have cB:=pK;unfold kR at cB;rw[if_neg aa,if_neg aa,if_neg aa,if_neg aa]at cB;dsimp only at cB;rw[if_neg aa,if_neg aa,if_neg aa,if_neg aa,if_neg aa,if_pos NC]at cB;obtain⟨k,f1,f2,f3,f4,f5,f6⟩:=adK ai aO aS bx ae NC;have k0:=mM (aT:=aT) ai aO aS bx hC dE c1 aa (i:=0) aa;have dA:=mM (aT:=aT) ai aO aS bx hC dE c1 aa (i:=1) aa;have v0:=k0.nU;have v1:=dA.nU;rw[f1]at v0;rw[f5]at v1;rw[Hm ai aO aS bx ae f6]at cB;simp only[gI,oc,nR,sI,lA,eq,mO,adY]at cB;have Fl:=D1 (R:=R) (cI:=cI) bV hC dE c1 kN bv aa;obtain⟨vt,de,eY⟩:=Fl _ k0.eB;have de:bP t j 0=vt:=ew de;rw[<-de]at eY;obtain⟨mR,a5,eQ⟩:=Fl _ dA.eB;have a5:bP t j 1=mR:=ew a5;rw[<-a5]at eQ;have tS:=eY.dy;have sJ:=eQ.dy;have ar:ei (af t j).kind=ah:=by rw[NC];rfl
  refine I.aq k0.ph (I.bind (aM _ fr f e (aH (st+1)) op a' L W S cI eY.nj eY.ov eY.dy eY.qP eY.wb eY.tE eT bw h1 aa) λz bj=>?_);obtain⟨Jg,jv,eH,d0,oz,p6,oA,UR⟩:=z;obtain⟨ef,eM,gS,kY,iV,AY⟩:=bj;dsimp only at ef eM gS kY iV AY;subst ef;subst eM;(have gS:=gS.symm;subst gS);subst kY
  refine I.aq (e3 (yz ai aO bx j ae ar)) (I.bind (adU bV ae ar iV.yA) λw hw=>?_);obtain⟨aqp,sL⟩:=w;obtain⟨jg,lb⟩:=hw;have jg:aqp=_:=jg;subst jg;refine I.aq dA.ph (I.bind (aM _ fr f e _ op (max a' (op+((bo t O aT (bP t j 0) fr f e).2.2:Int))) oz sL oA UR eQ.nj eQ.ov eQ.dy eQ.qP (eQ.wb.UN (AY.mono eY.lt) eQ.UM) eQ.tE ⟨iV.AU,lb,iV.yB⟩ bw aa aa) λz bj=>?_);obtain⟨Ni,s1,dq,d1,UO,XM,UP,aCE⟩:=z;obtain⟨ag,ak,ap,an,al,am⟩:=bj;dsimp only at ag ak ap an al am;subst ag;refine I.aq (e3 (i:=0) (v1.az (b5 _)).2) (I.aq (apl v0.1 f2 f3 f4 v0.2 (v1.az (b5 _)).1) (I.ret ⟨by rw[cB],?_,ap,?_,al,(AY.mono (D0 eY.lt)).trans (am.mono (D0 eQ.lt))⟩))
  ·rw[cB];refine ak.trans ?_;generalize bo t O aT (bP t j 1) fr f e=B;generalize bo t O aT (bP t j 0) fr f e=A;show aH (aH (aH (st+1)+(A.2.1:Int))+(B.2.1:Int))=aH (st+((1+(A.2.1+B.2.1):Nat):Int));rw[yx];grind
  grind
 ·rw[iM,decide_eq_false_iff_not,decide_eq_false_iff_not]at dA;rw[iM,iM,decide_eq_false_iff_not,decide_eq_false_iff_not,decide_eq_false_iff_not]at u';have cB:=pK;unfold kR at cB;rw[if_neg aa,if_neg aa,if_neg aa,if_neg aa]at cB;dsimp only at cB;rw[if_neg aa,if_neg aa,if_neg aa,if_neg aa,if_neg aa,if_neg aa]at cB;have hl:=(a9) (bd t j) j fr f e (aH (st+1)) op a' L W S cI (D1 bV hC dE c1 kN bv aa) cK (Hq _) eT bw h1 h2;rw[fc]at hl;refine I.bind hl λz bj=>I.ret ⟨?_,?_,bj.NA,?_,bj.AV,bj.UL.mono (AT _)⟩
  ·rw[cB,fc];exact bj.val
  ·rw[cB,fc];refine bj.Nz.trans ?_;show aH (aH (st+1)+((gR t O aT fr f e (af t j).a3).2.1:Int))=aH (st+((1+(gR t O aT fr f e (af t j).a3).2.1:Nat):Int));rw[qM];grind
  ·rw[cB,fc];exact bj.og
end
section
variable {n : Nat} {t : bf} {O : Nat -> ByteArray} {aT : Nat -> Int} {nm : pj} {R V : Nat}
variable (bV : AS n t O) (gu : ∀ d : Nat, (af t d).kind = 40 -> d < R -> (dP nm (d : Int)).getD 0 = aT d)
include bV
theorem pm.Al{r:wD}(h:pm t O aT nm R r (min n V)):pm t O aT nm R r V:=λm fr f e st op a' L W S cI h1 h2 aJ=>h m fr f e st op a' L W S cI h1 h2 (by have:=h1.dy bV.ok bV.wf bV.ht;have:=bV.qS;omega)
include gu
theorem ad8{wE:Hw}(a9:∀v,v<=V->yC t O aT nm R wE v):∀k,pm t O aT nm R (LA (aZ n) wE k) (min k (V+1)):=by
 intro k;induction k with
 |zero=>intro m fr f e st op a' L W S cI _ _ h;omega
 |succ k bB=>intro m fr f e st op a' L W S cI h1 h2 aJ bp cy cY gX gO fP w9;have aM:=bB.mono (show dy t e m<=min k (V+1) by omega);exact aqo bV gu aM (a9 _ aa) (ad5 bV aM) h1 h2 bp cy cY gX gO fP w9
theorem ad9:∀k v,v<=k->yC t O aT nm R (CV (aZ n) (k+1)) v:=by
 intro k;induction k with
 |zero=>
  intro v bg;obtain rfl:v=0:=by omega
  show yC t O aT nm R (CU (aZ n) (CV (aZ n) 0)) 0;exact ad2 bV λm fr f e st op a' L W S cI _ _ h=>by omega
 |succ k bB=>intro v bg;show yC t O aT nm R (CU (aZ n) (CV (aZ n) (k+1))) v;exact ad2 bV (pm.Al bV ((ad8 bV gu (V:=k) (λv bg=>bB v bg) n).mono aa))
theorem aqq:yC t O aT nm R (zV (aZ n)) 9999999:=by
 have fP:=bV.qS;obtain⟨k,rfl⟩:∃k,n=k+1:=⟨n- 1,aa⟩
 exact ad9 bV gu k _ aa
theorem aea:pm t O aT nm R (zU (aZ n) (zV (aZ n))) 9999999:=by
 have fP:=bV.qS;refine pm.Al bV ((ad8 bV gu (V:=9999998) (λv bg=>?_) n).mono aa);obtain⟨k,rfl⟩:∃k,n=k+1:=⟨n- 1,aa⟩
 exact ad9 bV gu k _ aa
theorem aqr:AW t O aT nm R (xZ (aZ n) (zU (aZ n) (zV (aZ n)))) 9999999:=ad5 bV (aea bV gu)
end
section
variable {n : Nat} {t : bf} {O : Nat -> ByteArray} {aT : Nat -> Int} {nm : pj} {R V : Nat} {w : List Int}
def yD(t:bf)(w:List Int)(p:Nat)(nm:pj):Prop:=∀d:Nat,(af t d).kind=40->(d:Int)∈t.aX.take p->dP nm (d:Int)=D (f' t w d)
theorem US(ai:c7 t)(aO:hA t){p:Nat}(hp:p<=t.aX.length){eu:List Int}{iW:List ByteArray}{L:hc}{W:lU}{S:bI}(kd:w.length<=1000000){q:Int}(aE:q=(p:Int)- 1):
  I (xU (aZ n) q w t.nodes t.aX 0 0 0 eu iW [] L W S) λz=>z.1=h7 t w p/\(z.1=ah->yD t w p z.2):=by
 subst aE;have ay:=aO.cZ;have hn:=ai.aX;have a5:aH ((p:Int)- 1+1)=(p:Int):=by rw[show(p:Int)- 1+1=(p:Int) by omega,c8 aa aa]
 have tT:hG t.aX 0 (p:Int)=D (t.aX.take p):=by simp_all[hG,if_pos]
 unfold xU RV;refine I.aq (z:=(p:Int)- 1) rfl ?_;rw[a5,tT,Option.bind_some];unfold aav;have pF:(t.aX.take p).length=p:=by simp_all
 refine I.bind (Q:=λz=>match z with| .inl a=>a.1=aQ/\h7 t w p=aQ| .inr a=>h7 t w p=decide (a.2.1=(w.length:Int))/\(h7 t w p=ah->yD t w p a.2.2)) ?_ λz bj=>?_
 ·refine I.for p (λi (s:Nat×pj)=>((i:Int),aQ,(s.1:Int),s.2)) (λi s=>(s.1=(nW t (t.aX.take i)).length/\s.1<=w.length)/\h7 t w p=tU t w ((t.aX.take p).drop i) s.1/\(h7 t w p=ah->yD t w i s.2)) (t0:=(0,[])) rfl ⟨⟨rfl,Nat.zero_le _⟩,by rw[List.drop_zero];rfl,λ_ d _ hm=>by simp_all⟩ (λi s ao bq=>?_) λs bq=>?_
  ·obtain⟨k,nm⟩:=s;obtain⟨⟨au,ND⟩,lX,gu⟩:=bq;dsimp only at au ND lX gu;obtain⟨x,ar⟩:∃x,t.aX[i]? =D x:=⟨_,cq aa⟩
   obtain⟨m,rfl,_,hm⟩:=ay.fI.eB _ (cC ar);have As:(t.aX.take p)[i]? =D (m:Int):=by grind
   have az:(t.aX.take p).drop i=(m:Int)::(t.aX.take p).drop (i+1):=Ao As;have h3:k<=i:=by rw[au];refine jC (List.length_filter_le _ _) ?_;grind
   rw[az,UE,eq]at lX;refine I.aC (λ_=>I.aL As (I.aq (cw hm) (I.aC (λhr=>?_) λhr=>?_))) dv
   ·rw[if_pos hr]at lX;obtain⟨_,no,er,rL,jr,gG⟩:=UG ai aO hm hr;refine I.aq er (I.aq (cw (show bP t m 0<t.nodes.length by omega)) (I.aq rL (I.aq (cw (show bP t m 1<t.nodes.length by omega)) ?_)));by_cases aeb:k<w.length
    ·obtain⟨y,bh⟩:∃y,w[k]? =D y:=⟨_,cq aeb⟩
     rw[bh]at lX;dsimp only at lX;by_cases s0:vd t m<=y
     ·by_cases ul:y<=ve t m
      ·rw[decide_eq_true s0,decide_eq_true ul,hJ,hJ]at lX;refine I.aq (z:=Sum.inr (aQ,((k+1:Nat):Int),d_ nm (m:Int) y)) ?_ ?_
       ·refine I.bN ?_;unfold CP;refine I.aC br λ_=>I.aL bh (I.aC (λh=>absurd h (by grind[vd])) λ_=>I.aL bh (I.aC (λh=>absurd h (by grind[ve])) λ_=>I.aL bh (I.ret ?_)));rw[cM aa]
       ·refine I.inl ⟨(k+1,d_ nm (m:Int) y),by rw[cM aa],⟨?_,aeb⟩,lX,λfG d UT UU=>?_⟩
        ·simp_all[gd,Nw,ky,nW,AO,if_pos]
        ·show dP (d_ nm (m:Int) y) (d:Int)=_;rw[u6];by_cases pZ:(m:Int)=d
         ·rw[if_pos pZ];grind[ew,f',UF]
         ·rw[if_neg pZ];refine gu fG d UT ?_;rw[gd ar]at UU;grind
      ·rw[decide_eq_false ul,Bool.and_false,hV]at lX;refine I.aq (z:=Sum.inl (aQ,(k:Int),nm)) ?_ (I.inr ⟨rfl,lX⟩);refine I.bN ?_;unfold CP;exact I.aC br λ_=>I.aL bh (I.aC (λh=>absurd h (by grind[vd])) λ_=>I.aL bh (I.aC (λ_=>I.ret rfl) λh=>absurd (by simp_all[ve]) h))
     ·rw[decide_eq_false s0,hV,hV]at lX;refine I.aq (z:=Sum.inl (aQ,(k:Int),nm)) ?_ (I.inr ⟨rfl,lX⟩);refine I.bN ?_;unfold CP;exact I.aC br λ_=>I.aL bh (I.aC (λ_=>I.ret rfl) λh=>absurd (by simp_all[vd]) h)
    ·rw[List.getElem?_eq_none aa]at lX;dsimp only at lX;refine I.aq (z:=Sum.inl (aQ,(k:Int),nm)) ?_ (I.inr ⟨rfl,lX⟩);refine I.bN ?_;unfold CP;exact I.aC (λ_=>I.ret rfl) dv
   ·rw[if_neg hr]at lX;refine I.inl ⟨(k,nm),by rw[cM aa],⟨?_,ND⟩,lX,λfG d UT UU=>?_⟩
    ·simp_all[gd,Nw,ky,nW,AO,if_neg]
    ·refine gu fG d UT ?_;rw[gd ar]at UU;grind
  ·obtain⟨k,nm⟩:=s;obtain⟨⟨au,ND⟩,lX,gu⟩:=bq;dsimp only at au ND lX gu;refine I.aC br λ_=>I.inr ⟨?_,gu⟩;rw[lX,List.drop_eq_nil_of_le aa];show decide (k=w.length)=decide ((k:Int)=(w.length:Int));grind
 grind[I.ret,trans]
end
end Go.Proofs.YtgfggdcbhjhegaaGreatDoor

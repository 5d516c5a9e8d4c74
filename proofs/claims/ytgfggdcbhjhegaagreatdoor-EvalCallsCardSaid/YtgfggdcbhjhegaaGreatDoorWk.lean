/- The program: its answers. -/
import Derived.Test.YtgfggdcbhjhegaaGreatDoorWj
set_option linter.all false
set_option maxRecDepth 100000
set_option maxHeartbeats 1000000
namespace Go.Proofs.YtgfggdcbhjhegaaGreatDoor
open Go Go.Mi Go.RowKit Go.Dp
open Bool renaming or_eq_false_iff->iM,true->ah,false->aQ,or_eq_true->hk,not_eq_false'->qy
open Int renaming le_refl->me,toNat_natCast->eq,add_zero->AN
open Int.ofNat renaming inj->ew
open List renaming mem_of_getElem?->cC,getElem?_eq_getElem->cq,take_of_length_le->fz,getElem?_eq_some_iff->cz,length_map->h6,getElem?_map->fv,sum_cons->nR,length_take->jf,eq_nil_of_length_eq_zero->nl,sum_append->wC,mem_of_mem_take->aec,getElem?_of_mem->fO,mem_cons_self->ra,sum_nil->sI,mem_map->lH
open Nat renaming le_refl->b5,lt_succ_self->qI,add_le_add->AP,le_trans->jC,le_succ->AT
open Option renaming bind_some->cl,some->D,bind->aw
open Sum renaming elim_inr->yE,elim_inl->AZ
structure jE(n:Nat)(t:bf)(O:Nat->ByteArray):Prop extends AS n t O where
 aqs:vV (aZ n) t=D 0
 Hd:xR (aZ n) t=D (⟨c2 t⟩,0,0)
 k':uV (aZ n) t=D (⟨c2 t⟩,0,0)
 aqt:vW (aZ n) t=D (⟨eN t O t.nodes.length⟩,0,0)
 lx:tx (aZ n) t=D (⟨eN t O t.nodes.length⟩,0,0)
theorem Hy{n:Nat}{t:bf}(ai:c7 t)(a_:10000000<=n):∃e,vV (aZ n) t=D e/\sq (aZ n) t=D e/\(e=0->∃O,jE n t O):=by
 obtain⟨e,r,h1,h2,aJ,bp,cy,cY⟩:=ao6 (n:=n) ai a_;refine⟨e,h1,h2,λhe=>?_⟩;subst he;rcases cy with⟨k,hd,he,rfl,_⟩|⟨aO,aS,Hd,k',O,M,P,bx,cL,eZ,wy,rfl⟩
 ·simp_all
 ·exact⟨O,⟨⟨ai,aO,aS,bx,a_,M,P,cL,eZ,wy⟩,h1,Hd,k',aJ,bp⟩⟩
section
variable {n : Nat} {t : bf} {O : Nat -> ByteArray} {w : List Int}
theorem NE(aT:Nat->Int):pk t O aT [] [] []:=⟨λd l h=>(by cases h),λs c h=>(by cases h),λm sp h=>(by cases h)⟩
theorem D2(bv:jE n t O):xT (aZ n) t=D (.inr (0,t.nodes,t.aX,0,0,0,c2 t,eN t O t.nodes.length,[],[],[],[])):=by refine I.bN ?_;unfold xT;exact I.aq bv.aqs (I.eh (λh=>absurd rfl h) λ_=>I.aq bv.Hd (I.aq bv.aqt (I.ret rfl)))
variable {e:Int}
theorem UV(h:vV (aZ n) t=D e)(he:e≠0):xT (aZ n) t=D (.inl e):=by simp_all[I.bN,xT,I.aq,I.eh,I.ret,absurd]
variable {a i:Nat}{ks:List Int}
theorem UW(bv:jE n t O)(ao:t.aX[a]? =D (i:Int))(kd:w.length<=1000000)(MO:ks=[]\/∃c,ks=[c]/\(af t i).kind=c):
  (h7 t w (a+1)=aQ/\o3 (aZ n) t (a:Int) w ks=D (.inl 3))\/(h7 t w (a+1)=ah/\∃nm,yD t w (a+1) nm/\o3 (aZ n) t (a:Int) w ks=D (.inr (0,t.nodes,t.aX,0,0,0,c2 t,eN t O t.nodes.length,nm,[],[],[]))):=by
 have ay:=bv.wf.cZ;have jO:a<t.aX.length:=(cz.1 ao).1;obtain⟨g5,e,_,g1⟩:=ay.fI.eB _ (cC ao);have e:i=g5:=ew e;subst e;obtain⟨⟨b,nm⟩,bj,h1,h2⟩:=US (n:=n) (p:=a+1) (eu:=c2 t) (iW:=eN t O t.nodes.length) (L:=[]) (W:=[]) (S:=[]) bv.ok bv.wf aa kd (q:=(a:Int)) aa;have fJ:zP (aZ n) (a:Int) w (0,t.nodes,t.aX,0,0,0,c2 t,eN t O t.nodes.length,[],[],[],[]) aQ=if b=ah then D (.inr (0,t.nodes,t.aX,0,0,0,c2 t,eN t O t.nodes.length,nm,[],[],[]))else D (.inl 3):=by unfold zP;rw[if_neg eu];dsimp only;rw[bj,cl];cases b<;>rfl
 have rY:o3 (aZ n) t (a:Int) w ks=zP (aZ n) (a:Int) w (0,t.nodes,t.aX,0,0,0,c2 t,eN t O t.nodes.length,[],[],[],[]) aQ:=by
  unfold o3;rw[D2 bv,cl];simp only[yE];rw[if_neg eu,if_neg dt];rcases MO with rfl|⟨c,rfl,aP⟩
  ·rfl
  ·rw[if_pos fT,e3 ao,cl,cw g1,cl,MZ fT,cl,show decide ((af t i).kind∈[c])=ah by simp[aP]];rfl
 grind
theorem Hz(bv:jE n t O){a:Int}(a9:a< 0\/(t.aX.length:Int)<=a):o3 (aZ n) t a w ks=D (.inl 7):=by
 have aP:(decide (a< 0)||decide ((t.aX.length:Int)<=a))=ah:=by grind
 unfold o3;rw[D2 bv,cl];simp only[yE];rw[if_neg eu,if_pos aP,aP];rfl
theorem aed(bv:jE n t O)(ao:t.aX[a]? =D (i:Int)){c:Int}(aP:(af t i).kind≠c):o3 (aZ n) t (a:Int) w [c]=D (.inl 7):=by have ay:=bv.wf.cZ;have jO:a<t.aX.length:=(cz.1 ao).1;obtain⟨g5,e,_,g1⟩:=ay.fI.eB _ (cC ao);have e:i=g5:=ew e;subst e;unfold o3;rw[D2 bv,cl];simp only[yE];rw[if_neg eu,if_neg dt,if_pos fT,e3 ao,cl,cw g1,cl,MZ fT,cl,show decide ((af t i).kind∈[c])=aQ by simp[aP]];rfl
theorem HA(h:vV (aZ n) t=D e)(he:e≠0){a:Int}:o3 (aZ n) t a w ks=D (.inl e):=by unfold o3;rw[UV h he,cl];simp only[AZ];rw[if_pos cK]
variable {nm:pj}{p:Nat}
theorem UX(ay:ik t)(ao:t.aX[a]? =D (i:Int))(u5:a<=p)(h:yD t w p nm):∀d:Nat,(af t d).kind=40->d<i->(dP nm (d:Int)).getD 0=f' t w d:=by
 intro d au az;have dN:i<t.nodes.length:=by obtain⟨g5,e,_,g1⟩:=ay.fI.eB _ (cC ao);omega
 have hm:=yh ay (show d<t.nodes.length by omega) (by rw[au];rfl);obtain⟨b,aB⟩:=fO hm;have:=(ye ay.fI.pP aB ao).1 aa;rw[h d au (cC (i:=b) dt)];rfl
theorem UY(bv:jE n t O)(ao:t.aX[a]? =D (i:Int))(u5:a<p)(gu:yD t w p nm){st op a':Int}{L:hc}{W:lU}{S:bI}(cB:aH st=st)(bw:0<=op)(h1:op<=a')(h2:op<=100000)(eT:pk t O (f' t w) L W S):
  I (x0 (aZ n) (i:Int) t.nodes t.aX st op a' (c2 t) (eN t O t.nodes.length) nm L W S) λz=>z.1=ir t O (f' t w) i/\z.2.1=aH (st+((mN t O (f' t w) i).1:Int))/\z.2.2.1=op/\z.2.2.2.1=max a' (op+((mN t O (f' t w) i).2:Int))/\pk t O (f' t w) z.2.2.2.2.1 z.2.2.2.2.2.1 z.2.2.2.2.2.2:=by
 have ai:=bv.ok;have aO:=bv.wf;have aS:=bv.ht;have bx:=bv.g2;have ay:=aO.cZ;have bV:=bv.toAS;obtain⟨g5,e,_,g1⟩:=ay.fI.eB _ (cC ao);have e:i=g5:=ew e;subst e;have h3:=ai.af g1;have fc:=c6 g1;have qj:max a' (op+((0:Nat):Int))=a':=by omega
 unfold x0;refine I.aq (cw g1) (I.aC (λhr=>?_) λhr=>?_)
 ·have b2:dP nm (i:Int)=D (f' t w i):=gu i hr (cC (i:=a) cK);have UZ:mN t O (f' t w) i=(0,0):=by unfold mN;rw[if_neg (show ¬nV (af t i).kind by omega)]
  simp_all[I.aq,rJ,I.ret,ir,if_pos,aH,AN]
 ·by_cases lz:nV (af t i).kind
  ·have aee:zQ (af t i).kind=D ah:=by
    unfold zQ;grind
   have UZ:mN t O (f' t w) i=(((mj t O (f' t w) (bd t i)).map (·.2.1)).sum,lA ((mj t O (f' t w) (bd t i)).map (·.2.2))):=by unfold mN;rw[if_pos lz]
   have aqu:ir t O (f' t w) i=(gR t O (f' t w) (λ_=>[]) (-1) 0 (bd t i)).1:=by unfold ir gR;rw[if_neg hr,if_pos lz];dsimp only;rw[List.flatMap_def,List.map_map];rfl
   rw[UZ,aqu];have M_:∀q∈(af t i).a3,∃m:Nat,q=m/\of t O i 9999999 i (λ_=>[]) (-1) 0 [] m:=by
    intro q aE;rw[<-fc]at aE;obtain⟨m,rfl,hm,hC,ar,aM,c1,kc,_⟩:=AR (aT:=f' t w) ai aO aS bx g1 lz aE;have qm:(dz t m).1=[]:=by
     rw[j9 ay aa (lv ay g1 aE),pa g1 ((rD ay g1).2 (cC ao))];unfold nV at lz;have:f_ t i m=[]:=by unfold f_;rw[if_neg (show ¬(af t i).kind=20 by omega),if_neg (show ¬(af t i).kind=42 by omega)];split<;>rfl
     simp_all
    exact⟨m,rfl,hm,hC,.inl ar,hC.dy ai aO aS,c1,λd az=>cK,aa,λd az=>cK⟩
   refine I.aq aee (I.bC (λ_=>I.aq (show zR=D (-1,0,[])from rfl) (I.bind (aqq bV (UX ay ao (Nat.le_of_lt u5) gu) (af t i).a3 i (λ_=>[]) (-1) 0 st op a' L W S [] M_ h3 cB eT bw h1 aa) λz bj=>I.ret ⟨?_,?_,bj.NA,?_,bj.AV⟩)) cF)
   ·rw[fc];exact bj.val
   ·rw[fc];exact bj.Nz
   ·rw[fc];exact bj.og
  ·have aee:zQ (af t i).kind=D aQ:=by
    simp_all[zQ,iM,decide_eq_false_iff_not,nV]
   have UZ:mN t O (f' t w) i=(0,0):=by unfold mN;rw[if_neg lz]
   simp_all[I.aq,I.bC,I.ret,ir,if_neg,aH,AN]
theorem aef(bv:jE n t O)(ao:t.aX[a]? =D (i:Int))(kd:w.length<=1000000):
  (h7 t w (a+1)=aQ/\pU (aZ n) t (a:Int) w=D ([],3)/\tu (aZ n) t (a:Int) w=D (0,3)/\tv (aZ n) t (a:Int) w=D (0,3))\/
  (h7 t w (a+1)=ah/\pU (aZ n) t (a:Int) w=D (ir t O (f' t w) i,0)/\tu (aZ n) t (a:Int) w=D (aH ((mN t O (f' t w) i).1:Int),0)/\tv (aZ n) t (a:Int) w=D (((mN t O (f' t w) i).2:Int),0)):=by
 rcases UW bv ao kd (.inl rfl)with⟨a8,aV⟩|⟨a8,nm,gu,aV⟩
 ·simp_all[pU,cl,tu,tv]
 ·obtain⟨z,bj,h1,h2,_,bp,_⟩:=UY bv ao (qI a) gu (st:=0) (op:=0) (a':=0) rfl (me _) (me _) aa (NE _);simp_all[pU,cl,yE,if_neg,e3,tu,Int.zero_add,tv]
theorem aqv(bv:jE n t O)(aT:Nat->Int)(ao:i<t.nodes.length)(au:(af t i).kind=44):∃v,(ir t O aT i)[0]? =D v:=by
 have ai:=bv.ok;have aO:=bv.wf;have aS:=bv.ht;have bx:=bv.g2;have ay:=aO.cZ;have aK:=mf ay ao aa;obtain⟨r,h1,h2⟩:=na ay ao aa;have aM:r=[]:=by simp_all[congrArg,List.length,c6,List.length_cons,nl]
 have lz:nV (af t i).kind:=by omega
 obtain⟨m,e,hm,hC,ar,_,c1,_,_⟩:=AR (aT:=aT) ai aO aS bx ao lz (show(dR t i:Int)∈bd t i by simp_all);have e:dR t i=m:=ew e;obtain⟨bn,_,_,gS,kY,iV,_⟩:=mh ai aO aS bx (show m<t.nodes.length by omega) (.inl ar);have bg:=yw (aT:=aT) ai aO aS bx _ m _ _ _ (qI _) hC (.inl ar) c1;refine⟨ha (bo t O aT m (λ_=>[]) (-1) 0).1,?_⟩;unfold ir;rw[if_neg aa,if_pos lz,h1,aM];simp only[List.map_cons,List.map_nil,List.flatten_cons,List.flatten_nil,List.append_nil,eq];rw[e];exact(bg.az aa).2
theorem aeg(bv:jE n t O)(ao:t.aX[a]? =D (i:Int))(kd:w.length<=1000000)(au:(af t i).kind=44):
  (h7 t w (a+1)=aQ/\o4 (aZ n) t (a:Int) w=D (aQ,3))\/(h7 t w (a+1)=ah/\∃b,o4 (aZ n) t (a:Int) w=D (b,0)/\Gz (aZ n) t (a:Int) w=D b):=by
 have ay:=bv.wf.cZ;obtain⟨g5,e,_,g1⟩:=ay.fI.eB _ (cC ao);have e:i=g5:=ew e;subst e;rcases UW bv ao kd (.inr ⟨44,rfl,au⟩)with⟨a8,aV⟩|⟨a8,nm,gu,aV⟩
 ·simp_all[o4,cl]
 ·obtain⟨z,bj,h1,_⟩:=UY bv ao (qI a) gu (st:=0) (op:=0) (a':=0) rfl (me _) (me _) aa (NE _);obtain⟨v,bg⟩:=aqv bv (f' t w) g1 au;refine .inr ⟨a8,_,?_,ap0 bv.ok bv.wf bv.ht bv.g2 bv.qS bv.k' bv.lx ao a8 bg⟩;unfold o4;rw[aV,cl];simp only[yE];rw[if_neg eu,e3 ao,cl,bj,cl,h1,show(0:Int)=((0:Nat):Int)from rfl,e3 bg];rfl
theorem aqw(bv:jE n t O)(ao:t.aX[a]? =D (i:Int))(au:(af t i).kind≠44):o4 (aZ n) t (a:Int) w=D (aQ,7):=by grind[o4,aed]
theorem aqx(bv:jE n t O)(kd:w.length<=1000000):
  (h7 t w t.aX.length=aQ/\vZ (aZ n) t w=D ([],3))\/(h7 t w t.aX.length=ah/\vZ (aZ n) t w=D (qR t O w t.aX.length,0)):=by
 have ay:=bv.wf.cZ;have hn:=bv.ok.aX;obtain⟨⟨b,nm⟩,bj,h1,h2⟩:=US (n:=n) (p:=t.aX.length) (eu:=c2 t) (iW:=eN t O t.nodes.length) (L:=[]) (W:=[]) (S:=[]) bv.ok bv.wf (b5 _) kd (q:=aH ((t.aX.length:Int)- 1)) (by rw[c8 aa aa]);have h1:b=h7 t w t.aX.length:=h1;have h2:b=ah->yD t w t.aX.length nm:=h2;have rY:vZ (aZ n) t w=if b=ah then Sp t (aZ n) (0,t.nodes,t.aX,0,0,0,c2 t,eN t O t.nodes.length,[],[],[],[]) (b,nm) ([],0,0,0,0,[],[],[])else D ([],3):=by unfold vZ;rw[D2 bv,cl];simp only[yE];rw[if_neg eu,show xU (aZ n)=xU (aZ n)from rfl,bj,cl];cases b<;>rfl
 cases aB:h7 t w t.aX.length with
 |false=>simp_all
 |true=>
  refine .inr ⟨rfl,?_⟩;rw[rY,h1,aB,if_pos rfl];have gu:=h2 (h1.trans aB);refine I.bN ?_;unfold Sp;refine I.for t.aX.length (λi (s:Int×Int×hc×lU×bI)=>(qR t O w i,(i:Int),s.1,0,s.2.1,s.2.2.1,s.2.2.2.1,s.2.2.2.2)) (λi s=>aH s.1=s.1/\0<=s.2.1/\pk t O (f' t w) s.2.2.1 s.2.2.2.1 s.2.2.2.2) (t0:=(0,0,[],[],[])) rfl ⟨rfl,me _,NE _⟩ (λi s ao bq=>?_) λs bq=>?_
  ·obtain⟨st,a',L,W,S⟩:=s;obtain⟨wV,v',aqy⟩:=bq;obtain⟨q,aE⟩:∃q,t.aX[i]? =D q:=⟨_,cq ao⟩
   obtain⟨m,rfl,_,hm⟩:=ay.fI.eB _ (cC aE);have rG:(qR t O w i).length<=800:=by grind[qR,h6,jf]
   refine I.aC (λ_=>I.aL aE (I.bind (UY bv aE ao gu wV (me _) v' aa aqy) λz bj=>?_)) dv;obtain⟨jr,jv,eH,d0,oz,p6,oA⟩:=z;obtain⟨ef,eM,gS,kY,iV⟩:=bj;dsimp only at ef eM gS kY iV;subst ef;subst gS;refine I.aq (jj (jC (AP rG (b5 1)) eu)) (I.inl ⟨(jv,d0,oz,p6,oA),?_,?_,?_,iV⟩)
   ·rw[cM aa];have:qR t O w (i+1)=qR t O w i++[ir t O (f' t w) m]:=by unfold qR;rw[gd aE,List.map_append];rfl
    rw[this]
   ·show aH jv=jv;rw[eM,Hq]
   grind
  simp_all[I.aC,absurd,I.inr]
end
def D3(t:bf):Prop:=∀x∈t.nodes,-9223372036854775808<=x.n/\x.n<=9223372036854775807/\0<=x.kind/\x.kind<=255
section
variable {n : Nat} {t : bf} {w : List Int}
theorem HB(dw:D3 t):∃b,xH (aZ n) t=D b/\(b=aQ->c7 t/\t.nodes.length<=200/\t.aX.length<=200):=by
 unfold xH;by_cases aV:(decide (200<(t.nodes.length:Int))||decide (200<(t.aX.length:Int)))=ah
 ·simp_all
 ·rw[if_neg aV];simp only[hk,decide_eq_true_eq,not_or]at aV;have key:I (QO (aZ n) t 0) λb=>b=aQ->∀x∈t.nodes,x.a3.length<=10/\x.bi.size<=40:=by
   unfold QO;refine I.for t.nodes.length (λi (_:Unit)=>(i:Int)) (λi _=>∀x∈t.nodes.take i,x.a3.length<=10/\x.bi.size<=40) (t0:=()) rfl (λx ar=>by simp_all) (λi _ ao bq=>?_) λ_ bq=>?_
   ·obtain⟨x,ar⟩:∃x,t.nodes[i]? =D x:=⟨_,cq ao⟩
    refine I.aC (λ_=>I.aL ar (I.aC (λ_=>I.inr cF) λh1=>I.aL ar (I.aC (λ_=>I.inr cF) λh2=>I.inl ⟨(),by rw[cM aa],λy bh=>?_⟩))) dv;rw[gd ar]at bh;grind
   simp_all[I.aC,absurd,I.inr,fz,b5]
  obtain⟨b,h1,h2⟩:=key;refine⟨b,h1,λaB=>⟨⟨aa,aa,λx ar=>?_⟩,aa,aa⟩⟩;have:=h2 aB x ar;have aJ:=dw x ar;omega
variable {l:List Int}
theorem aeh(aK:l.length<=100000):Gg (aZ n) l l=D ah:=by
 refine I.bN ?_;unfold Gg aaV;refine I.eh (λh=>absurd rfl h) λ_=>I.for l.length (λi (_:Unit)=>(i:Int)) (λ_ _=>True) (t0:=()) rfl trivial (λi _ ao _=>?_) λ_ _=>?_
 ·obtain⟨x,ar⟩:∃x,l[i]? =D x:=⟨_,cq ao⟩
  exact I.aC (λ_=>I.aL ar (I.aL ar (I.eh (λh=>absurd rfl h) λ_=>I.inl ⟨(),by rw[cM aa],trivial⟩))) dv
 simp_all[I.aC,absurd,I.inr]
theorem oB(aK:l.length<=100000):uU (aZ n) l l=D ah:=by
 refine I.bN ?_;unfold uU aaX;refine I.eh (λh=>absurd rfl h) λ_=>I.for l.length (λi (_:Unit)=>(i:Int)) (λ_ _=>True) (t0:=()) rfl trivial (λi _ ao _=>?_) λ_ _=>?_
 ·obtain⟨x,ar⟩:∃x,l[i]? =D x:=⟨_,cq ao⟩
  exact I.aC (λ_=>I.aL ar (I.aL ar (I.eh (λh=>absurd rfl h) λ_=>I.inl ⟨(),by rw[cM aa],trivial⟩))) dv
 simp_all[I.aC,absurd,I.inr]
theorem A0{l:List bt}(aK:l.length<=100000):qu (aZ n) l l=D ah:=by
 refine I.bN ?_;unfold qu aaS;refine I.eh (λh=>absurd rfl h) λ_=>I.for l.length (λi (_:Unit)=>(i:Int)) (λ_ _=>True) (t0:=()) rfl trivial (λi _ ao _=>?_) λ_ _=>?_
 ·obtain⟨x,ar⟩:∃x,l[i]? =D x:=⟨_,cq ao⟩
  exact I.aC (λ_=>I.aL ar (I.aL ar (I.eh (λh=>absurd rfl h) λ_=>I.inl ⟨(),by rw[cM aa],trivial⟩))) dv
 simp_all[I.aC,absurd,I.inr]
theorem aqz{l:List (List bt)}(aK:l.length<=100000)(h:∀x∈l,x.length<=100000):GA (aZ n) l l=D ah:=by
 refine I.bN ?_;unfold GA abI;refine I.eh (λh=>absurd rfl h) λ_=>I.for l.length (λi (_:Unit)=>(i:Int)) (λ_ _=>True) (t0:=()) rfl trivial (λi _ ao _=>?_) λ_ _=>?_
 ·obtain⟨x,ar⟩:∃x,l[i]? =D x:=⟨_,cq ao⟩
  exact I.aC (λ_=>I.aL ar (I.aL ar (I.aq (A0 (h x (cC ar))) (I.bC cF λ_=>I.inl ⟨(),by rw[cM aa],trivial⟩)))) dv
 simp_all[I.aC,absurd,I.inr]
variable (ai : c7 t)
include ai
theorem HC:x1 (aZ n) t=D t:=by
 have e0:=ai.nodes;have hn:=ai.aX;refine I.bN ?_;unfold x1;refine I.aq (r4 aa) ?_;unfold aaU;refine I.for t.nodes.length (λi (_:Unit)=>((i:Int),t.nodes.take i)) (λ_ _=>True) (t0:=()) rfl trivial (λi _ ao _=>?_) λ_ _=>?_
 ·obtain⟨x,ar⟩:∃x,t.nodes[i]? =D x:=⟨_,cq ao⟩
  have au:=ai.a3 x (cC ar);refine I.aC (λ_=>I.aL ar (I.aq (r4 aa) (I.aq (jj (jC (AP (show(t.nodes.take i).length<=800 by grind) (b5 1)) eu)) (I.inl ⟨(),?_,trivial⟩)))) dv;rw[cM aa,gd ar]
 simp_all[I.aC,absurd,I.inr,fz,b5]
theorem oC:uT (aZ n) t t=D ah:=by
 have e0:=ai.nodes;have hn:=ai.aX;refine I.bN ?_;unfold uT aaW;refine I.eh (λh=>absurd rfl h) λ_=>I.aq (aeh aa) (I.bC cF λ_=>I.for t.nodes.length (λi (_:Unit)=>(i:Int)) (λ_ _=>True) (t0:=()) rfl trivial (λi _ ao _=>?_) λ_ _=>?_)
 ·obtain⟨x,ar⟩:∃x,t.nodes[i]? =D x:=⟨_,cq ao⟩
  have au:=ai.a3 x (cC ar);exact I.aC (λ_=>I.aL ar (I.aL ar (I.bC (λh=>(by simp at h)) λ_=>I.aq (aeh aa) (I.bC cF λ_=>I.inl ⟨(),by rw[cM aa],trivial⟩)))) dv
 simp_all[I.aC,absurd,I.inr]
end
section
variable {n : Nat} {t : bf} {O : Nat -> ByteArray} {w : List Int}
theorem HD(bv:jE n t O)(kd:w.length<=1000000- 1){p:Int}(hp: -1<=p)(uE:p<=100000000):tz (aZ n) t p w=D (h7 t w (p+1).toNat):=by
 rcases apW (n:=n) (w:=w) bv.ok bv.wf hp uE with h|h
 ·exact h
 ·omega
theorem aei(bv:jE n t O)(aT:Nat->Int){i:Nat}(ao:i<t.nodes.length):(ir t O aT i).length<=6400:=by
 have ai:=bv.ok;have fc:=c6 ao;have h3:=ai.af ao;unfold ir;split
 ·simp
 ·split
  ·next au=>
   have:∀(l:List Int),(∀q∈l,q∈bd t i)->((l.map λq=>(bo t O aT q.toNat (λ_=>[]) (-1) 0).1).flatten).length<=8*l.length:=by
    intro l;induction l with
    |nil=>simp
    |cons q l bB=>intro h;obtain⟨m,rfl,hm,hC,ar,_,c1,_,gO⟩:=AR (aT:=aT) ai bv.wf bv.ht bv.g2 ao au (h q ra);grind
   grind
  ·simp
theorem aqA(fP:k5=D ah)(a_:10000000<=n)(dw:D3 t)(a:Int):w4 (aZ n) t a w=D ah:=by
 obtain⟨b,aB,cc⟩:=HB (n:=n) dw;refine I.bN ?_;unfold w4;refine I.aq aB (I.bC (λ_=>I.aq fP (I.ret rfl)) λaV=>?_);rw[iM,decide_eq_false_iff_not]at aV;obtain⟨ai,e0,hn⟩:=cc aV.1;have kd:w.length<=20:=by omega
 obtain⟨e,he,aP,mv⟩:=Hy (n:=n) ai a_;refine I.aq (HC ai) (I.aq (r4 aa) ?_);have rN:∀(e:Int),e≠0->I (qx ([],e) (aQ,e) t a (aZ n) w e) (· =ah):=λe he=>by simp_all[qx,I.eh,I.bC,I.aq,I.ret,absurd]
 by_cases kw:e=0
 ·subst kw;obtain⟨O,bv⟩:=mv rfl;have ay:=bv.wf.cZ;by_cases aM:a< 0\/(t.aX.length:Int)<=a
  ·have tV:pU (aZ n) t a w=D ([],7):=by grind[pU,Hz]
   have o7:o4 (aZ n) t a w=D (aQ,7):=by grind[o4,Hz]
   have sM:nI t a=D aQ:=by grind[nI]
   exact I.aq tV (I.aq o7 (I.aq (oC ai) (I.bC cF λ_=>I.aq (oB aa) (I.bC cF λ_=>I.aq aP (I.aC (λ_=>I.aq sM (I.bC (λ_=>rN 7 eu) cF)) λh=>absurd rfl h)))))
  ·obtain⟨k,rfl⟩:∃k:Nat,a=k:=⟨a.toNat,aa⟩
   obtain⟨q,aE⟩:∃q,t.aX[k]? =D q:=⟨_,cq aa⟩
   obtain⟨i,rfl,_,g1⟩:=ay.fI.eB _ (cC aE);have sM:nI t (k:Int)=D ah:=by simp_all[nI]
   have ku:=HD (w:=w) bv aa (p:=(k:Int)) aa aa;rw[show((k:Int)+1).toNat=k+1 by omega]at ku;have wrap:∀(a0:List bt×Int)(be:Bool×Int),pU (aZ n) t (k:Int) w=D a0->o4 (aZ n) t (k:Int) w=D be->I (qx a0 be t (k:Int) (aZ n) w 0) (· =ah)->I (aw (pU (aZ n) ⟨t.nodes,t.aX⟩ (k:Int) w) λa0=>aw (o4 (aZ n) ⟨t.nodes,t.aX⟩ (k:Int) w) λbe=>aw (uT (aZ n) ⟨t.nodes,t.aX⟩ t) λbL=>if(!bL)=ah then D aQ else(uU (aZ n) w w).bind λbJ=>if(!bJ)=ah then D aQ else(sq (aZ n) t).bind λci=>if decide (ci=0)=ah then(nI t (k:Int)).bind λlQ=>if(!lQ)=ah then qx a0 be t (k:Int) (aZ n) w 7 else qx a0 be t (k:Int) (aZ n) w ci else qx a0 be t (k:Int) (aZ n) w ci) (· =ah):=by intro a0 be tV o7 h;exact I.aq tV (I.aq o7 (I.aq (oC ai) (I.bC cF λ_=>I.aq (oB aa) (I.bC cF λ_=>I.aq aP (I.aC (λ_=>I.aq sM (I.bC cF λ_=>h)) λh=>absurd rfl h)))))
   have aej:=λ(h:(af t i).kind≠44)=>aqw (w:=w) bv aE h;rcases aef (w:=w) bv aE aa with⟨a8,tV,_⟩|⟨a8,tV,_⟩
   ·rw[a8]at ku;by_cases qH:(af t i).kind=44
    ·rcases aeg (w:=w) bv aE aa qH with⟨_,o7⟩|⟨Tf,_⟩
     ·refine wrap _ _ tV o7 ?_;unfold qx;refine I.eh (λh=>absurd rfl h) λ_=>I.aL aE (I.aq (cw g1) (I.aq ku (I.bC (λ_=>?_) cF)));simp_all[x8,I.eh,absurd,Af,I.bC,I.aC,I.aq,I.ret]
     simp_all
    ·refine wrap _ _ tV (aej qH) ?_;unfold qx;refine I.eh (λh=>absurd rfl h) λ_=>I.aL aE (I.aq (cw g1) (I.aq ku (I.bC (λ_=>?_) cF)));simp_all[x8,I.eh,absurd,Af,I.bC,I.aC,I.aq,I.ret]
   ·rw[a8]at ku;have AX:=adS (w:=w) bv.ok bv.wf bv.ht bv.g2 bv.qS bv.k' bv.lx aE a8;have U0:=A0 (n:=n) (show(ir t O (f' t w) i).length<=100000 by grind[aei,f']);by_cases qH:(af t i).kind=44
    ·rcases aeg (w:=w) bv aE aa qH with⟨Tf,_⟩|⟨_,b,o7,k8⟩
     ·simp_all
     ·refine wrap _ _ tV o7 ?_;unfold qx;refine I.eh (λh=>absurd rfl h) λ_=>I.aL aE (I.aq (cw g1) (I.aq ku (I.bC cF λ_=>I.aq AX (I.aq U0 (I.bC cF λ_=>I.aC (λ_=>I.aq k8 (I.bC (λh=>(by simp at h)) λ_=>?_)) λh=>absurd qH h)))));simp_all[x8,I.eh,absurd,Af,I.bC,I.aC,I.aq,I.ret]
    ·refine wrap _ _ tV (aej qH) ?_;unfold qx;refine I.eh (λh=>absurd rfl h) λ_=>I.aL aE (I.aq (cw g1) (I.aq ku (I.bC cF λ_=>I.aq AX (I.aq U0 (I.bC cF λ_=>I.aC (λh=>absurd h qH) λ_=>?_)))));simp_all[x8,I.eh,absurd,Af,I.bC,I.aC,I.aq,I.ret]
 ·have tV:pU (aZ n) t a w=D ([],e):=by unfold pU;rw[HA he kw,cl];simp only[AZ];rw[if_pos cK]
  have o7:o4 (aZ n) t a w=D (aQ,e):=by unfold o4;rw[HA he kw,cl];simp only[AZ];rw[if_pos cK]
  exact I.aq tV (I.aq o7 (I.aq (oC ai) (I.bC cF λ_=>I.aq (oB aa) (I.bC cF λ_=>I.aq aP (I.aC (λh=>absurd h kw) λ_=>rN e kw)))))
end
section
variable {n : Nat} {t : bf} {O : Nat -> ByteArray} {w : List Int}
theorem aqB(fP:k5=D ah)(a_:10000000<=n)(dw:D3 t):SW (aZ n) t w=D ah:=by
 obtain⟨b,aB,cc⟩:=HB (n:=n) dw;refine I.bN ?_;unfold SW;refine I.aq aB (I.bC (λ_=>I.aq fP (I.ret rfl)) λaV=>?_);rw[iM,decide_eq_false_iff_not]at aV;obtain⟨ai,e0,hn⟩:=cc aV.1;have kd:w.length<=20:=by omega
 obtain⟨e,he,aP,mv⟩:=Hy (n:=n) ai a_;refine I.aq (HC ai) (I.aq (r4 aa) ?_);have rN:∀(e:Int),e≠0->I (Ag ([],e) (aZ n) t w e) (· =ah):=λe he=>by simp_all[Ag,I.eh,I.bC,I.aq,I.ret,absurd]
 by_cases kw:e=0
 ·subst kw;obtain⟨O,bv⟩:=mv rfl;have ay:=bv.wf.cZ;have ku:=HD (w:=w) bv aa (p:=aH ((t.aX.length:Int)- 1)) (by grind[c8]) (by grind[c8]);rw[show(aH ((t.aX.length:Int)- 1)+1).toNat=t.aX.length by grind[c8]]at ku;rcases aqx (w:=w) bv aa with⟨a8,j_⟩|⟨a8,j_⟩
  ·rw[a8]at ku;exact I.aq j_ (I.aq (oC ai) (I.bC cF λ_=>I.aq (oB aa) (I.bC cF λ_=>I.aq aP (I.aC (λ_=>I.aq ku (I.bC (λ_=>rN 3 eu) cF)) λh=>absurd rfl h))))
  ·rw[a8]at ku;refine I.aq j_ (I.aq (oC ai) (I.bC cF λ_=>I.aq (oB aa) (I.bC cF λ_=>I.aq aP (I.aC (λ_=>I.aq ku (I.bC cF λ_=>?_)) λh=>absurd rfl h))));unfold Ag;have DZ:=ap1 (w:=w) bv.ok bv.wf bv.ht bv.g2 bv.qS bv.k' bv.lx a8;have DY:GA (aZ n) (qR t O w t.aX.length) (qR t O w t.aX.length)=D ah:=by
    refine aqz (by grind[qR,h6,jf]) λx ar=>?_;unfold qR at ar;obtain⟨q,aE,rfl⟩:=lH.1 ar;obtain⟨m,rfl,_,hm⟩:=ay.fI.eB _ (aec aE);grind[aei,f',eq]
   simp_all[I.eh,absurd,I.aC,I.aq,I.bC,I.ret]
 ·have j_:vZ (aZ n) t w=D ([],e):=by unfold vZ;rw[UV he kw,cl];simp only[AZ];rw[if_pos cK]
  exact I.aq j_ (I.aq (oC ai) (I.bC cF λ_=>I.aq (oB aa) (I.bC cF λ_=>I.aq aP (I.aC (λh=>absurd h kw) λ_=>rN e kw))))
theorem aqC(fP:k5=D ah)(a_:10000000<=n)(dw:D3 t)(a:Int):SZ (aZ n) t a w=D ah:=by
 obtain⟨b,aB,cc⟩:=HB (n:=n) dw;refine I.bN ?_;unfold SZ;refine I.aq aB (I.bC (λ_=>I.aq fP (I.ret rfl)) λaV=>?_);rw[iM,decide_eq_false_iff_not]at aV;obtain⟨ai,e0,hn⟩:=cc aV.1;have kd:w.length<=20:=by omega
 obtain⟨e,he,aP,mv⟩:=Hy (n:=n) ai a_;refine I.aq (HC ai) (I.aq (r4 aa) ?_);have aqD:∀(e:Int),e≠0->I (Ah (0,e) (0,e) (aZ n) t a w e) (· =ah):=λe he=>by simp_all[Ah,I.eh,I.bC,I.aq,I.ret,absurd]
 have rN:∀(e:Int),e≠0->I (x9 (aZ n) t a w (0,e) (0,e) e) (· =ah):=λe he=>by simp_all[x9,I.aC,absurd]
 by_cases kw:e=0
 ·subst kw;obtain⟨O,bv⟩:=mv rfl;have ay:=bv.wf.cZ;by_cases aM:a< 0\/(t.aX.length:Int)<=a
  ·have A1:tu (aZ n) t a w=D (0,7):=by grind[tu,Hz]
   have A2:tv (aZ n) t a w=D (0,7):=by grind[tv,Hz]
   have sM:nI t a=D aQ:=by grind[nI]
   exact I.aq A1 (I.aq A2 (I.aq (oC ai) (I.bC cF λ_=>I.aq (oB aa) (I.bC cF λ_=>I.aq aP (I.aC (λ_=>I.aq sM (I.bC (λ_=>rN 7 eu) cF)) λh=>absurd rfl h)))))
  ·obtain⟨k,rfl⟩:∃k:Nat,a=k:=⟨a.toNat,aa⟩
   obtain⟨q,aE⟩:∃q,t.aX[k]? =D q:=⟨_,cq aa⟩
   obtain⟨i,rfl,_,g1⟩:=ay.fI.eB _ (cC aE);have sM:nI t (k:Int)=D ah:=by simp_all[nI]
   have ku:=HD (w:=w) bv aa (p:=(k:Int)) aa aa;rw[show((k:Int)+1).toNat=k+1 by omega]at ku;rcases aef (w:=w) bv aE aa with⟨a8,_,A1,A2⟩|⟨a8,_,A1,A2⟩
   ·rw[a8]at ku;refine I.aq A1 (I.aq A2 (I.aq (oC ai) (I.bC cF λ_=>I.aq (oB aa) (I.bC cF λ_=>I.aq aP (I.aC (λ_=>I.aq sM (I.bC cF λ_=>?_)) λh=>absurd rfl h)))));simp_all[x9,I.aC,I.aq,I.bC,absurd]
   ·rw[a8]at ku;have sy:=ap2 (w:=w) bv.ok bv.wf bv.ht bv.g2 bv.qS bv.k' bv.lx aE a8;refine I.aq A1 (I.aq A2 (I.aq (oC ai) (I.bC cF λ_=>I.aq (oB aa) (I.bC cF λ_=>I.aq aP (I.aC (λ_=>I.aq sM (I.bC cF λ_=>?_)) λh=>absurd rfl h)))));simp_all[x9,I.aC,I.aq,I.bC,absurd,Ah,I.eh,I.ret]
 ·have A1:tu (aZ n) t a w=D (0,e):=by unfold tu;rw[HA he kw,cl];simp only[AZ];rw[if_pos cK]
  have A2:tv (aZ n) t a w=D (0,e):=by unfold tv;rw[HA he kw,cl];simp only[AZ];rw[if_pos cK]
  exact I.aq A1 (I.aq A2 (I.aq (oC ai) (I.bC cF λ_=>I.aq (oB aa) (I.bC cF λ_=>I.aq aP (I.aC (λh=>absurd h kw) λ_=>rN e kw)))))
end
def yF(t:bf)(x:Int)(q:Int):Prop:=nV (af t q.toNat).kind/\x∈bd t q.toNat
def wF(t:bf)(x:Int)(r:Int):Prop:=(r=-1/\∀q∈t.aX,¬yF t x q)\/∃(k i:Nat),r=k/\t.aX[k]? =D (i:Int)/\yF t x i/\∀q∈t.aX.take k,¬yF t x q
section
variable {n : Nat} {t : bf} {O : Nat -> ByteArray} {w : List Int}
theorem wF.yj{x r gJ:Int}(h:wF t x r)(dp:wF t x gJ):r=gJ:=by
 rcases h with⟨rfl,h⟩|⟨k,i,rfl,h1,h2,aJ⟩<;>rcases dp with⟨rfl,dp⟩|⟨cA,g5,rfl,Dr,GH,TB⟩
 ·rfl
 ·grind
 ·grind
 ·rcases Nat.lt_trichotomy k cA with cf|rfl|cf
  ·exact absurd h2 (TB _ (cC (i:=k) cK))
  ·rfl
  ·exact absurd GH (aJ _ (cC (i:=cA) cK))
theorem aek(ai:c7 t)(ay:ik t)(x:Int):I (Dk (aZ n) t x) (wF t x):=by
 have hn:=ai.aX;unfold Dk abO;refine I.for t.aX.length (λi (_:Unit)=>(i:Int)) (λi _=>∀q∈t.aX.take i,¬yF t x q) (t0:=()) rfl (λq aE=>by simp_all) (λi _ ao bq=>?_) λ_ bq=>?_
 ·obtain⟨q,aE⟩:∃q,t.aX[i]? =D q:=⟨_,cq ao⟩
  obtain⟨m,rfl,_,hm⟩:=ay.fI.eB _ (cC aE);have h3:=ai.af hm;have fc:=c6 hm;have next:¬yF t x (m:Int)->I (D (Sum.inl (aH ((i:Int)+1)):Int ⊕ Int)) (ln (λs'=>∃rc:Unit,s'=(((i+1:Nat)):Int)/\∀q∈t.aX.take (i+1),¬yF t x q) (wF t x)):=by intro df;refine I.inl ⟨(),by rw[cM aa],λq n_=>?_⟩;rw[gd aE]at n_;grind
  refine I.aC (λ_=>I.aL aE (I.aq (cw hm) (I.bC (λau=>I.aq (Th aa) (I.aC (λfJ=>I.inr ?_) λfJ=>next ?_)) λau=>next ?_))) dv
  ·rw[hk,hk,decide_eq_true_eq,decide_eq_true_eq,decide_eq_true_eq]at au;exact .inr ⟨i,m,rfl,aE,⟨dt,cK⟩,bq⟩
  ·intro h;exact fJ (by rw[<-fc];exact h.2)
  ·intro h;rw[iM,iM,decide_eq_false_iff_not,decide_eq_false_iff_not,decide_eq_false_iff_not]at au;have h1:nV (af t m).kind:=h.1;omega
 ·refine I.aC br λ_=>I.inr (.inl ⟨rfl,?_⟩);simp_all
theorem aqE{l:List Int}{a:Int}(aK:l.length< 1000000):S0 (aZ n) l a=D (decide (a∈l)):=MZ aK
theorem ael(ai:c7 t)(ay:ik t)(x:Int):I (GC (aZ n) t.aX t x) (wF t x):=by
 have hn:=ai.aX;unfold GC abN;refine I.for t.aX.length (λi (_:Unit)=>(i:Int)) (λi _=>∀q∈t.aX.take i,¬yF t x q) (t0:=()) rfl (λq aE=>by simp_all) (λi _ ao bq=>?_) λ_ bq=>?_
 ·obtain⟨q,aE⟩:∃q,t.aX[i]? =D q:=⟨_,cq ao⟩
  obtain⟨m,rfl,_,hm⟩:=ay.fI.eB _ (cC aE);have h3:=ai.af hm;have fc:=c6 hm;have aqF:I (MB (aZ n) (m:Int) t x) λb=>b=ah↔yF t x (m:Int):=by
   unfold MB;refine I.aq (cw hm) (I.aq (z:=(decide ((af t m).kind=43)||decide ((af t m).kind=44))||decide ((af t m).kind=46)) rfl (I.bC (λau=>I.aq (aqE aa) (I.ret ?_)) λau=>I.ret ?_))
   ·rw[hk,hk,decide_eq_true_eq,decide_eq_true_eq,decide_eq_true_eq]at au;rw[decide_eq_true_eq];show _↔nV (af t m).kind/\x∈bd t m;grind
   ·rw[iM,iM,decide_eq_false_iff_not,decide_eq_false_iff_not,decide_eq_false_iff_not]at au;refine⟨cF,λh=>?_⟩;have h1:nV (af t m).kind:=h.1;omega
  obtain⟨b,aB,ic⟩:=aqF;refine I.aC (λ_=>I.aL aE (I.aq aB (I.bC (λh=>I.inr (.inr ⟨i,m,rfl,aE,ic.1 h,bq⟩)) λh=>I.inl ⟨(),by rw[cM aa],λq n_=>?_⟩))) dv;rw[gd aE]at n_;grind
 ·refine I.aC br λ_=>I.inr (.inl ⟨rfl,?_⟩);simp_all
theorem aqG(bv:jE n t O){k i m:Nat}(ao:t.aX[k]? =D (i:Int))(au:nV (af t i).kind)(hm:(m:Int)∈bd t i)(hp:wF t m k)(a8:h7 t w (k+1)=ah):MC (aZ n) t (m:Int) w=D (bo t O (f' t w) m (λ_=>[]) (-1) 0).1:=by have ai:=bv.ok;have ay:=bv.wf.cZ;have hn:=ai.aX;have fP:=bv.qS;have jO:k<t.aX.length:=(cz.1 ao).1;obtain⟨g5,e,_,g1⟩:=ay.fI.eB _ (cC ao);have e:i=g5:=ew e;subst e;obtain⟨m',e,ge,hC,ar,aM,c1,kc,gO⟩:=AR (aT:=f' t w) ai bv.wf bv.ht bv.g2 g1 au hm;have e:m=m':=ew e;subst e;obtain⟨r,rb,mU⟩:=aek (n:=n) ai ay (m:Int);have HE:r=(k:Int):=mU.yj hp;subst HE;have pi:=Hr ai bv.wf a8;have kU:=hC.dy ai bv.wf bv.ht;refine I.bN ?_;unfold MC;refine I.aq (Hs ai bv.wf bv.ht bv.g2 fP bv.k' bv.lx) (I.aq rb (I.bind (Hu ai bv.wf bv.ht bv.g2 fP bv.k' bv.lx (p:=k) aa (λd az hm=>pi d az ((List.take_sublist_take_left (AT k)).subset hm)) (by rw[c8 aa aa])) λz bj=>?_));obtain⟨l,st,op,a',v⟩:=z;obtain⟨h1,h2,aJ,bp⟩:=bj;dsimp only at h1 h2 aJ bp;have aJ:op=0:=aJ;subst aJ;have jh:=(UH (aT:=f' t w) ay ao h1).2;refine I.aq (UD ai bv.wf bv.ht bv.g2 aa (yz ai bv.wf bv.g2) (Ht ai bv.wf bv.g2) (mi:=w) (jP:=v) (fU:=l) n m (λ_=>[]) ⟨[],[]⟩ (-1) 0 st 0 a' hC (.inl ar) aa c1 kc cK (me _) bp aa) (I.ret rfl)
theorem aqH(bv:jE n t O){k i m:Nat}(ao:t.aX[k]? =D (i:Int))(au:nV (af t i).kind)(hm:(m:Int)∈bd t i)(hp:wF t m k)(kd:w.length<=1000000):
  (h7 t w (k+1)=aQ/\uZ (aZ n) t (m:Int) w=D ([],3))\/(h7 t w (k+1)=ah/\uZ (aZ n) t (m:Int) w=D ((bo t O (f' t w) m (λ_=>[]) (-1) 0).1,0)):=by
 have ai:=bv.ok;have ay:=bv.wf.cZ;have jO:k<t.aX.length:=(cz.1 ao).1;obtain⟨g5,e,_,g1⟩:=ay.fI.eB _ (cC ao);have e:i=g5:=ew e;subst e;obtain⟨m',e,ge,hC,ar,aM,c1,kc,gO⟩:=AR (aT:=f' t w) ai bv.wf bv.ht bv.g2 g1 au hm;have e:m=m':=ew e;subst e;obtain⟨r,rb,mU⟩:=ael (n:=n) ai ay (m:Int);have HE:r=(k:Int):=mU.yj hp;subst HE;have kU:=hC.dy ai bv.wf bv.ht;obtain⟨⟨b,nm⟩,bj,h1,h2⟩:=US (n:=n) (w:=w) (p:=k+1) (eu:=c2 t) (iW:=eN t O t.nodes.length) (L:=[]) (W:=[]) (S:=[]) ai bv.wf aa kd (q:=(k:Int)) aa;have h1:b=h7 t w (k+1):=h1;have h2:b=ah->yD t w (k+1) nm:=h2;have qm:(dz t m).1=[]:=by
  rw[j9 ay aa (lv ay g1 hm),pa g1 ((rD ay g1).2 (cC ao))];unfold nV at au;have:f_ t i m=[]:=by unfold f_;rw[if_neg (show ¬(af t i).kind=20 by omega),if_neg (show ¬(af t i).kind=42 by omega)];split<;>rfl
  simp_all
 have rY:I (uZ (aZ n) t (m:Int) w) λz=>z=if b=ah then((bo t O (f' t w) m (λ_=>[]) (-1) 0).1,0)else([],3):=by
  unfold uZ;rw[D2 bv,cl];simp only[yE];rw[if_neg eu];refine I.aq rb (I.aC br λ_=>I.aq bj ?_);refine I.bC (λaB=>?_) λaB=>?_
  ·simp_all[Bool.not_eq_true',I.ret]
  ·rw[qy]at aB;have aB:b=ah:=aB;have gu:=h2 aB;rw[if_pos aB];refine I.aq (show zR=D (-1,0,[])from rfl) (I.bind (aea bv.toAS (UX ay ao (AT k) gu) m (λ_=>[]) (-1) 0 0 0 0 [] [] [] [] hC (.inl ar) kU c1 (λd az=>by simp_all) aa (NE _) (me _) (me _) aa) λz bj=>?_);refine I.aq (z:=z.1) (I.bN ?_) (I.ret (by rw[bj.val]));unfold Gf;exact I.aq (r4 (by rw[bj.val];omega)) (I.ret rfl)
 have rY:=rY.bN;simp_all
theorem aqI(bv:jE n t O){x:Int}(hp:wF t x (-1)):uZ (aZ n) t x w=D ([],7):=by obtain⟨r,rb,mU⟩:=ael (n:=n) bv.ok bv.wf.cZ x;have HE:r=-1:=mU.yj hp;subst HE;refine I.bN ?_;unfold uZ;rw[D2 bv,cl];simp_all[yE,if_neg,I.aq,I.aC,I.ret,absurd]
theorem aqJ(fP:k5=D ah)(a_:10000000<=n)(dw:D3 t)(a:Int):S1 (aZ n) t a w=D ah:=by
 obtain⟨b,aB,cc⟩:=HB (n:=n) dw;refine I.bN ?_;unfold S1;refine I.aq aB (I.bC (λ_=>I.aq fP (I.ret rfl)) λaV=>?_);rw[iM,decide_eq_false_iff_not]at aV;obtain⟨ai,e0,hn⟩:=cc aV.1;have kd:w.length<=20:=by omega
 obtain⟨e,he,aP,mv⟩:=Hy (n:=n) ai a_;refine I.aq (HC ai) (I.aq (r4 aa) ?_);have aqD:∀(e:Int),e≠0->I (Ai ([],e) (aZ n) t a w e) (· =ah):=λe he=>by simp_all[Ai,I.eh,I.bC,I.aq,I.ret,absurd]
 have rN:∀(e:Int),e≠0->I (u0 (aZ n) t a w ([],e) e) (· =ah):=λe he=>by simp_all[u0,I.aC,absurd]
 by_cases kw:e=0
 ·subst kw;obtain⟨O,bv⟩:=mv rfl;have ay:=bv.wf.cZ;obtain⟨r,rb,mU⟩:=aek (n:=n) ai ay a;rcases id mU with⟨rfl,df⟩|⟨k,i,rfl,ao,⟨au,hm⟩,cf⟩
  ·have pd:=aqI (w:=w) bv mU;refine I.aq pd (I.aq (oC ai) (I.bC cF λ_=>I.aq (oB aa) (I.bC cF λ_=>I.aq aP (I.aC (λ_=>?_) λh=>absurd rfl h))));simp_all
  ·rw[eq]at au hm;obtain⟨g5,e,_,g1⟩:=ay.fI.eB _ (cC ao);have e:i=g5:=ew e;subst e;obtain⟨m,rfl,ge⟩:=ib ay g1 hm;have jO:k<t.aX.length:=(cz.1 ao).1;have ku:=HD (w:=w) bv aa (p:=(k:Int)) aa aa;rw[show((k:Int)+1).toNat=k+1 by omega]at ku;rcases aqH (w:=w) bv ao au hm mU aa with⟨a8,pd⟩|⟨a8,pd⟩
   ·rw[a8]at ku;refine I.aq pd (I.aq (oC ai) (I.bC cF λ_=>I.aq (oB aa) (I.bC cF λ_=>I.aq aP (I.aC (λ_=>?_) λh=>absurd rfl h))));refine I.aC br λ_=>I.aC br λ_=>I.aq rb (I.aC br λ_=>?_);simp_all[u0,I.aC,I.aq,I.bC,absurd]
   ·rw[a8]at ku;have MT:=aqG (w:=w) bv ao au hm mU a8;obtain⟨m',e,_,hC,ar,_,c1,_,gO⟩:=AR (aT:=f' t w) ai bv.wf bv.ht bv.g2 g1 au hm;have e:m=m':=ew e;subst e;have U0:=A0 (n:=n) (show(bo t O (f' t w) m (λ_=>[]) (-1) 0).1.length<=100000 by omega);refine I.aq pd (I.aq (oC ai) (I.bC cF λ_=>I.aq (oB aa) (I.bC cF λ_=>I.aq aP (I.aC (λ_=>?_) λh=>absurd rfl h))));refine I.aC br λ_=>I.aC br λ_=>I.aq rb (I.aC br λ_=>?_);simp_all[u0,I.aC,I.aq,I.bC,absurd,Ai,I.eh,I.ret]
 ·have pd:uZ (aZ n) t a w=D ([],e):=by unfold uZ;rw[UV he kw,cl];simp only[AZ];rw[if_pos cK]
  exact I.aq pd (I.aq (oC ai) (I.bC cF λ_=>I.aq (oB aa) (I.bC cF λ_=>I.aq aP (I.aC (λh=>absurd h kw) λ_=>rN e kw))))
end
def oD:List Nat->List bt->List (List bt)
 |[],_=>[]
 |k::ks,a=>a.take k::oD ks (a.drop k)
theorem aqK:∀{ks:List Nat}{a:List bt},ks.sum=a.length->(oD ks a).flatten=a:=by
 intro ks;induction ks with
 |nil=>intro a h;exact(nl h.symm).symm
 |cons k ks bB=>intro a h;rw[nR]at h;show a.take k++(oD ks (a.drop k)).flatten=a;rw[bB dt,List.take_append_drop]
theorem U1:∀{ks:List Nat}{a:List bt},(oD ks a).length=ks.length
 |[],_=>rfl
 |_::ks,a=>by show(oD ks _).length+1=ks.length+1;rw[U1]
theorem aem:∀{ks:List Nat}{a:List bt}{i k:Nat},ks[i]? =D k->(oD ks a)[i]? =D ((a.drop (ks.take i).sum).take k):=by
 intro ks;induction ks with
 |nil=>simp
 |cons x ks bB=>
  intro a i k h;cases i with
  |zero=>
   have h:x=k:=by grind
   subst h;show D (a.take x)=D ((a.drop 0).take x);rw[List.drop_zero]
  |succ i=>
   have h:ks[i]? =D k:=by grind
   show(oD ks (a.drop x))[i]? =_;rw[bB h,List.drop_drop,List.take_succ_cons,nR]
def NG(l:List bt):Prop:=∀v∈l,0<=v.fault
section
variable {n : Nat} {t : bf} {O : Nat -> ByteArray} {w : List Int}
theorem aen(v:bt)(h:0<=v.fault):∃b,vX (aZ n) v=D b/\GB v=D b/\(b=ah↔gg v):=by
 by_cases bw:v.fault=0
 ·refine⟨decide (-9999<=v.n/\v.n<=9999),?_,?_,?_⟩
  ·simp_all[I.bN,vX,I.aC,I.aq,Ui,I.ret,absurd]
  ·unfold GB;rw[if_neg dt,Bool.decide_and]
  simp_all[decide_eq_true_eq,gg]
 ·refine⟨decide (v.fault<=4)&&decide (v.n=0),?_,?_,?_⟩
  ·simp_all[I.bN,vX,I.aC,absurd,I.ret]
  ·unfold GB;rw[if_pos dt]
  ·rw[Bool.and_eq_true,decide_eq_true_eq,decide_eq_true_eq];grind[gg]
variable {l:List bt}
theorem aqL(aK:l.length<=100000)(h:NG l):I (Dj (aZ n) l) λb=>b=ah↔∀v∈l,gg v:=by
 unfold Dj abK;refine I.for l.length (λi (_:Unit)=>(i:Int)) (λi _=>∀v∈l.take i,gg v) (t0:=()) rfl (λv bg=>by simp_all) (λi _ ao bq=>?_) λ_ bq=>?_
 ·obtain⟨x,ar⟩:∃x,l[i]? =D x:=⟨_,cq ao⟩
  obtain⟨b,_,h2,aJ⟩:=aen (n:=n) x (h x (cC ar));refine I.aC (λ_=>I.aL ar (I.aq h2 (I.bC (λaB=>I.inr ⟨cF,λhl=>?_⟩) λaB=>I.inl ⟨(),by rw[cM aa],λv bg=>?_⟩))) dv
  ·grind
  ·rw[qy]at aB;rw[gd ar]at bg;grind
 simp_all[I.aC,absurd,I.inr,fz,b5]
theorem aqM(aK:l.length<=100000)(h:NG l):I (LD (aZ n) l) λb=>b=aQ↔∀v∈l,gg v:=by
 unfold LD So aaR;refine I.bind (Q:=λz=>z< 0↔∀v∈l,gg v) ?_ λz bj=>I.ret cK;refine I.for l.length (λi (_:Unit)=>(i:Int)) (λi _=>∀v∈l.take i,gg v) (t0:=()) rfl (λv bg=>by simp_all) (λi _ ao bq=>?_) λ_ bq=>?_
 ·obtain⟨x,ar⟩:∃x,l[i]? =D x:=⟨_,cq ao⟩
  obtain⟨b,h1,_,aJ⟩:=aen (n:=n) x (h x (cC ar));have Dt:LC (aZ n) x=D (!b):=by unfold LC Sn;rw[h1,cl];cases b<;>rfl
  refine I.aC (λ_=>I.aL ar (I.aq Dt (I.bC (λaB=>I.inr ⟨br,λhl=>?_⟩) λaB=>I.inl ⟨(),by rw[cM aa],λv bg=>?_⟩))) dv
  ·grind
  ·rw[qy]at aB;rw[gd ar]at bg;grind
 simp_all[I.aC,absurd,I.inr,fz,b5]
def ga(t:bf)(d:Nat):List Nat:=(dh t d).map λq=>ez t (dn t q.toNat)
variable {d:Nat}
theorem NH(bv:jE n t O)(az:d<t.nodes.length)(b9:(af t d).kind=42){a m:Nat}(a9:(dh t d)[a]? =D (m:Int)):m<d/\(af t m).kind=34/\(dn t m).ok/\(dn t m).bR.size<=5000/\ez t (dn t m)<=8/\gw t t.nodes.length (2*t.nodes.length+2) (dn t m)=D (ez t (dn t m)):=by have ai:=bv.ok;have ay:=bv.wf.cZ;obtain⟨q,bk,ge,ia,_⟩:=pe ai ay az b9 a9;have bk:m=q:=ew bk;subst bk;obtain⟨_,t2,t3⟩:=pc ai ay (show m<t.nodes.length by omega) (.inr ia);have wh:=sD ai bv.wf (show m<t.nodes.length by omega) ia;obtain⟨h1,fj⟩:=bv.g2.ty (dR t m) aa t3;obtain⟨c,_,jb,ll,lL⟩:=fj.ez aa;simp_all[ez,dn]
theorem U2{ks:List Nat}(h:∀k∈ks,k<=8)(i:Nat):(ks.take i).sum<=8*i:=by
 induction i generalizing ks with
 |zero=>simp
 |succ i bB=>
  cases ks with
  |nil=>simp
  |cons k ks=>grind[ra,List.mem_cons_of_mem]
theorem U3(bv:jE n t O)(az:d<t.nodes.length)(b9:(af t d).kind=42):∀k∈ga t d,k<=8:=by intro k au;obtain⟨q,aE,rfl⟩:=lH.1 au;obtain⟨a,a9⟩:=fO aE;obtain⟨m,rfl,_⟩:=pe bv.ok bv.wf.cZ az b9 a9;grind[eq,NH]
theorem U4(bv:jE n t O)(az:d<t.nodes.length):(dh t d).length<=800:=by have:=bv.ok.af az;grind[dh,jf,c6]
theorem aqN(bv:jE n t O) {k:Nat}(ao:t.aX[k]? =D (d:Int))(az:d<t.nodes.length)(b9:(af t d).kind=42):Di (aZ n) t (k:Int)=D ((ga t d).sum:Int):=by
 have ai:=bv.ok;have fP:=bv.qS;have UC:=U4 bv az;have HF:=U3 bv az b9;have vC:(lw t d).length=(dh t d).length:=by unfold lw;rw[h6]
 have kd:(ga t d).length=(dh t d).length:=by unfold ga;rw[h6]
 refine I.bN ?_;unfold Di;refine I.aL ao (I.aq (M8 ai bv.wf aa az b9) ?_);unfold abJ;refine I.for (lw t d).length (λi (_:Unit)=>((((ga t d).take i).sum:Int),(i:Int))) (λ_ _=>True) (t0:=()) rfl trivial (λi _ ao _=>?_) λ_ _=>?_
 ·obtain⟨p,hp⟩:∃p,(dh t d)[i]? =D p:=⟨_,cq aa⟩
  obtain⟨m,rfl,_⟩:=pe ai bv.wf.cZ az b9 hp;obtain⟨eQ,jb,ll,lL,x_,x'⟩:=NH bv az b9 hp;have aV:(lw t d)[i]? =D (dn t m).bR:=by simp_all[lw,fv]
  have hw:(ga t d)[i]? =D (ez t (dn t m)):=by simp_all[ga,fv]
  have M9:=U2 HF i;have e0:=ai.nodes;have Aj:tw (aZ n) t (dn t m).bR=D (ez t (dn t m):Int):=DM ai bv.wf aa _ n _ _ _ x' aa ll aa;refine I.aC (λ_=>I.aL aV (I.aq Aj (I.inl ⟨(),?_,trivial⟩))) λh=>absurd cK h;rw[gd hw,wC,nR,sI,cM aa,c8 aa aa];simp
 simp_all[I.aC,absurd,I.inr,fz,b5]
theorem aqO(bv:jE n t O)(az:d<t.nodes.length)(b9:(af t d).kind=42){nm:pj}{L:hc}{S:bI}{W:lU}(vf:nX t W):I (LB (aZ n) (d:Int) t.nodes t.aX 0 0 0 (c2 t) (eN t O t.nodes.length) nm L W S) λz=>z.1=((ga t d).sum:Int)/\nX t z.2:=by
 have ai:=bv.ok;have ay:=bv.wf.cZ;have fP:=bv.qS;have e0:=ai.nodes;have h3:=ai.af az;have fc:=c6 az;have no:=pY ay az b9;have UC:=U4 bv az;have HF:=U3 bv az b9;have kd:(ga t d).length=(dh t d).length:=by unfold ga;rw[h6]
 have pF:(dh t d).length=(af t d).a3.length- 2:=by simp_all[dh,jf]
 have tT:hG (af t d).a3 0 (aH (((af t d).a3.length:Int)- 2))=D (dh t d):=by rw[c8 aa aa];unfold hG;rw[if_pos ⟨aa,aa,aa⟩];grind[dh]
 unfold LB;refine I.aq (z:=(d:Int)) rfl (I.bind (Q:=λz=>z.1=((ga t d).sum:Int)/\nX t z.2) ?_ λz bj=>I.ret bj);unfold Sm;refine I.aq (cw az) (I.aq tT ?_);unfold aaQ;refine I.for (dh t d).length (λi (W:lU)=>((i:Int),(((ga t d).take i).sum:Int),W)) (λi W=>nX t W) (t0:=W) rfl vf (λi W ao bq=>?_) λW bq=>?_
 ·obtain⟨p,hp⟩:∃p,(dh t d)[i]? =D p:=⟨_,cq aa⟩
  obtain⟨m,rfl,_⟩:=pe ai ay az b9 hp;obtain⟨eQ,jb,ll,lL,x_,x'⟩:=NH bv az b9 hp;have hw:(ga t d)[i]? =D (ez t (dn t m)):=by simp_all[ga,fv]
  have M9:=U2 HF i;obtain⟨_,t2,t3⟩:=pc ai ay (show m<t.nodes.length by omega) (.inr jb);have UQ:Gc (aZ n) (dR t m:Int) t.nodes t.aX 0 0 0 (c2 t) (eN t O t.nodes.length) nm L W S=D (dn t m).bR:=adW bv.toAS n (dR t m) aa aa t3;refine I.aC (λ_=>I.aL hp (I.aq (cw (show m<t.nodes.length by omega)) (I.aq (GV ai ay (show m<t.nodes.length by omega) (.inr jb)) (I.aq UQ (I.bind (UK bv.toAS x' x_ ll aa bq) λz bj=>?_))))) dv;obtain⟨Z,sL⟩:=z;obtain⟨ef,eM⟩:=bj;have ef:Z=_:=ef;subst ef;rw[p3 ll];refine I.aq (z:=((((ga t d).take (i+1)).sum:Nat):Int)) ?_ (I.inl ⟨sL,by rw[cM aa],eM⟩);unfold Sl;rw[gd hw,wC,nR,sI,c8 aa aa];congr 1
 simp_all[I.aC,absurd,I.inr,ga,dh,fz,b5]
theorem U5(bv:jE n t O)(az:d<t.nodes.length)(b9:(af t d).kind=42)(aK:(ga t d).sum=l.length)(aP:∀v∈l,gg v):hj t O (iO (dh t d) (oD (ga t d) l)) (ey t d)/\(dh t d).length=(oD (ga t d) l).length:=by
 have kd:(ga t d).length=(dh t d).length:=by unfold ga;rw[h6]
 refine⟨hj.call bv.ok bv.wf az b9 λa m a9=>?_,by rw[U1,kd]⟩;have hw:(ga t d)[a]? =D (ez t (dn t m)):=by simp_all[ga,fv]
 refine⟨_,aem hw,?_,λv bg=>aP v (List.mem_of_mem_drop (aec bg))⟩;have h1:(ga t d).sum=((ga t d).take a).sum+(ez t (dn t m)+((ga t d).drop (a+1)).sum):=by
  conv=>lhs;rw[sx hw]
  rw[wC,nR]
 grind
end
end Go.Proofs.YtgfggdcbhjhegaaGreatDoor

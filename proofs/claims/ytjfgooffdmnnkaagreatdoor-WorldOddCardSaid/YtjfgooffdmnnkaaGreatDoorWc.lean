/- What a name means: the program. -/
import Derived.Test.YtjfgooffdmnnkaaGreatDoorWb
set_option linter.all false
set_option maxRecDepth 100000
namespace Go.Proofs.YtjfgooffdmnnkaaGreatDoor
open Go Go.Mi Go.RowKit Go.Dp
open Bool renaming true->ad,and_eq_true->dn,or_eq_true->jq,false->aS
open _root_.ByteArray renaming size_append->mu,append_assoc->B0,size_extract->HY,size->ag7,getElem_append_left->aqZ,extract_extract->aq0,extract_append_size_add'->RS,extract_append_eq_left->Ew,append_right_inj->aq1,append_left_inj->aq2,append_inj_left->aq3
open Int renaming toNat_natCast->dA
open List renaming mem_of_getElem?->cm,getElem?_of_mem->hf,getElem?_eq_some_iff->cz,range->gD,replicate->cC,mem_filter->Ex,length_pos_of_mem->ag8,getElem?_eq_none->nD,getElem?_set->u4,find?_append->nd,ext_getElem?->m3,append_assoc->xw
open Option renaming bind_some->bE,some->I,bind->au
open Sum renaming inl->Ey,inr->RT
def jO(t:aZ)(k:Int)(s:ByteArray)(q:Int)(l:List Int):Int ⊕ Int ⊕ Int:=
 match l.find? λd=>decide ((af t d.toNat).text=s)with
 |some d=>if l9 k (af t d.toNat).kind then .inl d else .inr (.inl q)
 |none=>.inr (.inr q)
def aq4:Int ⊕ Int ⊕ Int->Int ⊕ Int ⊕ Int
 |.inl d=>.inr (.inl d)
 |.inr (.inl x)=>.inr (.inr x)
 |.inr (.inr x)=>.inl x
def aq5:Int ⊕ Int ⊕ Int->(Int×Int) ⊕ (Int×Int) ⊕ (Int×Int)->Prop
 |.inl d,r=>∃x,r=.inl (d,x)
 |.inr (.inl y),r=>∃x,r=.inr (.inl (y,x))
 |.inr (.inr y),r=>∃x,r=.inr (.inr (y,x))
section
variable {n : Nat} {t : aZ} {k : Int} {s : ByteArray} {q : Int} {c dd : List Int}
variable {l:List Int}
theorem HZ(h:l.find? (λd=>decide ((af t d.toNat).text=s))=none):jO t k s q l=.inr (.inr q):=by unfold jO;rw[h]
variable {a b:List Int}
theorem RU(h:a.find? (λd=>decide ((af t d.toNat).text=s))=none):jO t k s q (a++b)=jO t k s q b:=by grind[jO]
theorem XZ{d:Int}(h:a.find? (λd=>decide ((af t d.toNat).text=s))=I d):jO t k s q (a++b)=jO t k s q a:=by simp_all[jO,nd]
theorem ag9{a:Int}(aC:l.length< 1000000):D4 (aM n) l a=I (decide (a∈l)):=by
 have:D (D4 (aM n) l a) λr=>r=ad↔a∈l:=by
  unfold D4 Wp aff;refine D.bind (Q:=λr=>0<=r↔a∈l) ?_ λz aP=>D.ret dq;refine D.for l.length (λk (_:Unit)=>(k:Int)) (λk _=>∀j x,j<k->l[j]? =I x->x≠a) (t0:=()) rfl (λj x h=>by omega) (λk _ ap a7=>?_) λ_ a7=>?_
  ·refine D.ar (λ_=>D.hA ap λx ak=>D.ar (λe=>D.inr ⟨λ_=>e▸cm ak,λ_=>by omega⟩) λe=>D.inl ⟨(),by rw[bw U],λj y ag a9=>?_⟩) d_;grind
  ·refine D.ar bt λ_=>D.inr ⟨λh=>by omega,λh=>?_⟩;grind[hf,absurd,cz]
 obtain⟨r,e,h⟩:=this;grind
def aq6(a b:Int):PW (aM n) a b=I (l9 a b):=by unfold PW l9;rw[ag9 ci];grind
variable {m:Nat}
theorem H0:jO t k s q [(m:Int)]=if(af t m).text=s then(if l9 k (af t m).kind then .inl (m:Int)else .inr (.inl q))else .inr (.inr q):=by
 by_cases h:(af t m).text=s
 ·have e:([(m:Int)]:List Int).find? (λd=>decide ((af t d.toNat).text=s))=I (m:Int):=by simp[h]
  simp_all[if_pos,jO]
 simp_all[if_neg,HZ]
theorem aha(an:Int)(a':List Int)(dr:Int)(hm:m<t.nodes.length):KI (aM n) (m:Int) q k s an a' dr t.nodes t.aD t.nodes.length t.nodes.length c dd=I (jO t k s q [(m:Int)]):=by refine D.br ?_;unfold KI;rw[H0];refine D.ae (b8 hm) (D.ar (λh=>D.ae (aq6 _ _) ?_) λh=>D.ret (by rw[if_neg h]));simp_all[if_pos,D.bK,D.ret,if_neg]
def X0(an:Int)(a':List Int)(dr:Int)(hm:m<t.nodes.length):G9 (aM n) (m:Int) q k s an a' dr t.nodes t.aD t.nodes.length t.nodes.length c dd=I (jO t k s q [(m:Int)]):=by unfold G9;rw[aha an a' dr hm,bE];rcases jO t k s q [(m:Int)]with _|_|_<;>rfl
variable {j:Nat}
theorem aq7(aj:cH t)(aI:dD t)(an:Int)(a':List Int)(dr:Int) {p:Nat}(hp:p<t.nodes.length)(hm:(j:Int)∈bn t p):PY (aM n) (p:Int) (j:Int) t.nodes t.aD t.nodes.length t.nodes.length c dd q k s an a' dr=I (aq4 (jO t k s q (hl t p j))):=by
 have j7:=aj.af hp;have kJ:0<(af t p).a8.length:=by grind[dJ,ag8]
 obtain⟨y,Ev,n0⟩:=XV kJ U;have b5:(bn t p).getLast? =I y:=by rw[dJ hp];exact Ev
 refine D.br ?_;unfold PY;refine D.ae (b8 hp) (D.ar bt λ_=>D.ae n0 (D.dB (λa9=>?_) λa9=>D.ar (λnz=>?_) λnz=>D.ar (λc7=>?_) λc7=>?_))
 ·refine D.ret ?_;unfold hl;rw[b5,if_neg (λh=>a9 (Option.some.inj h)),HZ rfl];rfl
 ·have bG:hl t p j=[(p:Int)]:=by unfold hl;rw[b5,a9,if_pos rfl,if_pos nz]
  rw[bG];refine D.ae (X0 an a' dr hp) ?_;rcases jO t k s q [(p:Int)]with _|_|_<;>exact D.ret rfl
 ·have jj:=to aI hp c7;have bG:hl t p j=(af t p).a8.take ((af t p).a8.length- 2)++[(p:Int)]:=by unfold hl;rw[b5,a9,if_pos rfl,if_neg nz,if_pos c7,dJ hp]
  rw[bG];have bc:az (((af t p).a8.length:Int)- 2)=(((af t p).a8.length- 2:Nat):Int):=by grind[b3]
  rw[bc];refine D.ae (uz (i:=0) (Nat.zero_le _) U) ?_;have cR:((af t p).a8.drop 0).take ((af t p).a8.length- 2- 0)=(af t p).a8.take ((af t p).a8.length- 2):=rfl;rw[cR];generalize aP:(af t p).a8.take ((af t p).a8.length- 2)=f';have abf:f'.length<=800:=by grind
  have aq8:∀d∈f',∃m:Nat,d=m/\m<t.nodes.length:=λd aG=>by have:=aI.a8 p _ (k9 hp) d (List.mem_of_mem_take (by rw[aP];exact aG));exact⟨d.toNat,U,U⟩
  unfold afg;refine D.for f'.length (λi (_:Unit)=>((i:Int),q)) (λi _=>(f'.take i).find? (λd=>decide ((af t d.toNat).text=s))=none) (t0:=()) rfl rfl (λi _ hi a7=>?_) λ_ a7=>?_
  ·refine D.ar (λ_=>D.hA hi λx ak=>?_) d_;obtain⟨m,rfl,hO⟩:=aq8 x (cm ak);refine D.ae (X0 an a' dr hO) ?_;have ahb:jO t k s q (f'++[(p:Int)])=jO t k s q ([(m:Int)]++(f'.drop (i+1)++[(p:Int)])):=by
    grind[yD,xw,RU]
   by_cases aQ:(af t m).text=s
   ·have gf:([(m:Int)]:List Int).find? (λd=>decide ((af t d.toNat).text=s))=I (m:Int):=by simp[aQ]
    rw[XZ gf]at ahb;rw[ahb,H0,if_pos aQ];cases l9 k (af t m).kind<;>exact D.inr rfl
   ·rw[H0,if_neg aQ];refine D.inl ⟨(),by rw[bw U],?_⟩;simp_all[da,nd]
  ·refine D.ar bt λ_=>D.bu ?_;rw[List.take_of_length_le (Nat.le_refl _)]at a7;rw[RU a7];refine D.ae (X0 an a' dr hp) ?_;rcases jO t k s q [(p:Int)]with _|_|_<;>exact D.ret rfl
 ·refine D.ret ?_;unfold hl;rw[if_neg nz,if_neg c7];simp;rfl
theorem H3(ax:tl t c)(ag:j<t.nodes.length):gz t.nodes.length c (j:Int)=I ⟨(j,iT t j),ax.2 j ag⟩:=hN (ax.2 j ag) ag
def aq9(aj:cH t)(aI:dD t)(ax:tl t c)(an:Int)(a':List Int)(dr:Int)(ag:j<t.nodes.length):D (PZ (aM n) (j:Int) t.nodes t.aD t.nodes.length t.nodes.length c dd q k s an a' dr) λr=>aq5 (jO t k s q (d' t j).1) r:=by
 unfold PZ;refine D.ae (H3 ax ag) ?_;unfold afh;refine D.b1 (λs':Int×Int×Int=>∃(i:Nat)(pre:List Int),s'=(iT t i,(i:Int),q)/\i<t.nodes.length/\(d' t j).1=pre++(d' t i).1/\pre.find? (λd=>decide ((af t d.toNat).text=s))=none) (λs'=>t.nodes.length-s'.2.1.toNat) ?_ ⟨j,[],rfl,ag,rfl,rfl⟩;rintro _ ⟨i,pre,rfl,hi,aC,a6⟩;dsimp only;cases e:iw t i with
 |none=>
  have p0:iT t i=-1:=by unfold iT;rw[e];rfl
  rw[p0,if_neg ci];refine D.inr ?_;rw[sn hi e,List.append_nil]at aC;rw[aC,HZ a6];exact⟨_,rfl⟩
 |some p=>
  obtain⟨hp,hm,ara⟩:=qA aI e;have p0:iT t i=p:=by unfold iT;rw[e];rfl
  rw[p0,if_pos cW];unfold Wq Wo;rw[bE];rw[l_ aI hi e]at aC;dsimp only at aC⊢;rw[aq7 aj aI an a' dr hp hm,bE];cases uB:(hl t p i).find? (λd=>decide ((af t d.toNat).text=s))with
  |none=>rw[HZ uB];refine D.ae (z:=Ey q) rfl ?_;grind[gz,bind,D.ae,H3,D.inl,hl,xw]
  |some d=>
   have cR:jO t k s q (d' t j).1=jO t k s q (hl t p i):=by rw[aC,RU a6,XZ uB]
   rw[cR];have:∀x,jO t k s q (hl t p i)≠ .inr (.inr x):=λx h=>by unfold jO at h;rw[uB]at h;dsimp only at h;split at h<;>cases h
   generalize jO t k s q (hl t p i)=w at*;rcases w with a|a|a
   ·refine D.ae (z:=RT (Ey a)) rfl ?_;exact D.inr ⟨_,rfl⟩
   ·refine D.ae (z:=RT (RT a)) rfl ?_;exact D.inr ⟨_,rfl⟩
   simp_all
theorem arb(aI:dD t)(ax:tl t c)(ag:j<t.nodes.length):PR (j:Int) t.nodes t.aD t.nodes.length t.nodes.length c dd=I (decide ((af t j).kind=34)&&(match iw t j with|some p=>decide ((af t p).kind=42)|none=>aS)):=by
 refine D.br ?_;unfold PR;refine D.ae (H3 ax ag) (D.ae (b8 ag) (D.bK (λh=>?_) λh=>D.ret ?_))
 ·have h:(decide ((af t j).kind=34)&& !decide (iT t j=-1))=ad:=h;rw[dn,decide_eq_true_eq]at h;cases e:iw t j with
  |none=>have:=h.2;unfold iT at this;rw[e]at this;cases this
  |some p=>
   obtain⟨hp,_,_⟩:=qA aI e;have p0:aH t.nodes (iT t j)=I (af t p):=by unfold iT;rw[e];exact b8 hp
   simp_all[D.ae,D.ret]
 ·have h:(decide ((af t j).kind=34)&& !decide (iT t j=-1))=aS:=h;by_cases j8:(af t j).kind=34
  ·rw[decide_eq_true j8,Bool.true_and,Bool.not_eq_false',decide_eq_true_eq]at h;cases e:iw t j with
   |none=>simp
   |some p=>unfold iT at h;rw[e]at h;have:(p:Int)=-1:=h;omega
  grind
theorem X1(aI:dD t)(ax:tl t c)(ag:j<t.nodes.length):BE (j:Int) t.nodes t.aD t.nodes.length t.nodes.length c dd=I (h_ t j):=by unfold BE;rw[b8 ag,bE,arb aI ax ag];unfold h_;show(if HW (af t j).kind=ad then I ad else _)=_;cases HW (af t j).kind<;>rfl
def arc(aI:dD t)(ax:tl t c)(ag:j<t.nodes.length):BE (j:Int) t.nodes t.aD t.nodes.length t.nodes.length c dd=I (h_ t j):=X1 (dd:=dd) aI ax ag
theorem ard(aj:cH t)(aI:dD t)(ax:tl t c)(an:Int)(a':List Int)(dr:Int)(ag:j<t.nodes.length)
  (Ln:∀a b:Nat,a<j->b<j->(a:Int)∈t.aD->(b:Int)∈t.aD->h_ t a=ad->h_ t b=ad->(af t a).text=(af t b).text->a=b):
  P0 (aM n) t.aD (j:Int) t.nodes t.aD t.nodes.length t.nodes.length c dd q k s an a' dr=I (jO t k s q (t.aD.filter λi=>decide (i<(j:Int))&&h_ t i.toNat)):=by
 have ey:=aj.aD;refine D.br ?_;unfold P0 afi;have dg:az ((t.aD.length:Int)- 1)=(t.aD.length:Int)- 1:=b3 U U;rw[dg];refine D.b1 (λs':Int×Int=>∃i:Nat,s'=((i:Int)- 1,q)/\i<=t.aD.length/\∀x∈t.aD.drop i,x<(j:Int)->h_ t x.toNat=ad->(af t x.toNat).text≠s) (λs'=>(s'.1+1).toNat) ?_ ⟨t.aD.length,rfl,Nat.le_refl _,λx ak=>by simp at ak⟩;rintro _ ⟨i,rfl,hi,a7⟩;dsimp only;cases i with
 |zero=>simp_all[if_neg,D.inr,HZ,List.find?_eq_none,Ex,dn,decide_eq_true_eq]
 |succ i=>
  have a2:((i+1:Nat):Int)- 1=(i:Int):=by omega
  rw[a2,if_pos cW];refine D.hA U λx ak=>?_;have o5:=cm ak;obtain⟨m,rfl,_,hO⟩:=aI.ht.fw x o5;have g2:((m:Int)<(j:Int)->h_ t m=ad->(af t m).text≠s)->D (I (Ey (az ((i:Int)- 1),q):(Int×Int) ⊕ (Int ⊕ Int ⊕ Int))) (jv (λs':Int×Int=>(∃i:Nat,s'=((i:Int)- 1,q)/\i<=t.aD.length/\∀x∈t.aD.drop i,x<(j:Int)->h_ t x.toNat=ad->(af t x.toNat).text≠s)/\(s'.1+1).toNat<((i:Int)+1).toNat) (· =jO t k s q (t.aD.filter λi=>decide (i<(j:Int))&&h_ t i.toNat))):=by intro w4;rw[vj U];refine D.inl ⟨⟨i,rfl,U,λy a9=>?_⟩,U⟩;rw[HP ak]at a9;grind
  unfold Wt;by_cases b':(m:Int)<(j:Int)
  ·rw[if_pos dq,X1 aI ax hO,bE];cases aG:h_ t m with
   |false=>simp_all
   |true=>
    rw[if_pos rfl,aha an a' dr hO,bE];by_cases aQ:(af t m).text=s
    ·have vS:(t.aD.filter λi=>decide (i<(j:Int))&&h_ t i.toNat).find? (λd=>decide ((af t d.toNat).text=s))=I (m:Int):=by
      have aIn:(m:Int)∈t.aD.filter λi=>decide (i<(j:Int))&&h_ t i.toNat:=Ex.2 ⟨o5,dq⟩;cases uB:(t.aD.filter λi=>decide (i<(j:Int))&&h_ t i.toNat).find? (λd=>decide ((af t d.toNat).text=s))with
      |none=>grind
      |some d=>
       have h1:=Ex.1 (List.mem_of_find?_eq_some uB);obtain⟨db,rfl,_,_⟩:=aI.ht.fw d h1.1;have h2:=List.find?_some uB;have ay:=h1.2;rw[dn,decide_eq_true_eq,dA]at ay;have h2:(af t db).text=s:=by simp_all
       rw[Ln db m U U h1.1 o5 ay.2 aG (by rw[h2,aQ])]
     have cR:jO t k s q (t.aD.filter λi=>decide (i<(j:Int))&&h_ t i.toNat)=jO t k s q [(m:Int)]:=by simp_all[H0,if_pos,jO]
     rw[cR,H0,if_pos aQ];cases l9 k (af t m).kind<;>exact D.inr rfl
    simp_all[H0,if_neg]
  grind
def are(aj:cH t)(aI:dD t)(ax:tl t c)(ag:j<t.nodes.length)(ap:vR (af t j).kind=ad)
  (Ln:∀a b:Nat,a<j->b<j->(a:Int)∈t.aD->(b:Int)∈t.aD->h_ t a=ad->h_ t b=ad->(af t a).text=(af t b).text->a=b):
  P1 (aM n) (j:Int) t.nodes t.aD t.nodes.length t.nodes.length c dd=I (fE t j):=by
 refine D.br ?_;unfold P1 Wn Wu KH;refine D.ae (b8 ag) ?_;rw[bE,bE];have aQ:w6 t j=(d' t j).1++t.aD.filter λi=>decide (i<(j:Int))&&h_ t i.toNat:=by unfold w6;congr 1;apply List.filter_congr;intro i hi;have:=XT aI ag hi;rw[decide_eq_decide.2 this]
 have arf:fE t j=match jO t (af t j).kind (af t j).text 0 (w6 t j)with| .inl d=>d|_=> -1:=by unfold fE uD jO;grind
 rw[arf,aQ];obtain⟨r,e,aO⟩:=aq9 (n:=n) (dd:=dd) (k:=(af t j).kind) (s:=(af t j).text) (q:=0) aj aI ax (af t j).n (af t j).a8 (af t j).at_ ag;rw[e,bE];cases uB:(d' t j).1.find? (λd=>decide ((af t d.toNat).text=(af t j).text))with
 |none=>rw[HZ uB]at aO;obtain⟨x,rfl⟩:=aO;unfold Ws;simp only[Sum.elim_inr,bE];rw[RU uB,ard aj aI ax _ _ _ ag Ln,bE];rcases jO t (af t j).kind (af t j).text 0 (t.aD.filter λi=>decide (i<(j:Int))&&h_ t i.toNat)with a|a|a<;>exact D.ret rfl
 |some d=>
  rw[XZ uB];have:∀x,jO t (af t j).kind (af t j).text 0 (d' t j).1≠ .inr (.inr x):=λx h=>by unfold jO at h;rw[uB]at h;dsimp only at h;split at h<;>cases h
  generalize jO t (af t j).kind (af t j).text 0 (d' t j).1=w at*;rcases w with a|a|a
  ·obtain⟨x,rfl⟩:=aO;exact D.ret rfl
  ·obtain⟨x,rfl⟩:=aO;exact D.ret rfl
  simp_all
end
def eV(k:Int):Bool:=decide (1<=k)&&decide (k<=26)&& !decide (k=25)
def mW(k:Int):Bool:=decide (30<=k)&&decide (k<=33)
def o6(x:bm)(a:Nat)(k:Int):Bool:=
 if x.kind=24 then decide (k=25)else if x.kind=41 then decide (k=34)else if x.kind=34\/x.kind=33 then mW k else if x.kind=40 then decide (k=1)else
 if x.kind=42 then(if(a:Int)=(x.a8.length:Int)- 1 then eV k else if(a:Int)=(x.a8.length:Int)- 2 then mW k else decide (k=34))else eV k
theorem arh{x:bm}(h:x.a8.length<=800)(a:Nat)(k:Int):ta x a k=I (o6 x a k):=by have iK:az ((x.a8.length:Int)- 1)=(x.a8.length:Int)- 1:=b3 U U;have ke:az ((x.a8.length:Int)- 2)=(x.a8.length:Int)- 2:=b3 U U;have a2:zt k=I (eV k):=rfl;have bc:zu k=I (mW k):=rfl;unfold ta o6;grind
theorem eT.r8{bn:Nat->List Int}{ks:List Int}{a b:Nat}(h:eT bn ks a b):ks.Pairwise (· < ·):=by
 induction h with
 |nil=>simp
 |cons h1 h2 i1 i2=>refine .cons (λy a9=>?_) i2;obtain⟨j,rfl,ay,_⟩:=h2.fw y a9;omega
theorem B1{l:List Int}(h:l.Pairwise (· < ·)){i j:Nat}{x y:Int}(ak:l[i]? =I x)(a9:l[j]? =I y):x<y↔i<j:=by grind[cz,List.pairwise_iff_getElem,Nat.lt_trichotomy]
inductive p2 (t:aZ):Nat->Nat->Prop
 |refl (j:Nat):p2 t j j
 |ub {j p d:Nat} (h:iw t j=I p) (k:p2 t p d):p2 t j d
theorem p2.X2{t:aZ}{j d:Nat}(h:j≠d):p2 t j d↔∃p,iw t j=I p/\p2 t p d:=by
 constructor
 ·intro k;cases k with
  |refl=>omega
  |ub h1 h2=>simp_all
 ·rintro⟨p,h1,h2⟩;exact .ub h1 h2
def B2(t:aZ)(j:Nat):Prop:=(j:Int)∈t.aD/\h_ t j=ad/\∃i:Nat,(i:Int)∈t.aD/\i<j/\h_ t i=ad/\(af t i).text=(af t j).text
def yG(t:aZ)(j:Nat):Prop:=(af t j).kind=34/\∃p i:Nat,iw t j=I p/\(i:Int)∈bn t p/\i<j/\(af t i).kind=34/\(af t i).text=(af t j).text
def w8(t:aZ)(j:Nat):Prop:=B2 t j\/yG t j
def yH(t:aZ)(j:Nat):Prop:=(af t j).kind=21/\(af t (fE t j).toNat).n=0/\p2 t j (fE t j).toNat
def B3(t:aZ)(j:Nat):Prop:=(af t j).kind=45/\∃i:Nat,i<j/\(af t i).kind=45/\fE t i=fE t j
open Classical in
noncomputable def oy(t:aZ)(j:Nat):Int:=if vR (af t j).kind=aS then 0 else if fE t j< 0 then 10 else if yH t j then 9 else if B3 t j then 9 else 0
open Classical in
noncomputable def gS(t:aZ)(j:Nat):Int:=if w8 t j then 6 else oy t j
section
variable {n : Nat} {t : aZ} {c dd : List Int}
theorem jz(aI:dD t){j:Nat}{i:Int}(ag:j<t.nodes.length)(h:i∈bn t j):∃m:Nat,i=m/\m<j:=by have:=aI.a8 j _ (k9 ag) i (by rw[<-dJ ag];exact h);exact⟨i.toNat,U,U⟩
def ru(aj:cH t)(aI:dD t){p j a:Nat}(hp:p<t.nodes.length)(h:(af t p).a8[a]? =I (j:Int)):o6 (af t p) a (af t j).kind=ad:=by have ap:=(aI.qy p _ (k9 hp)).2.1;have ag:=aI.a8 p _ (k9 hp) j (cm h);have h1:=ap a j (af t j) h (by grind[dA,k9]);have h2:=RM (af t p) a (af t j).kind;rw[h1,arh (aj.af hp)]at h2;simp_all
theorem zO(aI:dD t){p:Nat}(hp:p<t.nodes.length):(af t p).a8.Pairwise (· < ·):=by obtain⟨a,h⟩:=Lm aI hp;rw[<-dJ hp];exact h.r8
def ari(aj:cH t)(aI:dD t){p i j:Nat}(hp:p<t.nodes.length)(ag:(j:Int)∈bn t p)(hi:(i:Int)∈bn t p)(vc:i<j)(ap:(af t j).kind=34):(af t i).kind=34:=by
 rw[dJ hp]at hi ag;obtain⟨a,a4⟩:=hf ag;obtain⟨b,aF⟩:=hf hi;have aIo:b<a:=(B1 (zO aI hp) aF a4).1 U;have hd:=(cz.1 a4).1;have h1:=ru aj aI hp a4;have h2:=ru aj aI hp aF;rw[ap]at h1;unfold o6 at h1 h2;by_cases a2:(af t p).kind=24
 ·simp_all
 rw[if_neg a2]at h1 h2;by_cases bc:(af t p).kind=41
 ·simp_all
 rw[if_neg bc]at h1 h2;by_cases cR:(af t p).kind=34\/(af t p).kind=33
 ·rw[if_pos cR]at h1;cases h1
 rw[if_neg cR]at h1 h2;by_cases go:(af t p).kind=40
 ·simp_all
 rw[if_neg go]at h1 h2;by_cases gN:(af t p).kind=42
 ·rw[if_pos gN]at h1 h2;by_cases ea:(a:Int)=((af t p).a8.length:Int)- 1
  ·rw[if_pos ea]at h1;cases h1
  grind
 ·rw[if_neg gN]at h1;cases h1
def arj(aj:cH t)(aI:dD t){p j:Nat}(hp:p<t.nodes.length)(ag:(j:Int)∈bn t p)(ap:1<=(af t j).kind/\(af t j).kind<=26):((1<=(af t p).kind/\(af t p).kind<=26)\/kT (af t p).kind=ad)/\((af t p).kind=42->(bn t p).getLast? =I (j:Int)):=by
 rw[dJ hp]at ag⊢;obtain⟨a,a4⟩:=hf ag;have hd:=(cz.1 a4).1;have h1:=ru aj aI hp a4;have tk:=((aI.qy p _ (k9 hp)).1).kind;unfold tj at tk;unfold kT;simp only[jq,dn,decide_eq_true_eq]at tk⊢;have a6:¬(30<=(af t p).kind/\(af t p).kind<=34):=λh=>by
  by_cases cR:(af t p).kind=34\/(af t p).kind=33
  ·unfold o6 at h1;rw[if_neg U,if_neg U,if_pos cR]at h1;unfold mW at h1;grind
  grind[uE,k7,af]
 refine⟨U,λc7=>?_⟩;unfold o6 at h1;rw[if_neg U,if_neg U,if_neg U,if_neg U,if_pos c7]at h1;by_cases ea:(a:Int)=((af t p).a8.length:Int)- 1
 ·grind
 rw[if_neg ea]at h1;by_cases fN:(a:Int)=((af t p).a8.length:Int)- 2
 ·rw[if_pos fN]at h1;unfold mW at h1;grind
 simp_all
end
section
variable {n : Nat} {t : aZ} {c dd : List Int}
variable {j:Nat}
def X3(aI:dD t)(ag:j<t.nodes.length):fE t j=-1\/∃m:Nat,fE t j=m/\m<t.nodes.length/\vR (af t j).kind=ad/\l9 (af t j).kind (af t m).kind=ad:=by
 unfold fE;cases ap:vR (af t j).kind with
 |false=>simp
 |true=>rw[if_pos rfl];grind[uD,af,XX,dA,l9]
def ark(aj:cH t)(aI:dD t)(ag:j<t.nodes.length)(d:Nat):D (Pb (aM n) t (j:Int) (d:Int)) λr=>r=ad↔p2 t j d:=by
 unfold Pb ael;refine D.b1 (λs:Int=>∃o:Option Nat,s=Lk o/\(∀k,o=I k->k<t.nodes.length)/\(p2 t j d↔∃k,o=I k/\p2 t k d)) (λs=>if s< 0 then 0 else(t.nodes.length-s).toNat) ?_ ⟨I j,rfl,λk h=>by simp_all,⟨λh=>⟨j,rfl,h⟩,λ⟨k,e,h⟩=>by simp_all⟩⟩;rintro _ ⟨o,rfl,aU,bH⟩;cases o with
 |none=>rw[if_neg ci];simp_all[D.inr]
 |some k=>
  have ap:=aU k rfl;show D (if decide (0<=(k:Int))=ad then if decide ((k:Int)=(d:Int))=ad then _ else _ else _) _;rw[if_pos cW];refine D.ar (λe=>D.inr ⟨λ_=>?_,λ_=>rfl⟩) λe=>D.ae (Ll aj aI ap) (D.inl ⟨⟨iw t k,rfl,λq aB=>(qA aI aB).1,?_⟩,?_⟩)
  ·have:k=d:=Int.ofNat.inj e;subst this;exact bH.2 ⟨k,rfl,.refl k⟩
  ·grind[p2.X2]
  ·show(if iT t k< 0 then 0 else(t.nodes.length-iT t k).toNat)<if(k:Int)< 0 then 0 else(t.nodes.length-(k:Int)).toNat
   rw[if_neg (show ¬(k:Int)< 0 by omega)];unfold iT;cases bc:iw t k with
   |none=>show(if(-1:Int)< 0 then 0 else _)<_;grind
   |some q=>have:=qA aI bc;show(if(q:Int)< 0 then 0 else(t.nodes.length-(q:Int)).toNat)<_;grind
variable {i:Nat}
def arl(aI:dD t)(h:(i:Int)∈t.aD):∃a:Nat,t.aD[a]? =I (i:Int):=hf h
theorem B4(aI:dD t)(hi:i<t.nodes.length)(h:kT (af t i).kind=ad):(i:Int)∈t.aD:=
 (aI.kk i hi).1 ((bP.at (k9 hi)).2 h)
open Classical in
def arm(aj:cH t)(aI:dD t)(ag:j<t.nodes.length):GQ t (j:Int) (aM n) (af t j).kind=I (oy t j):=by
 have ey:=aj.aD;refine D.br ?_;unfold GQ;refine D.ae (ag2 ag) ?_;unfold oy;cases ap:vR (af t j).kind with
 |false=>exact D.ret (by rw[if_pos rfl])
 |true=>
  rw[if_neg (show ¬(ad=aS) by decide)];refine D.bK dF λ_=>D.ae (XY aj aI ag) (D.ar (λh=>D.ret (by rw[if_pos h])) λh=>?_);rw[if_neg h];obtain⟨m,hm,hO,_,aQ⟩:=(X3 aI ag).resolve_left U;rw[hm];have X4:(af t j).kind≠45->¬B3 t j:=λh r=>h r.1;refine D.ar (λn1=>?_) λn1=>?_
  ·refine D.ae (b8 hO) (D.ar (λbh=>?_) λbh=>?_)
   ·refine D.bind (ark aj aI ag m) λz aP=>D.bK (λX5=>D.ret ?_) λahc=>D.ar bt λ_=>D.ret ?_
    ·rw[if_pos (show yH t j from⟨n1,dq,dq⟩)]
    simp_all[if_neg,yH]
   simp_all[D.ar,absurd,D.ret,if_neg,yH]
  ·have eR:¬yH t j:=λo=>n1 o.1;rw[if_neg eR];refine D.ar (λqC=>?_) λqC=>D.ret (by rw[if_neg (X4 qC)]);unfold aem;have dL:∀i:Nat,(∀(a:Nat) x,a<i->t.aD[a]? =I x->¬(x<(j:Int)/\(af t x.toNat).kind=45/\fE t x.toNat=m))->(∀(a:Nat) x,i<=a->t.aD[a]? =I x->(j:Int)<=x)->¬B3 t j:=by
    rintro i h1 h2 ⟨_,b,aF,ku,q1⟩;obtain⟨a,a4⟩:=arl aI (B4 aI (i:=b) U (by rw[ku];rfl));by_cases RV:a<i
    ·grind
    grind
   refine D.for t.aD.length (λi (_:Unit)=>(i:Int)) (λi _=>∀(a:Nat) x,a<i->t.aD[a]? =I x->¬(x<(j:Int)/\(af t x.toNat).kind=45/\fE t x.toNat=m)) (t0:=()) rfl (λa x h=>by omega) (λi _ hi a7=>?_) λ_ a7=>?_
   ·refine D.ar (λ_=>D.hA hi λq aB=>?_) d_;obtain⟨gn,rfl,_,qB⟩:=aI.ht.fw q (cm aB);have next:¬((gn:Int)<(j:Int)/\(af t gn).kind=45/\fE t gn=m)->D (I (Ey (az ((i:Int)+1)):Int ⊕ Int)) (jv (λs'=>∃hs:Unit,s'=((i+1:Nat):Int)/\∀(a:Nat) x,a<i+1->t.aD[a]? =I x->¬(x<(j:Int)/\(af t x.toNat).kind=45/\fE t x.toNat=m)) (· =if B3 t j then 9 else 0)):=by
     grind[D.inl,bw]
    refine D.ar (λb'=>D.aH aB (D.ae (b8 qB) (D.ar (λX6=>D.aH aB (D.ae (XY aj aI qB) (D.ar (λhe=>D.inr ?_) λhe=>next λh=>he h.2.2))) λX6=>next λh=>X6 h.2.1))) λb'=>D.inr ?_
    ·rw[if_pos (show B3 t j from⟨qC,gn,U,X6,by rw[he,hm]⟩)]
    ·rw[if_neg (dL i a7 λa x a4 ak=>?_)];by_cases e:a=i
     ·grind
     ·have:=(B1 aI.ht.r8 aB ak).2 U;omega
   ·refine D.ar bt λ_=>D.inr ?_;rw[if_neg (dL _ a7 λa x a4 ak=>?_)];grind
def arn(aI:dD t)(ag:j<t.nodes.length)(h:(af t j).kind=34):∃p,iw t j=I p:=ag3 aI ag (by rw[h];rfl)
open Classical in
def aro(aj:cH t)(aI:dD t)(ag:j<t.nodes.length):DR (aM n) t (j:Int) (af t j) (af t j).kind=I (if yG t j then 6 else oy t j):=by
 have h2:=arm (n:=n) aj aI ag;refine D.br ?_;unfold DR;refine D.ar (λj8=>?_) λj8=>D.aX h2 (by rw[if_neg (λh:yG t j=>j8 h.1)]);obtain⟨p,HV⟩:=arn aI ag j8;obtain⟨hp,hm,Eu⟩:=qA aI HV;have p0:iT t j=p:=by unfold iT;rw[HV];rfl
 have j7:=aj.af hp;have X7:=zO aI hp;refine D.ae (Ll aj aI ag) ?_;rw[p0];refine D.ae (b8 hp) ?_;unfold aen;have dL:∀i:Nat,(∀(a:Nat) x,a<i->(af t p).a8[a]? =I x->¬(x<(j:Int)/\(af t x.toNat).kind=34/\(af t x.toNat).text=(af t j).text))->(∀(a:Nat) x,i<=a->(af t p).a8[a]? =I x->(j:Int)<=x)->¬yG t j:=by
  rintro i h1 h2 ⟨_,vg,b,X8,aF,arp,ku,q1⟩;rw[HV]at X8;cases X8;rw[dJ hp]at aF;obtain⟨a,a4⟩:=hf aF;by_cases RV:a<i
  ·grind
  grind
 refine D.for (af t p).a8.length (λi (_:Unit)=>(i:Int)) (λi _=>∀(a:Nat) x,a<i->(af t p).a8[a]? =I x->¬(x<(j:Int)/\(af t x.toNat).kind=34/\(af t x.toNat).text=(af t j).text)) (t0:=()) rfl (λa x h=>by omega) (λi _ hi a7=>?_) λ_ a7=>?_
 ·refine D.ar (λ_=>D.hA hi λq aB=>?_) d_;have ahd:q∈bn t p:=by grind[dJ,cm]
  obtain⟨gn,rfl,qB⟩:=jz aI hp ahd;have qB:gn<t.nodes.length:=by omega
  have next:¬((gn:Int)<(j:Int)/\(af t gn).kind=34/\(af t gn).text=(af t j).text)->D (I (Ey (az ((i:Int)+1)):Int ⊕ Int)) (jv (λs'=>∃hs:Unit,s'=((i+1:Nat):Int)/\∀(a:Nat) x,a<i+1->(af t p).a8[a]? =I x->¬(x<(j:Int)/\(af t x.toNat).kind=34/\(af t x.toNat).text=(af t j).text)) (· =if yG t j then 6 else oy t j)):=by grind[D.inl,bw]
  refine D.ar (λb'=>D.aH aB (D.ae (b8 qB) (D.ar (λap=>D.aH aB (D.ae (b8 qB) (D.ar (λhe=>D.inr ?_) λhe=>next λh=>he h.2.2))) λap=>next λh=>ap h.2.1))) λb'=>D.bu (D.aX h2 ?_)
  ·rw[if_pos (show yG t j from⟨j8,p,gn,HV,ahd,U,ap,he⟩)]
  ·rw[if_neg (dL i a7 λa x a4 ak=>?_)];by_cases e:a=i
   ·grind
   ·have:=(B1 X7 aB ak).2 U;omega
 ·refine D.ar bt λ_=>D.bu (D.aX h2 ?_);rw[if_neg (dL _ a7 λa x a4 ak=>?_)];grind
open Classical in
def arq(aj:cH t)(aI:dD t)(ag:j<t.nodes.length):Pc (aM n) t (j:Int)=I (gS t j):=by
 have h1:=aro (n:=n) aj aI ag;have ey:=aj.aD;refine D.br ?_;unfold Pc VU;refine D.ae (b8 ag) ?_;rw[agZ U,bE,bE];have X9:gS t j=if B2 t j then 6 else if yG t j then 6 else oy t j:=by unfold gS w8;by_cases a:B2 t j<;>by_cases b:yG t j<;>simp[a,b]
 rw[X9];refine D.ar (λhi=>?_) λhi=>D.aX h1 (by rw[if_neg (λh:B2 t j=>hi h.1)]);refine D.ae (XU aj aI ag) (D.bK (λaG=>?_) λaG=>D.aX h1 (by rw[if_neg (λh:B2 t j=>by have:=h.2.1;simp_all)]));unfold aeo;have dL:∀i:Nat,(∀(a:Nat) x,a<i->t.aD[a]? =I x->¬(x<(j:Int)/\h_ t x.toNat=ad/\(af t x.toNat).text=(af t j).text))->(∀(a:Nat) x,i<=a->t.aD[a]? =I x->(j:Int)<=x)->¬B2 t j:=by
  rintro i h1 h2 ⟨_,_,b,aF,arp,ku,q1⟩;obtain⟨a,a4⟩:=hf aF;by_cases RV:a<i
  ·grind
  grind
 refine D.for t.aD.length (λi (_:Unit)=>(i:Int)) (λi _=>∀(a:Nat) x,a<i->t.aD[a]? =I x->¬(x<(j:Int)/\h_ t x.toNat=ad/\(af t x.toNat).text=(af t j).text)) (t0:=()) rfl (λa x h=>by omega) (λi _ tY a7=>?_) λ_ a7=>?_
 ·refine D.ar (λ_=>D.hA tY λq aB=>?_) d_;have zJ:=cm aB;obtain⟨gn,rfl,_,qB⟩:=aI.ht.fw q zJ;have next:¬((gn:Int)<(j:Int)/\h_ t gn=ad/\(af t gn).text=(af t j).text)->D (I (Ey (az ((i:Int)+1)):Int ⊕ Int)) (jv (λs'=>∃hs:Unit,s'=((i+1:Nat):Int)/\∀(a:Nat) x,a<i+1->t.aD[a]? =I x->¬(x<(j:Int)/\h_ t x.toNat=ad/\(af t x.toNat).text=(af t j).text)) (· =if B2 t j then 6 else if yG t j then 6 else oy t j)):=by
   grind[D.inl,bw]
  refine D.ar (λb'=>D.aH aB (D.ae (XU aj aI qB) (D.bK (λap=>D.aH aB (D.ae (b8 qB) (D.ar (λhe=>D.inr ?_) λhe=>next λh=>he h.2.2))) λap=>next λh=>by simp_all))) λb'=>D.bu (D.aX h1 ?_)
  ·rw[if_pos (show B2 t j from⟨hi,aG,gn,zJ,U,ap,he⟩)]
  ·rw[if_neg (dL i a7 λa x a4 ak=>?_)];by_cases e:a=i
   ·grind
   ·have:=(B1 aI.ht.r8 aB ak).2 U;omega
 ·refine D.ar bt λ_=>D.bu (D.aX h1 ?_);rw[if_neg (dL _ a7 λa x a4 ak=>?_)];grind
end
def B5(t:aZ)(j:Nat)(dd:List Int):Prop:=dd.length=t.nodes.length/\∀i,i<t.nodes.length->dd[i]? =I (if i<j then fE t i else-1)
section
variable {n : Nat} {t : aZ} {c dd : List Int}
variable {j m:Nat}
def arr(aI:dD t)(ax:tl t c)(hm:m<t.nodes.length)(ag:j<t.nodes.length):D (PS (m:Int) (j:Int) t.nodes t.aD t.nodes.length t.nodes.length c dd) λr=>r=ad↔m<j/\(af t m).text=(af t j).text/\((af t m).kind=34\/h_ t m=ad):=by unfold PS;refine D.ae (b8 hm) (D.ar (λh1=>D.ae (b8 ag) (D.ar (λh2=>D.ar (λay=>D.ret ⟨λ_=>⟨U,h2,.inl ay⟩,λ_=>rfl⟩) λay=>D.ae (X1 aI ax hm) (D.ret ⟨λh=>⟨U,h2,.inr h⟩,λh=>h.2.2.resolve_left ay⟩)) λh2=>D.ret ⟨dF,λh=>absurd h.2.1 h2⟩)) λh1=>D.ret ⟨dF,λh=>absurd h.1 U⟩)
def ars(aI:dD t)(ax:tl t c)(ag:j<t.nodes.length){l:List Int}(aC:l.length<=800)(hm:∀x∈l,∃m:Nat,x=m/\m<t.nodes.length):
  D (PT (aM n) l (j:Int) t.nodes t.aD t.nodes.length t.nodes.length c dd) λr=>0<=r↔∃m:Nat,(m:Int)∈l/\m<j/\(af t m).text=(af t j).text/\((af t m).kind=34\/h_ t m=ad):=by
 unfold PT afe;refine D.for l.length (λi (_:Unit)=>(i:Int)) (λi _=>∀(a m:Nat),a<i->l[a]? =I (m:Int)->¬(m<j/\(af t m).text=(af t j).text/\((af t m).kind=34\/h_ t m=ad))) (t0:=()) rfl (λa x h=>by omega) (λi _ hi a7=>?_) λ_ a7=>?_
 ·refine D.ar (λ_=>D.hA hi λq aB=>?_) d_;obtain⟨m,rfl,hO⟩:=hm q (cm aB);refine D.bind (arr aI ax hO ag) λz aP=>D.bK (λh=>D.inr ⟨λ_=>⟨m,cm aB,aP.1 h⟩,λ_=>by omega⟩) λh=>D.inl ⟨(),by rw[bw U],λa m' a4 ak=>?_⟩;grind[Int.ofNat.inj,Option.some.inj]
 ·refine D.ar bt λ_=>D.inr ⟨λh=>by omega,λ⟨m,h1,h2⟩=>?_⟩;grind[hf,absurd,cz]
def art(aj:cH t)(aI:dD t)(ax:tl t c)(ag:j<t.nodes.length):D (PU (aM n) (j:Int) t.nodes t.aD t.nodes.length t.nodes.length c dd) λr=>r.2=(c,dd)/\(r.1=ad↔w8 t j):=by
 have fi:∀l:List Int,l.length<=800->(∀x∈l,∃m:Nat,x=m/\m<t.nodes.length)->((∃m:Nat,(m:Int)∈l/\m<j/\(af t m).text=(af t j).text/\((af t m).kind=34\/h_ t m=ad))↔w8 t j)->D (wT (aM n) (j:Int) t.nodes t.aD t.nodes.length t.nodes.length (l,c,dd)) λr=>r.2=(c,dd)/\(r.1=ad↔w8 t j):=by intro l h1 h2 ay;unfold wT Wm;refine D.bind (Q:=λz=>z=ad↔w8 t j) (D.bind (ars aI ax ag h1 h2) λz aP=>D.ret ?_) λz aP=>D.ret ⟨rfl,aP⟩;rw[decide_eq_true_eq,aP,ay]
 unfold PU;refine D.ae (H3 ax ag) ?_;have y0:¬w8 t j->D (wT (aM n) (j:Int) t.nodes t.aD t.nodes.length t.nodes.length ([],c,dd)) λr=>r.2=(c,dd)/\(r.1=ad↔w8 t j):=λh=>fi [] cW (λx ak=>by cases ak) ⟨λ⟨m,h1,_⟩=>(by cases h1),λh1=>absurd h1 h⟩;cases e:iw t j with
 |some p=>
  obtain⟨hp,hm,Eu⟩:=qA aI e;have p0:iT t j=p:=by unfold iT;rw[e];rfl
  have C9:(j:Int) ∉ t.aD:=λh=>by grind[vQ]
  have fM:¬iT t j=-1:=by omega
  refine D.dB (λ_=>D.ae (b8 ag) (D.ar (λj8=>?_) λj8=>D.ar (λh=>absurd h fM) λ_=>y0 ?_)) λh=>absurd h fM
  ·have ex:aH t.nodes (iT t j)=I (af t p):=by rw[p0];exact b8 hp
   refine D.ae ex (fi _ (aj.af hp) (λx ak=>?_) ⟨λ⟨m,h1,h2,ay,bl⟩=>.inr ⟨j8,p,m,e,by rw[dJ hp];exact h1,h2,ari aj aI hp hm (by rw[dJ hp];exact h1) h2 j8,ay⟩,λh=>?_⟩)
   ·grind[jz,dJ]
   ·rcases h with h|⟨_,vg,i,h1,h2,ay,bl,bO⟩
    ·exact absurd h.1 C9
    grind[dJ]
  ·rintro(h|h)
   ·exact C9 h.1
   ·exact j8 h.1
 |none=>
  have p0:iT t j=-1:=by unfold iT;rw[e];rfl
  have hi:(j:Int)∈t.aD:=(vQ aI ag).1 e;have aIp:¬yG t j:=λh=>by obtain⟨_,p,i,h1,_⟩:=h;simp_all
  refine D.dB (λh=>absurd p0 h) λ_=>D.ar (λ_=>D.ae (arc aI ax ag) (D.bK (λaG=>?_) λaG=>y0 ?_)) λh=>absurd p0 h
  ·refine fi _ aj.aD (λx ak=>?_) ⟨λ⟨m,h1,h2,ay,bl⟩=>.inl ⟨hi,aG,m,h1,h2,?_,ay⟩,λh=>?_⟩
   ·obtain⟨m,h1,_,h2⟩:=aI.ht.fw x ak;grind
   ·rcases bl with bl|bl
    ·have:=(bP.at (k9 (j:=m) U)).1 ((aI.kk m U).2 h1);rw[bl]at this;cases this
    ·exact bl
   ·rcases h with⟨_,_,i,h1,h2,ay,bl⟩|h
    ·grind
    simp_all
  ·rintro(h|h)
   ·have:=h.2.1;simp_all
   grind
def aru(aj:cH t)(aI:dD t)(ax:tl t c) {d:Nat}(ag:j<t.nodes.length)(aG:d<t.nodes.length)(n1:(af t j).kind=21)(c7:(af t d).kind=42):D (P2 (aM n) (j:Int) (d:Int) t.nodes t.aD t.nodes.length t.nodes.length c dd) λr=>r=ad↔p2 t j d:=by
 unfold P2 KH;rw[bE];unfold Ww;refine D.bind (Q:=λr=>(∃x b,r=Ey (x,b)/\(b=ad↔p2 t j d))\/((∃x,r=RT x)/\¬p2 t j d)) (D.ae (H3 ax ag) ?_) λz aP=>?_
 ·unfold afj;refine D.b1 (λs':Int×Int×Bool=>∃i:Nat,s'=(iT t i,(i:Int),aS)/\i<t.nodes.length/\((1<=(af t i).kind/\(af t i).kind<=26)\/kT (af t i).kind=ad)/\(p2 t j d↔∃p,iw t i=I p/\p2 t p d)) (λs'=>t.nodes.length-s'.2.1.toNat) ?_ ⟨j,rfl,ag,.inl U,p2.X2 λh=>by simp_all⟩;rintro _ ⟨i,rfl,hi,ap,bH⟩;dsimp only;cases e:iw t i with
  |none=>
   have p0:iT t i=-1:=by unfold iT;rw[e];rfl
   simp_all[if_neg,D.inr]
  |some p=>
   obtain⟨hp,hm,ara⟩:=qA aI e;have p0:iT t i=p:=by unfold iT;rw[e];rfl
   have pZ:1<=(af t i).kind/\(af t i).kind<=26:=by grind[vQ,B4]
   obtain⟨uF,w4⟩:=arj aj aI hp hm pZ;rw[p0,if_pos cW];unfold Wv;by_cases arv:p=d
   ·subst arv;rw[if_pos cW];have kJ:0<(af t p).a8.length:=by grind[dJ,ag8]
    obtain⟨y,Ev,n0⟩:=XV kJ (by have:=aj.af hp;omega);have a9:y=(i:Int):=by grind[dJ,Option.some.inj]
    rw[b8 hp,bE,bE,n0,bE,bE];exact D.inr (.inl ⟨_,_,rfl,⟨λ_=>bH.2 ⟨p,e,.refl p⟩,λ_=>by simp[a9]⟩⟩)
   ·rw[if_neg dZ,bE];refine D.ae (H3 ax hp) (D.inl ⟨⟨p,rfl,hp,uF,?_⟩,?_⟩)
    ·simp_all[p2.X2]
    grind
 grind[D.ret,absurd]
def arw{N:Nat}(fz:N<=800)(aG:dd.length=N)(d:Int):D (G_ (aM n) N d dd) λr=>r=ad↔d∈dd:=by
 unfold G_ Wx afk;refine D.bind (Q:=λr=>0<=r↔d∈dd) ?_ λz aP=>D.ret dq;refine D.for N (λi (_:Unit)=>(i:Int)) (λi _=>∀(a:Nat),a<i->dd[a]? ≠I d) (t0:=()) rfl (λa h=>by omega) (λi _ hi a7=>?_) λ_ a7=>?_
 ·refine D.ar (λ_=>?_) d_;have ak:dd[i]? =I (dd[i]'U):=List.getElem?_eq_getElem _;refine D.ae (hN ak hi) (D.ar (λe=>D.inr ⟨λ_=>?_,λ_=>by omega⟩) λe=>D.inl ⟨(),by rw[bw U],λa a4=>?_⟩)
  ·simp_all
  grind
 ·refine D.ar bt λ_=>D.inr ⟨λh=>by omega,λh=>?_⟩;grind[hf,absurd,cz]
theorem B5.fw(h:B5 t j dd)(ag:j<=t.nodes.length):(m:Int)∈dd↔∃i,i<j/\fE t i=m:=by
 constructor
 ·intro hm;obtain⟨i,hi⟩:=hf hm;have aC:=(cz.1 hi).1;rw[h.2 i (by rw[<-h.1];exact aC)]at hi;grind
 ·rintro⟨i,h1,h2⟩;have:=h.2 i U;grind
open Classical in
def arx(aj:cH t)(aI:dD t)(ax:tl t c)(ag:j<t.nodes.length)(cw:∀i,i<j->¬w8 t i)(l3:B5 t j dd):
  D (P3 (aM n) (j:Int) t.nodes t.aD t.nodes.length t.nodes.length c dd) λr=>∃r5,r=(gS t j,c,r5)/\(gS t j=0->B5 t (j+1) r5):=by
 have a6:=aj.nodes;have Ln:∀a b:Nat,a<j->b<j->(a:Int)∈t.aD->(b:Int)∈t.aD->h_ t a=ad->h_ t b=ad->(af t a).text=(af t b).text->a=b:=by
  intro a b h1 h2 ay bl bO cX hq;rcases Nat.lt_trichotomy a b with h|h|h
  ·exact absurd (.inl ⟨bl,cX,a,ay,h,bO,hq⟩) (cw b h2)
  ·exact h
  ·exact absurd (.inl ⟨ay,bO,b,bl,h,cX,hq.symm⟩) (cw a h1)
 unfold P3;refine D.ae (b8 ag) (D.bind (art aj aI ax ag) λz aP=>?_);obtain⟨b,c',r5⟩:=z;obtain⟨h1,h2⟩:=aP;cases h1;dsimp only at h2⊢;refine D.bK (λaF=>D.ret ?_) λaF=>?_
 ·simp_all[gS,if_pos]
 have ary:¬w8 t j:=λh=>by simp_all
 have X9:gS t j=oy t j:=by unfold gS;rw[if_neg ary]
 rw[X9];refine D.ae (aqS _) ?_;have next:∀m:Int,fE t j=m->B5 t (j+1) (dd.set j m):=by
  rintro _ rfl;refine⟨by simpa using l3.1,λi hi=>?_⟩;rw[u4];split
  ·next e=>subst e;rw[if_pos (by rw[l3.1];exact hi),if_pos U]
  ·next e=>
   rw[l3.2 i hi];grind
 cases ap:vR (af t j).kind with
 |false=>
  have dg:oy t j=0:=by unfold oy;rw[if_pos ap]
  have em:fE t j=-1:=by unfold fE;grind
  refine D.ret ⟨dd,by rw[dg],λ_=>?_⟩;have ay:=next (-1) em
  have bl:dd.set j (-1)=dd:=by
   apply m3;intro i;rw[u4];split
   ·next e=>
    subst e;rw[if_pos (by rw[l3.1];exact ag),l3.2 j ag,if_neg U]
   ·rfl
  rwa[bl]at ay
 |true=>
  refine D.ae (are aj aI ax ag ap Ln) (D.ar (λh=>D.ret ?_) λh=>?_)
  ·simp_all[oy,if_neg,if_pos]
  obtain⟨m,hm,hO,_,aQ⟩:=(X3 aI ag).resolve_left h;have a2:oy t j=if yH t j then 9 else if B3 t j then 9 else 0:=by unfold oy;rw[if_neg dZ,if_neg U]
  rw[hm];have X4:(af t j).kind≠45->¬B3 t j:=λh r=>h r.1;have fi:oy t j=0->D (zA t.nodes.length (j:Int) (m:Int) (c,dd)) λr=>∃r5,r=(oy t j,c,r5)/\(oy t j=0->B5 t (j+1) r5):=by intro dg;unfold zA;refine D.ae (hN (l3.2 j ag) ag) (D.ret ⟨_,by rw[dg],λ_=>next _ hm⟩)
  have nine:oy t j=9->D (I ((9:Int),c,dd)) λr=>∃r5,r=(oy t j,c,r5)/\(oy t j=0->B5 t (j+1) r5):=λso=>D.ret ⟨dd,by rw[so],λh=>by omega⟩;refine D.ar (λn1=>?_) λn1=>?_
  ·have arz:(af t m).kind=42:=by
    simp_all[l9]
   have arA:(af t j).kind≠45:=by omega
   refine D.ae (b8 hO) (D.ar (λbh=>?_) λbh=>?_)
   ·refine D.bind (aru aj aI ax ag hO n1 arz) λz aP=>D.bK (λX5=>nine ?_) λahc=>D.ar (λh=>absurd h arA) λ_=>fi ?_
    ·rw[a2,if_pos (show yH t j from⟨n1,dq,dq⟩)]
    simp_all[if_neg,yH]
   simp_all[D.ar,absurd,if_neg,yH]
  ·have eR:¬yH t j:=λo=>n1 o.1;rw[if_neg eR]at a2;refine D.ar (λqC=>?_) λqC=>fi (by rw[a2,if_neg (X4 qC)]);have aIq:(af t m).kind=44:=by
    simp_all[l9]
   refine D.bind (arw a6 l3.1 m) λz aP=>D.bK (λX5=>nine ?_) λahc=>fi ?_
   ·obtain⟨i,wu,fV⟩:=(l3.fw U).1 (aP.1 X5);obtain⟨m',wB,_,sL,FX⟩:=(X3 aI (j:=i) U).resolve_left U;have:m'=m:=by omega
    subst this;have arB:(af t i).kind=45:=by simp_all[l9,vR,jq,decide_eq_true_eq]
    rw[a2,if_pos (show B3 t j from⟨qC,i,wu,arB,by rw[fV,hm]⟩)]
   ·rw[a2,if_neg];rintro⟨_,i,wu,fV,arC⟩;have:=aP.2 ((l3.fw U).2 ⟨i,wu,by rw[arC,hm]⟩);simp_all
end
def Lo(t:aZ)(r:nS×Int×Int):Prop:=
 (∃j:Nat,j<t.nodes.length/\gS t j≠0/\(∀i,i<j->gS t i=0)/\r=(⟨[]⟩,(j:Int),gS t j))\/((∀i,i<t.nodes.length->gS t i=0)/\r=(⟨(gD t.nodes.length).map (fE t)⟩,0,0))
section
variable {n : Nat} {t : aZ} {c dd : List Int}
def Lo.RW{r h5:nS×Int×Int}(h:Lo t r)(cr:Lo t h5):r=h5:=by
 rcases h with⟨j,h1,h2,ay,rfl⟩|⟨h1,rfl⟩
 ·rcases cr with⟨fX,Lg,XH,arD,rfl⟩|⟨Lg,rfl⟩
  ·grind
  simp_all
 ·rcases cr with⟨fX,Lg,XH,arD,rfl⟩|⟨Lg,rfl⟩
  ·simp_all
  ·rfl
def X_{i:Nat}(h:gS t i=0):¬w8 t i:=λh2=>by simp_all[gS,if_pos]
def arE(aj:cH t)(aI:dD t):D (VW t (aM n) (0,[])) (Lo t):=by
 have a6:=aj.nodes;unfold VW;refine D.for t.nodes.length (λi (o:List Int)=>((i:Int),o)) (λi o=>o=(gD i).map (fE t)/\∀k,k<i->gS t k=0) (t0:=[]) rfl ⟨rfl,λk h=>by omega⟩ (λi o hi a7=>?_) λo a7=>?_
 ·obtain⟨rfl,a7⟩:=a7;refine D.ar (λ_=>D.ae (arq aj aI hi) (D.dB (λhe=>D.inr (.inl ⟨i,hi,he,a7,rfl⟩)) λhe=>D.ae (XY aj aI hi) (D.ae (eX dZ) (D.inl ⟨_,by rw[bw U],?_,λk ap=>?_⟩)))) d_
  ·rw[List.range_succ,List.map_append];rfl
  grind
 ·obtain⟨rfl,a7⟩:=a7;exact D.ar bt λ_=>D.inr (.inr ⟨a7,rfl⟩)
def arF(aj:cH t)(aI:dD t)(ax:tl t c):D (Wy (0,t.nodes,t.aD,t.nodes.length,t.nodes.length,c,cC t.nodes.length (-1)) (aM n) (0,c,cC t.nodes.length (-1))) λr=>(∃j:Nat,j<t.nodes.length/\gS t j≠0/\(∀i,i<j->gS t i=0)/\r=.inl ((j:Int),gS t j))\/((∀i,i<t.nodes.length->gS t i=0)/\r=.inr (0,0,t.nodes,t.aD,t.nodes.length,t.nodes.length,c,(gD t.nodes.length).map (fE t))):=by
 have a6:=aj.nodes;unfold Wy;refine D.for t.nodes.length (λi (o:List Int)=>((i:Int),c,o)) (λi o=>B5 t i o/\∀k,k<i->gS t k=0) (t0:=cC t.nodes.length (-1)) rfl ⟨⟨by simp,λi hi=>?_⟩,λk h=>by omega⟩ (λi o hi a7=>?_) λo a7=>?_
 ·rw[List.getElem?_replicate,if_pos hi,if_neg U]
 ·obtain⟨l3,a7⟩:=a7;refine D.ar (λ_=>D.bind (arx aj aI ax hi (λk ap=>X_ (a7 k ap)) l3) λz aP=>?_) λh=>absurd dq h;obtain⟨r5,rfl,arG⟩:=aP;refine D.dB (λhe=>D.inr (.inl ⟨i,hi,he,a7,rfl⟩)) λhe=>D.inl ⟨r5,by rw[bw U],arG he,λk ap=>?_⟩;grind
 ·obtain⟨l3,a7⟩:=a7;refine D.ar (λh=>absurd h cW) λ_=>D.inr (.inr ⟨a7,?_⟩);have:o=(gD t.nodes.length).map (fE t):=by
   apply m3;intro i;by_cases hi:i<t.nodes.length
   ·rw[l3.2 i hi,if_pos hi,List.getElem?_map,List.getElem?_range hi];rfl
   ·rw[nD (by rw[l3.1];omega),nD dZ]
  rw[this]
def arH(aj:cH t)(Li:1000<=n):∃r,BF (aM n) t=I r/\yk (aM n) t=I r/\((∃e,GM (aM n) t=I e/\e≠0/\r=(⟨[]⟩,0,e))\/(fZ t/\GM (aM n) t=I 0/\Lo t r)):=by
 obtain⟨e,h1,h2,ay⟩:=aqH (n:=n) aj Li;by_cases he:e=0
 ·subst he;have aR:=ay.1 rfl;have aI:=aR.dI;obtain⟨r,aO,aK⟩:=arE (n:=n) aj aI;refine⟨r,?_,?_,.inr ⟨aR,h2,aK⟩⟩
  ·obtain⟨_,a4,c,ax,rfl⟩:=aqP (n:=n) aj aI;have fz:=aj.nodes;have aIr:KG (aM n) t=I (.inr (0,t.nodes,t.aD,t.nodes.length,t.nodes.length,c,cC t.nodes.length (-1))):=by
    simp_all[KG,bE,if_neg,aqO]
   obtain⟨z,aP,c5⟩:=arF (n:=n) aj aI ax;have arI:KJ (aM n) t=I z:=by simp_all[KJ,bE]
   unfold BF;rw[arI,bE];rcases c5 with⟨j,al,am,ao,rfl⟩|⟨al,rfl⟩
   ·have:r=(⟨[]⟩,(j:Int),gS t j):=aK.RW (.inl ⟨j,al,am,ao,rfl⟩);rw[this];show(if(!decide (gS t j=0))=ad then _ else _)=_;rw[if_pos dq]
   ·have:r=(⟨(gD t.nodes.length).map (fE t)⟩,0,0):=aK.RW (.inr ⟨al,rfl⟩);grind[gF,gD,fE,bind,XL]
  simp_all[yk,bE,if_neg]
 simp_all[BF,KJ,KG,bE,if_pos,Sum.elim_inl,yk]
end
inductive ft|int|bool|ik (s:ByteArray)|hn (bv:ft) (k:Nat)
def fP:ByteArray:=⟨#[105,110,116]⟩
def fx:ByteArray:=⟨#[98,111,111,108]⟩
def h'(k:Nat):ByteArray:=⟨#[UInt8.ofNat (48+k)]⟩
def i'(s:ByteArray)(k:Nat):ByteArray:=(((⟨#[91]⟩++s)++⟨#[59,32]⟩)++h' k)++⟨#[93]⟩
def ft.b9:ft->ByteArray| .int=>fP| .bool=>fx| .ik s=>s| .hn bv k=>i' bv.b9 k
def ft.ok:ft->Prop| .int=>True| .bool=>True| .ik s=>gP s| .hn bv k=>bv.ok/\1<=k/\k<=6
def ft.tp:ft->ByteArray×Int×Bool| .hn bv k=>(bv.b9,k,ad)|_=>(⟨#[]⟩,0,aS)
variable {a b:ByteArray}
theorem vT(h:a.size+b.size<=1099511627776):pz a b=I (a++b):=by unfold pz;rw[if_pos h]
theorem w9(s:ByteArray)(k:Nat):(i' s k).size=s.size+5:=by unfold i';simp only[mu];show 1+s.size+2+1+1=_;omega
theorem X'{a b:Nat}(a4:1<=a/\a<=6)(aF:1<=b/\b<=6)(h:h' a=h' b):a=b:=by
 have h1:UInt8.ofNat (48+a)=UInt8.ofNat (48+b):=by simp_all[congrArg,h']
 have h2:=congrArg UInt8.toNat h1;grind[UInt8.toNat_ofNat']
variable {s:ByteArray}
def Lp {s':ByteArray}{k cV:Nat}(h:i' s k=i' s' cV):s=s'/\h' k=h' cV:=by
 have aQ:s.size=s'.size:=by have:=congrArg ag7 h;grind[w9]
 grind[i',aq2,aq3,mu,aq1]
theorem RX(s:ByteArray)(k:Nat):i' s k=⟨#[91]⟩++(s++(⟨#[59,32]⟩++(h' k++⟨#[93]⟩))):=by unfold i';rw[B0,B0,B0]
def arJ(s:ByteArray)(k:Nat):(i' s k).extract 1 (1+s.size)=s:=by rw[RX,show(1:Nat)=1+0 from rfl,RS (by rfl),Ew U]
theorem arK{i:Nat}(h:i<a.size):(a++b)[i]? =a[i]? :=by rw[getElem?_pos a i h,getElem?_pos (a++b) i dZ,aqZ h]
theorem sq(s:ByteArray)(k:Nat):(i' s k)[0]? =I 91:=by rw[RX,arK ci];rfl
def gP.pos(h:gP s):0<s.size:=by have:=h.1;grind[pW]
theorem gP.bh(h:gP s):s[0]? ≠I 91:=λe=>by have:=h.1;unfold pW at this;rw[e]at this;revert this;decide
theorem gP.RY:¬gP fP:=λh=>h.2.2.1 (cm (i:=12) rfl)
theorem gP.RZ:¬gP fx:=λh=>h.2.2.1 (cm (i:=3) rfl)
def ft.pos{bv:ft}(h:bv.ok):0<bv.b9.size:=by
 cases bv with
 |int=>decide
 |bool=>decide
 |ik s=>exact gP.pos h
 |hn bv k=>show 0<(i' _ _).size;rw[w9];omega
theorem ft.bh{bv:ft}(h:bv.ok):bv.b9[0]? =I 91↔∃cd k,bv=.hn cd k:=by
 cases bv with
 |int=>exact⟨lp,λ⟨_,_,h⟩=>by cases h⟩
 |bool=>exact⟨lp,λ⟨_,_,h⟩=>by cases h⟩
 |ik s=>exact⟨λe=>absurd e (gP.bh h),λ⟨_,_,h⟩=>by cases h⟩
 |hn bv k=>exact⟨λ_=>⟨_,_,rfl⟩,λ_=>sq _ _⟩
section
variable {n : Nat}
variable {k:Nat}
theorem zP(h:1<=k/\k<=6):k=1\/k=2\/k=3\/k=4\/k=5\/k=6:=by omega
theorem arL(a6:1<=n)(h:1<=k/\k<=6):VY (aM n) (k:Int)=I (h' k):=by
 obtain⟨m,rfl⟩:∃m,n=m+1:=⟨n- 1,U⟩
 rcases zP h with rfl|rfl|rfl|rfl|rfl|rfl<;>rfl
theorem ahe(h:1<=k/\k<=6):Qf (aM n) (k:Int)=I (h' k):=by rcases zP h with rfl|rfl|rfl|rfl|rfl|rfl<;>rfl
variable {s:ByteArray}
def Lq(a6:1<=n)(aQ:s.size<=1000000)(h:1<=k/\k<=6):GS (aM n) s (k:Int)=I (i' s k):=by
 have a2:∀a:ByteArray,(⟨#[91]⟩++a:ByteArray).size=1+a.size:=λa=>by rw[mu];rfl
 have bc:∀a:ByteArray,(a++⟨#[59,32]⟩:ByteArray).size=a.size+2:=λa=>by rw[mu];rfl
 have cR:∀a:ByteArray,(a++h' k:ByteArray).size=a.size+1:=λa=>by rw[mu];rfl
 unfold GS;rw[vT dZ,bE,vT dZ,bE,arL a6 h,bE,vT dZ,bE,vT (by rw[cR,bc,a2];show 1+s.size+2+1+1<=_;omega)];rfl
theorem ahf(aQ:s.size<=1000000)(h:1<=k/\k<=6):Hi (aM n) s (k:Int)=I (i' s k):=by
 have a2:∀a:ByteArray,(⟨#[91]⟩++a:ByteArray).size=1+a.size:=λa=>by rw[mu];rfl
 have bc:∀a:ByteArray,(a++⟨#[59,32]⟩:ByteArray).size=a.size+2:=λa=>by rw[mu];rfl
 have cR:∀a:ByteArray,(a++h' k:ByteArray).size=a.size+1:=λa=>by rw[mu];rfl
 unfold Hi;rw[vT dZ,bE,vT dZ,bE,ahe h,bE,vT dZ,bE,vT (by rw[cR,bc,a2];show 1+s.size+2+1+1<=_;omega)];rfl
def arM{b:UInt8}(h:s[0]? =I b):gW s 0=I (b.toNat:Int):=lM (k:=0) h
def arN{bv:ft}(h:bv.ok)(aQ:bv.b9.size< 1000000){r:ByteArray->Option (ByteArray×Int×Bool)}(aO:r bv.b9=I bv.tp):Pk (aM n) r bv.b9=I ad:=by
 have hp:=ft.pos h;obtain⟨b,aF⟩:∃b,bv.b9[0]? =I b:=⟨_,getElem?_pos _ 0 hp⟩
 refine D.br ?_;unfold Pk;refine D.ar (λ_=>D.ae (arM aF) (D.ar (λarO=>?_) λarO=>?_)) d_
 ·have:b=91:=by
   have h2:b.toNat=(91:UInt8).toNat:=by grind
   exact UInt8.toNat_inj.1 h2
  subst this;obtain⟨cd,k,rfl⟩:=(ft.bh h).1 aF;exact D.ae aO (D.ret rfl)
 ·refine D.bK (λ_=>D.ret rfl) λh2=>?_;have h2:(decide (bv.b9=fP)||decide (bv.b9=fx))=aS:=h2;cases bv with
  |int=>cases h2
  |bool=>cases h2
  |hn bv k=>rw[show(ft.hn bv k).b9=i' bv.b9 k from rfl,sq]at aF;cases aF;simp_all
  |ik s=>obtain⟨g5,_,ay,bl⟩:=RL (n:=n) (s:=s) (show s.size< 9223372036854775808 by have:s.size< 1000000:=aQ;omega);have mF:g5=ad:=bl.2 h;subst mF;unfold Pj VZ;exact D.ae (z:=ad) (by show au (au (DN (aM n) s) _) _=_;grind) (D.ret rfl)
def arP(a6:1<=n):∀(f:Nat)(bv:ft),bv.b9.size<f->bv.ok->bv.b9.size< 1000000->DU (aM n) f bv.b9=I bv.tp:=by
 intro f;induction f with
 |zero=>omega
 |succ f bx=>
  intro bv bg ap aQ;refine D.br ?_;show D (Pl (aM n) (DU (aM n) f) bv.b9) _;unfold Pl aev;have Bf:∀i:Nat,0<i->i<=bv.b9.size->(∀k,1<=k->k<=6->i' ((bv.b9.extract 0 i).extract 1 i) k≠bv.b9)->D (GV bv.b9 (i:Int) (aM n) (DU (aM n) f) 1) λr=>r=.inl ((i+1:Nat):Int):=by
   intro i bh hi dL;unfold GV;refine D.for 6 (λa (_:Unit)=>((a+1:Nat):Int)) (λ_ _=>True) (t0:=()) rfl trivial (λa _ a4 _=>?_) λ_ _=>?_
   ·have aP:(bv.b9.extract 0 i).size=i:=by simp_all
    refine D.ar (λ_=>D.ae (lN (i:=0) U hi) (D.ar (λ_=>?_) d_)) d_;rw[aP];have a2:iP (bv.b9.extract 0 i) 1 (i:Int)=I ((bv.b9.extract 0 i).extract 1 i):=lN (i:=1) U U;refine D.ae a2 (D.ae (Lq a6 (by rw[HY];omega) ⟨U,U⟩) (D.ar (λh=>absurd h (dL _ U U)) λ_=>D.inl ⟨(),?_,trivial⟩));rw[bw U]
   ·refine D.ar bt λ_=>D.bu (D.ret ?_);rw[bw U]
  have zero:D (GV bv.b9 0 (aM n) (DU (aM n) f) 1) λr=>r=.inl 1:=by
   unfold GV;refine D.for 6 (λa (_:Unit)=>((a+1:Nat):Int)) (λ_ _=>True) (t0:=()) rfl trivial (λa _ a4 _=>?_) λ_ _=>?_
   ·refine D.ar (λ_=>D.ae (lN (i:=0) (j:=0) U U) (D.ar lp λ_=>D.inl ⟨(),by rw[bw U],trivial⟩)) d_
   ·exact D.ar bt λ_=>D.bu (D.ret rfl)
  by_cases aC:∃cd k,bv=.hn cd k
  ·obtain⟨cd,k,rfl⟩:=aC;have gw:(ft.hn cd k).b9.size=cd.b9.size+5:=w9 _ _;refine D.for (cd.b9.size+1) (λi (_:Unit)=>(i:Int)) (λ_ _=>True) (t0:=()) rfl trivial (λi _ hi _=>?_) λ_ _=>?_
   ·refine D.ar (λ_=>?_) d_;by_cases bh:i=0
    ·subst bh;refine D.mono zero λz aP=>?_;rw[aP];exact⟨(),rfl,trivial⟩
    ·refine D.mono (Bf i U U λcV _ _ e=>?_) λz aP=>?_
     ·have:=congrArg ag7 e;grind[w9,HY]
     ·rw[aP];exact⟨(),rfl,trivial⟩
   ·refine D.ar (λ_=>?_) d_;have H4:1<=k/\k<=6:=ap.2;have gM:((ft.hn cd k).b9.extract 0 (cd.b9.size+1)).extract 1 (cd.b9.size+1)=cd.b9:=by
     rw[aq0,show min (0+(cd.b9.size+1)) (cd.b9.size+1)=1+cd.b9.size by omega];exact arJ _ _
    have aP:((ft.hn cd k).b9.extract 0 (cd.b9.size+1)).size=cd.b9.size+1:=by simp_all
    have a2:iP ((ft.hn cd k).b9.extract 0 (cd.b9.size+1)) 1 (((cd.b9.size+1:Nat)):Int)=I cd.b9:=by rw[show(1:Int)=((1:Nat):Int)from rfl,lN U U,gM]
    unfold GV;refine D.for (k- 1) (λa (_:Unit)=>((a+1:Nat):Int)) (λ_ _=>True) (t0:=()) rfl trivial (λa _ a4 _=>?_) λ_ _=>?_
    ·refine D.ar (λ_=>D.ae (lN (i:=0) U U) (D.ar (λ_=>?_) d_)) d_;rw[aP];refine D.ae a2 (D.ae (Lq a6 U ⟨U,U⟩) (D.ar (λh=>?_) λ_=>D.inl ⟨(),?_,trivial⟩))
     ·have:=X' ⟨U,U⟩ H4 (Lp h).2;omega
     ·rw[bw U]
    ·rw[show k- 1+1=k by omega];refine D.ar (λ_=>D.ae (lN (i:=0) U U) (D.ar (λ_=>?_) d_)) d_;rw[aP];refine D.ae a2 (D.ae (Lq a6 U H4) (D.ar (λ_=>?_) λh=>absurd rfl h));refine D.ae a2 (D.ae (arN ap.1 U (bx cd U ap.1 U)) ?_);exact D.ae a2 (D.bu (D.bu (D.ret rfl)))
  ·have dL:∀o k,i' o k≠bv.b9:=λo k e=>aC ((ft.bh ap).1 (by rw[<-e];exact sq _ _));refine D.for bv.b9.size (λi (_:Unit)=>(i:Int)) (λ_ _=>True) (t0:=()) rfl trivial (λi _ hi _=>?_) λ_ _=>?_
   ·refine D.ar (λ_=>?_) d_;by_cases bh:i=0
    ·subst bh;refine D.mono zero λz aP=>?_;rw[aP];exact⟨(),rfl,trivial⟩
    ·refine D.mono (Bf i U U λcV _ _ e=>dL _ _ e) λz aP=>?_;rw[aP];exact⟨(),rfl,trivial⟩
   ·refine D.ar bt λ_=>D.bu (D.ret ?_);cases bv with
    |hn cd k=>simp_all
    |_=>rfl
end
end Go.Proofs.YtjfgooffdmnnkaaGreatDoor

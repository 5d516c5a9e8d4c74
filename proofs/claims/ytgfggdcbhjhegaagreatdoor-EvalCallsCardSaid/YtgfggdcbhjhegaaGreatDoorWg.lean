/- Operations on cells. -/
import Derived.Test.YtgfggdcbhjhegaaGreatDoorWf
set_option linter.all false
set_option maxRecDepth 100000
namespace Go.Proofs.YtgfggdcbhjhegaaGreatDoor
open Go Go.Mi Go.RowKit Go.Dp
open Bool renaming or_eq_false_iff->iM,true->ah,not_eq_true'->mZ,or_eq_true->hk,false->aQ
open Classical renaming not_not->uc,choose_spec->Ej,choose->wO
open Int renaming mul_le_mul_of_nonneg_left->Nl,toNat_natCast->eq,lt_trichotomy->Uf,mul_le_mul_of_nonneg_right->adj,mul_tdiv_add_tmod->adk,natCast_mul->DF,lt_or_le->adl,one_mul->adm,neg_mul->adn,add_mul->ado
open Int.ofNat renaming inj->ew
open List renaming replicate->dm,mem_of_getElem?->cC,getElem?_eq_getElem->cq,take_of_length_le->fz,replicate_succ'->Ug,map_congr_left->sE,mem_append->ig,map_map->kk,pairwise_cons->yr,mem_cons_self->ra,append_nil->j3
open Nat renaming mul_le_mul_right->oE,le_refl->b5
open Option renaming some->D,bind->aw
def gg(v:bt):Prop:=(v.fault=0/\ -9999<=v.n/\v.n<=9999)\/(1<=v.fault/\v.fault<=4/\v.n=0)
def num(n:Int):bt:=⟨0,n⟩
def pg(f:Int):bt:=⟨f,0⟩
def mg(n:Int):bt:=if-9999<=n/\n<=9999 then num n else pg 2
def l0(b:Bool):bt:=if b then num 1 else num 0
def kP(a b:Int):Int:=if a.tmod b≠0/\¬(a.tmod b< 0↔b< 0)then a.tdiv b- 1 else a.tdiv b
def qJ(c:Int)(a:bt):bt:=if a.fault≠0 then a else if c=5 then num (-a.n)else l0 (decide (a.n=0))
def kQ(c:Int)(a b:bt):bt:=
 if a.fault≠0 then a else if b.fault≠0 then b else
 if c=7 then mg (a.n+b.n)else if c=8 then mg (a.n-b.n)else if c=9 then mg (a.n*b.n)else
 if c=12 then l0 (decide (a.n=b.n))else if c=13 then l0 (decide (a.n<b.n))else if c=14 then l0 (decide (a.n<=b.n))else
 if b.n=0 then pg 1 else if c=10 then num (kP a.n b.n)else num (a.n-b.n*kP a.n b.n)
section
variable {n : Nat}
variable {v:bt}
theorem gg.fX(h:gg v)(bw:v.fault=0): -9999<=v.n/\v.n<=9999:=by
 rcases h with h|h
 ·exact h.2
 ·omega
theorem gg.gH(h:gg v):¬v.fault=0↔0<v.fault:=by rcases h with h|h<;>omega
theorem DS{x:Int}(h: -9999<=x/\x<=9999):gg (num x):=.inl ⟨rfl,h⟩
theorem Nm{f:Int}(h:1<=f/\f<=4):gg (pg f):=.inr ⟨h.1,h.2,rfl⟩
theorem adp(x:Int):gg (mg x):=by grind[mg,DS,Nm]
theorem Uh(b:Bool):gg (l0 b):=by cases b<;>exact DS eu
theorem Ui(x:Int):xV (aZ n) (-9999) 9999 ([x]:List Int)=D (decide (-9999<=x/\x<=9999)):=by
 refine I.bN ?_;unfold xV K7 K6 RW;refine I.bind (Q:=λz=>z= !decide (-9999<=x/\x<=9999)) (I.bind (Q:=λz=>0<=z↔¬(-9999<=x/\x<=9999)) ?_ λz bj=>I.ret ?_) λz bj=>I.ret (by rw[bj,Bool.not_not])
 ·refine I.ij (I.aC (λ_=>I.aq (z:=x) rfl ?_) λh=>absurd (show(0:Int)<((1:Nat):Int) by decide) h);unfold F9;refine I.aq rfl (I.bC (λh=>I.inr ⟨λ_=>?_,λ_=>Int.le_refl _⟩) λh=>I.inl (I.ij (I.aC (λh=>absurd h (show ¬aH (0+1)<((1:Nat):Int) by decide)) λ_=>I.inr ⟨u1,λh2=>?_⟩)))
  ·grind
  simp_all
 grind
theorem rJ(x:Int):mc (aZ n) x=D (mg x):=by
 refine I.bN ?_;unfold mc;refine I.aq (Ui x) (I.eh (λh=>I.aq rfl (I.ret ?_)) λh=>I.ret ?_)
 ·unfold mg;rw[if_neg h];rfl
 ·unfold mg;rw[if_pos h];rfl
theorem adq(h:gg v):vX (aZ n) v=D ah:=by
 refine I.bN ?_;unfold vX;rcases h with⟨h1,h2⟩|⟨h1,h2,aJ⟩
 ·simp_all[I.aC,I.aq,Ui,I.ret,decide_eq_true,absurd]
 ·refine I.aC br λ_=>I.ret ?_;simp_all
theorem ao7(h:gg v):K_ (aZ n) v=D aQ:=by grind[K_,adq]
theorem Uj{l:List bt}(aK:l.length<=1000000)(h:∀v∈l,gg v):zT (aZ n) l=D ah:=by refine I.bN ?_;unfold zT R2 R1 aax;refine I.aq (z:=aQ) (I.bN (I.aq (z:= -1) (I.bN ?_) (I.ret rfl))) (I.ret rfl);refine I.for l.length (λi (_:Unit)=>(i:Int)) (λ_ _=>True) (t0:=()) rfl trivial (λi _ ao _=>?_) λ_ _=>I.aC br λ_=>I.inr rfl;exact I.aC (λ_=>I.g7 ao λx ar=>I.aq (ao7 (h x (cC ar))) (I.bC cF λ_=>I.inl ⟨(),by rw[cM aa],trivial⟩)) dv
theorem adr(a:bt):xW (aZ n) [a]=D (if a.fault≠0 then(a,ah)else(⟨0,0⟩,aQ)):=by
 refine I.bN ?_;unfold xW K9 RY;refine I.bind (Q:=λi=>i=if a.fault≠0 then 0 else-1) (I.ij (I.aC (λ_=>I.aq (z:=a) rfl ?_) λh=>absurd (show(0:Int)<((1:Nat):Int) by decide) h)) λi ao=>?_
 ·unfold K8;refine I.aq rfl (I.eh (λh=>I.inr (by rw[if_pos h])) λh=>I.inl (I.ij (I.aC (λh=>absurd h (show ¬aH (0+1)<((1:Nat):Int) by decide)) λ_=>I.inr (by rw[if_neg (λq=>q h)]))))
 ·subst ao;by_cases h:a.fault≠0
  ·rw[if_pos h,if_pos h];exact I.ret rfl
  simp_all[if_neg,I.ret]
theorem ao8(a b:bt):xW (aZ n) [a,b]=D (if a.fault≠0 then(a,ah)else if b.fault≠0 then(b,ah)else(⟨0,0⟩,aQ)):=by
 refine I.bN ?_;unfold xW K9 RY;refine I.bind (Q:=λi=>i=if a.fault≠0 then 0 else if b.fault≠0 then 1 else-1) (I.ij (I.aC (λ_=>I.aq (z:=a) rfl ?_) λh=>absurd (show(0:Int)<((2:Nat):Int) by decide) h)) λi ao=>?_
 ·unfold K8;refine I.aq rfl (I.eh (λh=>I.inr (by rw[if_pos h])) λh=>I.inl (I.ij (I.aC (λ_=>I.aq (z:=b) rfl (I.aq rfl (I.eh (λh2=>I.inr (by rw[if_neg (λq=>q h),if_pos h2];rfl)) λh2=>I.inl (I.ij (I.aC (λh=>absurd h (show ¬aH (aH (0+1)+1)<((2:Nat):Int) by decide)) λ_=>I.inr (by rw[if_neg (λq=>q h),if_neg (λq=>q h2)])))))) λh=>absurd (show aH (0+1)<((2:Nat):Int) by decide) h)))
 ·subst ao;by_cases h:a.fault≠0
  ·rw[if_pos h,if_pos h];exact I.ret rfl
  ·rw[if_neg h,if_neg h];by_cases h2:b.fault≠0
   ·rw[if_pos h2,if_pos h2];exact I.ret rfl
   simp_all[if_neg,I.ret]
theorem Nn(b:Bool):xX (aZ n) b=D (l0 b):=by
 cases b
 ·unfold xX;rw[if_neg eu,rJ];rfl
 ·unfold xX;rw[if_pos rfl,rJ];rfl
variable {a:bt}{c:Int}
theorem ads(aP:c=5\/c=6)(a9:gg a):CR (aZ n) c a=D (qJ c a,0):=by
 refine I.bN ?_;unfold CR;have ao9:RX c=D (if c=5 then 1 else 2):=by rcases aP with rfl|rfl<;>rfl
 refine I.aq ao9 (I.aC (λh=>?_) λ_=>I.aq (adq a9) (I.bC cF λ_=>I.aq (adr a) ?_))
 ·exfalso;rcases aP with rfl|rfl<;>exact absurd h eu
 ·unfold qJ;by_cases h:a.fault≠0
  ·simp_all[if_pos,I.ret]
  ·rw[if_neg h];simp only[if_neg h];have bw:a.fault=0:=uc.1 h;have aM:=a9.fX bw;rcases aP with rfl|rfl
   ·have e:zS (aZ n) (if(5:Int)=5 then 1 else 2) a.n=D (num (-a.n)):=by
     rw[if_pos rfl];unfold zS;rw[if_pos rfl];unfold RZ;rw[c8 aa aa,rJ];unfold mg;rw[if_pos aa];rfl
    simp_all[I.bC,I.aq,I.ret]
   ·have e:zS (aZ n) (if(6:Int)=5 then 1 else 2) a.n=D (l0 (decide (a.n=0))):=by
     simp_all[if_neg,zS,if_pos,R0,Nn]
    simp_all[I.bC,I.aq,I.ret]
theorem Uk(aP:c=5\/c=6)(a9:gg a):Dd c a=D (qJ c a):=by
 refine I.bN ?_;unfold Dd qJ;refine I.aC (λh=>I.ret ?_) λh=>?_
 ·rw[if_pos (a9.gH.2 h)]
 ·have bw:a.fault=0:=by rcases a9 with h|h<;>omega
  have aM:=a9.fX bw;rw[if_neg (show ¬a.fault≠0 from λq=>q bw)];refine I.aC (λcy=>?_) λcy=>?_
  ·rw[if_pos cy,c8 aa aa];exact I.ret rfl
  ·rw[if_neg cy];cases decide (a.n=0)<;>exact I.ret rfl
theorem Ul(a9:gg a):gg (qJ c a):=by
 unfold qJ;split
 ·exact a9
 ·next h=>
  have aM:=a9.fX (uc.1 h);grind[DS,Uh]
end
def ys(a b q:Int):Prop:=q*b<=a/\a<(q+1)*b
variable {a b q:Int}
theorem ys.yj {r:Int}(aB:0<b)(h:ys a b q)(dp:ys a b r):q=r:=by
 rcases Uf q r with e|e|e
 ·have:(q+1)*b<=r*b:=adj aa aa;have:=h.2;have:=dp.1;omega
 ·exact e
 ·have:(r+1)*b<=q*b:=adj aa aa;have:=dp.2;have:=h.1;omega
theorem Um(a:Int)(aB:b≠0):kP (-a) (-b)=kP a b:=by unfold kP;rw[Int.tdiv_neg,Int.neg_tdiv,Int.neg_neg,Int.tmod_neg,Int.neg_tmod];omega
theorem He(aB:0<b):ys a b (kP a b):=by
 have h1:=adk a b;have h2:=Int.tmod_lt_of_pos a aB;have aJ:=Int.lt_tmod_of_pos a aB;have aP:a.tdiv b*b=b*a.tdiv b:=Int.mul_comm _ _;unfold kP ys;by_cases h:a.tmod b≠0/\¬(a.tmod b< 0↔b< 0)
 ·rw[if_pos h];grind
 grind
theorem ys.adt(aB:1<=b)(a9: -9999<=a/\a<=9999)(h:ys a b q): -9999<=q/\q<=9999:=by
 constructor
 ·rcases adl q (-9999)with h1|h1
  ·have h2:(-(q+1))*1<=(-(q+1))*b:=Nl aB aa;rw[adn,adn,Int.mul_one]at h2;have:=h.2;omega
  ·exact h1
 ·rcases adl 9999 q with h1|h1
  ·have:q*1<=q*b:=Nl aB aa;have:=h.1;omega
  ·exact h1
theorem No(aB:b≠0)(a9: -9999<=a/\a<=9999): -9999<=kP a b/\kP a b<=9999:=by
 rcases Uf b 0 with h|h|h
 ·rw[<-Um a aB];exact(He (a:= -a) (b:= -b) aa).adt aa aa
 ·omega
 ·exact(He h).adt aa a9
theorem Np(aB:b≠0)(ic: -9999<=b/\b<=9999): -9999<=a-b*kP a b/\a-b*kP a b<=9999:=by
 rcases Uf b 0 with h|h|h
 ·have:=He (a:= -a) (b:= -b) aa;rw[Um a aB]at this;have h1:=this.1;have h2:=this.2;grind
 ·omega
 ·have:=He (a:=a) h;have h1:=this.1;have h2:=this.2;grind
theorem apa(a b:Int):a-b*kP a b=if a.tmod b≠0/\¬(a.tmod b< 0↔b< 0)then a.tmod b+b else a.tmod b:=by have h1:=adk a b;unfold kP;grind
section
variable {n : Nat}
variable {a b:Int}
theorem apb(a9: -9999<=a/\a<=9999): -9999<=a.tdiv b/\a.tdiv b<=9999:=by have h:(a.tdiv b).natAbs=a.natAbs/b.natAbs:=Int.natAbs_tdiv a b;have h2:a.natAbs/b.natAbs<=a.natAbs:=Nat.div_le_self _ _;omega
theorem adu(aB:b≠0)(a9: -9999<=a/\a<=9999)(ic: -9999<=b/\b<=9999):F' a b=D (kP a b,a-b*kP a b):=by
 have aM:=Np (a:=a) aB ic;have aE:=No aB a9;have ai:=apb (b:=b) a9;have adv:=apa a b;refine I.bN ?_;unfold F';have az:uq a b=D (a.tdiv b):=by unfold uq;rw[if_neg aB]
 have hm:ur a b=D (a.tmod b):=by unfold ur;rw[if_neg aB]
 have aP:(!decide (a.tmod b=0)&& !(decide (a.tmod b< 0)==decide (b< 0)))=decide (a.tmod b≠0/\¬(a.tmod b< 0↔b< 0)):=by rw[Bool.eq_iff_iff,decide_eq_true_eq,Bool.and_eq_true,mZ,mZ,decide_eq_false_iff_not,beq_eq_false_iff_ne,ne_eq,decide_eq_decide]
 refine I.aq az (I.aq hm ?_);rw[aP,c8 (n:=a.tdiv b) aa aa];refine I.aC (λh=>I.ret ?_) λh=>I.ret ?_
 ·rw[if_pos h]at adv;have jN:kP a b=a.tdiv b- 1:=by unfold kP;rw[if_pos h]
  rw[adv]at aM⊢;rw[jN]at aE⊢;rw[c8 aa aa,c8 aa aa]
 simp_all[if_neg,kP]
theorem Un(a b:Int):CS a b=D (if a<b then-1 else if b<a then 1 else 0):=by refine I.bN ?_;unfold CS Lb;rw[decide_eq_true (rfl:a=a),decide_eq_true (rfl:b=b)];refine I.aq rfl (I.aq rfl (I.bC cF λ_=>I.bC cF λ_=>I.aC (λh=>I.ret (by rw[if_pos h])) λh=>I.aC (λh2=>I.ret (by rw[if_neg h,if_pos h2])) λh2=>I.ret (by rw[if_neg h,if_neg h2])))
theorem adw(a9: -9999<=a/\a<=9999)(ic: -9999<=b/\b<=9999):K' (aZ n) a b=D (if b=0 then pg 1 else num (kP a b))/\La (aZ n) a b=D (if b=0 then pg 1 else num (a-b*kP a b)):=by
 by_cases aB:b=0
 ·subst aB;exact⟨rfl,rfl⟩
 ·have aM:=Np (a:=a) aB ic;have aE:=No aB a9;constructor
  ·refine I.bN ?_;unfold K' R5;refine I.aC (λh=>absurd h aB) λ_=>I.aq (adu aB a9 ic) (I.aq rfl (I.aq (rJ _) (I.ret ?_)));rw[if_neg aB];dsimp only;unfold mg;rw[if_pos aE]
  ·refine I.bN ?_;unfold La R6;refine I.aC (λh=>absurd h aB) λ_=>I.aq (adu aB a9 ic) (I.aq rfl (I.aq (rJ _) (I.ret ?_)));rw[if_neg aB];dsimp only;unfold mg;rw[if_pos aM]
theorem Uo(a b:Int):Lc (aZ n) a b=D (l0 (decide (a=b)))/\Ld (aZ n) a b=D (l0 (decide (a<b)))/\Le (aZ n) a b=D (l0 (decide (a<=b))):=by
 have h:∀z:bt,(⟨z.fault,z.n⟩:bt)=z:=λ_=>rfl;refine⟨I.bN ?_,I.bN ?_,I.bN ?_⟩
 ·unfold Lc R7;refine I.aq (Un a b) (I.aq rfl (I.aq (Nn _) (I.ret ?_)));rw[h];congr 1;grind
 ·unfold Ld R8;refine I.aq (Un a b) (I.aq rfl (I.aq (Nn _) (I.ret ?_)));rw[h];congr 1;grind
 ·unfold Le R9;refine I.aq (Un a b) (I.aq rfl (I.aq (Nn _) (I.ret ?_)));rw[h];congr 1;grind
def yt(c:Int):Prop:=c=7\/c=8\/c=9\/c=10\/c=11\/c=12\/c=13\/c=14
theorem Hf(a9: -9999<=a/\a<=9999)(aB: -9999<=b/\b<=9999): -99980001<=a*b/\a*b<=99980001:=by have h:(a*b).natAbs=a.natAbs*b.natAbs:=Int.natAbs_mul a b;have h2:a.natAbs*b.natAbs<=9999*9999:=Nat.mul_le_mul aa aa;omega
variable {c:Int}
theorem apc{a b:bt}(aP:yt c)(a9:gg a)(aB:gg b):Lg (aZ n) c a b=D (kQ c a b,0):=by
 have mK:c≠15/\c≠16:=by unfold yt at aP;omega
 have bj:∃z:Nat,R4 c=D z/\z≠0/\(a.fault=0->b.fault=0->Lf (aZ n) z a.n b.n=D (kQ c a b)):=by
  have key:a.fault=0->b.fault=0->(-9999<=a.n/\a.n<=9999)/\(-9999<=b.n/\b.n<=9999):=λh1 h2=>⟨a9.fX h1,aB.fX h2⟩
  have hE:a.fault=0->b.fault=0->kQ c a b=if c=7 then mg (a.n+b.n)else if c=8 then mg (a.n-b.n)else if c=9 then mg (a.n*b.n)else
    if c=12 then l0 (decide (a.n=b.n))else if c=13 then l0 (decide (a.n<b.n))else if c=14 then l0 (decide (a.n<=b.n))else
    if b.n=0 then pg 1 else if c=10 then num (kP a.n b.n)else num (a.n-b.n*kP a.n b.n):=λh1 h2=>by
   unfold kQ;rw[if_neg (λq=>q h1),if_neg (λq=>q h2)]
  rcases aP with rfl|rfl|rfl|rfl|rfl|rfl|rfl|rfl
  ·refine⟨1,rfl,by decide,λh1 h2=>?_⟩;obtain⟨dA,e7⟩:=key h1 h2;rw[hE h1 h2];show aw (mc (aZ n) (aH (a.n+b.n))) _=_;rw[rJ,c8 aa aa];rfl
  ·refine⟨2,rfl,by decide,λh1 h2=>?_⟩;obtain⟨dA,e7⟩:=key h1 h2;rw[hE h1 h2];show aw (mc (aZ n) (aH (a.n-b.n))) _=_;rw[rJ,c8 aa aa];rfl
  ·refine⟨3,rfl,by decide,λh1 h2=>?_⟩;obtain⟨dA,e7⟩:=key h1 h2;have:=Hf dA e7;rw[hE h1 h2];show aw (mc (aZ n) (aH (a.n*b.n))) _=_;rw[rJ,c8 aa aa];rfl
  ·refine⟨4,rfl,by decide,λh1 h2=>?_⟩;obtain⟨dA,e7⟩:=key h1 h2;rw[hE h1 h2];exact(adw dA e7).1
  ·refine⟨5,rfl,by decide,λh1 h2=>?_⟩;obtain⟨dA,e7⟩:=key h1 h2;rw[hE h1 h2];exact(adw dA e7).2
  ·refine⟨6,rfl,by decide,λh1 h2=>?_⟩;rw[hE h1 h2];exact(Uo _ _).1
  ·refine⟨7,rfl,by decide,λh1 h2=>?_⟩;rw[hE h1 h2];exact(Uo _ _).2.1
  ·refine⟨8,rfl,by decide,λh1 h2=>?_⟩;rw[hE h1 h2];exact(Uo _ _).2.2
 obtain⟨z,rC,MV,aCu⟩:=bj;refine I.bN ?_;unfold Lg;refine I.aC (λh=>absurd h mK.1) λ_=>I.aC (λh=>absurd h mK.2) λ_=>I.aq rC (I.aC (λh=>absurd h MV) λ_=>I.aq (Uj fT λv bg=>?_) (I.bC cF λ_=>I.aq (ao8 a b) ?_))
 ·grind
 ·by_cases h1:a.fault≠0
  ·simp only[if_pos h1];show Dp.I (D ((⟨a.fault,a.n⟩:bt),(0:Int))) _;refine I.ret ?_;unfold kQ;rw[if_pos h1]
  ·by_cases h2:b.fault≠0
   ·simp only[if_neg h1,if_pos h2];show Dp.I (D ((⟨b.fault,b.n⟩:bt),(0:Int))) _;refine I.ret ?_;unfold kQ;rw[if_neg h1,if_pos h2]
   simp_all[if_neg,I.bC,I.aq,uc,I.ret]
theorem Up{a b:bt}(a9:gg a)(aB:gg b):gg (kQ c a b):=by
 unfold kQ;split
 ·exact a9
 ·next h1=>
  split
  ·exact aB
  ·next h2=>
   have dA:=a9.fX (uc.1 h1);have e7:=aB.fX (uc.1 h2);grind[adp,Uh,Nm,DS,No,Np]
end
section
variable {n : Nat}
theorem adx{a b:Int}(a9: -9999<=a/\a<=9999)(aB:1<=b/\b<=9999):Gs (aZ n) (a,b)=D (kP a b):=by
 refine I.bN ?_;unfold Gs;show I (SN (aZ n) b a 0) _;unfold SN;refine I.b8 (λs:Int=>∃k:Nat,s=k/\(k=0\/(k:Int)*b<=a)) (λs=>10001-s.toNat) ?_ ⟨0,rfl,.inl rfl⟩;rintro _ ⟨k,rfl,au⟩;have nM:(k:Int)<=9999/\0<=(k:Int)*b/\(k:Int)*b<=9999:=by
  rcases au with rfl|au
  ·simp
  ·have:(k:Int)*1<=(k:Int)*b:=Nl aB.1 aa;omega
 have a5:((k:Int)+1)*b=(k:Int)*b+b:=by rw[ado,adm]
 have bk:aH (aH ((k:Int)+1)*b)=((k:Int)+1)*b:=by rw[c8 (n:=(k:Int)+1) aa aa,c8 aa aa]
 rw[bk];refine I.aC (λh=>I.inl ⟨⟨k+1,cM aa,.inr cK⟩,?_⟩) λh=>I.dk ?_
 ·grind[cM,Nl]
 ·unfold abA;refine I.b8 (λs:Int=>a<(s+1)*b/\s<=9999/\ -9999<=s) (λs=>(s+10000).toNat) ?_ ⟨aa,aa,aa⟩;rintro s ⟨h1,h2,aJ⟩;have hm:=Hf (a:=s) (b:=b) ⟨aJ,h2⟩ aa;rw[c8 (n:=s*b) aa aa];refine I.aC (λh=>?_) λh=>I.inr ?_
  ·have aV: -9998<=s:=by
    grind
   rw[c8 (n:=s- 1) aa aa];exact I.inl ⟨⟨cK,aa,aa⟩,aa⟩
  ·exact ys.yj aa ⟨aa,h1⟩ (He aa)
theorem apd{a b:Int}(ab1:b≠0)(a9: -9999<=a/\a<=9999)(aB: -9999<=b/\b<=9999):Md (aZ n) a b=D (kP a b):=by
 refine I.bN ?_;unfold Md;refine I.aC (λh=>?_) λh=>?_
 ·grind[c8,I.aY,adx,Um]
 grind[I.aY,adx]
theorem Uq(x:Int):Db x=D (mg x):=by
 refine I.bN ?_;unfold Db mg;refine I.bC (λh=>I.aq rfl (I.ret ?_)) λh=>I.aq rfl (I.ret ?_)
 ·rw[hk,decide_eq_true_eq,decide_eq_true_eq]at h;rw[if_neg aa];rfl
 ·rw[iM,decide_eq_false_iff_not,decide_eq_false_iff_not]at h;rw[if_pos aa];rfl
theorem Ur(b:Bool):Dc b=D (l0 b):=by cases b<;>rfl
theorem ape{c:Int}{a b:bt}(aP:yt c)(a9:gg a)(aB:gg b):o6 (aZ n) c a b=D (kQ c a b):=by
 refine I.bN ?_;unfold o6 kQ;by_cases h1:a.fault≠0
 ·refine I.aC (λ_=>I.ret ?_) λh=>absurd (a9.gH.1 h1) h;rw[if_pos h1]
 ·have w9:a.fault=0:=uc.1 h1;have dA:=a9.fX w9;rw[if_neg h1];have ady:c≠15/\c≠16:=by unfold yt at aP;omega
  refine I.aC br λ_=>I.bC (λh=>?_) λ_=>I.bC (λh=>?_) λ_=>I.bC (λh=>?_) λ_=>?_
  ·simp_all
  ·simp_all
  ·simp_all
  by_cases h2:b.fault≠0
  ·refine I.aC (λ_=>I.ret ?_) λh=>absurd (aB.gH.1 h2) h;rw[if_pos h2]
  ·have k8:b.fault=0:=uc.1 h2;have e7:=aB.fX k8;have hm:=Hf dA e7;rw[if_neg h2];refine I.aC br λ_=>I.aC (λh=>?_) λgX=>I.aC (λh=>?_) λgO=>I.aC (λh=>?_) λfP=>I.aC (λh=>?_) λo7=>I.aC (λh=>?_) λadz=>I.aC (λh=>?_) λadA=>I.aC (λh=>?_) λbw=>?_
   ·rw[if_pos h,c8 aa aa];exact I.aq (Uq _) (I.ret rfl)
   ·rw[if_neg gX,if_pos h,c8 aa aa];exact I.aq (Uq _) (I.ret rfl)
   ·rw[if_neg gX,if_neg gO,if_pos h,c8 aa aa];exact I.aq (Uq _) (I.ret rfl)
   ·simp_all[if_neg,if_pos,I.aq,Ur,I.ret]
   ·simp_all[if_neg,if_pos,I.aq,Ur,I.ret]
   ·simp_all[if_neg,if_pos,I.aq,Ur,I.ret]
   ·rw[if_neg gX,if_neg gO,if_neg fP,if_neg o7,if_neg adz,if_neg adA,if_pos h];exact I.aq rfl (I.ret rfl)
   ·rw[if_neg gX,if_neg gO,if_neg fP,if_neg o7,if_neg adz,if_neg adA,if_neg bw];have aE:=No bw dA;have aM:=Np (a:=a.n) bw e7;have al8:=Hf e7 aE;refine I.aq (apd bw dA e7) (I.aC (λh=>?_) λh=>?_)
    ·rw[if_pos h];exact I.aq rfl (I.ret rfl)
    ·rw[if_neg h,c8 (n:=b.n*kP a.n b.n) aa aa,c8 aa aa];exact I.aq rfl (I.ret rfl)
theorem DT(v:bt){k:Nat}(au:k<=100000):v5 (aZ n) v (k:Int)=D (dm k v):=by
 refine I.bN ?_;unfold v5 abx;refine I.for k (λi (o:List bt)=>(o,(i:Int))) (λi o=>o=dm i v) (t0:=[]) rfl rfl (λi o ao bq=>?_) λo bq=>?_
 ·subst bq;refine I.aC (λ_=>I.aq (jj dt) (I.inl ⟨_,by rw[cM aa],?_⟩)) dv;rw[Ug]
 simp_all[I.aC,absurd,I.inr]
end
section
variable {n : Nat}
theorem adB{α:Type}{m:Nat}(h:m<=1000000)(x:α):mk (m:Int) x=D (dm m x):=by unfold mk;rw[if_pos aa,eq]
variable {N:Nat}
theorem apf(e0:N<=800)(x d:bt):I (Sh (aZ n) (dm N d) (((min 1 N:Nat):Int),[x].take N++(dm N d).drop (min 1 N))) λr=>r=(N,dm N x):=by
 unfold Sh;have bA:(dm N d).length=N:=by simp
 rw[bA];refine I.b8 (λs:Int×List bt=>∃k:Nat,s.1=k/\k<=N/\(0<N->0<k)/\s.2.length=N/\∀j,j<k->s.2[j]? =D x) (λs=>N-s.1.toNat) ?_ ⟨min 1 N,rfl,aa,aa,dt,λj ae=>?_⟩
 ·rintro⟨_,c⟩ ⟨k,rfl,au,tC,aK,aP⟩;dsimp only at aK aP⊢;simp only[eq];refine I.aC (λh=>?_) λh=>?_
  ·refine I.aq (z:=()) (by unfold xm;rw[if_pos aa]) (I.aq (z:=()) (by unfold xn;rw[if_pos aa]) ?_);have bk:te c (0+k) (N-k) 0 k=D (c.take k++(c.take k).take (N-k)++c.drop (k+min k (N-k))):=by
    simp_all[te,if_pos,mD]
   refine I.aq bk (I.inl ⟨⟨k+min k (N-k),?_,aa,aa,?_,λj ae=>?_⟩,?_⟩)
   ·grind[aH,c8]
   ·grind
   ·grind
   grind[aH,c8]
  ·refine I.inr ?_;have:k=N:=by omega
   subst this;congr 1;have:=(Tj (x:=x) (c:=c) (s:=k) aa).2 aP
   rwa[fz aa]at this
 grind
theorem apg(e0:N<=800)(x d:bt):I (Sa (aZ n) (dm N d) (((min 1 N:Nat):Int),[x].take N++(dm N d).drop (min 1 N))) λr=>r=dm N x:=by
 unfold Sa;have bA:(dm N d).length=N:=by simp
 rw[bA];refine I.b8 (λs:Int×List bt=>∃k:Nat,s.1=k/\k<=N/\(0<N->0<k)/\s.2.length=N/\∀j,j<k->s.2[j]? =D x) (λs=>N-s.1.toNat) ?_ ⟨min 1 N,rfl,aa,aa,dt,λj ae=>?_⟩
 ·rintro⟨_,c⟩ ⟨k,rfl,au,tC,aK,aP⟩;dsimp only at aK aP⊢;simp only[eq];refine I.aC (λh=>?_) λh=>?_
  ·refine I.aq (z:=()) (by unfold xm;rw[if_pos aa]) (I.aq (z:=()) (by unfold xn;rw[if_pos aa]) ?_);have bk:te c (0+k) (N-k) 0 k=D (c.take k++(c.take k).take (N-k)++c.drop (k+min k (N-k))):=by
    simp_all[te,if_pos,mD]
   refine I.aq bk (I.inl ⟨⟨k+min k (N-k),?_,aa,aa,?_,λj ae=>?_⟩,?_⟩)
   ·grind[aH,c8]
   ·grind
   ·grind
   grind[aH,c8]
  ·have:k=N:=by omega
   subst this;have h2:=(Tj (x:=x) (c:=c) (s:=k) aa).2 aP;rw[fz aa]at h2;have AI:gH k c=D c:=by unfold gH;rw[if_pos aK]
   exact I.dk (I.aq AI (I.ret h2))
 grind
theorem adC(e0:N<=800)(x:bt):CT (aZ n) [x] (N:Int)=D (N,dm N x):=by
 refine I.bN ?_;unfold CT;refine I.aC br λ_=>?_;have a5:IntKind.u64.wrap (([x]:List bt).length:Int)=IntKind.u64.wrap 1:=rfl;rw[a5];refine I.aq (Ti N e0) ?_;dsimp only;rw[if_neg dt,E4 aa];refine I.aq (adB aa _) ?_;have jc:mD (dm N (⟨0,0⟩:bt)) 0 (dm N (⟨0,0⟩:bt)).length [x]=D ([x].take N++(dm N (⟨0,0⟩:bt)).drop (min 1 N)):=by simp_all[mD,if_pos]
 grind[I.aq,min,dm,apf]
theorem aph(e0:N<=800)(x:bt):Lm (aZ n) [x] (N:Int)=D (dm N x):=by
 refine I.bN ?_;unfold Lm;refine I.aC br λ_=>?_;have a5:IntKind.u64.wrap (([x]:List bt).length:Int)=IntKind.u64.wrap 1:=rfl;rw[a5];refine I.aq (Ti N e0) ?_;dsimp only;rw[if_neg dt,E4 aa];refine I.aq (adB aa _) ?_;have jc:mD (dm N (⟨0,0⟩:bt)) 0 (dm N (⟨0,0⟩:bt)).length [x]=D ([x].take N++(dm N (⟨0,0⟩:bt)).drop (min 1 N)):=by simp_all[mD,if_pos]
 grind[I.aq,min,dm,apg]
end
def wA(l:List bt)(w:Nat)(x:bt):List bt:=
 if x.fault≠0 then dm w x else if x.n< 0\/(l.length:Int)<(x.n+1)*w then dm w (pg 3)else(l.drop (x.n.toNat*w)).take w
section
variable {n : Nat}
theorem api{a b:Int}(a9:1<=a/\a<=8)(aB:1<=b/\b<=8):xV (aZ n) 1 8 ([a,b]:List Int)=D ah:=by
 refine I.bN ?_;unfold xV K7 K6 RW;have e:∀x:Int,1<=x/\x<=8->F9 x 1 8=D aQ:=λx ar=>by simp_all[F9,decide_eq_false]
 refine I.aq (z:=aQ) (I.bN (I.aq (z:= -1) (I.bN ?_) (I.ret rfl))) (I.ret rfl);refine I.ij (I.aC (λ_=>I.aq (z:=a) rfl (I.aq (e a a9) (I.bC cF λ_=>I.inl ?_))) λh=>absurd (show(0:Int)<((2:Nat):Int) by decide) h);refine I.ij (I.aC (λ_=>I.aq (z:=b) rfl (I.aq (e b aB) (I.bC cF λ_=>I.inl ?_))) λh=>absurd (show aH (0+1)<((2:Nat):Int) by decide) h);exact I.ij (I.aC (λh=>absurd h (show ¬aH (aH (0+1)+1)<((2:Nat):Int) by decide)) λ_=>I.inr rfl)
variable {k:Nat}{l:List bt}{w:Nat}{x:bt}
theorem apj(aK:l.length=w*k):(wA l w x).length=w:=by unfold wA;grind
theorem apk(aK:∀v∈l,gg v)(ar:gg x):∀v∈wA l w x,gg v:=by grind[wA,Nm,List.mem_of_mem_drop,List.mem_of_mem_take]
theorem apl(aK:l.length=w*k)(gO:w*k<=8)(hw:1<=w)(au:1<=k/\k<=6)(aP:∀v∈l,gg v)(ar:gg x):Ly (aZ n) l (w:Int) x=D (wA l w x,0):=by
 have lz:w<=w*k:=Nat.le_mul_of_pos_right _ aa;have a5:(l.length:Int)=(w:Int)*(k:Int):=by omega
 have apm:ur (l.length:Int) (w:Int)=D 0:=by unfold ur;rw[if_neg aa,a5,Int.mul_tmod_right]
 have apn:uq (l.length:Int) (w:Int)=D (k:Int):=by unfold uq;rw[if_neg aa,a5,Int.mul_tdiv_cancel_left _ aa]
 refine I.bN ?_;unfold Ly wA;refine I.aq (api aa aa) (I.bC cF λ_=>I.aq apm (I.eh (λh=>absurd rfl h) λ_=>I.aq apn (I.aC (λh=>?_) λ_=>I.aq (Uj fT λv bg=>by simp_all) (I.bC cF λ_=>I.aq (Uj aa aP) (I.bC cF λ_=>I.aq rfl (I.aq (adC aa _) (I.aq (adr x) ?_)))))))
 ·grind[c8]
 by_cases a8:x.fault≠0
 ·simp only[if_pos a8];have AI:gH w (dm w x)=D (dm w x):=by unfold gH;rw[if_pos fT]
  show I (aw (CT (aZ n) ([x]:List bt) (w:Int)) λci=>aw (gH ci.1 ci.2) λcP=>D (cP,(0:Int))) _;grind[I.aq,adC,I.ret]
 ·simp only[if_neg a8];refine I.bC (c:=aQ) cF λ_=>?_;have apo:Lw l (w:Int)=D (l,(w:Int)):=by unfold Lw;rw[if_neg dt]
  refine I.aq apo ?_;have fJ:∀i,i<k->i*w+w<=l.length:=λi ao=>by have:(i+1)*w<=k*w:=oE _ ao;grind
  have rY:∀i,k<=i->l.length<=i*w:=λi ao=>by have:k*w<=i*w:=oE _ ao;grind
  have bk:∀i:Nat,((i*w:Nat):Int)=(i:Int)*(w:Int):=λi=>DF _ _;have loop:I (Lx (aZ n) l (w:Int) x w 0 (dm w (⟨3,0⟩:bt))) λz=>z.2=if x.n< 0\/(l.length:Int)<(x.n+1)*w then dm w (pg 3)else(l.drop (x.n.toNat*w)).take w:=by
   unfold Lx aaO;refine I.for k (λi (o:List bt)=>(((i*w:Nat):Int),(i:Int),o)) (λi o=>o=if 0<=x.n/\x.n<(i:Int)then(l.drop (x.n.toNat*w)).take w else dm w (pg 3)) (t0:=dm w (⟨3,0⟩:bt)) fT (by rw[if_neg aa];rfl) (λi o ao bq=>?_) λo bq=>?_
   ·have hle:=fJ i ao;have dN:i*w<=8:=by omega
    refine I.aC (λ_=>I.aq (yb aa (b5 _)) ?_) dv;have wv:(((l.drop (i*w)).take (l.length-i*w)).length:Int)=((l.length-i*w:Nat):Int):=by simp
    rw[wv];have app:ih (w:Int) ((l.length-i*w:Nat):Int)=(w:Int):=by unfold ih;split<;>omega
    rw[app];have apq:aH (((i*w:Nat):Int)+(w:Int))=((i*w+w:Nat):Int):=by grind[c8]
    rw[apq];have Hg:uv l ((i*w:Nat):Int) ((i*w+w:Nat):Int) ((i*w+w:Nat):Int)=D ((l.drop (i*w)).take w):=by unfold uv;rw[if_pos ⟨aa,aa⟩,yb aa hle];rw[show i*w+w-i*w=w by omega]
    refine I.aq Hg ?_;have eE:((l.drop (i*w)).take w).length=w:=by grind
    have W2:o.length=w:=by
     rw[bq];split
     ·next h=>
      have:=fJ x.n.toNat aa;grind
     ·simp
    unfold Si;have yq:((i*w+w:Nat):Int)=(((i+1)*w:Nat):Int):=by rw[Nat.add_mul,Nat.one_mul]
    by_cases he:(i:Int)=x.n
    ·have apr:mD o 0 w ((l.drop (i*w)).take w)=D ((l.drop (i*w)).take w):=by
      unfold mD;rw[if_pos aa,eE];have az:o.drop (0+min w w)=[]:=List.drop_of_length_le aa;rw[az,List.take_zero,List.nil_append,j3,fz aa]
     refine I.aq (z:=(aH ((i:Int)+1),(l.drop (i*w)).take w)) (I.bN (I.aC (λ_=>I.aq apr (I.ret rfl)) λh=>absurd he h)) (I.inl ⟨(l.drop (i*w)).take w,?_,?_⟩)
     ·rw[cM aa,yq]
     grind
    ·refine I.aq (z:=(aH ((i:Int)+1),o)) (I.bN (I.aC (λh=>absurd h he) λ_=>I.ret rfl)) (I.inl ⟨o,?_,?_⟩)
     ·rw[cM aa,yq]
     grind
   ·have hle:=rY k (b5 _);refine I.aC br λ_=>I.inr ?_;dsimp only;rw[bq];by_cases h:0<=x.n/\x.n<(k:Int)
    ·rw[if_pos h,if_neg];have:=fJ x.n.toNat aa;grind
    ·rw[if_neg h,if_pos];by_cases a_:x.n< 0
     ·omega
     ·have gX:(k+1)*w<=(x.n.toNat+1)*w:=oE _ aa;grind
  refine I.bind loop λz bj=>?_;have hlen:z.2.length=w:=by grind
  simp_all[gH,if_pos,I.aq,I.ret]
theorem aps(gO:l.length<=8)(hw:w<=8)(ar:gg x):Mh (aZ n) l (w:Int) x=D (wA l w x):=by
 refine I.bN ?_;unfold Mh abC wA;refine I.for w (λi (o:List bt)=>(o,(i:Int))) (λi o=>o=if x.fault≠0 then dm i x else if x.n< 0\/(l.length:Int)<(x.n+1)*w then dm i (pg 3)else(l.drop (x.n.toNat*w)).take i) (t0:=[]) rfl fT (λi o ao bq=>?_) λo bq=>?_
 ·refine I.aC (λ_=>?_) dv;by_cases a8:x.fault≠0
  ·rw[if_pos a8]at bq⊢;subst bq;refine I.aC (λ_=>I.aq (jj dt) (I.inl ⟨_,by rw[cM aa],by rw[Ug]⟩)) λh=>absurd (ar.gH.1 a8) h
  ·have bw:x.fault=0:=uc.1 a8;have aM:=ar.fX bw;rw[if_neg a8]at bq⊢;have hm:=Hf (a:=x.n) (b:=(w:Int)) aM aa;have a5:aH (aH (x.n+1)*(w:Int))=(x.n+1)*(w:Int):=by
    rw[c8 (n:=x.n+1) aa aa,c8]
    ·grind
    grind
   rw[a5];refine I.aC br λ_=>I.bC (λh=>?_) λh=>?_
   ·rw[hk,decide_eq_true_eq,decide_eq_true_eq]at h;rw[if_pos h]at bq⊢;subst bq;exact I.aq (z:=pg 3) rfl (I.aq (jj dt) (I.inl ⟨_,by rw[cM aa],by rw[Ug]⟩))
   ·rw[iM,decide_eq_false_iff_not,decide_eq_false_iff_not]at h;rw[if_neg (not_or.2 h)]at bq⊢;subst bq;have gT:((x.n.toNat*w:Nat):Int)=x.n*(w:Int):=by
     rw[DF,show((x.n.toNat:Nat):Int)=x.n by omega]
    have h2:=h.2;rw[ado,adm,<-gT]at h2;have c0:aH (aH (x.n*(w:Int))+(i:Int))=((x.n.toNat*w+i:Nat):Int):=by grind[E4,c8]
    rw[c0];have dN:x.n.toNat*w+i<l.length:=by omega
    have bg:l[x.n.toNat*w+i]? =D (l[x.n.toNat*w+i]):=cq dN;refine I.aL bg (I.aq (jj dt) (I.inl ⟨_,by rw[cM aa],?_⟩));have wB:(l.drop (x.n.toNat*w))[i]? =D (l[x.n.toNat*w+i]):=by simp
    rw[gd wB]
 simp_all[I.aC,absurd,I.inr]
end
theorem eK.inj:∀{bn bX:eK},bn.ok->bX.ok->bn.bR=bX.bR->bn=bX:=by
 intro bn;induction bn with
 |int=>
  intro bX _ u9 h;cases bX with
  |int=>rfl
  |bool=>exact absurd h eu
  |hb s=>exact absurd (show fF e2 by rw[show e2=s from h];exact u9) fF.M2
  |gl bX k=>exact absurd (show e2[0]? =D 91 by rw[show e2=hU bX.bR k from h];exact p0 _ _) eu
 |bool=>
  intro bX _ u9 h;cases bX with
  |int=>exact absurd h eu
  |bool=>rfl
  |hb s=>exact absurd (show fF eO by rw[show eO=s from h];exact u9) fF.M3
  |gl bX k=>exact absurd (show eO[0]? =D 91 by rw[show eO=hU bX.bR k from h];exact p0 _ _) eu
 |hb s=>
  intro bX hB u9 h;cases bX with
  |int=>exact absurd (show fF e2 by rw[show e2=s from h.symm];exact hB) fF.M2
  |bool=>exact absurd (show fF eO by rw[show eO=s from h.symm];exact hB) fF.M3
  |hb s'=>have:s=s':=h;rw[this]
  |gl bX k=>exact absurd (show s[0]? =D 91 by rw[show s=hU bX.bR k from h];exact p0 _ _) (fF.bw hB)
 |gl bn k bB=>
  intro bX hB u9 h;cases bX with
  |int=>exact absurd (show e2[0]? =D 91 by rw[show e2=hU bn.bR k from h.symm];exact p0 _ _) eu
  |bool=>exact absurd (show eO[0]? =D 91 by rw[show eO=hU bn.bR k from h.symm];exact p0 _ _) eu
  |hb s'=>exact absurd (show s'[0]? =D 91 by rw[show s'=hU bn.bR k from h.symm];exact p0 _ _) (fF.bw u9)
  |gl bX cA=>obtain⟨h1,h2⟩:=GR h;rw[bB hB.1 u9.1 h1,TD hB.2 u9.2 h2]
def ez(t:bf)(bn:eK):Nat:=(gw t t.nodes.length (2*t.nodes.length+2) bn).getD 0
open Classical in
noncomputable def fu(t:bf)(s:ByteArray):Nat:=if h:∃bn:eK,bn.ok/\bn.bR=s then ez t (wO h)else 0
theorem p3{t:bf}{bn:eK}(h:bn.ok):fu t bn.bR=ez t bn:=by
 have ar:∃bX:eK,bX.ok/\bX.bR=bn.bR:=⟨bn,h,rfl⟩
 unfold fu;rw[dif_pos ar];have:=Ej ar;rw[eK.inj this.1 h this.2]
abbrev gq:=Nat->List bt
abbrev sH:=List bt×Nat×Nat
def kr(t:bf)(j:Nat):Prop:=ei (af t j).kind=ah\/(af t j).kind=25
def tN(fr:gq)(j:Nat)(l:List bt):gq:=λm=>if m=j then l else fr m
def iO:List Int->List (List bt)->gq
 |p::ps,l::ls=>λm=>if(m:Int)=p then l else iO ps ls m
 |_,_=>λ_=>[]
def bP(t:bf)(j i:Nat):Nat:=match(bd t j)[i]? with|some q=>q.toNat|none=>0
def AJ(k:Int)(a b:bt):bt:=
 if k=6 then kQ 7 a b else if k=7 then kQ 8 a b else if k=8 then kQ 9 a b else if k=9 then kQ 10 a b else if k=10 then kQ 11 a b else
 if k=11 then kQ 12 a b else if k=12 then qJ 6 (kQ 12 a b)else if k=13 then kQ 13 a b else if k=14 then kQ 14 a b else if k=15 then qJ 6 (kQ 14 a b)else qJ 6 (kQ 13 a b)
def ha(l:List bt):bt:=match l with|v::_=>v|[]=>pg 0
def lA:List Nat->Nat
 |[]=>0
 |a::r=>max a (lA r)
def lB(t:bf)(f:ByteArray):List Int->Nat->Nat
 |[],a=>a
 |q::oa,a=>if(af t q.toNat).bi=f then a else lB t f oa (a+ez t (dn t q.toNat))
def rK(t:bf)(aT:Nat->Int)(R:Nat->gq->Int->Nat->sH)(fr:gq)(d:Nat):List bt:=
 if(af t d).kind=40 then [mg (aT d)]else if(af t d).kind=43 then(R (dR t d) (λ_=>[]) (-1) 0).1 else fr d
section
variable (t : bf) (O : Nat -> ByteArray) (aT : Nat -> Int)
noncomputable def kR(R:Nat->gq->Int->Nat->sH)(j:Nat)(fr:gq)(f:Int)(e:Nat):sH:=
 if(af t j).kind=1\/(af t j).kind=2 then([num (af t j).n],1,0)
 else if(af t j).kind=3 then(rK t aT R fr (eS t j).toNat,1,0)
 else if(af t j).kind=20 then
  ((R (bP t j 1) (tN fr j (R (bP t j 0) fr f e).1) f e).1,1+(R (bP t j 0) fr f e).2.1+(R (bP t j 1) (tN fr j (R (bP t j 0) fr f e).1) f e).2.1,max (R (bP t j 0) fr f e).2.2 (R (bP t j 1) (tN fr j (R (bP t j 0) fr f e).1) f e).2.2)
 else if(af t j).kind=17\/(af t j).kind=18\/(af t j).kind=19 then
  let a:=R (bP t j 0) fr f e
  let v:=ha a.1
  if v.fault≠0 then(dm (fu t (O j)) v,1+a.2.1,a.2.2)
  else if((af t j).kind=18/\v.n=0)\/((af t j).kind≠18/\v.n≠0)then((R (bP t j 1) fr f e).1,1+a.2.1+(R (bP t j 1) fr f e).2.1,max a.2.2 (R (bP t j 1) fr f e).2.2)
  else if(af t j).kind=19 then((R (bP t j 2) fr f e).1,1+a.2.1+(R (bP t j 2) fr f e).2.1,max a.2.2 (R (bP t j 2) fr f e).2.2)
  else([l0 (decide (v.n≠0))],1+a.2.1,a.2.2)
 else
  let jV:=(bd t j).map λq=>R q.toNat fr f e
  let l:=jV.flatMap (·.1)
  let s:=1+(jV.map (·.2.1)).sum
  let m:=lA (jV.map (·.2.2))
  if(af t j).kind=4 then([qJ 5 (ha l)],s,m)else if(af t j).kind=5 then([qJ 6 (ha l)],s,m)
  else if 6<=(af t j).kind/\(af t j).kind<=16 then([AJ (af t j).kind (ha l) (ha l.tail)],s,m)
  else if(af t j).kind=21 then
   (if(af t (eS t j).toNat).n<(gF t j f e:Int)then(dm (fu t (O j)) (pg 4),s,m)
    else
    let b:=R (ey t (eS t j).toNat) (iO (dh t (eS t j).toNat) (jV.map (·.1))) (eS t j) (gF t j f e)
    (b.1,s+b.2.1,max m (1+b.2.2)))
  else if(af t j).kind=22 then
   (match iN t (O (bP t j 0))with
    |some r=>(match(bd t r).find? λq=>decide ((af t q.toNat).bi=(af t j).bi)with
     |some q=>((l.drop (lB t (af t j).bi (bd t r) 0)).take (ez t (dn t q.toNat)),s,m)
     |none=>([],s,m))
    |none=>([],s,m))
  else if(af t j).kind=23 then(wA ((R (bP t j 0) fr f e).1) (fu t (O j)) (ha (R (bP t j 1) fr f e).1),s,m)
  else(l,s,m)
noncomputable def DU:Nat->Nat->gq->Int->Nat->sH
 |0,_,_,_,_=>([],0,0)
 |k+1,j,fr,f,e=>kR t O aT (DU k) j fr f e
noncomputable def bo(j:Nat)(fr:gq)(f:Int)(e:Nat):sH:=DU t O aT (dy t e j+1) j fr f e
end
section
variable {t : bf} {O : Nat -> ByteArray} {aT : Nat -> Int}
theorem DV{j i:Nat}{m:Nat}(h:(bd t j)[i]? =D (m:Int)):bP t j i=m:=by unfold bP;grind
variable (ai : c7 t) (aO : hA t) (aS : ∀ i, i < t.nodes.length -> gv t i = 0)
include ai aO aS
variable {d:Nat}
theorem Nq(az:d<t.nodes.length)(au:(af t d).kind=43):gW t (-1) 0 (dR t d)/\(dz t (dR t d)).2=d/\dR t d<d/\ei (af t (dR t d)).kind=ah:=by
 have ay:=aO.cZ;obtain⟨r,h1,h2⟩:=na ay az (by simp_all[mf]);obtain⟨m,e,aJ,bp,cy⟩:=Nj ai aO aS az (by rw[au];rfl) aa (show(dR t d:Int)∈bd t d by simp_all);have e:dR t d=m:=ew e;rw[<-e]at bp cy;refine⟨bp,cy,h2,?_⟩;have ar:(af t d).a3[0]? =D (dR t d:Int):=by rw[<-c6 az,h1];rfl
 have nh:=pb ai ay az ar;simp_all[m_,if_neg]
variable {e:Nat}{f:Int}{j:Nat}
theorem Us(hC:gW t f e j)(az:d<j)(au:(af t d).kind=43):dy t 0 (dR t d)<dy t e j:=by have ay:=aO.cZ;have e0:=ai.nodes;obtain⟨_,h1,h2,_⟩:=Nq ai aO aS (show d<t.nodes.length by have:=hC.1;omega) au;have aJ:=(At ay j hC.1).2.2.1;grind[dy]
theorem qK {m:Nat}(ae:j<t.nodes.length)(au:kr t j)(aE:(m:Int)∈bd t j):kr t m:=by
 have ay:=aO.cZ;rcases au with au|au
 ·obtain⟨m',e,_,h⟩:=TT ai ay ae au aE;have e:m=m':=ew e;subst e;exact h
 ·obtain⟨_,h1,h2⟩:=M' ai ay ae au;have aK:=mf ay ae aa;obtain⟨r,aJ,_⟩:=na ay ae aa;rw[aJ]at aE;have aM:r=[]:=by
   simp_all[congrArg,List.length,c6,List.eq_nil_of_length_eq_zero]
  subst aM;have:m=dR t j:=ew cK;subst this;exact .inl h2
theorem adD{R jR:Nat->gq->Int->Nat->sH}{fr:gq}(hC:gW t f e j)(au:kr t j)(h:∀m fZ fx hd,gW t fx hd m->kr t m->dy t hd m<dy t e j->R m fZ fx hd=jR m fZ fx hd):kR t O aT R j fr f e=kR t O aT jR j fr f e:=by
 have ay:=aO.cZ;have ae:=hC.1;have qL:∀q∈bd t j,∀fZ,R q.toNat fZ f e=jR q.toNat fZ f e:=λq aE fZ=>by obtain⟨m,rfl,_,h1,h2⟩:=hC.kb ai aO aS aE;grind[qK]
 have tO:∀i,i<(bd t j).length->∀fZ,R (bP t j i) fZ f e=jR (bP t j i) fZ f e:=λi ao fZ=>by simp_all[cq,cC,bP]
 have O1:(bd t j).map (λq=>R q.toNat fr f e)=(bd t j).map λq=>jR q.toNat fr f e:=sE λq aE=>qL q aE fr;have hlen:=c6 ae;unfold kR;by_cases dA:(af t j).kind=1\/(af t j).kind=2
 ·rw[if_pos dA,if_pos dA]
 rw[if_neg dA,if_neg dA];by_cases gN:(af t j).kind=3
 ·rw[if_pos gN,if_pos gN];have:rK t aT R fr (eS t j).toNat=rK t aT jR fr (eS t j).toNat:=by
   obtain⟨d,az,fj⟩:=wi ai ay ae (aS j ae) (by rw[gN];rfl);unfold rK;rw[az,eq];split
   ·rfl
   ·split
    ·next tP=>
     obtain⟨h1,_,_,h2⟩:=Nq ai aO aS fj.lt tP;rw[h _ _ _ _ h1 (.inl h2) (Us ai aO aS hC (fj.gM ay aa).2 tP)]
    ·rfl
  rw[this]
 rw[if_neg gN,if_neg gN];by_cases lC:(af t j).kind=20
 ·rw[if_pos lC,if_pos lC];have aK:=tH ay ae lC;rw[tO 0 cK,tO 1 cK]
 rw[if_neg lC,if_neg lC];by_cases u':(af t j).kind=17\/(af t j).kind=18\/(af t j).kind=19
 ·rw[if_pos u',if_pos u'];have aK:2<=(af t j).a3.length/\((af t j).kind=19->3<=(af t j).a3.length):=by
   by_cases Hh:(af t j).kind=19
   ·grind[rF,jB]
   grind[wr,absurd]
  grind
 rw[if_neg u',if_neg u',O1];dsimp only;split
 ·rfl
 ·split
  ·rfl
  ·split
   ·rfl
   ·split
    ·next DW=>
     obtain⟨d,az,eI,b9,aP⟩:=hC.call ai aO aS DW;rw[az,eq];split
     ·rfl
     ·next df=>
      obtain⟨h1,h2,_⟩:=aP df;rw[h _ _ _ _ h1 (.inl (nP ai ay eI b9).2.2) h2]
    simp_all[wr]
theorem apt:∀(k cA j:Nat)(fr:gq)(f:Int)(e:Nat),gW t f e j->kr t j->dy t e j<k->dy t e j<cA->DU t O aT k j fr f e=DU t O aT cA j fr f e:=by
 intro k;induction k with
 |zero=>omega
 |succ k bB=>
  intro cA j fr f e hC au h dp;cases cA with
  |zero=>omega
  |succ cA=>grind[kR,DU,adD]
theorem va{fr:gq}(hC:gW t f e j)(au:kr t j):bo t O aT j fr f e=kR t O aT (bo t O aT) j fr f e:=by have:bo t O aT j fr f e=kR t O aT (DU t O aT (dy t e j)) j fr f e:=rfl;rw[this];exact adD ai aO aS hC au λm fZ fx hd h1 h2 aJ=>apt ai aO aS (dy t e j) (dy t hd m+1) m fZ fx hd h1 h2 aJ (Nat.lt_succ_self _)
end
def je(l:List bt)(w:Nat):Prop:=l.length=w/\∀v∈l,gg v
def hj(t:bf)(O:Nat->ByteArray)(fr:gq)(j:Nat):Prop:=
 ∀d:Nat,(d:Int)∈(dz t j).1->((af t d).kind=20->je (fr d) (fu t (O (dR t d))))/\((af t d).kind=34->je (fr d) (ez t (dn t d)))
section
variable {t : bf} {O : Nat -> ByteArray} {aT : Nat -> Int}
variable {l:List bt}{w:Nat}
theorem je.az(h:je l w)(hw:1<=w):gg (ha l)/\l[0]? =D (ha l):=by
 cases l with
 |nil=>have:=h.1;grind
 |cons v r=>exact⟨h.2 v ra,rfl⟩
variable {v:bt}
theorem je.one(h:gg v):je [v] 1:=⟨rfl,λx ar=>by simp_all⟩
theorem je.Ut(h:gg v)(k:Nat):je (dm k v) k:=⟨by simp,λx ar=>by simp_all⟩
theorem tQ(h:je l w):gg (ha l):=by
 cases l with
 |nil=>exact .inl ⟨rfl,by decide,by decide⟩
 |cons v r=>exact h.2 v ra
theorem AK:fu t e2=1:=p3 (bn:=.int) trivial
theorem vb:fu t eO=1:=p3 (bn:=.bool) trivial
theorem kp.ez{j:Nat}{bn:eK}(h:kp t j bn)(ae:j<=t.nodes.length):∃c,1<=c/\c<=8/\ez t bn=c/\gw t t.nodes.length (2*t.nodes.length+2) bn=D c:=by obtain⟨c,h1,h2,aJ⟩:=h.q2;grind[wg,Proofs.YtgfggdcbhjhegaaGreatDoor.ez]
theorem yu{d:Nat}{bn:eK}{c:Nat}(h:gw t t.nodes.length d bn=D c)(az:d<=2*t.nodes.length+2):ez t bn=c:=by unfold ez;rw[wg h az (b5 _)];rfl
theorem OZ{l:List (List bt×Nat×Nat)}{ws:List Nat}(h:l.map (λr=>r.1.length)=ws):(l.flatMap (·.1)).length=ws.sum:=by simp_all
theorem Nr:∀{ps:List Int}{ls:List (List bt)}{a m:Nat}{l:List bt},ps.Pairwise (· < ·)->ps[a]? =D (m:Int)->ls[a]? =D l->iO ps ls m=l:=by
 intro ps;induction ps with
 |nil=>simp
 |cons p ps bB=>
  intro ls a m l hp hm aK;cases ls with
  |nil=>simp at aK
  |cons x ls=>
   cases a with
   |zero=>simp_all[iO,if_pos]
   |succ a=>simp at hm aK;show(if(m:Int)=p then x else iO ps ls m)=l;have:=(yr.1 hp).1 (m:Int) (cC hm);grind
variable (ai : c7 t) (aO : hA t) (aS : ∀ i, i < t.nodes.length -> gv t i = 0) (bx : kO t O t.nodes.length)
include ai aO aS
variable {d j:Nat}
theorem Ns(ae:j<t.nodes.length)(h:(af t j).kind=3)(az:eS t j=d)(au:(af t d).kind=20\/(af t d).kind=34):(d:Int)∈(dz t j).1:=by
 have ay:=aO.cZ;have hm:eS t j=match rE t j (af t j).bi with|some d=>if ko (af t j).kind (af t d.toNat).kind then d else-1|none=> -1:=by unfold eS;rw[if_pos (by rw[h];rfl)];rfl
 rw[hm]at az;cases e:rE t j (af t j).bi with
 |none=>simp_all
 |some cQ=>
  rw[e]at az;dsimp only at az;split at az
  ·subst az;rcases ig.1 (List.mem_of_find?_eq_some e)with h1|h1
   ·exact h1
   ·have h2:=(List.mem_filter.1 h1).1;obtain⟨m,a5,_,ge⟩:=ay.fI.eB _ h2;have a5:d=m:=ew a5;subst a5;have:=GX ay ge h2;rcases au with au|au<;>(rw[au]at this;cases this)
  omega
variable {m:Nat}
theorem hj.kb{fr:gq}(ae:j<t.nodes.length)(hm:(m:Int)∈bd t j)(au:(af t j).kind≠20/\(af t j).kind≠42)(h:hj t O fr j):hj t O fr m:=by have ay:=aO.cZ;obtain⟨m',e,ge⟩:=ib ay ae hm;have e:m=m':=ew e;subst e;intro d az;rw[j9 ay aa (lv ay ae hm)]at az;refine h d ?_;simp_all[f_,if_neg]
theorem hj.Hi{fr:gq}(ae:j<t.nodes.length)(au:(af t j).kind=20)(h:hj t O fr j):hj t O fr (bP t j 0):=by
 have ay:=aO.cZ;have aK:=tH ay ae au;have fc:=c6 ae;obtain⟨r,h1,h2⟩:=na ay ae aa;obtain⟨y,bh⟩:=G1 (l:=r) dt;subst bh;have bw:bP t j 0=dR t j:=DV dt;have tR:=wc ay ae;rw[<-fc,h1]at tR;have cf:=(yr.1 tR).1 y fT;intro d az;rw[bw,j9 ay aa (lv ay ae dt)]at az;refine h d ?_;have:f_ t j (dR t j)=[]:=by unfold f_;rw[h1,if_neg];grind
 simp_all
theorem hj.Hj{fr:gq}{l:List bt}(ae:j<t.nodes.length)(au:(af t j).kind=20)(h:hj t O fr j)(aK:je l (fu t (O (dR t j)))):hj t O (tN fr j l) (bP t j 1):=by
 have ay:=aO.cZ;have hlen:=tH ay ae au;have fc:=c6 ae;obtain⟨a,b,Hk⟩:=G0 (l:=bd t j) cK;obtain⟨m,e,ge⟩:=ib ay ae (show b∈bd t j by grind);subst e;have h1:bP t j 1=m:=DV dt;have r2:(m:Int)∈bd t j:=by grind
 intro d az;rw[h1,j9 ay aa (lv ay ae r2)]at az;unfold tN;by_cases e:d=j
 ·simp_all
 ·rw[if_neg e];refine h d ?_;rcases ig.1 az with az|az
  ·unfold f_ at az;grind
  ·exact az
omit aS in
theorem hj.gM(az:d<t.nodes.length)(au:jo (af t d).kind=ah)(b9:(af t d).kind≠42)(hm:(m:Int)∈bd t d)(fr:gq):hj t O fr m:=by
 have ay:=aO.cZ;obtain⟨m',e,ge⟩:=ib ay az hm;have e:m=m':=ew e;subst e;intro x ar;rw[j9 ay aa (lv ay az hm),pa az ((rD ay az).2 (yh ay az au))]at ar;have:f_ t d m=[]:=by unfold f_;rw[if_neg (show ¬(af t d).kind=20 from λe=>by rw[e]at au;cases au),if_neg b9];split<;>rfl
 simp_all
omit aS in
theorem hj.call{ls:List (List bt)}(az:d<t.nodes.length)(b9:(af t d).kind=42)(yl:∀a m:Nat,(dh t d)[a]? =D (m:Int)->∃l,ls[a]? =D l/\je l (ez t (dn t m))):hj t O (iO (dh t d) ls) (ey t d):=by
 have ay:=aO.cZ;obtain⟨jn,ic,oJ⟩:=nP ai ay az b9;have hm:(ey t d:Int)∈bd t d:=cC jn;have tR:(dh t d).Pairwise (· < ·):=by grind[wc,dh,c6,List.Pairwise.sublist,List.take_sublist]
 intro x ar;rw[j9 ay aa (lv ay az hm),pa az ((rD ay az).2 (Ha ay az b9)),j3]at ar;unfold f_ at ar;rw[if_neg (show ¬(af t d).kind=20 by omega),if_pos b9]at ar;split at ar
 ·rcases ig.1 ar with ar|ar
  ·obtain⟨a,a9⟩:=List.getElem?_of_mem (show(x:Int)∈dh t d from ar);grind[pe,ew,Nr]
  grind
 ·cases ar
end
section
variable {t : bf} {O : Nat -> ByteArray} {aT : Nat -> Int}
variable (ai : c7 t) (aO : hA t) (aS : ∀ i, i < t.nodes.length -> gv t i = 0) (bx : kO t O t.nodes.length)
include ai aO aS bx
variable {j:Nat}
theorem mh(ae:j<t.nodes.length)(au:kr t j):∃bn:eK,O j=bn.bR/\bn.ok/\fu t (O j)=ez t bn/\1<=ez t bn/\ez t bn<=8/\gw t t.nodes.length (2*t.nodes.length+2) bn=D (ez t bn):=by
 have ay:=aO.cZ;have key:∀m,m<t.nodes.length->ei (af t m).kind=ah->∃bn:eK,O m=bn.bR/\bn.ok/\fu t (O m)=ez t bn/\1<=ez t bn/\ez t bn<=8/\gw t t.nodes.length (2*t.nodes.length+2) bn=D (ez t bn):=by intro m hm au;obtain⟨bn,h1,h2⟩:=bx.ex m hm au;obtain⟨c,aJ,bp,cy,cY⟩:=h2.ez aa;exact⟨bn,h1,h2.ok,by rw[h1,p3 h2.ok],aa,aa,cK⟩
 rcases au with au|au
 ·simp_all
 ·obtain⟨_,h1,h2⟩:=M' ai ay ae au;rw[bx.put j ae au];grind
theorem yv{R:Nat->gq->Int->Nat->sH}{fr:gq}{f:Int}{e:Nat}(bv:∀q∈bd t j,je (R q.toNat fr f e).1 (fu t (O q.toNat))):je (((bd t j).map λq=>R q.toNat fr f e).flatMap (·.1)) ((dC t O j).map (fu t)).sum:=by
 constructor
 ·apply OZ;rw[kk];unfold dC;rw[kk];apply sE;intro q aE;exact(bv q aE).1
 ·intro v bg;obtain⟨r,aM,bg⟩:=List.mem_flatMap.1 bg;obtain⟨q,aE,rfl⟩:=List.mem_map.1 aM;exact(bv q aE).2 v bg
theorem Uu(m0:ByteArray):∀(l:List Int)(a:Nat)(q:Int),(l.find? λq=>decide ((af t q.toNat).bi=m0))=D q->lB t m0 l a+ez t (dn t q.toNat)<=a+(l.map λq=>ez t (dn t q.toNat)).sum
 |[],a,q,h=>by cases h
 |x::r,a,q,h=>by
  rw[List.find?_cons]at h;unfold lB;by_cases e:(af t x.toNat).bi=m0
  ·simp_all
  ·rw[decide_eq_false e]at h;rw[if_neg e];have:=Uu m0 r (a+ez t (dn t x.toNat)) q h;grind
theorem Uv{s:ByteArray}{c r:Nat}(h:gw t t.nodes.length (2*t.nodes.length+2) (.hb s)=D c)(aM:iN t s=D r):c=((bd t r).map λq=>ez t (dn t q.toNat)).sum:=by
 obtain⟨i,cs,h1,_,h2,_,bp⟩:=DK (d:=2*t.nodes.length+1) h;rw[aM]at h1;cases h1;rw[bp];have:(bd t r).map (λq=>ez t (dn t q.toNat))=cs:=by have cy:=congrArg (λl=>l.map λo:Option Nat=>o.getD 0) h2;simp only[kk]at cy;rw[show(cs.map ((λo:Option Nat=>o.getD 0)∘D))=cs by rw[show((λo:Option Nat=>o.getD 0)∘D)=(id:Nat->Nat)from rfl,List.map_id]]at cy;grind[sE,gw,dn,List.mem_map_of_mem,ez,yu]
 rw[this]
theorem Uw(ae:j<t.nodes.length)(h:(af t j).kind=1\/(af t j).kind=2): -9999<=(af t j).n/\(af t j).n<=9999:=by
 have h2:=((aO.cZ.o_ j _ (lS ae)).1).num;have aJ:=GF (af t j);rw[h2]at aJ;unfold m8 at aJ;rcases h with h|h
 ·simp_all
 ·simp[h]at aJ;omega
theorem apu{k:ByteArray}(h:h4 k (dC t O j)=ah):(dC t O j).map (fu t)=dm (dC t O j).length (fu t k):=by
 apply List.ext_getElem?;intro i;rw[List.getElem?_map,List.getElem?_replicate];by_cases ao:i<(dC t O j).length
 ·simp_all[if_pos,cq,G',dC,List.getElem_mem]
 simp_all
end
end Go.Proofs.YtgfggdcbhjhegaaGreatDoor

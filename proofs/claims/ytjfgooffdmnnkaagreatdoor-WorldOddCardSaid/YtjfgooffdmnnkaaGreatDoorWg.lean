/- Operations on cells. -/
import Derived.Test.YtjfgooffdmnnkaaGreatDoorWf
set_option linter.all false
set_option maxRecDepth 100000
namespace Go.Proofs.YtjfgooffdmnnkaaGreatDoor
open Go Go.Mi Go.RowKit Go.Dp
open Bool renaming or_eq_false_iff->jy,true->ad,not_eq_true'->oQ,or_eq_true->jq,false->aS
open Classical renaming not_not->xF,choose_spec->IR,choose->Av
open Int renaming mul_le_mul_of_nonneg_left->Sd,toNat_natCast->dA,lt_trichotomy->YO,mul_le_mul_of_nonneg_right->ahQ,mul_tdiv_add_tmod->ahR,natCast_mul->jP,lt_or_le->ahS,one_mul->tv,neg_mul->ahT,add_mul->ahU
open Int.ofNat renaming inj->fC
open List renaming replicate->cC,mem_of_getElem?->cm,getElem?_eq_getElem->bN,take_of_length_le->g4,replicate_succ'->YP,map_congr_left->vW,mem_append->h3,map_map->lZ,pairwise_cons->Cb,mem_cons_self->x1,append_nil->iZ
open Nat renaming mul_le_mul_right->qX,le_refl->bL
open Option renaming some->I,bind->au
def jc(v:b6):Prop:=(v.cU=0/\ -9999<=v.n/\v.n<=9999)\/(1<=v.cU/\v.cU<=4/\v.n=0)
def num(n:Int):b6:=⟨0,n⟩
def rz(f:Int):b6:=⟨f,0⟩
def n4(n:Int):b6:=if-9999<=n/\n<=9999 then num n else rz 2
def nK(b:Bool):b6:=if b then num 1 else num 0
def mx(a b:Int):Int:=if a.tmod b≠0/\¬(a.tmod b< 0↔b< 0)then a.tdiv b- 1 else a.tdiv b
def tw(c:Int)(a:b6):b6:=if a.cU≠0 then a else if c=5 then num (-a.n)else nK (decide (a.n=0))
def my(c:Int)(a b:b6):b6:=
 if a.cU≠0 then a else if b.cU≠0 then b else
 if c=7 then n4 (a.n+b.n)else if c=8 then n4 (a.n-b.n)else if c=9 then n4 (a.n*b.n)else
 if c=12 then nK (decide (a.n=b.n))else if c=13 then nK (decide (a.n<b.n))else if c=14 then nK (decide (a.n<=b.n))else
 if b.n=0 then rz 1 else if c=10 then num (mx a.n b.n)else num (a.n-b.n*mx a.n b.n)
section
variable {n : Nat}
variable {v:b6}
def jc.el(h:jc v)(bh:v.cU=0): -9999<=v.n/\v.n<=9999:=by
 rcases h with h|h
 ·exact h.2
 ·omega
theorem jc.gF(h:jc v):¬v.cU=0↔0<v.cU:=by rcases h with h|h<;>omega
theorem Ig{x:Int}(h: -9999<=x/\x<=9999):jc (num x):=.inl ⟨rfl,h⟩
theorem Se{f:Int}(h:1<=f/\f<=4):jc (rz f):=.inr ⟨h.1,h.2,rfl⟩
theorem ahV(x:Int):jc (n4 x):=by grind[n4,Ig,Se]
theorem YQ(b:Bool):jc (nK b):=by cases b<;>exact Ig ci
theorem ahW(x:Int):BM (aM n) (-9999) 9999 ([x]:List Int)=I (decide (-9999<=x/\x<=9999)):=by
 refine D.br ?_;unfold BM Qy Qx WT;refine D.bind (Q:=λz=>z= !decide (-9999<=x/\x<=9999)) (D.bind (Q:=λz=>0<=z↔¬(-9999<=x/\x<=9999)) ?_ λz aP=>D.ret ?_) λz aP=>D.ret (by rw[aP,Bool.not_not])
 ·refine D.step (D.ar (λ_=>D.ae (z:=x) rfl ?_) λh=>absurd (show(0:Int)<((1:Nat):Int) by decide) h);unfold KR;refine D.ae rfl (D.bK (λh=>D.inr ⟨λ_=>?_,λ_=>Int.le_refl _⟩) λh=>D.inl (D.step (D.ar (λh=>absurd h (show ¬az (0+1)<((1:Nat):Int) by decide)) λ_=>D.inr ⟨lp,λh2=>?_⟩)))
  ·grind
  simp_all
 grind
theorem uJ(x:Int):nY (aM n) x=I (n4 x):=by
 refine D.br ?_;unfold nY;refine D.ae (ahW x) (D.dB (λh=>D.ae rfl (D.ret ?_)) λh=>D.ret ?_)
 ·unfold n4;rw[if_neg h];rfl
 ·unfold n4;rw[if_pos h];rfl
theorem ahX(h:jc v):KU (aM n) v=I ad:=by
 refine D.br ?_;unfold KU;rcases h with⟨h1,h2⟩|⟨h1,h2,ay⟩
 ·simp_all[D.ar,D.ae,ahW,D.ret,decide_eq_true,absurd]
 ·refine D.ar bt λ_=>D.ret ?_;simp_all
def atl(h:jc v):QB (aM n) v=I aS:=by grind[QB,ahX]
def YR{l:List b6}(aC:l.length<=1000000)(h:∀v∈l,jc v):Ei (aM n) l=I ad:=by refine D.br ?_;unfold Ei WZ WY afJ;refine D.ae (z:=aS) (D.br (D.ae (z:= -1) (D.br ?_) (D.ret rfl))) (D.ret rfl);refine D.for l.length (λi (_:Unit)=>(i:Int)) (λ_ _=>True) (t0:=()) rfl trivial (λi _ hi _=>?_) λ_ _=>D.ar bt λ_=>D.inr rfl;exact D.ar (λ_=>D.hA hi λx ak=>D.ae (atl (h x (cm ak))) (D.bK dF λ_=>D.inl ⟨(),by rw[bw U],trivial⟩)) d_
def ahY(a:b6):BN (aM n) [a]=I (if a.cU≠0 then(a,ad)else(⟨0,0⟩,aS)):=by
 refine D.br ?_;unfold BN QA WV;refine D.bind (Q:=λi=>i=if a.cU≠0 then 0 else-1) (D.step (D.ar (λ_=>D.ae (z:=a) rfl ?_) λh=>absurd (show(0:Int)<((1:Nat):Int) by decide) h)) λi hi=>?_
 ·unfold Qz;refine D.ae rfl (D.dB (λh=>D.inr (by rw[if_pos h])) λh=>D.inl (D.step (D.ar (λh=>absurd h (show ¬az (0+1)<((1:Nat):Int) by decide)) λ_=>D.inr (by rw[if_neg (λq=>q h)]))))
 ·subst hi;by_cases h:a.cU≠0
  ·rw[if_pos h,if_pos h];exact D.ret rfl
  simp_all[if_neg,D.ret]
def atm(a b:b6):BN (aM n) [a,b]=I (if a.cU≠0 then(a,ad)else if b.cU≠0 then(b,ad)else(⟨0,0⟩,aS)):=by
 refine D.br ?_;unfold BN QA WV;refine D.bind (Q:=λi=>i=if a.cU≠0 then 0 else if b.cU≠0 then 1 else-1) (D.step (D.ar (λ_=>D.ae (z:=a) rfl ?_) λh=>absurd (show(0:Int)<((2:Nat):Int) by decide) h)) λi hi=>?_
 ·unfold Qz;refine D.ae rfl (D.dB (λh=>D.inr (by rw[if_pos h])) λh=>D.inl (D.step (D.ar (λ_=>D.ae (z:=b) rfl (D.ae rfl (D.dB (λh2=>D.inr (by rw[if_neg (λq=>q h),if_pos h2];rfl)) λh2=>D.inl (D.step (D.ar (λh=>absurd h (show ¬az (az (0+1)+1)<((2:Nat):Int) by decide)) λ_=>D.inr (by rw[if_neg (λq=>q h),if_neg (λq=>q h2)])))))) λh=>absurd (show az (0+1)<((2:Nat):Int) by decide) h)))
 ·subst hi;by_cases h:a.cU≠0
  ·rw[if_pos h,if_pos h];exact D.ret rfl
  ·rw[if_neg h,if_neg h];by_cases h2:b.cU≠0
   ·rw[if_pos h2,if_pos h2];exact D.ret rfl
   simp_all[if_neg,D.ret]
theorem Sf(b:Bool):BO (aM n) b=I (nK b):=by
 cases b
 ·unfold BO;rw[if_neg ci,uJ];rfl
 ·unfold BO;rw[if_pos rfl,uJ];rfl
variable {a:b6}{c:Int}
def ahZ(ax:c=5\/c=6)(a4:jc a):Hw (aM n) c a=I (tw c a,0):=by
 refine D.br ?_;unfold Hw;have atn:WU c=I (if c=5 then 1 else 2):=by rcases ax with rfl|rfl<;>rfl
 refine D.ae atn (D.ar (λh=>?_) λ_=>D.ae (ahX a4) (D.bK dF λ_=>D.ae (ahY a) ?_))
 ·exfalso;rcases ax with rfl|rfl<;>exact absurd h ci
 ·unfold tw;by_cases h:a.cU≠0
  ·simp_all[if_pos,D.ret]
  ·rw[if_neg h];simp only[if_neg h];have bh:a.cU=0:=xF.1 h;have aO:=a4.el bh;rcases ax with rfl|rfl
   ·have e:Eh (aM n) (if(5:Int)=5 then 1 else 2) a.n=I (num (-a.n)):=by
     rw[if_pos rfl];unfold Eh;rw[if_pos rfl];unfold WW;rw[b3 U U,uJ];unfold n4;rw[if_pos U];rfl
    simp_all[D.bK,D.ae,D.ret]
   ·have e:Eh (aM n) (if(6:Int)=5 then 1 else 2) a.n=I (nK (decide (a.n=0))):=by
     simp_all[if_neg,Eh,if_pos,WX,Sf]
    simp_all[D.bK,D.ae,D.ret]
def YS(ax:c=5\/c=6)(a4:jc a):HF c a=I (tw c a):=by
 refine D.br ?_;unfold HF tw;refine D.ar (λh=>D.ret ?_) λh=>?_
 ·rw[if_pos (a4.gF.2 h)]
 ·have bh:a.cU=0:=by rcases a4 with h|h<;>omega
  have aO:=a4.el bh;rw[if_neg (show ¬a.cU≠0 from λq=>q bh)];refine D.ar (λbO=>?_) λbO=>?_
  ·rw[if_pos bO,b3 U U];exact D.ret rfl
  ·rw[if_neg bO];cases decide (a.n=0)<;>exact D.ret rfl
theorem YT(a4:jc a):jc (tw c a):=by
 unfold tw;split
 ·exact a4
 ·next h=>
  have aO:=a4.el (xF.1 h);grind[Ig,YQ]
end
def Cc(a b q:Int):Prop:=q*b<=a/\a<(q+1)*b
variable {a b q:Int}
def Cc.RW {r:Int}(aF:0<b)(h:Cc a b q)(cr:Cc a b r):q=r:=by
 rcases YO q r with e|e|e
 ·have:(q+1)*b<=r*b:=ahQ U U;have:=h.2;have:=cr.1;omega
 ·exact e
 ·have:(r+1)*b<=q*b:=ahQ U U;have:=cr.2;have:=h.1;omega
theorem YU(a:Int)(aF:b≠0):mx (-a) (-b)=mx a b:=by unfold mx;rw[Int.tdiv_neg,Int.neg_tdiv,Int.neg_neg,Int.tmod_neg,Int.neg_tmod];omega
def LP(aF:0<b):Cc a b (mx a b):=by
 have h1:=ahR a b;have h2:=Int.tmod_lt_of_pos a aF;have ay:=Int.lt_tmod_of_pos a aF;have ax:a.tdiv b*b=b*a.tdiv b:=Int.mul_comm _ _;unfold mx Cc;by_cases h:a.tmod b≠0/\¬(a.tmod b< 0↔b< 0)
 ·rw[if_pos h];grind
 grind
def Cc.ah0(aF:1<=b)(a4: -9999<=a/\a<=9999)(h:Cc a b q): -9999<=q/\q<=9999:=by
 constructor
 ·rcases ahS q (-9999)with h1|h1
  ·have h2:(-(q+1))*1<=(-(q+1))*b:=Sd aF U;rw[ahT,ahT,Int.mul_one]at h2;have:=h.2;omega
  ·exact h1
 ·rcases ahS 9999 q with h1|h1
  ·have:q*1<=q*b:=Sd aF U;have:=h.1;omega
  ·exact h1
theorem Sg(aF:b≠0)(a4: -9999<=a/\a<=9999): -9999<=mx a b/\mx a b<=9999:=by
 rcases YO b 0 with h|h|h
 ·rw[<-YU a aF];exact(LP (a:= -a) (b:= -b) U).ah0 U U
 ·omega
 ·exact(LP h).ah0 U a4
theorem Sh(aF:b≠0)(ku: -9999<=b/\b<=9999): -9999<=a-b*mx a b/\a-b*mx a b<=9999:=by
 rcases YO b 0 with h|h|h
 ·have:=LP (a:= -a) (b:= -b) U;rw[YU a aF]at this;have h1:=this.1;have h2:=this.2;grind
 ·omega
 ·have:=LP (a:=a) h;have h1:=this.1;have h2:=this.2;grind
def ato(a b:Int):a-b*mx a b=if a.tmod b≠0/\¬(a.tmod b< 0↔b< 0)then a.tmod b+b else a.tmod b:=by have h1:=ahR a b;unfold mx;grind
section
variable {n : Nat}
variable {a b:Int}
def atp(a4: -9999<=a/\a<=9999): -9999<=a.tdiv b/\a.tdiv b<=9999:=by have h:(a.tdiv b).natAbs=a.natAbs/b.natAbs:=Int.natAbs_tdiv a b;have h2:a.natAbs/b.natAbs<=a.natAbs:=Nat.div_le_self _ _;omega
def ah1(aF:b≠0)(a4: -9999<=a/\a<=9999)(ku: -9999<=b/\b<=9999):KV a b=I (mx a b,a-b*mx a b):=by
 have aO:=Sh (a:=a) aF ku;have aB:=Sg aF a4;have aj:=atp (b:=b) a4;have ah2:=ato a b;refine D.br ?_;unfold KV;have aG:nq a b=I (a.tdiv b):=by unfold nq;rw[if_neg aF]
 have hm:nr a b=I (a.tmod b):=by unfold nr;rw[if_neg aF]
 have ax:(!decide (a.tmod b=0)&& !(decide (a.tmod b< 0)==decide (b< 0)))=decide (a.tmod b≠0/\¬(a.tmod b< 0↔b< 0)):=by rw[Bool.eq_iff_iff,decide_eq_true_eq,Bool.and_eq_true,oQ,oQ,decide_eq_false_iff_not,beq_eq_false_iff_ne,ne_eq,decide_eq_decide]
 refine D.ae aG (D.ae hm ?_);rw[ax,b3 (n:=a.tdiv b) U U];refine D.ar (λh=>D.ret ?_) λh=>D.ret ?_
 ·rw[if_pos h]at ah2;have lr:mx a b=a.tdiv b- 1:=by unfold mx;rw[if_pos h]
  rw[ah2]at aO⊢;rw[lr]at aB⊢;rw[b3 U U,b3 U U]
 simp_all[if_neg,mx]
def YV(a b:Int):Hx a b=I (if a<b then-1 else if b<a then 1 else 0):=by refine D.br ?_;unfold Hx QE;rw[decide_eq_true (rfl:a=a),decide_eq_true (rfl:b=b)];refine D.ae rfl (D.ae rfl (D.bK dF λ_=>D.bK dF λ_=>D.ar (λh=>D.ret (by rw[if_pos h])) λh=>D.ar (λh2=>D.ret (by rw[if_neg h,if_pos h2])) λh2=>D.ret (by rw[if_neg h,if_neg h2])))
def ah3(a4: -9999<=a/\a<=9999)(ku: -9999<=b/\b<=9999):QC (aM n) a b=I (if b=0 then rz 1 else num (mx a b))/\QD (aM n) a b=I (if b=0 then rz 1 else num (a-b*mx a b)):=by
 by_cases aF:b=0
 ·subst aF;exact⟨rfl,rfl⟩
 ·have aO:=Sh (a:=a) aF ku;have aB:=Sg aF a4;constructor
  ·refine D.br ?_;unfold QC W2;refine D.ar (λh=>absurd h aF) λ_=>D.ae (ah1 aF a4 ku) (D.ae rfl (D.ae (uJ _) (D.ret ?_)));rw[if_neg aF];dsimp only;unfold n4;rw[if_pos aB]
  ·refine D.br ?_;unfold QD W3;refine D.ar (λh=>absurd h aF) λ_=>D.ae (ah1 aF a4 ku) (D.ae rfl (D.ae (uJ _) (D.ret ?_)));rw[if_neg aF];dsimp only;unfold n4;rw[if_pos aO]
def YW(a b:Int):QF (aM n) a b=I (nK (decide (a=b)))/\QG (aM n) a b=I (nK (decide (a<b)))/\QH (aM n) a b=I (nK (decide (a<=b))):=by
 have h:∀z:b6,(⟨z.cU,z.n⟩:b6)=z:=λ_=>rfl;refine⟨D.br ?_,D.br ?_,D.br ?_⟩
 ·unfold QF W4;refine D.ae (YV a b) (D.ae rfl (D.ae (Sf _) (D.ret ?_)));rw[h];congr 1;grind
 ·unfold QG W5;refine D.ae (YV a b) (D.ae rfl (D.ae (Sf _) (D.ret ?_)));rw[h];congr 1;grind
 ·unfold QH W6;refine D.ae (YV a b) (D.ae rfl (D.ae (Sf _) (D.ret ?_)));rw[h];congr 1;grind
def Cd(c:Int):Prop:=c=7\/c=8\/c=9\/c=10\/c=11\/c=12\/c=13\/c=14
def LQ(a4: -9999<=a/\a<=9999)(aF: -9999<=b/\b<=9999): -99980001<=a*b/\a*b<=99980001:=by have h:(a*b).natAbs=a.natAbs*b.natAbs:=Int.natAbs_mul a b;have h2:a.natAbs*b.natAbs<=9999*9999:=Nat.mul_le_mul U U;omega
variable {c:Int}
def atq{a b:b6}(ax:Cd c)(a4:jc a)(aF:jc b):QJ (aM n) c a b=I (my c a b,0):=by
 have ox:c≠15/\c≠16:=by unfold Cd at ax;omega
 have aP:∃z:Nat,W1 c=I z/\z≠0/\(a.cU=0->b.cU=0->QI (aM n) z a.n b.n=I (my c a b)):=by
  have key:a.cU=0->b.cU=0->(-9999<=a.n/\a.n<=9999)/\(-9999<=b.n/\b.n<=9999):=λh1 h2=>⟨a4.el h1,aF.el h2⟩
  have iL:a.cU=0->b.cU=0->my c a b=if c=7 then n4 (a.n+b.n)else if c=8 then n4 (a.n-b.n)else if c=9 then n4 (a.n*b.n)else
    if c=12 then nK (decide (a.n=b.n))else if c=13 then nK (decide (a.n<b.n))else if c=14 then nK (decide (a.n<=b.n))else
    if b.n=0 then rz 1 else if c=10 then num (mx a.n b.n)else num (a.n-b.n*mx a.n b.n):=λh1 h2=>by
   unfold my;rw[if_neg (λq=>q h1),if_neg (λq=>q h2)]
  rcases ax with rfl|rfl|rfl|rfl|rfl|rfl|rfl|rfl
  ·refine⟨1,rfl,by decide,λh1 h2=>?_⟩;obtain⟨bX,dV⟩:=key h1 h2;rw[iL h1 h2];show au (nY (aM n) (az (a.n+b.n))) _=_;rw[uJ,b3 U U];rfl
  ·refine⟨2,rfl,by decide,λh1 h2=>?_⟩;obtain⟨bX,dV⟩:=key h1 h2;rw[iL h1 h2];show au (nY (aM n) (az (a.n-b.n))) _=_;rw[uJ,b3 U U];rfl
  ·refine⟨3,rfl,by decide,λh1 h2=>?_⟩;obtain⟨bX,dV⟩:=key h1 h2;have:=LQ bX dV;rw[iL h1 h2];show au (nY (aM n) (az (a.n*b.n))) _=_;rw[uJ,b3 U U];rfl
  ·refine⟨4,rfl,by decide,λh1 h2=>?_⟩;obtain⟨bX,dV⟩:=key h1 h2;rw[iL h1 h2];exact(ah3 bX dV).1
  ·refine⟨5,rfl,by decide,λh1 h2=>?_⟩;obtain⟨bX,dV⟩:=key h1 h2;rw[iL h1 h2];exact(ah3 bX dV).2
  ·refine⟨6,rfl,by decide,λh1 h2=>?_⟩;rw[iL h1 h2];exact(YW _ _).1
  ·refine⟨7,rfl,by decide,λh1 h2=>?_⟩;rw[iL h1 h2];exact(YW _ _).2.1
  ·refine⟨8,rfl,by decide,λh1 h2=>?_⟩;rw[iL h1 h2];exact(YW _ _).2.2
 obtain⟨z,pD,qz,ah4⟩:=aP;refine D.br ?_;unfold QJ;refine D.ar (λh=>absurd h ox.1) λ_=>D.ar (λh=>absurd h ox.2) λ_=>D.ae pD (D.ar (λh=>absurd h qz) λ_=>D.ae (YR cW λv bp=>?_) (D.bK dF λ_=>D.ae (atm a b) ?_))
 ·grind
 ·by_cases h1:a.cU≠0
  ·simp only[if_pos h1];show Dp.D (I ((⟨a.cU,a.n⟩:b6),(0:Int))) _;refine D.ret ?_;unfold my;rw[if_pos h1]
  ·by_cases h2:b.cU≠0
   ·simp only[if_neg h1,if_pos h2];show Dp.D (I ((⟨b.cU,b.n⟩:b6),(0:Int))) _;refine D.ret ?_;unfold my;rw[if_neg h1,if_pos h2]
   simp_all[if_neg,D.bK,D.ae,xF,D.ret]
theorem YX{a b:b6}(a4:jc a)(aF:jc b):jc (my c a b):=by
 unfold my;split
 ·exact a4
 ·next h1=>
  split
  ·exact aF
  ·next h2=>
   have bX:=a4.el (xF.1 h1);have dV:=aF.el (xF.1 h2);grind[ahV,YQ,Se,Ig,Sg,Sh]
end
section
variable {n : Nat}
theorem ah5{a b:Int}(a4: -9999<=a/\a<=9999)(aF:1<=b/\b<=9999):K' (aM n) (a,b)=I (mx a b):=by
 refine D.br ?_;unfold K';show D (Xm (aM n) b a 0) _;unfold Xm;refine D.b1 (λs:Int=>∃k:Nat,s=k/\(k=0\/(k:Int)*b<=a)) (λs=>10001-s.toNat) ?_ ⟨0,rfl,.inl rfl⟩;rintro _ ⟨k,rfl,ap⟩;have pZ:(k:Int)<=9999/\0<=(k:Int)*b/\(k:Int)*b<=9999:=by
  rcases ap with rfl|ap
  ·simp
  ·have:(k:Int)*1<=(k:Int)*b:=Sd aF.1 U;omega
 have a2:((k:Int)+1)*b=(k:Int)*b+b:=by rw[ahU,tv]
 have bc:az (az ((k:Int)+1)*b)=((k:Int)+1)*b:=by rw[b3 (n:=(k:Int)+1) U U,b3 U U]
 rw[bc];refine D.ar (λh=>D.inl ⟨⟨k+1,bw U,.inr dq⟩,?_⟩) λh=>D.bu ?_
 ·grind[bw,Sd]
 ·unfold agb;refine D.b1 (λs:Int=>a<(s+1)*b/\s<=9999/\ -9999<=s) (λs=>(s+10000).toNat) ?_ ⟨U,U,U⟩;rintro s ⟨h1,h2,ay⟩;have hm:=LQ (a:=s) (b:=b) ⟨ay,h2⟩ U;rw[b3 (n:=s*b) U U];refine D.ar (λh=>?_) λh=>D.inr ?_
  ·have aQ: -9998<=s:=by
    grind
   rw[b3 (n:=s- 1) U U];exact D.inl ⟨⟨dq,U,U⟩,U⟩
  ·exact Cc.RW U ⟨U,h1⟩ (LP U)
def atr{a b:Int}(agA:b≠0)(a4: -9999<=a/\a<=9999)(aF: -9999<=b/\b<=9999):Rb (aM n) a b=I (mx a b):=by
 refine D.br ?_;unfold Rb;refine D.ar (λh=>?_) λh=>?_
 ·grind[b3,D.aX,ah5,YU]
 grind[D.aX,ah5]
def YY(x:Int):HD x=I (n4 x):=by
 refine D.br ?_;unfold HD n4;refine D.bK (λh=>D.ae rfl (D.ret ?_)) λh=>D.ae rfl (D.ret ?_)
 ·rw[jq,decide_eq_true_eq,decide_eq_true_eq]at h;rw[if_neg U];rfl
 ·rw[jy,decide_eq_false_iff_not,decide_eq_false_iff_not]at h;rw[if_pos U];rfl
theorem YZ(b:Bool):HE b=I (nK b):=by cases b<;>rfl
def ats{c:Int}{a b:b6}(ax:Cd c)(a4:jc a)(aF:jc b):rm (aM n) c a b=I (my c a b):=by
 refine D.br ?_;unfold rm my;by_cases h1:a.cU≠0
 ·refine D.ar (λ_=>D.ret ?_) λh=>absurd (a4.gF.1 h1) h;rw[if_pos h1]
 ·have AP:a.cU=0:=xF.1 h1;have bX:=a4.el AP;rw[if_neg h1];have ah6:c≠15/\c≠16:=by unfold Cd at ax;omega
  refine D.ar bt λ_=>D.bK (λh=>?_) λ_=>D.bK (λh=>?_) λ_=>D.bK (λh=>?_) λ_=>?_
  ·simp_all
  ·simp_all
  ·simp_all
  by_cases h2:b.cU≠0
  ·refine D.ar (λ_=>D.ret ?_) λh=>absurd (aF.gF.1 h2) h;rw[if_pos h2]
  ·have nz:b.cU=0:=xF.1 h2;have dV:=aF.el nz;have hm:=LQ bX dV;rw[if_neg h2];refine D.ar bt λ_=>D.ar (λh=>?_) λhq=>D.ar (λh=>?_) λg8=>D.ar (λh=>?_) λkg=>D.ar (λh=>?_) λHO=>D.ar (λh=>?_) λah7=>D.ar (λh=>?_) λah8=>D.ar (λh=>?_) λbh=>?_
   ·rw[if_pos h,b3 U U];exact D.ae (YY _) (D.ret rfl)
   ·rw[if_neg hq,if_pos h,b3 U U];exact D.ae (YY _) (D.ret rfl)
   ·rw[if_neg hq,if_neg g8,if_pos h,b3 U U];exact D.ae (YY _) (D.ret rfl)
   ·simp_all[if_neg,if_pos,D.ae,YZ,D.ret]
   ·simp_all[if_neg,if_pos,D.ae,YZ,D.ret]
   ·simp_all[if_neg,if_pos,D.ae,YZ,D.ret]
   ·rw[if_neg hq,if_neg g8,if_neg kg,if_neg HO,if_neg ah7,if_neg ah8,if_pos h];exact D.ae rfl (D.ret rfl)
   ·rw[if_neg hq,if_neg g8,if_neg kg,if_neg HO,if_neg ah7,if_neg ah8,if_neg bh];have aB:=Sg bh bX;have aO:=Sh (a:=a.n) bh dV;have aqo:=LQ dV aB;refine D.ae (atr bh bX dV) (D.ar (λh=>?_) λh=>?_)
    ·rw[if_pos h];exact D.ae rfl (D.ret rfl)
    ·rw[if_neg h,b3 (n:=b.n*mx a.n b.n) U U,b3 U U];exact D.ae rfl (D.ret rfl)
theorem Ih(v:b6){k:Nat}(ap:k<=100000):zD (aM n) v (k:Int)=I (cC k v):=by
 refine D.br ?_;unfold zD af8;refine D.for k (λi (o:List b6)=>(o,(i:Int))) (λi o=>o=cC i v) (t0:=[]) rfl rfl (λi o hi a7=>?_) λo a7=>?_
 ·subst a7;refine D.ar (λ_=>D.ae (eX dZ) (D.inl ⟨_,by rw[bw U],?_⟩)) d_;rw[YP]
 simp_all[D.ar,absurd,D.inr]
end
section
variable {n : Nat}
def xd{α:Type}{m:Nat}(h:m<=1000000)(x:α):mk (m:Int) x=I (cC m x):=by unfold mk;rw[if_pos U,dA]
variable {N:Nat}
theorem att(fz:N<=800)(x d:b6):D (Xe (aM n) (cC N d) (((min 1 N:Nat):Int),[x].take N++(cC N d).drop (min 1 N))) λr=>r=(N,cC N x):=by
 unfold Xe;have bG:(cC N d).length=N:=by simp
 rw[bG];refine D.b1 (λs:Int×List b6=>∃k:Nat,s.1=k/\k<=N/\(0<N->0<k)/\s.2.length=N/\∀j,j<k->s.2[j]? =I x) (λs=>N-s.1.toNat) ?_ ⟨min 1 N,rfl,U,U,dZ,λj ag=>?_⟩
 ·rintro⟨_,c⟩ ⟨k,rfl,ap,uy,aC,ax⟩;dsimp only at aC ax⊢;simp only[dA];refine D.ar (λh=>?_) λh=>?_
  ·refine D.ae (z:=()) (by unfold A1;rw[if_pos U]) (D.ae (z:=()) (by unfold A2;rw[if_pos U]) ?_);have bc:wC c (0+k) (N-k) 0 k=I (c.take k++(c.take k).take (N-k)++c.drop (k+min k (N-k))):=by
    simp_all[wC,if_pos,om]
   refine D.ae bc (D.inl ⟨⟨k+min k (N-k),?_,U,U,?_,λj ag=>?_⟩,?_⟩)
   ·grind[az,b3]
   ·grind
   ·grind
   grind[az,b3]
  ·refine D.inr ?_;have:k=N:=by omega
   subst this;congr 1;have:=(XS (x:=x) (c:=c) (s:=k) U).2 ax
   rwa[g4 U]at this
 grind
theorem atu(fz:N<=800)(x d:b6):D (W9 (aM n) (cC N d) (((min 1 N:Nat):Int),[x].take N++(cC N d).drop (min 1 N))) λr=>r=cC N x:=by
 unfold W9;have bG:(cC N d).length=N:=by simp
 rw[bG];refine D.b1 (λs:Int×List b6=>∃k:Nat,s.1=k/\k<=N/\(0<N->0<k)/\s.2.length=N/\∀j,j<k->s.2[j]? =I x) (λs=>N-s.1.toNat) ?_ ⟨min 1 N,rfl,U,U,dZ,λj ag=>?_⟩
 ·rintro⟨_,c⟩ ⟨k,rfl,ap,uy,aC,ax⟩;dsimp only at aC ax⊢;simp only[dA];refine D.ar (λh=>?_) λh=>?_
  ·refine D.ae (z:=()) (by unfold A1;rw[if_pos U]) (D.ae (z:=()) (by unfold A2;rw[if_pos U]) ?_);have bc:wC c (0+k) (N-k) 0 k=I (c.take k++(c.take k).take (N-k)++c.drop (k+min k (N-k))):=by
    simp_all[wC,if_pos,om]
   refine D.ae bc (D.inl ⟨⟨k+min k (N-k),?_,U,U,?_,λj ag=>?_⟩,?_⟩)
   ·grind[az,b3]
   ·grind
   ·grind
   grind[az,b3]
  ·have:k=N:=by omega
   subst this;have h2:=(XS (x:=x) (c:=c) (s:=k) U).2 ax;rw[g4 U]at h2;have Ce:gF k c=I c:=by unfold gF;rw[if_pos aC]
   exact D.bu (D.ae Ce (D.ret h2))
 grind
theorem ah9(fz:N<=800)(x:b6):Hz (aM n) [x] (N:Int)=I (N,cC N x):=by
 refine D.br ?_;unfold Hz;refine D.ar bt λ_=>?_;have a2:IntKind.u64.wrap (([x]:List b6).length:Int)=IntKind.u64.wrap 1:=rfl;rw[a2];refine D.ae (XR N fz) ?_;dsimp only;rw[if_neg dZ,Jy U];refine D.ae (xd U _) ?_;have j0:om (cC N (⟨0,0⟩:b6)) 0 (cC N (⟨0,0⟩:b6)).length [x]=I ([x].take N++(cC N (⟨0,0⟩:b6)).drop (min 1 N)):=by simp_all[om,if_pos]
 grind[D.ae,min,cC,att]
theorem atv(fz:N<=800)(x:b6):QP (aM n) [x] (N:Int)=I (cC N x):=by
 refine D.br ?_;unfold QP;refine D.ar bt λ_=>?_;have a2:IntKind.u64.wrap (([x]:List b6).length:Int)=IntKind.u64.wrap 1:=rfl;rw[a2];refine D.ae (XR N fz) ?_;dsimp only;rw[if_neg dZ,Jy U];refine D.ae (xd U _) ?_;have j0:om (cC N (⟨0,0⟩:b6)) 0 (cC N (⟨0,0⟩:b6)).length [x]=I ([x].take N++(cC N (⟨0,0⟩:b6)).drop (min 1 N)):=by simp_all[om,if_pos]
 grind[D.ae,min,cC,atu]
end
def z6(l:List b6)(w:Nat)(x:b6):List b6:=
 if x.cU≠0 then cC w x else if x.n< 0\/(l.length:Int)<(x.n+1)*w then cC w (rz 3)else(l.drop (x.n.toNat*w)).take w
section
variable {n : Nat}
def atw{a b:Int}(a4:1<=a/\a<=8)(aF:1<=b/\b<=8):BM (aM n) 1 8 ([a,b]:List Int)=I ad:=by
 refine D.br ?_;unfold BM Qy Qx WT;have e:∀x:Int,1<=x/\x<=8->KR x 1 8=I aS:=λx ak=>by simp_all[KR,decide_eq_false]
 refine D.ae (z:=aS) (D.br (D.ae (z:= -1) (D.br ?_) (D.ret rfl))) (D.ret rfl);refine D.step (D.ar (λ_=>D.ae (z:=a) rfl (D.ae (e a a4) (D.bK dF λ_=>D.inl ?_))) λh=>absurd (show(0:Int)<((2:Nat):Int) by decide) h);refine D.step (D.ar (λ_=>D.ae (z:=b) rfl (D.ae (e b aF) (D.bK dF λ_=>D.inl ?_))) λh=>absurd (show az (0+1)<((2:Nat):Int) by decide) h);exact D.step (D.ar (λh=>absurd h (show ¬az (az (0+1)+1)<((2:Nat):Int) by decide)) λ_=>D.inr rfl)
variable {k:Nat}{l:List b6}{w:Nat}{x:b6}
def atx(aC:l.length=w*k):(z6 l w x).length=w:=by unfold z6;grind
def aty(aC:∀v∈l,jc v)(ak:jc x):∀v∈z6 l w x,jc v:=by grind[z6,Se,List.mem_of_mem_drop,List.mem_of_mem_take]
def atz(aC:l.length=w*k)(g8:w*k<=8)(hw:1<=w)(ap:1<=k/\k<=6)(ax:∀v∈l,jc v)(ak:jc x):Q2 (aM n) l (w:Int) x=I (z6 l w x,0):=by
 have nf:w<=w*k:=Nat.le_mul_of_pos_right _ U;have a2:(l.length:Int)=(w:Int)*(k:Int):=by omega
 have atA:nr (l.length:Int) (w:Int)=I 0:=by unfold nr;rw[if_neg U,a2,Int.mul_tmod_right]
 have atB:nq (l.length:Int) (w:Int)=I (k:Int):=by unfold nq;rw[if_neg U,a2,Int.mul_tdiv_cancel_left _ U]
 refine D.br ?_;unfold Q2 z6;refine D.ae (atw U U) (D.bK dF λ_=>D.ae atA (D.dB (λh=>absurd rfl h) λ_=>D.ae atB (D.ar (λh=>?_) λ_=>D.ae (YR cW λv bp=>by simp_all) (D.bK dF λ_=>D.ae (YR U ax) (D.bK dF λ_=>D.ae rfl (D.ae (ah9 U _) (D.ae (ahY x) ?_)))))))
 ·grind[b3]
 by_cases bg:x.cU≠0
 ·simp only[if_pos bg];have Ce:gF w (cC w x)=I (cC w x):=by unfold gF;rw[if_pos cW]
  show D (au (Hz (aM n) ([x]:List b6) (w:Int)) λcG=>au (gF cG.1 cG.2) λc1=>I (c1,(0:Int))) _;grind[D.ae,ah9,D.ret]
 ·simp only[if_neg bg];refine D.bK (c:=aS) dF λ_=>?_;have atC:Q0 l (w:Int)=I (l,(w:Int)):=by unfold Q0;rw[if_neg dZ]
  refine D.ae atC ?_;have gM:∀i,i<k->i*w+w<=l.length:=λi hi=>by have:(i+1)*w<=k*w:=qX _ hi;grind
  have CO:∀i,k<=i->l.length<=i*w:=λi hi=>by have:k*w<=i*w:=qX _ hi;grind
  have bc:∀i:Nat,((i*w:Nat):Int)=(i:Int)*(w:Int):=λi=>jP _ _;have loop:D (Q1 (aM n) l (w:Int) x w 0 (cC w (⟨3,0⟩:b6))) λz=>z.2=if x.n< 0\/(l.length:Int)<(x.n+1)*w then cC w (rz 3)else(l.drop (x.n.toNat*w)).take w:=by
   unfold Q1 af1;refine D.for k (λi (o:List b6)=>(((i*w:Nat):Int),(i:Int),o)) (λi o=>o=if 0<=x.n/\x.n<(i:Int)then(l.drop (x.n.toNat*w)).take w else cC w (rz 3)) (t0:=cC w (⟨3,0⟩:b6)) cW (by rw[if_neg U];rfl) (λi o hi a7=>?_) λo a7=>?_
   ·have hle:=gM i hi;have c4:i*w<=8:=by omega
    refine D.ar (λ_=>D.ae (uz U (bL _)) ?_) d_;have z3:(((l.drop (i*w)).take (l.length-i*w)).length:Int)=((l.length-i*w:Nat):Int):=by simp
    rw[z3];have atD:it (w:Int) ((l.length-i*w:Nat):Int)=(w:Int):=by unfold it;split<;>omega
    rw[atD];have atE:az (((i*w:Nat):Int)+(w:Int))=((i*w+w:Nat):Int):=by grind[b3]
    rw[atE];have EK:xU l ((i*w:Nat):Int) ((i*w+w:Nat):Int) ((i*w+w:Nat):Int)=I ((l.drop (i*w)).take w):=by unfold xU;rw[if_pos ⟨U,U⟩,uz U hle];rw[show i*w+w-i*w=w by omega]
    refine D.ae EK ?_;have dy:((l.drop (i*w)).take w).length=w:=by grind
    have Ny:o.length=w:=by
     rw[a7];split
     ·next h=>
      have:=gM x.n.toNat U;grind
     ·simp
    unfold Xf;have yM:((i*w+w:Nat):Int)=(((i+1)*w:Nat):Int):=by rw[Nat.add_mul,Nat.one_mul]
    by_cases he:(i:Int)=x.n
    ·have atF:om o 0 w ((l.drop (i*w)).take w)=I ((l.drop (i*w)).take w):=by
      unfold om;rw[if_pos U,dy];have aG:o.drop (0+min w w)=[]:=List.drop_of_length_le U;rw[aG,List.take_zero,List.nil_append,iZ,g4 U]
     refine D.ae (z:=(az ((i:Int)+1),(l.drop (i*w)).take w)) (D.br (D.ar (λ_=>D.ae atF (D.ret rfl)) λh=>absurd he h)) (D.inl ⟨(l.drop (i*w)).take w,?_,?_⟩)
     ·rw[bw U,yM]
     grind
    ·refine D.ae (z:=(az ((i:Int)+1),o)) (D.br (D.ar (λh=>absurd h he) λ_=>D.ret rfl)) (D.inl ⟨o,?_,?_⟩)
     ·rw[bw U,yM]
     grind
   ·have hle:=CO k (bL _);refine D.ar bt λ_=>D.inr ?_;dsimp only;rw[a7];by_cases h:0<=x.n/\x.n<(k:Int)
    ·rw[if_pos h,if_neg];have:=gM x.n.toNat U;grind
    ·rw[if_neg h,if_pos];by_cases a6:x.n< 0
     ·omega
     ·have hq:(k+1)*w<=(x.n.toNat+1)*w:=qX _ U;grind
  refine D.bind loop λz aP=>?_;have hlen:z.2.length=w:=by grind
  simp_all[gF,if_pos,D.ae,D.ret]
def atG(g8:l.length<=8)(hw:w<=8)(ak:jc x):Rf (aM n) l (w:Int) x=I (z6 l w x):=by
 refine D.br ?_;unfold Rf agd z6;refine D.for w (λi (o:List b6)=>(o,(i:Int))) (λi o=>o=if x.cU≠0 then cC i x else if x.n< 0\/(l.length:Int)<(x.n+1)*w then cC i (rz 3)else(l.drop (x.n.toNat*w)).take i) (t0:=[]) rfl cW (λi o hi a7=>?_) λo a7=>?_
 ·refine D.ar (λ_=>?_) d_;by_cases bg:x.cU≠0
  ·rw[if_pos bg]at a7⊢;subst a7;refine D.ar (λ_=>D.ae (eX dZ) (D.inl ⟨_,by rw[bw U],by rw[YP]⟩)) λh=>absurd (ak.gF.1 bg) h
  ·have bh:x.cU=0:=xF.1 bg;have aO:=ak.el bh;rw[if_neg bg]at a7⊢;have hm:=LQ (a:=x.n) (b:=(w:Int)) aO U;have a2:az (az (x.n+1)*(w:Int))=(x.n+1)*(w:Int):=by
    rw[b3 (n:=x.n+1) U U,b3]
    ·grind
    grind
   rw[a2];refine D.ar bt λ_=>D.bK (λh=>?_) λh=>?_
   ·rw[jq,decide_eq_true_eq,decide_eq_true_eq]at h;rw[if_pos h]at a7⊢;subst a7;exact D.ae (z:=rz 3) rfl (D.ae (eX dZ) (D.inl ⟨_,by rw[bw U],by rw[YP]⟩))
   ·rw[jy,decide_eq_false_iff_not,decide_eq_false_iff_not]at h;rw[if_neg (not_or.2 h)]at a7⊢;subst a7;have gN:((x.n.toNat*w:Nat):Int)=x.n*(w:Int):=by
     rw[jP,show((x.n.toNat:Nat):Int)=x.n by omega]
    have h2:=h.2;rw[ahU,tv,<-gN]at h2;have cR:az (az (x.n*(w:Int))+(i:Int))=((x.n.toNat*w+i:Nat):Int):=by grind[Jy,b3]
    rw[cR];have c4:x.n.toNat*w+i<l.length:=by omega
    have bp:l[x.n.toNat*w+i]? =I (l[x.n.toNat*w+i]):=bN c4;refine D.aH bp (D.ae (eX dZ) (D.inl ⟨_,by rw[bw U],?_⟩));have z7:(l.drop (x.n.toNat*w))[i]? =I (l[x.n.toNat*w+i]):=by simp
    rw[da z7]
 simp_all[D.ar,absurd,D.inr]
end
theorem ft.inj:∀{bv cd:ft},bv.ok->cd.ok->bv.b9=cd.b9->bv=cd:=by
 intro bv;induction bv with
 |int=>
  intro cd _ yJ h;cases cd with
  |int=>rfl
  |bool=>exact absurd h ci
  |ik s=>exact absurd (show gP fP by rw[show fP=s from h];exact yJ) gP.RY
  |hn cd k=>exact absurd (show fP[0]? =I 91 by rw[show fP=i' cd.b9 k from h];exact sq _ _) ci
 |bool=>
  intro cd _ yJ h;cases cd with
  |int=>exact absurd h ci
  |bool=>rfl
  |ik s=>exact absurd (show gP fx by rw[show fx=s from h];exact yJ) gP.RZ
  |hn cd k=>exact absurd (show fx[0]? =I 91 by rw[show fx=i' cd.b9 k from h];exact sq _ _) ci
 |ik s=>
  intro cd iG yJ h;cases cd with
  |int=>exact absurd (show gP fP by rw[show fP=s from h.symm];exact iG) gP.RY
  |bool=>exact absurd (show gP fx by rw[show fx=s from h.symm];exact iG) gP.RZ
  |ik s'=>have:s=s':=h;rw[this]
  |hn cd k=>exact absurd (show s[0]? =I 91 by rw[show s=i' cd.b9 k from h];exact sq _ _) (gP.bh iG)
 |hn bv k bx=>
  intro cd iG yJ h;cases cd with
  |int=>exact absurd (show fP[0]? =I 91 by rw[show fP=i' bv.b9 k from h.symm];exact sq _ _) ci
  |bool=>exact absurd (show fx[0]? =I 91 by rw[show fx=i' bv.b9 k from h.symm];exact sq _ _) ci
  |ik s'=>exact absurd (show s'[0]? =I 91 by rw[show s'=i' bv.b9 k from h.symm];exact sq _ _) (gP.bh yJ)
  |hn cd cV=>obtain⟨h1,h2⟩:=Lp h;rw[bx iG.1 yJ.1 h1,X' iG.2 yJ.2 h2]
def gC(t:aZ)(bv:ft):Nat:=(hP t t.nodes.length (2*t.nodes.length+2) bv).getD 0
open Classical in
noncomputable def gv(t:aZ)(s:ByteArray):Nat:=if h:∃bv:ft,bv.ok/\bv.b9=s then gC t (Av h)else 0
theorem tx{t:aZ}{bv:ft}(h:bv.ok):gv t bv.b9=gC t bv:=by
 have ak:∃cd:ft,cd.ok/\cd.b9=bv.b9:=⟨bv,h,rfl⟩
 unfold gv;rw[dif_pos ak];have:=IR ak;rw[ft.inj this.1 h this.2]
abbrev hr:=Nat->List b6
abbrev v3:=List b6×Nat×Nat
def md(t:aZ)(j:Nat):Prop:=eV (af t j).kind=ad\/(af t j).kind=25
def xe(fr:hr)(j:Nat)(l:List b6):hr:=λm=>if m=j then l else fr m
def k_:List Int->List (List b6)->hr
 |p::ps,l::ls=>λm=>if(m:Int)=p then l else k_ ps ls m
 |_,_=>λ_=>[]
def bz(t:aZ)(j i:Nat):Nat:=match(bn t j)[i]? with|some q=>q.toNat|none=>0
def EL(k:Int)(a b:b6):b6:=
 if k=6 then my 7 a b else if k=7 then my 8 a b else if k=8 then my 9 a b else if k=9 then my 10 a b else if k=10 then my 11 a b else
 if k=11 then my 12 a b else if k=12 then tw 6 (my 12 a b)else if k=13 then my 13 a b else if k=14 then my 14 a b else if k=15 then tw 6 (my 14 a b)else tw 6 (my 13 a b)
def ij(l:List b6):b6:=match l with|v::_=>v|[]=>rz 0
def ng:List Nat->Nat
 |[]=>0
 |a::r=>max a (ng r)
def nh(t:aZ)(f:ByteArray):List Int->Nat->Nat
 |[],a=>a
 |q::ql,a=>if(af t q.toNat).text=f then a else nh t f ql (a+gC t (e9 t q.toNat))
def uK(t:aZ)(a3:Nat->Int)(R:Nat->hr->Int->Nat->v3)(fr:hr)(d:Nat):List b6:=
 if(af t d).kind=40 then [n4 (a3 d)]else if(af t d).kind=43 then(R (eL t d) (λ_=>[]) (-1) 0).1 else fr d
section
variable (t : aZ) (O : Nat -> ByteArray) (a3 : Nat -> Int)
noncomputable def mz(R:Nat->hr->Int->Nat->v3)(j:Nat)(fr:hr)(f:Int)(e:Nat):v3:=
 if(af t j).kind=1\/(af t j).kind=2 then([num (af t j).n],1,0)
 else if(af t j).kind=3 then(uK t a3 R fr (fE t j).toNat,1,0)
 else if(af t j).kind=20 then
  ((R (bz t j 1) (xe fr j (R (bz t j 0) fr f e).1) f e).1,1+(R (bz t j 0) fr f e).2.1+(R (bz t j 1) (xe fr j (R (bz t j 0) fr f e).1) f e).2.1,max (R (bz t j 0) fr f e).2.2 (R (bz t j 1) (xe fr j (R (bz t j 0) fr f e).1) f e).2.2)
 else if(af t j).kind=17\/(af t j).kind=18\/(af t j).kind=19 then
  let a:=R (bz t j 0) fr f e
  let v:=ij a.1
  if v.cU≠0 then(cC (gv t (O j)) v,1+a.2.1,a.2.2)
  else if((af t j).kind=18/\v.n=0)\/((af t j).kind≠18/\v.n≠0)then((R (bz t j 1) fr f e).1,1+a.2.1+(R (bz t j 1) fr f e).2.1,max a.2.2 (R (bz t j 1) fr f e).2.2)
  else if(af t j).kind=19 then((R (bz t j 2) fr f e).1,1+a.2.1+(R (bz t j 2) fr f e).2.1,max a.2.2 (R (bz t j 2) fr f e).2.2)
  else([nK (decide (v.n≠0))],1+a.2.1,a.2.2)
 else
  let kf:=(bn t j).map λq=>R q.toNat fr f e
  let l:=kf.flatMap (·.1)
  let s:=1+(kf.map (·.2.1)).sum
  let m:=ng (kf.map (·.2.2))
  if(af t j).kind=4 then([tw 5 (ij l)],s,m)else if(af t j).kind=5 then([tw 6 (ij l)],s,m)
  else if 6<=(af t j).kind/\(af t j).kind<=16 then([EL (af t j).kind (ij l) (ij l.tail)],s,m)
  else if(af t j).kind=21 then
   (if(af t (fE t j).toNat).n<(hD t j f e:Int)then(cC (gv t (O j)) (rz 4),s,m)
    else
    let b:=R (fD t (fE t j).toNat) (k_ (eY t (fE t j).toNat) (kf.map (·.1))) (fE t j) (hD t j f e)
    (b.1,s+b.2.1,max m (1+b.2.2)))
  else if(af t j).kind=22 then
   (match j9 t (O (bz t j 0))with
    |some r=>(match(bn t r).find? λq=>decide ((af t q.toNat).text=(af t j).text)with
     |some q=>((l.drop (nh t (af t j).text (bn t r) 0)).take (gC t (e9 t q.toNat)),s,m)
     |none=>([],s,m))
    |none=>([],s,m))
  else if(af t j).kind=23 then(z6 ((R (bz t j 0) fr f e).1) (gv t (O j)) (ij (R (bz t j 1) fr f e).1),s,m)
  else(l,s,m)
noncomputable def Ii:Nat->Nat->hr->Int->Nat->v3
 |0,_,_,_,_=>([],0,0)
 |k+1,j,fr,f,e=>mz t O a3 (Ii k) j fr f e
noncomputable def bB(j:Nat)(fr:hr)(f:Int)(e:Nat):v3:=Ii t O a3 (ed t e j+1) j fr f e
end
section
variable {t : aZ} {O : Nat -> ByteArray} {a3 : Nat -> Int}
theorem Ij{j i:Nat}{m:Nat}(h:(bn t j)[i]? =I (m:Int)):bz t j i=m:=by unfold bz;grind
variable (aj : cH t) (aR : fZ t) (aY : ∀ i, i < t.nodes.length -> gS t i = 0)
include aj aR aY
variable {d:Nat}
theorem Si(aG:d<t.nodes.length)(ap:(af t d).kind=43):hZ t (-1) 0 (eL t d)/\(d' t (eL t d)).2=d/\eL t d<d/\eV (af t (eL t d)).kind=ad:=by
 have aI:=aR.dI;obtain⟨r,h1,h2⟩:=o7 aI aG (by simp_all[n2]);obtain⟨m,e,ay,bl,bO⟩:=Sc aj aR aY aG (by rw[ap];rfl) U (show(eL t d:Int)∈bn t d by simp_all);have e:eL t d=m:=fC e;rw[<-e]at bl bO;refine⟨bl,bO,h2,?_⟩;have ak:(af t d).a8[0]? =I (eL t d:Int):=by rw[<-dJ aG,h1];rfl
 have pd:=ru aj aI aG ak;simp_all[o6,if_neg]
variable {e:Nat}{f:Int}{j:Nat}
theorem Y0(hC:hZ t f e j)(aG:d<j)(ap:(af t d).kind=43):ed t 0 (eL t d)<ed t e j:=by have aI:=aR.dI;have fz:=aj.nodes;obtain⟨_,h1,h2,_⟩:=Si aj aR aY (show d<t.nodes.length by have:=hC.1;omega) ap;have ay:=(Et aI j hC.1).2.2.1;grind[ed]
theorem tz {m:Nat}(ag:j<t.nodes.length)(ap:md t j)(aB:(m:Int)∈bn t j):md t m:=by
 have aI:=aR.dI;rcases ap with ap|ap
 ·obtain⟨m',e,_,h⟩:=Yr aj aI ag ap aB;have e:m=m':=fC e;subst e;exact h
 ·obtain⟨_,h1,h2⟩:=R5 aj aI ag ap;have aC:=n2 aI ag U;obtain⟨r,ay,_⟩:=o7 aI ag U;rw[ay]at aB;have aO:r=[]:=by
   simp_all[congrArg,List.length,dJ,List.eq_nil_of_length_eq_zero]
  subst aO;have:m=eL t j:=fC dq;subst this;exact .inl h2
theorem aia{R lw:Nat->hr->Int->Nat->v3}{fr:hr}(hC:hZ t f e j)(ap:md t j)(h:∀m g1 gA im,hZ t gA im m->md t m->ed t im m<ed t e j->R m g1 gA im=lw m g1 gA im):mz t O a3 R j fr f e=mz t O a3 lw j fr f e:=by
 have aI:=aR.dI;have ag:=hC.1;have tA:∀q∈bn t j,∀g1,R q.toNat g1 f e=lw q.toNat g1 f e:=λq aB g1=>by obtain⟨m,rfl,_,h1,h2⟩:=hC.lQ aj aR aY aB;grind[tz]
 have xf:∀i,i<(bn t j).length->∀g1,R (bz t j i) g1 f e=lw (bz t j i) g1 f e:=λi hi g1=>by simp_all[bN,cm,bz]
 have Jf:(bn t j).map (λq=>R q.toNat fr f e)=(bn t j).map λq=>lw q.toNat fr f e:=vW λq aB=>tA q aB fr;have hlen:=dJ ag;unfold mz;by_cases bX:(af t j).kind=1\/(af t j).kind=2
 ·rw[if_pos bX,if_pos bX]
 rw[if_neg bX,if_neg bX];by_cases dQ:(af t j).kind=3
 ·rw[if_pos dQ,if_pos dQ];have:uK t a3 R fr (fE t j).toNat=uK t a3 lw fr (fE t j).toNat:=by
   obtain⟨d,aG,gu⟩:=zR aj aI ag (aY j ag) (by rw[dQ];rfl);unfold uK;rw[aG,dA];split
   ·rfl
   ·split
    ·next xg=>
     obtain⟨h1,_,_,h2⟩:=Si aj aR aY gu.lt xg;rw[h _ _ _ _ h1 (.inl h2) (Y0 aj aR aY hC (gu.kk aI U).2 xg)]
    ·rfl
  rw[this]
 rw[if_neg dQ,if_neg dQ];by_cases ni:(af t j).kind=20
 ·rw[if_pos ni,if_pos ni];have aC:=w7 aI ag ni;rw[xf 0 dq,xf 1 dq]
 rw[if_neg ni,if_neg ni];by_cases yN:(af t j).kind=17\/(af t j).kind=18\/(af t j).kind=19
 ·rw[if_pos yN,if_pos yN];have aC:2<=(af t j).a8.length/\((af t j).kind=19->3<=(af t j).a8.length):=by
   by_cases LR:(af t j).kind=19
   ·grind[uE,k7]
   grind[z0,absurd]
  grind
 rw[if_neg yN,if_neg yN,Jf];dsimp only;split
 ·rfl
 ·split
  ·rfl
  ·split
   ·rfl
   ·split
    ·next Ik=>
     obtain⟨d,aG,fh,c7,ax⟩:=hC.call aj aR aY Ik;rw[aG,dA];split
     ·rfl
     ·next dL=>
      obtain⟨h1,h2,_⟩:=ax dL;rw[h _ _ _ _ h1 (.inl (rx aj aI fh c7).2.2) h2]
    simp_all[z0]
theorem atH:∀(k cV j:Nat)(fr:hr)(f:Int)(e:Nat),hZ t f e j->md t j->ed t e j<k->ed t e j<cV->Ii t O a3 k j fr f e=Ii t O a3 cV j fr f e:=by
 intro k;induction k with
 |zero=>omega
 |succ k bx=>
  intro cV j fr f e hC ap h cr;cases cV with
  |zero=>omega
  |succ cV=>grind[mz,Ii,aia]
theorem yO{fr:hr}(hC:hZ t f e j)(ap:md t j):bB t O a3 j fr f e=mz t O a3 (bB t O a3) j fr f e:=by have:bB t O a3 j fr f e=mz t O a3 (Ii t O a3 (ed t e j)) j fr f e:=rfl;rw[this];exact aia aj aR aY hC ap λm g1 gA im h1 h2 ay=>atH aj aR aY (ed t e j) (ed t im m+1) m g1 gA im h1 h2 ay (Nat.lt_succ_self _)
end
def kL(l:List b6)(w:Nat):Prop:=l.length=w/\∀v∈l,jc v
def iH(t:aZ)(O:Nat->ByteArray)(fr:hr)(j:Nat):Prop:=
 ∀d:Nat,(d:Int)∈(d' t j).1->((af t d).kind=20->kL (fr d) (gv t (O (eL t d))))/\((af t d).kind=34->kL (fr d) (gC t (e9 t d)))
section
variable {t : aZ} {O : Nat -> ByteArray} {a3 : Nat -> Int}
variable {l:List b6}{w:Nat}
theorem kL.aG(h:kL l w)(hw:1<=w):jc (ij l)/\l[0]? =I (ij l):=by
 cases l with
 |nil=>have:=h.1;grind
 |cons v r=>exact⟨h.2 v x1,rfl⟩
variable {v:b6}
theorem kL.one(h:jc v):kL [v] 1:=⟨rfl,λx ak=>by simp_all⟩
theorem kL.Y1(h:jc v)(k:Nat):kL (cC k v) k:=⟨by simp,λx ak=>by simp_all⟩
theorem xh(h:kL l w):jc (ij l):=by
 cases l with
 |nil=>exact .inl ⟨rfl,by decide,by decide⟩
 |cons v r=>exact h.2 v x1
theorem EM:gv t fP=1:=tx (bv:=.int) trivial
theorem yP:gv t fx=1:=tx (bv:=.bool) trivial
theorem ma.gC{j:Nat}{bv:ft}(h:ma t j bv)(ag:j<=t.nodes.length):∃c,1<=c/\c<=8/\gC t bv=c/\hP t t.nodes.length (2*t.nodes.length+2) bv=I c:=by obtain⟨c,h1,h2,ay⟩:=h.tZ;grind[zQ,Proofs.YtjfgooffdmnnkaaGreatDoor.gC]
theorem Cf{d:Nat}{bv:ft}{c:Nat}(h:hP t t.nodes.length d bv=I c)(aG:d<=2*t.nodes.length+2):gC t bv=c:=by unfold gC;rw[zQ h aG (bL _)];rfl
theorem TU{l:List (List b6×Nat×Nat)}{ws:List Nat}(h:l.map (λr=>r.1.length)=ws):(l.flatMap (·.1)).length=ws.sum:=by simp_all
theorem Sj:∀{ps:List Int}{ls:List (List b6)}{a m:Nat}{l:List b6},ps.Pairwise (· < ·)->ps[a]? =I (m:Int)->ls[a]? =I l->k_ ps ls m=l:=by
 intro ps;induction ps with
 |nil=>simp
 |cons p ps bx=>
  intro ls a m l hp hm aC;cases ls with
  |nil=>simp at aC
  |cons x ls=>
   cases a with
   |zero=>simp_all[k_,if_pos]
   |succ a=>simp at hm aC;show(if(m:Int)=p then x else k_ ps ls m)=l;have:=(Cb.1 hp).1 (m:Int) (cm hm);grind
variable (aj : cH t) (aR : fZ t) (aY : ∀ i, i < t.nodes.length -> gS t i = 0) (bH : mv t O t.nodes.length)
include aj aR aY
variable {d j:Nat}
theorem Sk(ag:j<t.nodes.length)(h:(af t j).kind=3)(aG:fE t j=d)(ap:(af t d).kind=20\/(af t d).kind=34):(d:Int)∈(d' t j).1:=by
 have aI:=aR.dI;have hm:fE t j=match uD t j (af t j).text with|some d=>if l9 (af t j).kind (af t d.toNat).kind then d else-1|none=> -1:=by unfold fE;rw[if_pos (by rw[h];rfl)];rfl
 rw[hm]at aG;cases e:uD t j (af t j).text with
 |none=>simp_all
 |some db=>
  rw[e]at aG;dsimp only at aG;split at aG
  ·subst aG;rcases h3.1 (List.mem_of_find?_eq_some e)with h1|h1
   ·exact h1
   ·have h2:=(List.mem_filter.1 h1).1;obtain⟨m,a2,_,hO⟩:=aI.ht.fw _ h2;have a2:d=m:=fC a2;subst a2;have:=Lu aI hO h2;rcases ap with ap|ap<;>(rw[ap]at this;cases this)
  omega
variable {m:Nat}
theorem iH.lQ{fr:hr}(ag:j<t.nodes.length)(hm:(m:Int)∈bn t j)(ap:(af t j).kind≠20/\(af t j).kind≠42)(h:iH t O fr j):iH t O fr m:=by have aI:=aR.dI;obtain⟨m',e,hO⟩:=jz aI ag hm;have e:m=m':=fC e;subst e;intro d aG;rw[l_ aI U (ny aI ag hm)]at aG;refine h d ?_;simp_all[hl,if_neg]
theorem iH.LS{fr:hr}(ag:j<t.nodes.length)(ap:(af t j).kind=20)(h:iH t O fr j):iH t O fr (bz t j 0):=by
 have aI:=aR.dI;have aC:=w7 aI ag ap;have gL:=dJ ag;obtain⟨r,h1,h2⟩:=o7 aI ag U;obtain⟨y,a9⟩:=Lz (l:=r) dZ;subst a9;have bh:bz t j 0=eL t j:=Ij dZ;have xi:=zO aI ag;rw[<-gL,h1]at xi;have b':=(Cb.1 xi).1 y cW;intro d aG;rw[bh,l_ aI U (ny aI ag dZ)]at aG;refine h d ?_;have:hl t j (eL t j)=[]:=by unfold hl;rw[h1,if_neg];grind
 simp_all
theorem iH.LU{fr:hr}{l:List b6}(ag:j<t.nodes.length)(ap:(af t j).kind=20)(h:iH t O fr j)(aC:kL l (gv t (O (eL t j)))):iH t O (xe fr j l) (bz t j 1):=by
 have aI:=aR.dI;have hlen:=w7 aI ag ap;have gL:=dJ ag;obtain⟨a,b,LV⟩:=Ly (l:=bn t j) dq;obtain⟨m,e,hO⟩:=jz aI ag (show b∈bn t j by grind);subst e;have h1:bz t j 1=m:=Ij dZ;have u_:(m:Int)∈bn t j:=by grind
 intro d aG;rw[h1,l_ aI U (ny aI ag u_)]at aG;unfold xe;by_cases e:d=j
 ·simp_all
 ·rw[if_neg e];refine h d ?_;rcases h3.1 aG with aG|aG
  ·unfold hl at aG;grind
  ·exact aG
omit aY in
theorem iH.kk(aG:d<t.nodes.length)(ap:kT (af t d).kind=ad)(c7:(af t d).kind≠42)(hm:(m:Int)∈bn t d)(fr:hr):iH t O fr m:=by
 have aI:=aR.dI;obtain⟨m',e,hO⟩:=jz aI aG hm;have e:m=m':=fC e;subst e;intro x ak;rw[l_ aI U (ny aI aG hm),sn aG ((vQ aI aG).2 (B4 aI aG ap))]at ak;have:hl t d m=[]:=by unfold hl;rw[if_neg (show ¬(af t d).kind=20 from λe=>by rw[e]at ap;cases ap),if_neg c7];split<;>rfl
 simp_all
omit aY in
theorem iH.call{ls:List (List b6)}(aG:d<t.nodes.length)(c7:(af t d).kind=42)(B9:∀a m:Nat,(eY t d)[a]? =I (m:Int)->∃l,ls[a]? =I l/\kL l (gC t (e9 t m))):iH t O (k_ (eY t d) ls) (fD t d):=by
 have aI:=aR.dI;obtain⟨lq,ku,q1⟩:=rx aj aI aG c7;have hm:(fD t d:Int)∈bn t d:=cm lq;have xi:(eY t d).Pairwise (· < ·):=by grind[zO,eY,dJ,List.Pairwise.sublist,List.take_sublist]
 intro x ak;rw[l_ aI U (ny aI aG hm),sn aG ((vQ aI aG).2 (LM aI aG c7)),iZ]at ak;unfold hl at ak;rw[if_neg (show ¬(af t d).kind=20 by omega),if_pos c7]at ak;split at ak
 ·rcases h3.1 ak with ak|ak
  ·obtain⟨a,a4⟩:=List.getElem?_of_mem (show(x:Int)∈eY t d from ak);grind[xa,fC,Sj]
  grind
 ·cases ak
end
section
variable {t : aZ} {O : Nat -> ByteArray} {a3 : Nat -> Int}
variable (aj : cH t) (aR : fZ t) (aY : ∀ i, i < t.nodes.length -> gS t i = 0) (bH : mv t O t.nodes.length)
include aj aR aY bH
variable {j:Nat}
theorem oz(ag:j<t.nodes.length)(ap:md t j):∃bv:ft,O j=bv.b9/\bv.ok/\gv t (O j)=gC t bv/\1<=gC t bv/\gC t bv<=8/\hP t t.nodes.length (2*t.nodes.length+2) bv=I (gC t bv):=by
 have aI:=aR.dI;have key:∀m,m<t.nodes.length->eV (af t m).kind=ad->∃bv:ft,O m=bv.b9/\bv.ok/\gv t (O m)=gC t bv/\1<=gC t bv/\gC t bv<=8/\hP t t.nodes.length (2*t.nodes.length+2) bv=I (gC t bv):=by intro m hm ap;obtain⟨bv,h1,h2⟩:=bH.ex m hm ap;obtain⟨c,ay,bl,bO,cX⟩:=h2.gC U;exact⟨bv,h1,h2.ok,by rw[h1,tx h2.ok],U,U,dq⟩
 rcases ap with ap|ap
 ·simp_all
 ·obtain⟨_,h1,h2⟩:=R5 aj aI ag ap;rw[bH.put j ag ap];grind
theorem Cg{R:Nat->hr->Int->Nat->v3}{fr:hr}{f:Int}{e:Nat}(aK:∀q∈bn t j,kL (R q.toNat fr f e).1 (gv t (O q.toNat))):kL (((bn t j).map λq=>R q.toNat fr f e).flatMap (·.1)) ((ec t O j).map (gv t)).sum:=by
 constructor
 ·apply TU;rw[lZ];unfold ec;rw[lZ];apply vW;intro q aB;exact(aK q aB).1
 ·intro v bp;obtain⟨r,aO,bp⟩:=List.mem_flatMap.1 bp;obtain⟨q,aB,rfl⟩:=List.mem_map.1 aO;exact(aK q aB).2 v bp
theorem Y2(qn:ByteArray):∀(l:List Int)(a:Nat)(q:Int),(l.find? λq=>decide ((af t q.toNat).text=qn))=I q->nh t qn l a+gC t (e9 t q.toNat)<=a+(l.map λq=>gC t (e9 t q.toNat)).sum
 |[],a,q,h=>by cases h
 |x::r,a,q,h=>by
  rw[List.find?_cons]at h;unfold nh;by_cases e:(af t x.toNat).text=qn
  ·simp_all
  ·rw[decide_eq_false e]at h;rw[if_neg e];have:=Y2 qn r (a+gC t (e9 t x.toNat)) q h;grind
theorem Y3{s:ByteArray}{c r:Nat}(h:hP t t.nodes.length (2*t.nodes.length+2) (.ik s)=I c)(aO:j9 t s=I r):c=((bn t r).map λq=>gC t (e9 t q.toNat)).sum:=by
 obtain⟨i,cs,h1,_,h2,_,bl⟩:=H9 (d:=2*t.nodes.length+1) h;rw[aO]at h1;cases h1;rw[bl];have:(bn t r).map (λq=>gC t (e9 t q.toNat))=cs:=by have bO:=congrArg (λl=>l.map λo:Option Nat=>o.getD 0) h2;simp only[lZ]at bO;rw[show(cs.map ((λo:Option Nat=>o.getD 0)∘I))=cs by rw[show((λo:Option Nat=>o.getD 0)∘I)=(id:Nat->Nat)from rfl,List.map_id]]at bO;grind[vW,hP,e9,List.mem_map_of_mem,gC,Cf]
 rw[this]
theorem Y4(ag:j<t.nodes.length)(h:(af t j).kind=1\/(af t j).kind=2): -9999<=(af t j).n/\(af t j).n<=9999:=by
 have h2:=((aR.dI.qy j _ (k9 ag)).1).num;have ay:=Le (af t j);rw[h2]at ay;unfold oZ at ay;rcases h with h|h
 ·simp_all
 ·simp[h]at ay;omega
theorem atI{k:ByteArray}(h:jg k (ec t O j)=ad):(ec t O j).map (gv t)=cC (ec t O j).length (gv t k):=by
 apply List.ext_getElem?;intro i;rw[List.getElem?_map,List.getElem?_replicate];by_cases hi:i<(ec t O j).length
 ·simp_all[if_pos,bN,LK,ec,List.getElem_mem]
 simp_all
end
end Go.Proofs.YtjfgooffdmnnkaaGreatDoor

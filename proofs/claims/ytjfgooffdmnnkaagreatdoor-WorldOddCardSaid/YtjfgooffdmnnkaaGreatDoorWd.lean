/- Texts of types: the program's split. -/
import Derived.Test.YtjfgooffdmnnkaaGreatDoorWc
set_option linter.all false
set_option maxRecDepth 100000
namespace Go.Dp
open Go.Mi
open Bool renaming true->ad,and_eq_true->dn,not_eq_true'->oQ,false->aS
open _root_.ByteArray renaming size_append->mu,extract_append_eq_left->Ew,extract_append_eq_right->R0,append_assoc->B0,size_extract->HY,getElem_extract->ahg,getElem_append_right->ahh,extract_append_size_add'->RS
open Int renaming toNat_natCast->dA,eq_ofNat_of_zero_le->w0,natCast_mul->jP
open Int.ofNat renaming inj->fC
open List renaming mem_of_getElem?->cm,getElem?_eq_getElem->bN,take_of_length_le->g4,getElem?_of_mem->hf,map_append->hT,getElem?_eq_some_iff->cz,getElem?_map->gQ,find?_append->nd,length_map->hI,mem_cons_self->x1,mem_append->h3,mem_of_find?_eq_some->zL,mem_cons_of_mem->F1,length->sI,getElem?_range->Ez,range->gD
open Nat renaming le_refl->bL,mul_le_mul->FF
open Option renaming some->I,bind->au,none->aJ,bind_some->bE
def D.step{cd R:Type}{body:cd->Option (cd ⊕ R)}{s:cd}{T:R->Prop}(h:D (body s) (jv (λs'=>D (fv body s') T) T)):D (fv body s) T:=by
 obtain⟨r,e,q⟩:=h;cases r with
 |inl s'=>rw[fv.on e];exact q
 |inr r=>rw[fv.bu e];exact⟨r,rfl,q⟩
end Go.Dp
namespace Go.Proofs.YtjfgooffdmnnkaaGreatDoor
open Go Go.Mi Go.RowKit Go.Dp
open Bool renaming true->ad,and_eq_true->dn,not_eq_true'->oQ,false->aS
open _root_.ByteArray renaming size_append->mu,extract_append_eq_left->Ew,extract_append_eq_right->R0,append_assoc->B0,size_extract->HY,getElem_extract->ahg,getElem_append_right->ahh,extract_append_size_add'->RS
open Int renaming toNat_natCast->dA,eq_ofNat_of_zero_le->w0,natCast_mul->jP
open Int.ofNat renaming inj->fC
open List renaming mem_of_getElem?->cm,getElem?_eq_getElem->bN,take_of_length_le->g4,getElem?_of_mem->hf,map_append->hT,getElem?_eq_some_iff->cz,getElem?_map->gQ,find?_append->nd,length_map->hI,mem_cons_self->x1,mem_append->h3,mem_of_find?_eq_some->zL,mem_cons_of_mem->F1,length->sI,getElem?_range->Ez,range->gD
open Nat renaming le_refl->bL,mul_le_mul->FF
open Option renaming some->I,bind->au,none->aJ,bind_some->bE
theorem Ya{a b:ByteArray}{j:Nat}:(a++b)[a.size+j]? =b[j]? :=by grind[mu,ahh]
def jA:ByteArray:=⟨#[59,32]⟩
section
variable {n : Nat}
def ahi:P_ (aM n) jA=I (536883867,637696617):=by unfold P_ afr;simp only[Dk];rw[fv.on (s':=(32,0)) (by rfl),fv.on (s':=(536883867,-1)) (by rfl)];refine fv.bu ?_;show Option.map Sum.inr (P9 jA (aM n) 536883867)=_;unfold P9 afq;simp only[Dk];rw[show(jA.size:Int)=2 from rfl];rw[fv.on (s':=(1,637696617,1)) (by rfl),fv.on (s':=(637696617,1345077009,0)) (by rfl),fv.bu (r:=(536883867,637696617)) (by rfl)];rfl
def H5{a:ByteArray}{N:Nat}{d h1 h2:Int}(fz:N< 1000000)(gw:a.size=N+3)(eu:gW a (N:Int)=I 59)(hF:gW a ((N+1:Nat):Int)=I 32)(gI:gW a ((N+2:Nat):Int)=I d)(ak:a.extract N (N+2)=jA)
  (ea:IntKind.u32.wrap ((IntKind.u32.wrap (0*16777619))+(IntKind.u32.wrap d))=h1) (fN:IntKind.u32.wrap ((IntKind.u32.wrap (h1*16777619))+(IntKind.u32.wrap 32))=h2) (jZ:¬h2=536883867)
  (wz:IntKind.u32.wrap ((IntKind.u32.wrap ((IntKind.u32.wrap (h2*16777619))+(IntKind.u32.wrap 59)))-(IntKind.u32.wrap (637696617*(IntKind.u32.wrap d))))=536883867):Hf (aM n) a jA=I (N:Int):=by
 have go:az ((a.size:Int)- 1)=((N+2:Nat):Int):=by grind[b3]
 have es:(jA.size:Int)=2:=rfl;have gN:az ((a.size:Int)- 2)=((N+1:Nat):Int):=by grind[b3]
 have ki:az (((N+2:Nat):Int)- 1)=((N+1:Nat):Int):=by grind
 have ahj:az (((N+1:Nat):Int)- 1)=(N:Int):=by grind[b3]
 have mm:az ((N:Int)+2)=((N+2:Nat):Int):=by grind
 refine D.br ?_;unfold Hf;refine D.ae ahi ?_;unfold WF;simp only[Dk,es,go,gN];refine D.step (D.ar (λ_=>D.ae gI (D.inl ?_)) d_);rw[ea,ki];refine D.step (D.ar (λ_=>D.ae hF (D.inl ?_)) d_);rw[fN,ahj];refine D.step (D.ar bt λ_=>D.bu ?_);unfold Qa;refine D.ar (λh=>absurd h jZ) λ_=>?_;unfold He WE;simp only[Dk,es,gN,ahj];refine D.step (D.ar (λ_=>D.ae eu ?_) d_);rw[mm];exact D.ae gI (D.ar (λ_=>D.ae (lN U U) (D.ar (λ_=>D.inr rfl) λh=>absurd ak h)) λh=>absurd wz h)
variable {s:ByteArray}
def arQ(aQ:s.size< 1000000)(h1:0<s.size){k:Nat}(ap:1<=k/\k<=6):Hg (aM n) (s++(jA++h' k)) jA=I (s.size:Int):=by
 have gw:(s++(jA++h' k)).size=s.size+3:=by rw[mu,mu];rfl
 have Z:(s++(jA++h' k))[s.size+0]? =I 59:=by rw[Ya];rcases zP ap with rfl|rfl|rfl|rfl|rfl|rfl<;>decide
 have an:(s++(jA++h' k))[s.size+1]? =I 32:=by rw[Ya];rcases zP ap with rfl|rfl|rfl|rfl|rfl|rfl<;>decide
 have a':(s++(jA++h' k))[s.size+2]? =I (UInt8.ofNat (48+k)):=by rw[Ya];rcases zP ap with rfl|rfl|rfl|rfl|rfl|rfl<;>decide
 have ak:(s++(jA++h' k)).extract s.size (s.size+2)=jA:=by have:=RS (a:=s) (b:=jA++h' k) (i:=0) (j:=2) (k:=s.size) rfl;rw[Nat.add_zero]at this;rw[this];exact Ew rfl
 have key:Hf (aM n) (s++(jA++h' k)) jA=I (s.size:Int):=by
  have eu:=lM Z;have hF:=lM an;have gI:=lM a';rcases zP ap with rfl|rfl|rfl|rfl|rfl|rfl
  ·exact H5 (d:=49) (h1:=49) (h2:=822103363) aQ gw eu hF gI ak rfl rfl ci rfl
  ·exact H5 (d:=50) (h1:=50) (h2:=838880982) aQ gw eu hF gI ak rfl rfl ci rfl
  ·exact H5 (d:=51) (h1:=51) (h2:=855658601) aQ gw eu hF gI ak rfl rfl ci rfl
  ·exact H5 (d:=52) (h1:=52) (h2:=872436220) aQ gw eu hF gI ak rfl rfl ci rfl
  ·exact H5 (d:=53) (h1:=53) (h2:=889213839) aQ gw eu hF gI ak rfl rfl ci rfl
  ·exact H5 (d:=54) (h1:=54) (h2:=905991458) aQ gw eu hF gI ak rfl rfl ci rfl
 have es:(jA.size:Int)=2:=rfl;refine D.br ?_;unfold Hg;rw[es];exact D.ar lp λ_=>D.ar lp λ_=>D.ar bt λ_=>D.ar bt λ_=>D.ae key (D.ret rfl)
def Yb{i:Nat}(h:i<s.size):∃b,gW s (i:Int)=I b:=⟨_,lM (getElem?_pos s i h)⟩
def arR(aQ:s.size< 1000000):D (Hg (aM n) s jA) λ_=>True:=by
 have es:(jA.size:Int)=2:=rfl;unfold Hg;rw[es];refine D.ar lp λ_=>D.ar lp λ_=>D.ar (λh=>D.ar (λ_=>D.ret trivial) λ_=>D.ret trivial) λh2=>D.ar (λ_=>D.ret trivial) λay=>?_;have gN:az ((s.size:Int)- 2)=(s.size:Int)- 2:=b3 U U;have go:az ((s.size:Int)- 1)=(s.size:Int)- 1:=b3 U U;have ki:az ((s.size:Int)- 2- 1)=(s.size:Int)- 3:=by grind[b3]
 refine D.bind (Q:=λ_=>True) ?_ λ_ _=>D.ret trivial;unfold Hf;refine D.ae ahi ?_;unfold WF;simp only[Dk,es,go,gN];refine D.b1 (λs':Int×Int=>(s.size:Int)- 3<=s'.2/\s'.2<=(s.size:Int)- 1) (λs'=>(s'.2+4-s.size).toNat) ?_ ⟨U,U⟩;rintro⟨h,i⟩ ⟨wu,fV⟩;dsimp only at wu fV⊢;refine D.ar (λax=>?_) λ_=>D.bu ?_
 ·obtain⟨j,rfl⟩:=w0 (show 0<=i by omega);obtain⟨b,aF⟩:=Yb (s:=s) (i:=j) U;refine D.ae aF (D.inl ⟨⟨?_,?_⟩,?_⟩)<;>(try dsimp only)<;>rw[vj U]<;>omega
 ·unfold Qa;have rest:∀h,D (He h s jA (aM n) (536883867,637696617) ()) λ_=>True:=by
   intro h;unfold He WE;simp only[Dk,es,gN,ki];refine D.b1 (λs':Int×Int=> -1<=s'.2/\s'.2<=(s.size:Int)- 3) (λs'=>(s'.2+1).toNat) ?_ ⟨U,U⟩;rintro⟨h,i⟩ ⟨wu,fV⟩;dsimp only at wu fV⊢;refine D.ar (λax=>?_) λ_=>D.inr trivial;obtain⟨j,rfl⟩:=w0 ax;have mm:az ((j:Int)+2)=((j+2:Nat):Int):=by grind[b3]
   obtain⟨b,aF⟩:=Yb (s:=s) (i:=j) U;obtain⟨g5,mF⟩:=Yb (s:=s) (i:=j+2) U;have next:∀z:Int,D (I (Sum.inl (z,az ((j:Int)- 1)):(Int×Int) ⊕ Int)) (jv (λs':Int×Int=>(-1<=s'.2/\s'.2<=(s.size:Int)- 3)/\(s'.2+1).toNat<((j:Int)+1).toNat) λ_=>True):=λz=>by refine D.inl ⟨⟨?_,?_⟩,?_⟩<;>(try dsimp only)<;>rw[vj U]<;>omega
   rw[mm];exact D.ae aF (D.ae mF (D.ar (λ_=>D.ae (lN U U) (D.ar (λ_=>D.inr trivial) λ_=>next _)) λ_=>next _))
  have so:iP s ((s.size:Int)- 2) (s.size:Int)=I (s.extract (s.size- 2) s.size):=by grind[lN]
  rw[es,gN];refine D.ar (λ_=>D.ae so (D.ar (λ_=>D.ret trivial) λ_=>rest _)) λ_=>rest _
end
section
variable {n : Nat}
def arS{k:Nat}(h:1<=k/\k<=6):Qe (aM n) (h' k)=I (k:Int):=by
 have key:Qb (aM n) (h' k) (h' k) (0,0)=I (k:Int):=by unfold Qb;simp only[Dk];rw[fv.on (s':=((k:Int),1)) (by rcases zP h with rfl|rfl|rfl|rfl|rfl|rfl<;>rfl),fv.bu (r:=(k:Int)) (by rcases zP h with rfl|rfl|rfl|rfl|rfl|rfl<;>rfl)]
 have h2:WI (aM n) (h' k)=Qb (aM n) (h' k) (h' k) (0,0):=by rcases zP h with rfl|rfl|rfl|rfl|rfl|rfl<;>rfl
 simp_all[Qe]
def ahk{bv:ft}(h:bv.ok)(aQ:bv.b9.size< 1000000){r:ByteArray->Option (ByteArray×Int×Bool)}(aO:r bv.b9=I bv.tp):Hh (aM n) r bv.b9=I ad:=by
 obtain⟨b,ay,_,bl⟩:=RL (n:=n) (s:=bv.b9) (by omega);refine D.br ?_;unfold Hh;refine D.bK (λ_=>D.ret rfl) λh2=>D.ae ay (D.bK (λ_=>D.ret rfl) λaF=>D.ae aO (D.ret ?_));have h2:(decide (bv.b9=fP)||decide (bv.b9=fx))=aS:=h2;cases bv with
 |int=>cases h2
 |bool=>cases h2
 |hn bv k=>rfl
 |ik s=>have:=bl.2 h;simp_all
def arT(s:ByteArray)(k:Nat):Hb (i' s k) ⟨#[91]⟩=I (s++(jA++(h' k++⟨#[93]⟩)),ad):=by
 have gw:=w9 s k;have a2:(i' s k).extract 0 1=⟨#[91]⟩:=by rw[RX];exact Ew rfl
 have bc:(i' s k).extract 1 (i' s k).size=s++(jA++(h' k++⟨#[93]⟩)):=by rw[RX];exact R0 rfl (mu)
 have ahl:BB (i' s k) ⟨#[91]⟩=I ad:=by refine D.br ?_;unfold BB;refine D.ar (λ_=>D.ae (lN (i:=0) (j:=1) U U) (D.ret ?_)) λh=>absurd (show(1:Int)<=_ by omega) h;grind
 unfold Hb P7;rw[ahl];show au (au (iP (i' s k) ((1:Nat):Int) ((i' s k).size:Int)) _) _=_;rw[lN U (bL _),bc];rfl
def arU(s:ByteArray)(aQ:s.size< 1000000)(k:Nat):KK (s++(jA++(h' k++⟨#[93]⟩))) ⟨#[93]⟩=I (s++(jA++h' k),ad):=by
 have H6:s++(jA++(h' k++⟨#[93]⟩))=(s++(jA++h' k))++⟨#[93]⟩:=by rw[B0,B0]
 rw[H6];have gw:(s++(jA++h' k)).size=s.size+3:=by rw[mu,mu];rfl
 generalize s++(jA++h' k)=a at*;have oT:(a++⟨#[93]⟩:ByteArray).size=a.size+1:=by rw[mu];rfl
 have nZ:az (((a++⟨#[93]⟩:ByteArray).size:Int)- 1)=(a.size:Int):=by grind[b3]
 have a2:(a++⟨#[93]⟩:ByteArray).extract a.size (a++⟨#[93]⟩:ByteArray).size=⟨#[93]⟩:=R0 rfl mu;have bc:(a++⟨#[93]⟩:ByteArray).extract 0 a.size=a:=Ew rfl;have ahm:Hd (a++⟨#[93]⟩) ⟨#[93]⟩=I ad:=by refine D.br ?_;unfold Hd;refine D.ar (λ_=>?_) λh=>absurd (show(1:Int)<=_ by omega) h;show D (au (iP _ (az (((a++⟨#[93]⟩:ByteArray).size:Int)- 1)) _) _) _;rw[nZ];refine D.ae (lN U (bL _)) (D.ret ?_);grind
 grind[KK,P8,au,iP,az,lN]
def ahn:∀(f:Nat)(bv:ft),bv.b9.size<f->bv.ok->bv.b9.size< 1000000->KL (aM n) f bv.b9=I bv.tp:=by
 intro f;induction f with
 |zero=>omega
 |succ f bx=>
  intro bv bg ap aQ;show Qg (aM n) (KL (aM n) f) bv.b9=_;refine D.br ?_;unfold Qg;by_cases aC:∃cd k,bv=.hn cd k
  ·obtain⟨cd,k,rfl⟩:=aC;have gw:(ft.hn cd k).b9.size=cd.b9.size+5:=w9 _ _;have hp:=ft.pos ap.1;have hi:(cd.b9++(jA++h' k)).size=cd.b9.size+3:=by rw[mu,mu];rfl
   have nZ:az ((cd.b9.size:Int)+2)=((cd.b9.size+2:Nat):Int):=by grind[b3]
   have a2:(cd.b9++(jA++h' k)).extract (cd.b9.size+2) (cd.b9++(jA++h' k)).size=h' k:=by rw[<-B0];refine R0 (by rw[mu];rfl) (by rw[mu])
   have bc:(cd.b9++(jA++h' k)).extract 0 cd.b9.size=cd.b9:=Ew rfl;refine D.ae (arT _ _) (D.ae (arU _ U _) (D.ae (arQ U hp ap.2) ?_));dsimp only;rw[nZ];have s1:iP (cd.b9++(jA++h' k)) ((cd.b9.size+2:Nat):Int) ((cd.b9++(jA++h' k)).size:Int)=I (h' k):=by rw[lN U (bL _),a2]
   have s2:iP (cd.b9++(jA++h' k)) 0 (cd.b9.size:Int)=I cd.b9:=by rw[show(0:Int)=((0:Nat):Int)from rfl,lN U U,bc]
   refine D.bK (λh=>?_) λ_=>D.ae s1 (D.ae (arS ap.2) (D.ae s2 (D.ar (λ_=>D.ar (λ_=>D.ae (ahe ap.2) (D.ae s1 (D.ar (λ_=>D.ae (ahk ap.1 U (bx cd U ap.1 U)) (D.ret rfl)) λh=>absurd rfl h))) λh=>absurd (by have:=ap.2;omega) h) λh=>absurd (by have:=ap.2;omega) h)));grind
  ·have dL:bv.b9[0]? ≠I 91:=λe=>aC ((ft.bh ap).1 e);have hp:=ft.pos ap;have ahl:BB bv.b9 ⟨#[91]⟩=I aS:=by
    refine D.br ?_;unfold BB;refine D.ar (λ_=>D.ae (lN (i:=0) (j:=1) U U) (D.ret ?_)) λ_=>D.ret rfl;refine decide_eq_false λe=>dL ?_;have h2:(bv.b9.extract 0 1)[0]? =I 91:=by rw[e];rfl
    grind[HY,ahg]
   have arV:Hb bv.b9 ⟨#[91]⟩=I (bv.b9,aS):=by simp_all[Hb,P7]
   refine D.ae arV (D.bind (Q:=λz=>z.1.size< 1000000) ?_ λz aP=>D.bind (arR aP) λi _=>D.bK (λ_=>D.ret ?_) λh=>?_)
   ·dsimp only;have ahm:D (Hd bv.b9 ⟨#[93]⟩) λb=>True:=by
     unfold Hd;refine D.ar (λh=>?_) λ_=>D.ret trivial;show D (au (iP _ (az ((bv.b9.size:Int)- 1)) _) _) _;rw[show az ((bv.b9.size:Int)- 1)=((bv.b9.size- 1:Nat):Int) by grind[b3]];exact D.ae (lN U (bL _)) (D.ret trivial)
    unfold KK;refine D.bind (Q:=λz=>z.1.size< 1000000) ?_ λz aP=>D.ret aP;unfold P8;refine D.bind ahm λb _=>D.bK (λ_=>D.ret aQ) λ_=>?_;show D (au (iP _ 0 (az ((bv.b9.size:Int)- 1))) _) _;rw[show az ((bv.b9.size:Int)- 1)=((bv.b9.size- 1:Nat):Int) by grind[b3]];exact D.ae (lN (i:=0) U U) (D.ret (by rw[HY];omega))
   ·cases bv with
    |hn cd k=>simp_all
    |_=>rfl
   ·cases h
end
def eL(t:aZ)(j:Nat):Nat:=match bn t j with|q::_=>q.toNat|[]=>0
def B6(t:aZ):Nat->Nat->ft
 |0,_=>.int
 |k+1,j=>if(af t j).kind=30 then .int else if(af t j).kind=31 then .bool else if(af t j).kind=32 then .ik (af t j).text else .hn (B6 t k (eL t j)) (af t j).n.toNat
def hU(t:aZ)(j:Nat):ft:=B6 t (j+1) j
def e9(t:aZ)(j:Nat):ft:=hU t (eL t j)
def j9(t:aZ)(s:ByteArray):Option Nat:=(t.aD.find? λi=>decide ((af t i.toNat).kind=41)&&decide ((af t i.toNat).text=s)).map Int.toNat
section
variable {n : Nat} {t : aZ}
variable {j:Nat}
theorem o7(aI:dD t)(ag:j<t.nodes.length)(h:0<(af t j).a8.length):∃r,bn t j=(eL t j:Int)::r/\eL t j<j:=by
 have ap:=dJ ag;unfold eL;cases e:bn t j with
 |nil=>simp_all
 |cons q r=>obtain⟨m,rfl,hm⟩:=jz aI ag (by rw[e];exact x1);exact⟨r,rfl,hm⟩
theorem n2(aI:dD t)(ag:j<t.nodes.length)(h:(af t j).kind=4\/(af t j).kind=5\/(af t j).kind=22\/(af t j).kind=25\/(af t j).kind=33\/(af t j).kind=34\/(af t j).kind=43\/(af t j).kind=44):(af t j).a8.length=1:=by have hm:=uE aI ag;unfold k7 at hm;rcases h with h|h|h|h|h|h|h|h<;> · grind
theorem tq(aj:cH t)(aI:dD t)(ag:j<t.nodes.length)(h:(af t j).kind=33\/(af t j).kind=34):bn t j=[(eL t j:Int)]/\eL t j<j/\mW (af t (eL t j)).kind=ad:=by
 have aC:=n2 aI ag U;obtain⟨r,h1,h2⟩:=o7 aI ag U;have aO:r=[]:=by simp_all[congrArg,sI,dJ,List.eq_nil_of_length_eq_zero]
 subst aO;refine⟨h1,h2,?_⟩;have:=ru aj aI (p:=j) (j:=eL t j) (a:=0) ag (by rw[<-dJ ag,h1];rfl);unfold o6 at this;grind
theorem arW(aj:cH t)(aI:dD t):∀(k cV j:Nat),j<k->j<cV->j<t.nodes.length->mW (af t j).kind=ad->B6 t k j=B6 t cV j:=by
 intro k;induction k with
 |zero=>omega
 |succ k bx=>
  intro cV j h cr ag ap;cases cV with
  |zero=>omega
  |succ cV=>
   unfold B6;split
   ·rfl
   ·split
    ·rfl
    ·split
     ·rfl
     ·next w5 B7 H7=>
      unfold mW at ap;simp only[dn,decide_eq_true_eq]at ap;obtain⟨_,h2,ay⟩:=tq aj aI ag (.inl U);rw[bx cV _ U U U ay]
theorem Lr(aj:cH t)(aI:dD t)(ag:j<t.nodes.length)(ap:mW (af t j).kind=ad):hU t j=if(af t j).kind=30 then .int else if(af t j).kind=31 then .bool else if(af t j).kind=32 then .ik (af t j).text else .hn (hU t (eL t j)) (af t j).n.toNat:=by
 show B6 t (j+1) j=_;unfold B6;split
 ·rfl
 ·split
  ·rfl
  ·split
   ·rfl
   ·next w5 B7 H7=>
    unfold mW at ap;simp only[dn,decide_eq_true_eq]at ap;obtain⟨_,h2,ay⟩:=tq aj aI ag (.inl U);rw[show hU t (eL t j)=B6 t (eL t j+1) (eL t j)from rfl,arW aj aI j (eL t j+1) (eL t j) U U U ay]
def Yc(aR:fZ t)(ag:j<t.nodes.length):nb t (j:Int)=I ad:=aR.BZ j _ (k9 ag)
def R1(aR:fZ t)(ag:j<t.nodes.length)(h:(af t j).kind=33):1<=(af t j).n/\(af t j).n<=6:=by have:=Yc aR ag;simp_all[nb,b8,bE]
def aho(aR:fZ t)(ag:j<t.nodes.length)(h:(af t j).kind=26):1<=(af t j).a8.length/\(af t j).a8.length<=6:=by have:=Yc aR ag;unfold nb at this;rw[b8 ag,bE]at this;simp[h]at this;have hm:=uE aR.dI ag;grind[k7]
theorem EA(aI:dD t)(ag:j<t.nodes.length)(h:o4 (af t j).kind=ad):gP (af t j).text:=((aI.qy j _ (k9 ag)).1).name.1 h
theorem EB(k:Int)(h:k=3\/k=20\/k=21\/k=22\/k=24\/k=25\/k=32\/k=34\/k=40\/k=41\/k=42\/k=43\/k=44\/k=45):o4 k=ad:=by unfold o4 DM;rcases h with h|h|h|h|h|h|h|h|h|h|h|h|h|h<;> · grind
def Ls(aj:cH t)(aR:fZ t):∀j,j<t.nodes.length->mW (af t j).kind=ad->(hU t j).ok/\(hU t j).b9.size<=12+5*(j+1):=by
 have aI:=aR.dI;intro j;induction j using Nat.strongRecOn with
 |ind j bx=>
  intro ag ap;rw[Lr aj aI ag ap];split
  ·exact⟨trivial,by show 3<=_;omega⟩
  ·split
   ·exact⟨trivial,by show 4<=_;omega⟩
   ·split
    ·next h=>
     have:=EA aI ag (EB _ U);exact⟨this,by have:=this.2.2.2;show(af t j).text.size<=_;omega⟩
    ·next w5 B7 H7=>
     unfold mW at ap;simp only[dn,decide_eq_true_eq]at ap;obtain⟨_,h2,ay⟩:=tq aj aI ag (.inl U);obtain⟨bl,bO⟩:=bx _ h2 U ay;have cX:=R1 aR ag U;refine⟨⟨bl,U,U⟩,?_⟩;show(i' _ _).size<=_;rw[w9];omega
def Yd(aj:cH t)(aR:fZ t)(a6:1<=n):∀(f j:Nat),j<f->j<t.nodes.length->mW (af t j).kind=ad->Ks (aM n) f t (j:Int)=I (hU t j).b9:=by
 have aI:=aR.dI;intro f;induction f with
 |zero=>omega
 |succ f bx=>
  intro j arX ag ap;show Pe (aM n) (Ks (aM n) f) t (j:Int)=_;rw[Lr aj aI ag ap];refine D.br ?_;unfold Pe;refine D.ae (b8 ag) (D.ar (λh=>D.ret (by rw[if_pos h];rfl)) λw5=>D.ar (λh=>D.ret (by rw[if_neg w5,if_pos h];rfl)) λB7=>D.ar (λh=>D.ret (by rw[if_neg w5,if_neg B7,if_pos h];rfl)) λH7=>?_);rw[if_neg w5,if_neg B7,if_neg H7];unfold mW at ap;simp only[dn,decide_eq_true_eq]at ap;obtain⟨h1,h2,ay⟩:=tq aj aI ag (.inl U);have cX:=R1 aR ag U;have dg:aH (af t j).a8 0=I (eL t j:Int):=by rw[<-dJ ag,h1];rfl
  have hG:(af t j).n=(((af t j).n.toNat:Nat):Int):=by omega
  have gw:=(Ls aj aR _ U ay).2;have we:=aj.nodes;refine D.ae dg (D.ae (bx _ U U ay) ?_);rw[hG];exact D.ae (Lq a6 U ⟨U,U⟩) (D.ret (by rw[<-hG];rfl))
def qD{s:ByteArray}{i:Nat}(aI:dD t)(h:j9 t s=I i):i<t.nodes.length/\(i:Int)∈t.aD/\(af t i).kind=41/\(af t i).text=s:=by
 unfold j9 at h;cases e:t.aD.find? λi=>decide ((af t i.toNat).kind=41)&&decide ((af t i.toNat).text=s)with
 |none=>simp_all
 |some q=>rw[e]at h;cases h;have h1:=List.find?_some e;have h2:=zL e;obtain⟨m,rfl,_,hm⟩:=aI.ht.fw q h2;simp_all
def arY(aj:cH t)(aI:dD t)(s:ByteArray):Pg (aM n) t s=I (Lk (j9 t s)):=by
 have ey:=aj.aD;refine D.br ?_;unfold Pg aes j9;refine D.for t.aD.length (λi (_:Unit)=>(i:Int)) (λi _=>(t.aD.take i).find? (λi=>decide ((af t i.toNat).kind=41)&&decide ((af t i.toNat).text=s))=aJ) (t0:=()) rfl rfl (λi _ hi a7=>?_) λ_ a7=>?_
 ·refine D.ar (λ_=>D.hA hi λq aB=>?_) d_;obtain⟨gn,rfl,_,qB⟩:=aI.ht.fw q (cm aB);refine D.ae (b8 qB) (D.bK (λaQ=>D.aH aB (D.inr ?_)) λaQ=>D.inl ⟨(),by rw[bw U],?_⟩)
  ·rw[yD aB,nd,a7];simp[aQ,Lk]
  simp_all[da,nd]
 ·refine D.ar bt λ_=>D.inr ?_;rw[g4 (bL _)]at a7;rw[a7];rfl
end
def gd:ByteArray:=⟨#[]⟩
def o8(t:aZ)(i:Nat):List ByteArray:=(bn t i).map λq=>(af t q.toNat).text
def o9(t:aZ)(i:Nat):List ByteArray:=(bn t i).map λq=>(e9 t q.toNat).b9
def H8(t:aZ)(s f:ByteArray):ByteArray:=match j9 t s with
 |none=>gd
 |some i=>match(bn t i).find? λq=>decide ((af t q.toNat).text=f)with
  |some q=>(e9 t q.toNat).b9
  |none=>gd
def eY(t:aZ)(d:Nat):List Int:=(bn t d).take ((bn t d).length- 2)
def p3(t:aZ)(d:Nat):Nat:=match(bn t d)[(bn t d).length- 2]? with|some q=>q.toNat|none=>0
def fD(t:aZ)(d:Nat):Nat:=match(bn t d).getLast? with|some q=>q.toNat|none=>0
def vU(t:aZ)(d:Nat):List ByteArray:=(eY t d).map λq=>(e9 t q.toNat).b9
def EC:List (Option Nat)->Option Nat
 |[]=>I 0
 |none::_=>aJ
 |some c::r=>if c<=8 then(EC r).map (c+ ·)else aJ
def hP(t:aZ)(j:Nat):Nat->ft->Option Nat
 |0,_=>aJ
 |_+1,.int=>I 1
 |_+1,.bool=>I 1
 |d+1,.hn bv k=>match hP t j d bv with|some c=>if c<=8 then I (k*c)else aJ|none=>aJ
 |d+1,.ik s=>match j9 t s with|none=>aJ|some i=>if i<j then EC ((bn t i).map λq=>hP t j d (e9 t q.toNat))else aJ
section
variable {n : Nat} {t : aZ}
variable {q:Int}
theorem vV(aj:cH t)(aI:dD t){i:Nat}(hi:i<t.nodes.length)(h:(af t i).kind=41)(aB:q∈bn t i):∃m:Nat,q=m/\m<i/\(af t m).kind=34:=by obtain⟨m,rfl,hm⟩:=jz aI hi aB;refine⟨m,rfl,hm,?_⟩;rw[dJ hi]at aB;obtain⟨a,a4⟩:=hf aB;have:=ru aj aI hi a4;simp_all[o6,if_neg,if_pos]
variable {a d:Nat}
theorem Ye(aj:cH t)(aI:dD t)(aG:d<t.nodes.length)(h:(af t d).kind=42)(aB:(bn t d)[a]? =I q):∃m:Nat,q=m/\m<d/\(a+2<(bn t d).length->(af t m).kind=34)/\(a+2=(bn t d).length->mW (af t m).kind=ad)/\(a+1=(bn t d).length->eV (af t m).kind=ad):=by obtain⟨m,rfl,hm⟩:=jz aI aG (cm aB);have aC:=(cz.1 aB).1;rw[dJ aG]at aB aC⊢;have:=ru aj aI aG aB;unfold o6 at this;grind
variable {j:Nat}
def R2(aj:cH t)(aI:dD t)(ag:j<t.nodes.length)(h:(af t j).kind=33\/(af t j).kind=34):aH (af t j).a8 0=I (eL t j:Int):=by rw[<-dJ ag,(tq aj aI ag h).1];rfl
def Yf(aj:cH t)(aR:fZ t)(a6:1000<=n)(ag:j<t.nodes.length)(h:(af t j).kind=34):DS (aM n) t (eL t j:Int)=I (e9 t j).b9:=by obtain⟨_,h2,ay⟩:=tq aj aR.dI ag (.inr h);have:=aj.nodes;exact Yd aj aR U n _ U U ay
theorem w_(aj:cH t)(aR:fZ t)(ag:j<t.nodes.length)(h:(af t j).kind=34):(e9 t j).ok/\(e9 t j).b9.size<=5000:=by obtain⟨_,h2,ay⟩:=tq aj aR.dI ag (.inr h);have:=Ls aj aR _ U ay;have fz:=aj.nodes;grind[e9]
def R3(aj:cH t)(aR:fZ t)(a6:1000<=n)(s:ByteArray):DT (aM n) t s=I (match j9 t s with|none=>([],[])|some i=>(o8 t i,o9 t i)):=by
 have aI:=aR.dI;refine D.br ?_;unfold DT;refine D.ae (arY aj aI s) ?_;cases e:j9 t s with
 |none=>exact D.ar (λ_=>D.ret rfl) λh=>absurd ci h
 |some i=>
  obtain⟨h1,h2,ay,bl⟩:=qD aI e;have j7:=aj.af h1;refine D.ar (λh=>absurd h (by show ¬(i:Int)< 0;omega)) λ_=>D.ae (b8 h1) ?_;unfold aet;refine D.for (af t i).a8.length (λa (o:List ByteArray×List ByteArray)=>(o.1,o.2,(a:Int))) (λa o=>o.1=((bn t i).take a).map (λq=>(af t q.toNat).text)/\o.2=((bn t i).take a).map (λq=>(e9 t q.toNat).b9)) (t0:=([],[])) rfl ⟨rfl,rfl⟩ (λa o a4 a7=>?_) λo a7=>?_
  ·obtain⟨er,eI⟩:=o;obtain⟨rfl,rfl⟩:=a7;refine D.ar (λ_=>D.hA a4 λq aB=>?_) d_;have lr:(bn t i)[a]? =I q:=by rw[dJ h1];exact aB
   obtain⟨m,rfl,hm,ap⟩:=vV aj aI h1 ay (cm lr);have hO:m<t.nodes.length:=by omega
   refine D.ae (b8 hO) (D.ae (eX dZ) (D.ae (R2 aj aI hO (.inr ap)) (D.ae (Yf aj aR a6 hO ap) (D.ae (eX dZ) (D.inl ⟨(_,_),by rw[bw U],?_,?_⟩)))))
   ·rw[da lr,hT];rfl
   ·rw[da lr,hT];rfl
  ·obtain⟨er,eI⟩:=o;obtain⟨bO,cX⟩:=a7;dsimp only at bO cX;refine D.ar bt λ_=>D.inr ?_;rw[bO,cX,g4 (by rw[dJ h1];omega)];rfl
def arZ(aj:cH t)(aR:fZ t)(a6:1000<=n)(s f:ByteArray):Ph (aM n) t s f=I (H8 t s f):=by
 have aI:=aR.dI;refine D.br ?_;unfold Ph;refine D.ae (R3 aj aR a6 s) ?_;unfold aeu H8;cases e:j9 t s with
 |none=>exact D.step (D.ar (λh=>absurd h cW) λ_=>D.inr rfl)
 |some i=>
  obtain⟨h1,h2,ay,bl⟩:=qD aI e;have j7:=aj.af h1;dsimp only;have aC:(bn t i).length<=800:=by rw[dJ h1];exact j7
  refine D.for (bn t i).length (λa (_:Unit)=>(a:Int)) (λa _=>((bn t i).take a).find? (λq=>decide ((af t q.toNat).text=f))=aJ) (t0:=()) rfl rfl (λa _ a4 a7=>?_) λ_ a7=>?_
  ·obtain⟨q,aB⟩:∃q,(bn t i)[a]? =I q:=⟨_,bN a4⟩
   have a2:aH (o8 t i) (a:Int)=I (af t q.toNat).text:=e7 (by simp_all[o8,gQ]);have bc:aH (o9 t i) (a:Int)=I (e9 t q.toNat).b9:=e7 (by simp_all[o9,gQ]);refine D.ar (λ_=>D.ae a2 (D.ar (λaQ=>D.ae bc (D.inr ?_)) λaQ=>D.inl ⟨(),by rw[bw U],?_⟩)) λh=>absurd (by simp_all[o8,hI]) h
   ·have:(bn t i).find? (λq=>decide ((af t q.toNat).text=f))=I q:=by
     rw[yD aB,nd,a7];simp[aQ]
    rw[this]
   simp_all[da,nd]
  ·refine D.ar (λh=>absurd h (by simp_all[o8,hI])) λ_=>D.inr ?_;rw[g4 (bL _)]at a7;rw[a7];rfl
def Yg(aj:cH t)(aI:dD t)(aG:d<t.nodes.length)(h:(af t d).kind=42):(bn t d)[(bn t d).length- 2]? =I (p3 t d:Int)/\p3 t d<d/\mW (af t (p3 t d)).kind=ad:=by grind[to,dJ,bn,bN,Ye,p3]
theorem rx(aj:cH t)(aI:dD t)(aG:d<t.nodes.length)(h:(af t d).kind=42):(bn t d)[(bn t d).length- 1]? =I (fD t d:Int)/\fD t d<d/\eV (af t (fD t d)).kind=ad:=by grind[to,dJ,bn,bN,Ye,fD]
theorem xa(aj:cH t)(aI:dD t)(aG:d<t.nodes.length)(h:(af t d).kind=42)(aB:(eY t d)[a]? =I q):∃m:Nat,q=m/\m<d/\(af t m).kind=34/\(bn t d)[a]? =I q/\a+2<(bn t d).length:=by grind[eY,Ye]
def ahp(aj:cH t)(aR:fZ t)(a6:1000<=n)(aG:d<t.nodes.length)(h:(af t d).kind=42):Kt (aM n) t (d:Int)=I (vU t d,(hU t (p3 t d)).b9):=by
 have aI:=aR.dI;have aC:=to aI aG h;have j7:=aj.af aG;have ap:=dJ aG;have fz:=aj.nodes;refine D.br ?_;unfold Kt;refine D.ae (b8 aG) ?_;unfold aer;have nZ:az (((af t d).a8.length:Int)- 2)=(((af t d).a8.length- 2:Nat):Int):=by grind[b3]
 rw[nZ];have sP:(eY t d).length=(af t d).a8.length- 2:=by simp_all[eY,List.length_take]
 refine D.for ((af t d).a8.length- 2) (λa (o:List ByteArray)=>(o,(a:Int))) (λa o=>o=((eY t d).take a).map (λq=>(e9 t q.toNat).b9)) (t0:=[]) rfl rfl (λa o a4 a7=>?_) λo a7=>?_
 ·subst a7;have aB:(eY t d)[a]? =I ((eY t d)[a]'U):=bN _;obtain⟨m,e,hm,o_,lr,_⟩:=xa aj aI aG h aB;rw[e]at lr;rw[ap]at lr;have hO:m<t.nodes.length:=by omega
  refine D.ar (λ_=>D.aH lr (D.ae (b8 hO) (D.ae (R2 aj aI hO (.inr o_)) (D.ae (Yf aj aR a6 hO o_) (D.ae (eX dZ) (D.inl ⟨_,by rw[bw U],?_⟩)))))) d_;rw[da aB,hT,e];rfl
 ·subst a7;obtain⟨h1,h2,ay⟩:=Yg aj aI aG h;rw[ap]at h1;refine D.ar bt λ_=>D.bu (D.ae (e7 h1) (D.ae (Yd aj aR U n _ U U ay) (D.ret ?_)));rw[g4 U];rfl
theorem Yh:∀{l:List (Option Nat)}{c:Nat},EC l=I c->∃cs:List Nat,l=cs.map I/\(∀x∈cs,x<=8)/\c=cs.sum
 |[],c,h=>by cases h;simp
 |none::_,c,h=>by cases h
 |some a::r,c,h=>by
  unfold EC at h;split at h
  ·next a4=>
   cases e:EC r with
   |none=>simp_all
   |some c'=>rw[e]at h;cases h;obtain⟨cs,h1,h2,ay⟩:=Yh e;refine⟨a::cs,dZ,λx ak=>?_,dZ⟩;grind
  ·cases h
theorem Yi:∀{cs:List Nat},(∀x∈cs,x<=8)->EC (cs.map I)=I cs.sum
 |[],_=>rfl
 |a::r,h=>by show(if a<=8 then(EC (r.map I)).map (a+ ·)else aJ)=_;rw[if_pos (h a x1),Yi λx ak=>h x (F1 _ ak)];rfl
theorem zQ:∀{d db j fX:Nat}{bv:ft}{c:Nat},hP t j d bv=I c->d<=db->j<=fX->hP t fX db bv=I c:=by
 intro d;induction d with
 |zero=>intro db j fX bv c h;cases h
 |succ d bx=>
  intro db j fX bv c h aG ag;obtain⟨e,rfl⟩:∃e,db=e+1:=⟨db- 1,U⟩
  cases bv with
  |int=>exact h
  |bool=>exact h
  |hn bv k=>grind[hP]
  |ik s=>
   unfold hP at h⊢;cases a2:j9 t s with
   |none=>simp_all
   |some i=>
    rw[a2]at h;dsimp only at h⊢;split at h
    ·rw[if_pos U];obtain⟨cs,h1,h2,ay⟩:=Yh h;rw[ay,<-Yi h2,<-h1];congr 1;apply List.map_congr_left;intro q aB;have:hP t j d (e9 t q.toNat)∈cs.map I:=by grind
     obtain⟨x,_,ak⟩:=List.mem_map.1 this;rw[bx ak.symm U ag,ak]
    ·cases h
end
section
variable {n : Nat} {t : aZ}
variable {s:ByteArray}
def ahq(h:gP s):(decide (s=fP)||decide (s=fx))=aS:=by grind[fP,gP.RY,fx,gP.RZ]
def ar0(s:ByteArray)(k:Nat):(decide (i' s k=fP)||decide (i' s k=fx))=aS:=by
 have h1:i' s k≠fP:=λe=>by have:=sq s k;rw[e]at this;exact absurd this ci
 have h2:i' s k≠fx:=λe=>by have:=sq s k;rw[e]at this;exact absurd this ci
 grind
variable {a:Nat}{cs:List Nat}
theorem ahr {x:Nat}(h:cs[a]? =I x):(cs.take (a+1)).sum=(cs.take a).sum+x:=by rw[da h,List.sum_append];simp
theorem ahs:∀{cs:List Nat},(∀x∈cs,x<=8)->cs.sum<=8*cs.length
 |[],_=>by simp
 |a::r,h=>by have h1:=h a x1;have h2:=ahs λx ak=>h x (F1 _ ak);grind
def aht(h:∀x∈cs,x<=8)(a:Nat):(cs.take a).sum<=8*cs.length:=by grind[ahs,List.mem_of_mem_take]
theorem Yj{a b:Int}(h:b<a):it a b=b:=by unfold it;rw[if_pos h]
variable {bv:ft}
def ahu(a6:1000000<=n)(h:bv.ok)(aQ:bv.b9.size< 100000):Ku (aM n) bv.b9=I bv.tp:=arP U n bv U h U
def Yk(a6:1000000<=n)(h:bv.ok)(aQ:bv.b9.size< 100000):BH (aM n) bv.b9=I bv.tp:=ahn n bv U h U
variable {c d j:Nat}
def H9(h:hP t j (d+1) (.ik s)=I c):∃(i:Nat)(cs:List Nat),j9 t s=I i/\i<j/\(bn t i).map (λq=>hP t j d (e9 t q.toNat))=cs.map I/\(∀x∈cs,x<=8)/\c=cs.sum:=by grind[hP,j9,Yh]
def H_ {k:Nat}(h:hP t j (d+1) (.hn bv k)=I c):∃c',hP t j d bv=I c'/\c'<=8/\c=k*c':=by grind[hP]
def ahv{α β m8:Type}{f:α->β}{g:m8->β}{xs:List α}{cO:List m8}(h:xs.map f=cO.map g){x:α}(ak:xs[a]? =I x):∃y,cO[a]? =I y/\f x=g y:=by have:=congrArg (λl=>l[a]?) h;grind
def Yl(aj:cH t)(aR:fZ t)(a6:1000000<=n):∀(d f j:Nat)(bv:ft)(c:Nat),hP t j d bv=I c->d<=f->bv.ok->bv.b9.size< 100000->Kv (aM n) f t bv.b9=I (c:Int):=by
 have aI:=aR.dI;intro d;induction d with
 |zero=>intro f j bv c h;cases h
 |succ d bx=>
  intro gA j bv c h aG ap aQ;obtain⟨f,rfl⟩:∃f,gA=f+1:=⟨gA- 1,U⟩
  show Pp (aM n) (Kv (aM n) f) t bv.b9=_;refine D.br ?_;unfold Pp;refine D.ae (ahu a6 ap aQ) ?_;cases bv with
  |int=>cases h;exact D.ret rfl
  |bool=>cases h;exact D.ret rfl
  |hn bv k=>
   obtain⟨c',h1,h2,rfl⟩:=H_ h;have cX:=ap.2;have gw:(ft.hn bv k).b9.size=bv.b9.size+5:=w9 _ _;refine D.bK (λ_=>D.ae (bx f j bv c' h1 U ap.1 U) (D.ret ?_)) λh=>by cases h
   have hle:k*c'<=48:=by have:=FF cX.2 h2;omega
   have e:(ft.hn bv k).tp.2.1=(k:Int):=rfl;have cR:((k*c':Nat):Int)=(k:Int)*(c':Int):=jP k c';show it 10000 (az ((k:Int)*(c':Int)))=_;rw[<-cR,b3 U U,Yj U]
  |ik s=>
   obtain⟨i,cs,h1,vc,h2,ay,rfl⟩:=H9 h;obtain⟨hi,_,lO,_⟩:=qD aI h1;have j7:=aj.af hi;have dy:cs.length=(bn t i).length:=by have:=congrArg sI h2;grind
   have ar1:(bn t i).length<=800:=by rw[dJ hi];exact j7
   refine D.bK dF λ_=>D.bK (λh=>by have:=ahq ap;change (decide (s=fP)||decide (s=fx))=ad at h;simp_all) λ_=>D.ae (R3 aj aR U s) ?_;rw[h1];unfold aez;refine D.for (bn t i).length (λa (o:Int)=>(o,(a:Int))) (λa o=>o=((cs.take a).sum:Nat)) (t0:=0) rfl rfl (λa o a4 a7=>?_) λo a7=>?_
   ·subst a7;obtain⟨q,aB⟩:∃q,(bn t i)[a]? =I q:=⟨_,bN a4⟩
    obtain⟨x,ak,Lt⟩:=ahv h2 aB;obtain⟨m,rfl,hm,o_⟩:=vV aj aI hi lO (cm aB);rw[dA]at Lt;have B8:=w_ aj aR (j:=m) U o_;have bc:aH (o9 t i) (a:Int)=I (e9 t m).b9:=e7 (by simp_all[o9,gQ]);have ar2:=ay x (cm ak);have ar3:=aht ay a;refine D.ar (λ_=>D.ae bc (D.ae (bx f j _ x Lt U B8.1 U) (D.inl ⟨_,by rw[bw U],?_⟩))) λh=>absurd (by simp_all[o9,hI]) h;grind[ahr,b3]
   simp_all[D.ar,absurd,bn,o9,hI,D.inr,g4]
theorem Ym(aj:cH t)(aR:fZ t)(a6:1000000<=n)(h:hP t j d bv=I c)(aG:d<=n)(ap:bv.ok)(aQ:bv.b9.size< 100000):DW (aM n) t bv.b9=I (if 8<c then 5 else 0):=by refine D.br ?_;unfold DW;refine D.ae (Yl aj aR a6 d n j bv c h aG ap aQ) (D.ar (λh=>D.ret (by rw[if_pos U])) λh=>D.ret (by rw[if_neg U]))
def Yn(aj:cH t)(aR:fZ t)(a6:1000000<=n){ci:List Int}{M:List (ByteArray×Int)}{P:List ByteArray}(dz:∀s i,j9 t s=I i->i<j->eE M s=I (i:Int))(c5:∀m,m<j->(af t m).kind=34->P[m]? =I (e9 t m).b9):
  ∀(d f:Nat)(bv:ft)(c:Nat),hP t j d bv=I c->d<=f->bv.ok->bv.b9.size< 100000->KM (aM n) f bv.b9 t.nodes t.aD ci t.nodes.length M P=I ((c:Int),ad):=by
 have aI:=aR.dI;intro d;induction d with
 |zero=>intro f bv c h;cases h
 |succ d bx=>
  intro gA bv c h aG ap aQ;obtain⟨f,rfl⟩:∃f,gA=f+1:=⟨gA- 1,U⟩
  show Qj (aM n) (KM (aM n) f) bv.b9 t.nodes t.aD ci t.nodes.length M P=_;refine D.br ?_;unfold Qj;cases bv with
  |int=>cases h;exact D.ret rfl
  |bool=>cases h;exact D.ret rfl
  |hn bv k=>
   obtain⟨c',h1,h2,rfl⟩:=H_ h;have cX:=ap.2;have gw:(ft.hn bv k).b9.size=bv.b9.size+5:=w9 _ _;refine D.bK (λh=>by have:=ar0 bv.b9 k;change (decide (i' bv.b9 k=fP)||decide (i' bv.b9 k=fx))=ad at h;simp_all) λ_=>D.ae (Yk a6 ap aQ) (D.bK (λ_=>D.ae (bx f bv c' h1 U ap.1 U) (D.ret ?_)) dF);have hle:k*c'<=48:=by have:=FF cX.2 h2;omega
   have cR:((k*c':Nat):Int)=(c':Int)*(k:Int):=by rw[jP,Int.mul_comm]
   show(it 10000 (az ((c':Int)*(k:Int))),ad)=_;rw[<-cR,b3 U U,Yj U]
  |ik s=>
   obtain⟨i,cs,h1,vc,h2,ay,rfl⟩:=H9 h;obtain⟨hi,_,lO,_⟩:=qD aI h1;have j7:=aj.af hi;have dy:cs.length=(bn t i).length:=by have:=congrArg sI h2;grind
   have gL:=dJ hi;refine D.bK (λh=>by have:=ahq ap;change (decide (s=fP)||decide (s=fx))=ad at h;simp_all) λ_=>D.ae (Yk a6 ap aQ) (D.bK dF λ_=>?_);have b5:eE M (ft.ik s).b9=I (i:Int):=dz s i h1 vc;rw[b5];refine D.bK dF λ_=>?_;show D ((aH t.nodes (i:Int)).bind _) _;refine D.ae (b8 hi) ?_;unfold afy;refine D.for (af t i).a8.length (λa (o:Int)=>(o,(a:Int))) (λa o=>o=((cs.take a).sum:Nat)) (t0:=0) rfl rfl (λa o a4 a7=>?_) λo a7=>?_
   ·subst a7;obtain⟨q,aB⟩:∃q,(bn t i)[a]? =I q:=⟨_,bN dq⟩
    obtain⟨x,ak,Lt⟩:=ahv h2 aB;obtain⟨m,rfl,hm,o_⟩:=vV aj aI hi lO (cm aB);rw[dA]at Lt;have B8:=w_ aj aR (j:=m) U o_;have ar2:=ay x (cm ak);have ar3:=aht ay a;rw[gL]at aB;have R4:cs.length<=800:=by simp_all
    refine D.ar (λ_=>D.aH aB (D.ae (hN (c5 m U o_) U) (D.ae (bx f _ x Lt U B8.1 U) (D.inl ⟨_,by rw[bw U],?_⟩)))) d_;rw[ahr ak,b3 U U,Yj U];omega
   simp_all[D.ar,absurd,D.inr,g4,bL]
end
section
variable {n : Nat} {t : aZ}
variable {l:List Int}{x:Int}
def ar4(h:l.getLast? =I x):l=l.dropLast++[x]:=by
 have fM:l≠[]:=λe=>by simp_all
 grind[List.dropLast_concat_getLast,List.getLast?_eq_some_getLast,Option.some.inj]
def ahw(h:x∈l.take (l.length- 2)):x∈l.dropLast:=by
 rw[List.dropLast_eq_take];obtain⟨a,a4⟩:=hf h;rw[List.getElem?_take]at a4;split at a4
 ·exact cm (i:=a) dZ
 ·cases a4
def ar5(aj:cH t)(aI:dD t):∀j,j<t.nodes.length->∀a,eT (bn t) (bn t j) a j->∀d∈(d' t j).1,((af t d.toNat).kind=34/\d<(a:Int))\/(((af t d.toNat).kind=20\/(af t d.toNat).kind=42)/\(j:Int)<d/\∀x∈(bn t d.toNat).dropLast,x<(a:Int)):=by
 refine HX aI (λj ag e a _ d aG=>?_) λj p ag hp Eu hm e bx a a4 d aG=>?_
 ·simp_all[sn]
 ·rw[l_ aI ag e]at aG;obtain⟨e6,uG⟩:=Lm aI hp;obtain⟨i,hi⟩:=hf hm;have q':=yD hi;rw[q',eT.split]at uG;obtain⟨m,h1,h2⟩:=uG;obtain⟨fX,a2,ay,bl⟩:=eT.Ep.1 h2;have a2:j=fX:=fC a2;subst a2;have ar6:m=a:=ay.Lf a4;subst ar6;have aIs:=h1.jW;have uG:eT (bn t) (bn t p) e6 p:=by obtain⟨b,aF⟩:=Lm aI hp;rw[q',eT.split]at aF;obtain⟨m',ea,fN⟩:=aF;obtain⟨BX,bc,jZ,_⟩:=eT.Ep.1 fN;grind[fC,eT.split]
  rcases h3.1 aG with aG|aG
  ·unfold hl at aG;split at aG
   ·next aC=>
    have B9:=ar4 aC;have Yo:∀x∈(bn t p).dropLast,x<(m:Int):=by intro x ak;have ahx:=uG;rw[B9,eT.split]at ahx;obtain⟨m',ea,fN⟩:=ahx;obtain⟨BX,bc,jZ,_⟩:=eT.Ep.1 fN;have bc:j=BX:=fC bc;subst bc;have:=jZ.Lf ay;subst this;obtain⟨y,rfl,_,a9⟩:=ea.fw x ak;omega
    split at aG
    ·next nz=>
     have aG:d=(p:Int):=by grind
     subst aG;exact .inr ⟨.inl nz,U,Yo⟩
    ·split at aG
     ·next c7=>
      rcases h3.1 aG with aG|aG
      ·have fh:=ahw aG;have b':=Yo d fh;obtain⟨fo,py⟩:=hf (show d∈eY t p from aG);obtain⟨q,rfl,_,j8,_⟩:=xa aj aI hp c7 py;exact .inl ⟨j8,b'⟩
      ·have aG:d=(p:Int):=by grind
       subst aG;exact .inr ⟨.inr c7,U,Yo⟩
     ·cases aG
   ·cases aG
  ·rcases bx e6 uG d aG with⟨bO,cX⟩|⟨bO,cX,hq⟩
   ·omega
   grind
structure ED(t:aZ)(j d:Nat):Prop where
 lt:d<t.nodes.length
 text:(af t d).text=(af t j).text
 EE:l9 (af t j).kind (af t d).kind=ad
 pos:((d:Int)∈t.aD/\d<j/\h_ t d=ad)\/((af t d).kind=34/\d<j)\/(((af t d).kind=20\/(af t d).kind=42)/\j<d/\∀x∈(bn t d).dropLast,x<(j:Int))
variable {j:Nat}
def zR(aj:cH t)(aI:dD t)(ag:j<t.nodes.length)(aY:gS t j=0)(ap:vR (af t j).kind=ad):∃d:Nat,fE t j=d/\ED t j d:=by
 have fM:fE t j≠ -1:=λe=>by
  unfold gS at aY;split at aY
  ·cases aY
  simp_all[oy,if_neg,if_pos]
 have hm:fE t j=match uD t j (af t j).text with|some d=>if l9 (af t j).kind (af t d.toNat).kind then d else-1|none=> -1:=by unfold fE;grind
 rw[hm]at fM⊢;cases e:uD t j (af t j).text with
 |none=>simp_all
 |some d=>
  obtain⟨m,rfl,h1,h2⟩:=XX aI ag e;rw[e]at fM;dsimp only at fM⊢;rw[dA]at fM⊢;cases aQ:l9 (af t j).kind (af t m).kind with
  |false=>simp_all
  |true=>
   refine⟨m,rfl,h1,h2,aQ,?_⟩;have u_:=zL e;rcases h3.1 u_ with h|h
   ·obtain⟨a,a4⟩:=Lm aI ag;have hle:=a4.jW;rcases ar5 aj aI j ag a a4 _ h with⟨ay,bl⟩|⟨ay,bl,bO⟩
    ·grind
    grind
   ·have ay:=List.mem_filter.1 h;simp_all[dn,decide_eq_true_eq,dA,XT]
variable {i:Nat}
def Lu(aI:dD t)(hi:i<t.nodes.length)(h:(i:Int)∈t.aD):kT (af t i).kind=ad:=(bP.at (k9 hi)).1 ((aI.kk i hi).2 h)
variable {d:Nat}
theorem ED.kk(aI:dD t)(h:ED t j d)(ap:(af t d).kind=40\/(af t d).kind=41\/(af t d).kind=43\/(af t d).kind=44):(d:Int)∈t.aD/\d<j:=by
 rcases h.pos with h|h|h
 ·simp_all
 ·omega
 ·omega
theorem ED.qE(aI:dD t)(h:ED t j d)(ap:(af t d).kind=34):d<j:=by
 rcases h.pos with h|h|h
 ·omega
 ·exact h.2
 ·omega
def ED.ar7(aI:dD t)(h:ED t j d)(ap:(af t d).kind=20):j<d/\∀x∈(bn t d).dropLast,x<(j:Int):=by
 rcases h.pos with cr|cr|cr
 ·have:=Lu aI h.lt cr.1;rw[ap]at this;cases this
 ·omega
 grind
theorem ar8(aY:∀i,i<t.nodes.length->gS t i=0)(aI:dD t){a b:Nat}(a4:(a:Int)∈t.aD)(aF:(b:Int)∈t.aD)(ahy:h_ t a=ad)(ahz:h_ t b=ad)(h:(af t a).text=(af t b).text):a=b:=by
 obtain⟨fo,a2,_,ar9⟩:=aI.ht.fw _ a4;obtain⟨g5,bc,_,rP⟩:=aI.ht.fw _ aF;have a2:a=fo:=fC a2;have bc:b=g5:=fC bc;subst a2;subst bc;rcases Nat.lt_trichotomy a b with h1|h1|h1
 ·exact absurd (.inl ⟨aF,ahz,a,a4,h1,ahy,h⟩) (X_ (aY b rP))
 ·exact h1
 ·exact absurd (.inl ⟨a4,ahy,b,aF,h1,ahz,h.symm⟩) (X_ (aY a ar9))
theorem ahA(h:(af t i).kind=41):h_ t i=ad:=by grind[h_,HW]
theorem Yp(aY:∀i,i<t.nodes.length->gS t i=0)(aI:dD t)(hi:i<t.nodes.length)(h:(af t i).kind=41):j9 t (af t i).text=I i:=by
 have n3:=B4 aI hi (by rw[h];rfl);cases e:j9 t (af t i).text with
 |none=>grind[j9,List.find?_eq_none,Option.map_eq_none_iff,dA]
 |some jH=>obtain⟨h1,h2,ay,bl⟩:=qD aI e;rw[ar8 aY aI h2 n3 (ahA ay) (ahA h) bl]
end
def jg(k:ByteArray)(l:List ByteArray):Bool:=l.all λx=>decide (x=k)
section
variable {n : Nat} {t : aZ}
theorem sr{K X:Type} [DecidableEq K]:∀{kv:List (K×X)}{k cV:K}{x:X},eE (fB kv k x) cV=if k=cV then I x else eE kv cV
 |[],k,cV,x=>by show eE [(k,x)] cV=_;unfold eE;rfl
 |(a,y)::r,k,cV,x=>by
  unfold fB;by_cases h:a=k
  ·simp_all[if_pos,eE]
  ·rw[if_neg h];show(if a=cV then I y else eE (fB r k x) cV)=_;rw[sr];show _=if k=cV then I x else if a=cV then I y else eE r cV
   grind
variable {a b:List ByteArray}
theorem xb(h:a.length<=1000000):Bx (aM n) a b=I (decide (a=b)):=by
 have:D (Bx (aM n) a b) λr=>r=ad↔a=b:=by
  unfold Bx;refine D.dB (λaC=>D.ret ⟨dF,λh=>absurd (by rw[h]) aC⟩) λaC=>?_;unfold aep;have aC:a.length=b.length:=by omega
  refine D.for a.length (λi (_:Unit)=>(i:Int)) (λi _=>∀j,j<i->a[j]? =b[j]?) (t0:=()) rfl (λj h=>by omega) (λi _ hi a7=>?_) λ_ a7=>?_
  ·obtain⟨x,ak⟩:∃x,a[i]? =I x:=⟨_,bN hi⟩
   obtain⟨y,a9⟩:∃y,b[i]? =I y:=⟨_,bN U⟩
   refine D.ar (λ_=>D.aH ak (D.aH a9 (D.dB (λhe=>D.inr ⟨dF,λh=>?_⟩) λhe=>D.inl ⟨(),by rw[bw U],λj ag=>?_⟩))) d_
   ·simp_all
   grind
  ·refine D.ar bt λ_=>D.inr ⟨λ_=>?_,λ_=>rfl⟩;apply List.ext_getElem?;grind
 obtain⟨r,e,h⟩:=this;grind
def asa(h:a.length<=1000000):WC (aM n) a b=I (decide (a=b)):=xb (n:=n) h
variable {l:List ByteArray}
def B_(k:ByteArray)(h:l.length<=1000000):vz (aM n) k l=I (jg k l):=by
 have:D (vz (aM n) k l) λr=>r=ad↔∀x∈l,x=k:=by
  unfold vz WB WA afn;refine D.bind (Q:=λz=>z=ad↔¬ ∀x∈l,x=k) (D.bind (Q:=λz=>0<=z↔¬ ∀x∈l,x=k) ?_ λz aP=>D.ret dq) λz aP=>D.ret (by rw[oQ,<-Bool.not_eq_true,aP,Classical.not_not]);refine D.for l.length (λi (_:Unit)=>(i:Int)) (λi _=>∀j x,j<i->l[j]? =I x->x=k) (t0:=()) rfl (λj x h=>by omega) (λi _ hi a7=>?_) λ_ a7=>?_
  ·refine D.ar (λ_=>D.hA hi λx ak=>?_) d_;unfold Wz;refine D.ae rfl (D.dB (λhe=>D.inr ⟨λ_ h=>he (h x (cm ak)),λ_=>by omega⟩) λhe=>D.inl ⟨(),by rw[bw U],λj y ag a9=>?_⟩);grind
  ·refine D.ar bt λ_=>D.inr ⟨λh=>by omega,λh=>absurd (λx ak=>?_) h⟩;grind[hf,cz]
 obtain⟨r,e,h⟩:=this;rw[e];congr 1;rw[Bool.eq_iff_iff,h];unfold jg;simp
def asb(h:l.length<=1000000):KN (aM n) l=I (!l.all λx=>decide (x=fP)||decide (x=fx)):=by
 have:D (KN (aM n) l) λr=>r=ad↔¬ ∀x∈l,x=fP\/x=fx:=by
  unfold KN WL afz;refine D.bind (Q:=λz=>0<=z↔¬ ∀x∈l,x=fP\/x=fx) ?_ λz aP=>D.ret dq;refine D.for l.length (λi (_:Unit)=>(i:Int)) (λi _=>∀j x,j<i->l[j]? =I x->x=fP\/x=fx) (t0:=()) rfl (λj x h=>by omega) (λi _ hi a7=>?_) λ_ a7=>?_
  ·refine D.ar (λ_=>D.hA hi λx ak=>?_) d_;unfold WK;refine D.ae rfl (D.bK (λhe=>D.inr ⟨λ_ h=>?_,λ_=>by omega⟩) λhe=>D.inl ⟨(),by rw[bw U],λj y ag a9=>?_⟩)
   ·have he:(!decide (x=fP)&& !decide (x=fx))=ad:=he;rw[dn,oQ,oQ,decide_eq_false_iff_not,decide_eq_false_iff_not]at he;exact(h x (cm ak)).elim he.1 he.2
   grind[decide,fP,fx,decide_eq_false]
  ·refine D.ar bt λ_=>D.inr ⟨λh=>by omega,λh=>absurd (λx ak=>?_) h⟩;grind[hf,cz]
 obtain⟨r,e,h⟩:=this;grind
end
def ec(t:aZ)(O:Nat->ByteArray)(j:Nat):List ByteArray:=(bn t j).map λq=>O q.toNat
def su(O:Nat->ByteArray)(j:Nat)(s:ByteArray):Nat->ByteArray:=λi=>if i=j then s else O i
structure ma(t:aZ)(j:Nat)(bv:ft):Prop where
 ok:bv.ok
 size:bv.b9.size<=5*j+20
 tZ:∃c,1<=c/\c<=8/\hP t j (2*j+2) bv=I c
inductive EF (t:aZ) (O:Nat->ByteArray) (i:Nat):Prop
 |num (h:(af t i).kind=1) (e:O i=fP)
 |bool (h:(af t i).kind=2) (e:O i=fx)
 |zS (h:(af t i).kind=3) (d:Nat) (aG:fE t i=d) (ap:(af t d).kind=40) (e:O i=fP)
 |zT (h:(af t i).kind=3) (d:Nat) (aG:fE t i=d) (ap:(af t d).kind=34) (e:O i=(e9 t d).b9)
 |zU (h:(af t i).kind=3) (d:Nat) (aG:fE t i=d) (ap:(af t d).kind=43\/(af t d).kind=20) (lt:eL t d<i) (e:O i=O (eL t d))
 |zV (h:(af t i).kind=4\/(af t i).kind=6\/(af t i).kind=7\/(af t i).kind=8\/(af t i).kind=9\/(af t i).kind=10) (ap:jg fP (ec t O i)=ad) (e:O i=fP)
 |zW (h:(af t i).kind=5\/(af t i).kind=17\/(af t i).kind=18) (ap:jg fx (ec t O i)=ad) (e:O i=fx)
 |br (h:(af t i).kind=11\/(af t i).kind=12) (ap:jg fP (ec t O i)=ad\/jg fx (ec t O i)=ad) (e:O i=fx)
 |zX (h:(af t i).kind=13\/(af t i).kind=14\/(af t i).kind=15\/(af t i).kind=16) (ap:jg fP (ec t O i)=ad) (e:O i=fx)
 |bK (h:(af t i).kind=19) (ap:ec t O i=[fx,O i,O i])
 |lt (h:(af t i).kind=20) (x:ByteArray) (ap:ec t O i=[x,O i])
 |call (h:(af t i).kind=21) (d:Nat) (aG:fE t i=d) (c7:(af t d).kind=42) (ap:ec t O i=vU t d) (e:O i=(hU t (p3 t d)).b9)
 |field (h:(af t i).kind=22) (s:ByteArray) (r:Nat) (ap:ec t O i=[s]) (aO:j9 t s=I r) (q:Int) (aB:(bn t r).find? (λq=>decide ((af t q.toNat).text=(af t i).text))=I q) (e:O i=(e9 t q.toNat).b9)
 |index (h:(af t i).kind=23) (cd:ft) (k:Nat) (ap:ec t O i=[(ft.hn cd k).b9,fP]) (e:O i=cd.b9)
 |zY (h:(af t i).kind=24) (r:Nat) (aG:fE t i=r) (aO:j9 t (af t i).text=I r) (a6:(bn t i).map (λq=>(af t q.toNat).text)=o8 t r) (ap:ec t O i=o9 t r) (e:O i=(af t i).text)
 |hn (h:(af t i).kind=26) (x:ByteArray) (ap:jg x (ec t O i)=ad) (e:O i=i' x (bn t i).length)
structure mv(t:aZ)(O:Nat->ByteArray)(j:Nat):Prop where
 ex:∀i,i<j->eV (af t i).kind=ad->∃bv,O i=bv.b9/\ma t i bv
 ty:∀i,i<j->mW (af t i).kind=ad->O i=(hU t i).b9/\ma t i (hU t i)
 qE:∀i,i<j->(af t i).kind=34->O i=(e9 t i).b9
 put:∀i,i<j->(af t i).kind=25->O i=O (eL t i)
 Yq:∀i,i<j->kT (af t i).kind=ad->O i=gd
 ik:∀i,i<j->(af t i).kind=41->∃c,1<=c/\c<=8/\hP t (i+1) (2*i+1) (.ik (af t i).text)=I c
 EG:∀i,i<j->eV (af t i).kind=ad->EF t O i
 fn:∀i,i<j->(af t i).kind=42->O (fD t i)=(hU t (p3 t i)).b9
def fQ(t:aZ)(O:Nat->ByteArray)(j:Nat):List ByteArray:=(gD j).map λi=>if eV (af t i).kind=ad then O i else gd
def lP(t:aZ)(O:Nat->ByteArray)(j:Nat)(P:List ByteArray):Prop:=P.length=t.nodes.length/\∀i,i<t.nodes.length->P[i]? =I (if i<j then O i else gd)
def yI(t:aZ)(j:Nat)(s:ByteArray):Option Int:=match j9 t s with|some i=>if i<j then I (i:Int)else aJ|none=>aJ
def pa(t:aZ)(j:Nat)(M:List (ByteArray×Int)):Prop:=∀s,eE M s=yI t j s
def c_(t:aZ):List Int:=(gD t.nodes.length).map (fE t)
section
variable {n : Nat} {t : aZ} {O : Nat -> ByteArray} {j : Nat} {M : List (ByteArray × Int)} {P : List ByteArray}
def ma.mono{j fX:Nat}{bv:ft}(h:ma t j bv)(ag:j<=fX):ma t fX bv:=by obtain⟨h1,h2,c,ay,bl,bO⟩:=h;exact⟨h1,U,c,ay,bl,zQ bO U ag⟩
def ma.int(j:Nat):ma t j .int:=⟨trivial,by show 3<=_;omega,1,bL _,U,rfl⟩
def ma.bool(j:Nat):ma t j .bool:=⟨trivial,by show 4<=_;omega,1,bL _,U,rfl⟩
theorem zZ(ag:j<t.nodes.length):aH (c_ t) (j:Int)=I (fE t j):=e7 (by grind[c_,Ez])
def R5(aj:cH t)(aI:dD t)(ag:j<t.nodes.length)(h:(af t j).kind=25):aH (af t j).a8 0=I (eL t j:Int)/\eL t j<j/\eV (af t (eL t j)).kind=ad:=by
 have aC:=n2 aI ag U;obtain⟨r,h1,h2⟩:=o7 aI ag U;have ak:(af t j).a8[0]? =I (eL t j:Int):=by rw[<-dJ ag,h1];rfl
 refine⟨e7 (i:=0) ak,h2,?_⟩;have:=ru aj aI ag ak;simp_all[o6,if_neg]
variable {q:Int}
def Yr(aj:cH t)(aI:dD t)(ag:j<t.nodes.length)(h:eV (af t j).kind=ad)(aB:q∈bn t j):∃m:Nat,q=m/\m<j/\(eV (af t m).kind=ad\/(af t m).kind=25):=by obtain⟨m,rfl,hm⟩:=jz aI ag aB;refine⟨m,rfl,hm,?_⟩;rw[dJ ag]at aB;obtain⟨a,a4⟩:=hf aB;have:=ru aj aI ag a4;unfold eV at h;simp only[dn,decide_eq_true_eq,oQ,decide_eq_false_iff_not]at h;unfold o6 at this;grind
def ahB(aj:cH t)(aI:dD t)(bH:mv t O j)(ag:j<t.nodes.length)(h:eV (af t j).kind=ad)(aB:q∈bn t j):∃m:Nat,q=m/\m<j/\∃bv,O m=bv.b9/\ma t m bv:=by
 obtain⟨m,rfl,hm,ap⟩:=Yr aj aI ag h aB;refine⟨m,rfl,hm,?_⟩;rcases ap with ap|ap
 ·exact bH.ex m hm ap
 ·obtain⟨_,h1,h2⟩:=R5 aj aI (j:=m) U ap;obtain⟨bv,ay,bl⟩:=bH.ex _ U h2;exact⟨bv,by rw[bH.put m hm ap];exact ay,bl.mono U⟩
variable {m:Nat}
theorem lP.at(c5:lP t O j P)(h:m<j)(ag:j<=t.nodes.length):gz t.nodes.length P (m:Int)=I ⟨(m,O m),by have:=c5.2 m U;simp_all⟩:=hN (by have:=c5.2 m U;simp_all) U
variable {ci ks:List Int}
theorem ahC(c5:lP t O j P)(ag:j<=t.nodes.length)(aC:ks.length<=1000)(ap:∀q∈ks,∃m:Nat,q=m/\m<j):G' (aM n) ks t.nodes t.aD ci t.nodes.length M P=I (ks.map λq=>O q.toNat):=by
 refine D.br ?_;unfold G' afm;refine D.for ks.length (λa (o:List ByteArray)=>(o,(a:Int))) (λa o=>o=(ks.take a).map λq=>O q.toNat) (t0:=[]) rfl rfl (λa o a4 a7=>?_) λo a7=>?_
 ·subst a7;refine D.ar (λ_=>D.hA a4 λq aB=>?_) d_;obtain⟨m,rfl,hm⟩:=ap q (cm aB);refine D.ae (c5.at hm ag) (D.ae (eX dZ) (D.inl ⟨_,by rw[bw U],?_⟩));rw[da aB,hT];rfl
 simp_all[D.ar,absurd,D.inr,g4,bL]
def Lv(c5:lP t O j P)(ag:j<=t.nodes.length)(aC:ks.length<=1000)(ap:∀q∈ks,∃m:Nat,q=m/\m<j):D (P4 (aM n) ks t.nodes t.aD ci t.nodes.length M P) λr=>r.1=ks.map λq=>O q.toNat:=by
 unfold P4 afl;refine D.for ks.length (λa (o:List ByteArray×Nat)=>(o.1,(a:Int),o.2)) (λa o=>o.1=(ks.take a).map λq=>O q.toNat) (t0:=([],0)) rfl rfl (λa o a4 a7=>?_) λo a7=>?_
 ·obtain⟨o,v⟩:=o;dsimp only at a7;subst a7;refine D.ar (λ_=>D.hA a4 λq aB=>?_) d_;obtain⟨m,rfl,hm⟩:=ap q (cm aB);refine D.ae (c5.at hm ag) (D.ae (eX dZ) (D.inl ⟨(_,_),by rw[bw U],?_⟩));simp_all[da,hT]
 simp_all[D.ar,absurd,D.inr,g4,bL]
theorem Ys(h:m<j)(ap:eV (af t m).kind=ad):aH (fQ t O j++[gd]) (m:Int)=I (O m):=by simp_all[e7,List.getElem?_append_left,fQ,gQ,Ez,Option.map_some,if_pos]
def asc(aj:cH t)(aI:dD t)(bH:mv t O j)(ag:j<t.nodes.length)(h:eV (af t j).kind=ad){s:ByteArray}(aQ:nV (aM n) ⟨ci⟩ (j:Int) t (fQ t O j++[gd]) (af t j) (ec t O j,(af t j).kind)=I s):GX (aM n) t ⟨ci⟩ (fQ t O j++[gd]) (j:Int)=I s:=by
 have j7:=aj.af ag;have gL:=dJ ag;refine D.br ?_;unfold GX;refine D.ae (b8 ag) ?_;unfold aey;refine D.for (af t j).a8.length (λa (o:List ByteArray)=>(o,(a:Int))) (λa o=>o=((bn t j).take a).map λq=>O q.toNat) (t0:=[]) rfl rfl (λa o a4 a7=>?_) λo a7=>?_
 ·subst a7;obtain⟨q,aB⟩:∃q,(af t j).a8[a]? =I q:=⟨_,bN a4⟩
  have lr:(bn t j)[a]? =I q:=by simp_all
  obtain⟨m,rfl,hm,ap⟩:=Yr aj aI ag h (cm lr);have hO:m<t.nodes.length:=by omega
  have fi:((bn t j).take a).map (λq=>O q.toNat)++[O m]=((bn t j).take (a+1)).map λq=>O q.toNat:=by rw[da lr,hT];rfl
  refine D.ar (λ_=>D.aH aB (D.ae (b8 hO) (D.ar (λLw=>?_) λLw=>?_))) d_
  ·obtain⟨h1,h2,ay⟩:=R5 aj aI hO Lw;refine D.ae (b8 hO) (D.ae h1 (D.ae (Ys U ay) (D.ae (eX dZ) (D.inl ⟨_,by rw[bw U],?_⟩))));rw[<-bH.put m hm Lw];exact fi
  grind[D.ae,Ys,eX,D.inl,bw]
 ·subst a7;refine D.ar bt λ_=>D.bu ?_;rw[g4 dq];exact D.aX aQ rfl
end
end Go.Proofs.YtjfgooffdmnnkaaGreatDoor

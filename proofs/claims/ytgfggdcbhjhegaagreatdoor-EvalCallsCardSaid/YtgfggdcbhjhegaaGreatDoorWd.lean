/- Texts of types: the program's split. -/
import Derived.Test.YtgfggdcbhjhegaaGreatDoorWc
set_option linter.all false
set_option maxRecDepth 100000
namespace Go.Dp
open Go.Mi
open Bool renaming true->ah,and_eq_true->ea,not_eq_true'->mZ,false->aQ
open _root_.ByteArray renaming size_append->lT,extract_append_eq_left->Aw,extract_append_eq_right->M4,append_assoc->yd,size_extract->DA,getElem_extract->acH,getElem_append_right->acI,extract_append_size_add'->MW
open Int renaming toNat_natCast->eq,eq_ofNat_of_zero_le->tB,natCast_mul->DF
open Int.ofNat renaming inj->ew
open List renaming mem_of_getElem?->cC,getElem?_eq_getElem->cq,take_of_length_le->fz,getElem?_of_mem->fO,map_append->lk,getElem?_eq_some_iff->cz,getElem?_map->fv,find?_append->qC,length_map->h6,mem_cons_self->ra,mem_append->ig,mem_of_find?_eq_some->wa,mem_cons_of_mem->BW,length->p_,getElem?_range->Ay,range->mn
open Nat renaming le_refl->b5,mul_le_mul->Bz
open Option renaming some->D,bind->aw,none->aF,bind_some->cl
theorem I.ij{bX R:Type}{body:bX->Option (bX ⊕ R)}{s:bX}{T:R->Prop}(h:I (body s) (ln (λs'=>I (eP body s') T) T)):I (eP body s) T:=by
 obtain⟨r,e,q⟩:=h;cases r with
 |inl s'=>rw[eP.on e];exact q
 |inr r=>rw[eP.dk e];exact⟨r,rfl,q⟩
end Go.Dp
namespace Go.Proofs.YtgfggdcbhjhegaaGreatDoor
open Go Go.Mi Go.RowKit Go.Dp
open Bool renaming true->ah,and_eq_true->ea,not_eq_true'->mZ,false->aQ
open _root_.ByteArray renaming size_append->lT,extract_append_eq_left->Aw,extract_append_eq_right->M4,append_assoc->yd,size_extract->DA,getElem_extract->acH,getElem_append_right->acI,extract_append_size_add'->MW
open Int renaming toNat_natCast->eq,eq_ofNat_of_zero_le->tB,natCast_mul->DF
open Int.ofNat renaming inj->ew
open List renaming mem_of_getElem?->cC,getElem?_eq_getElem->cq,take_of_length_le->fz,getElem?_of_mem->fO,map_append->lk,getElem?_eq_some_iff->cz,getElem?_map->fv,find?_append->qC,length_map->h6,mem_cons_self->ra,mem_append->ig,mem_of_find?_eq_some->wa,mem_cons_of_mem->BW,length->p_,getElem?_range->Ay,range->mn
open Nat renaming le_refl->b5,mul_le_mul->Bz
open Option renaming some->D,bind->aw,none->aF,bind_some->cl
theorem TE{a b:ByteArray}{j:Nat}:(a++b)[a.size+j]? =b[j]? :=by grind[lT,acI]
def il:ByteArray:=⟨#[59,32]⟩
section
variable {n : Nat}
theorem acJ:KP (aZ n) il=D (536883867,637696617):=by unfold KP aah;simp only[zs];rw[eP.on (s':=(32,0)) (by rfl),eP.on (s':=(536883867,-1)) (by rfl)];refine eP.dk ?_;show Option.map Sum.inr (KO il (aZ n) 536883867)=_;unfold KO aag;simp only[zs];rw[show(il.size:Int)=2 from rfl];rw[eP.on (s':=(1,637696617,1)) (by rfl),eP.on (s':=(637696617,1345077009,0)) (by rfl),eP.dk (r:=(536883867,637696617)) (by rfl)];rfl
theorem DG{a:ByteArray}{N:Nat}{d h1 h2:Int}(e0:N< 1000000)(ff:a.size=N+3)(fg:gB a (N:Int)=D 59)(jS:gB a ((N+1:Nat):Int)=D 32)(od:gB a ((N+2:Nat):Int)=D d)(ar:a.extract N (N+2)=il)
  (ep:IntKind.u32.wrap ((IntKind.u32.wrap (0*16777619))+(IntKind.u32.wrap d))=h1) (fD:IntKind.u32.wrap ((IntKind.u32.wrap (h1*16777619))+(IntKind.u32.wrap 32))=h2) (iF:¬h2=536883867)
  (tb:IntKind.u32.wrap ((IntKind.u32.wrap ((IntKind.u32.wrap (h2*16777619))+(IntKind.u32.wrap 59)))-(IntKind.u32.wrap (637696617*(IntKind.u32.wrap d))))=536883867):CI (aZ n) a il=D (N:Int):=by
 have gA:aH ((a.size:Int)- 1)=((N+2:Nat):Int):=by grind[c8]
 have es:(il.size:Int)=2:=rfl;have gT:aH ((a.size:Int)- 2)=((N+1:Nat):Int):=by grind[c8]
 have j2:aH (((N+2:Nat):Int)- 1)=((N+1:Nat):Int):=by grind
 have acK:aH (((N+1:Nat):Int)- 1)=(N:Int):=by grind[c8]
 have jJ:aH ((N:Int)+2)=((N+2:Nat):Int):=by grind
 refine I.bN ?_;unfold CI;refine I.aq acJ ?_;unfold RL;simp only[zs,es,gA,gT];refine I.ij (I.aC (λ_=>I.aq od (I.inl ?_)) dv);rw[ep,j2];refine I.ij (I.aC (λ_=>I.aq jS (I.inl ?_)) dv);rw[fD,acK];refine I.ij (I.aC br λ_=>I.dk ?_);unfold KR;refine I.aC (λh=>absurd h iF) λ_=>?_;unfold CH RK;simp only[zs,es,gT,acK];refine I.ij (I.aC (λ_=>I.aq fg ?_) dv);rw[jJ];exact I.aq od (I.aC (λ_=>I.aq (k6 aa aa) (I.aC (λ_=>I.inr rfl) λh=>absurd ar h)) λh=>absurd tb h)
variable {s:ByteArray}
theorem anC(aV:s.size< 1000000)(h1:0<s.size){k:Nat}(au:1<=k/\k<=6):CJ (aZ n) (s++(il++g0 k)) il=D (s.size:Int):=by
 have ff:(s++(il++g0 k)).size=s.size+3:=by rw[lT,lT];rfl
 have U:(s++(il++g0 k))[s.size+0]? =D 59:=by rw[TE];rcases we au with rfl|rfl|rfl|rfl|rfl|rfl<;>decide
 have aj:(s++(il++g0 k))[s.size+1]? =D 32:=by rw[TE];rcases we au with rfl|rfl|rfl|rfl|rfl|rfl<;>decide
 have a6:(s++(il++g0 k))[s.size+2]? =D (UInt8.ofNat (48+k)):=by rw[TE];rcases we au with rfl|rfl|rfl|rfl|rfl|rfl<;>decide
 have ar:(s++(il++g0 k)).extract s.size (s.size+2)=il:=by have:=MW (a:=s) (b:=il++g0 k) (i:=0) (j:=2) (k:=s.size) rfl;rw[Nat.add_zero]at this;rw[this];exact Aw rfl
 have key:CI (aZ n) (s++(il++g0 k)) il=D (s.size:Int):=by
  have fg:=ry U;have jS:=ry aj;have od:=ry a6;rcases we au with rfl|rfl|rfl|rfl|rfl|rfl
  ·exact DG (d:=49) (h1:=49) (h2:=822103363) aV ff fg jS od ar rfl rfl eu rfl
  ·exact DG (d:=50) (h1:=50) (h2:=838880982) aV ff fg jS od ar rfl rfl eu rfl
  ·exact DG (d:=51) (h1:=51) (h2:=855658601) aV ff fg jS od ar rfl rfl eu rfl
  ·exact DG (d:=52) (h1:=52) (h2:=872436220) aV ff fg jS od ar rfl rfl eu rfl
  ·exact DG (d:=53) (h1:=53) (h2:=889213839) aV ff fg jS od ar rfl rfl eu rfl
  ·exact DG (d:=54) (h1:=54) (h2:=905991458) aV ff fg jS od ar rfl rfl eu rfl
 have es:(il.size:Int)=2:=rfl;refine I.bN ?_;unfold CJ;rw[es];exact I.aC u1 λ_=>I.aC u1 λ_=>I.aC br λ_=>I.aC br λ_=>I.aq key (I.ret rfl)
theorem TF{i:Nat}(h:i<s.size):∃b,gB s (i:Int)=D b:=⟨_,ry (getElem?_pos s i h)⟩
theorem anD(aV:s.size< 1000000):I (CJ (aZ n) s il) λ_=>True:=by
 have es:(il.size:Int)=2:=rfl;unfold CJ;rw[es];refine I.aC u1 λ_=>I.aC u1 λ_=>I.aC (λh=>I.aC (λ_=>I.ret trivial) λ_=>I.ret trivial) λh2=>I.aC (λ_=>I.ret trivial) λaJ=>?_;have gT:aH ((s.size:Int)- 2)=(s.size:Int)- 2:=c8 aa aa;have gA:aH ((s.size:Int)- 1)=(s.size:Int)- 1:=c8 aa aa;have j2:aH ((s.size:Int)- 2- 1)=(s.size:Int)- 3:=by grind[c8]
 refine I.bind (Q:=λ_=>True) ?_ λ_ _=>I.ret trivial;unfold CI;refine I.aq acJ ?_;unfold RL;simp only[zs,es,gA,gT];refine I.b8 (λs':Int×Int=>(s.size:Int)- 3<=s'.2/\s'.2<=(s.size:Int)- 1) (λs'=>(s'.2+4-s.size).toNat) ?_ ⟨aa,aa⟩;rintro⟨h,i⟩ ⟨s_,wJ⟩;dsimp only at s_ wJ⊢;refine I.aC (λaP=>?_) λ_=>I.dk ?_
 ·obtain⟨j,rfl⟩:=tB (show 0<=i by omega);obtain⟨b,aB⟩:=TF (s:=s) (i:=j) aa;refine I.aq aB (I.inl ⟨⟨?_,?_⟩,?_⟩)<;>(try dsimp only)<;>rw[Qh aa]<;>omega
 ·unfold KR;have rest:∀h,I (CH h s il (aZ n) (536883867,637696617) ()) λ_=>True:=by
   intro h;unfold CH RK;simp only[zs,es,gT,j2];refine I.b8 (λs':Int×Int=> -1<=s'.2/\s'.2<=(s.size:Int)- 3) (λs'=>(s'.2+1).toNat) ?_ ⟨aa,aa⟩;rintro⟨h,i⟩ ⟨s_,wJ⟩;dsimp only at s_ wJ⊢;refine I.aC (λaP=>?_) λ_=>I.inr trivial;obtain⟨j,rfl⟩:=tB aP;have jJ:aH ((j:Int)+2)=((j+2:Nat):Int):=by grind[c8]
   obtain⟨b,aB⟩:=TF (s:=s) (i:=j) aa;obtain⟨gi,lG⟩:=TF (s:=s) (i:=j+2) aa;have next:∀z:Int,I (D (Sum.inl (z,aH ((j:Int)- 1)):(Int×Int) ⊕ Int)) (ln (λs':Int×Int=>(-1<=s'.2/\s'.2<=(s.size:Int)- 3)/\(s'.2+1).toNat<((j:Int)+1).toNat) λ_=>True):=λz=>by refine I.inl ⟨⟨?_,?_⟩,?_⟩<;>(try dsimp only)<;>rw[Qh aa]<;>omega
   rw[jJ];exact I.aq aB (I.aq lG (I.aC (λ_=>I.aq (k6 aa aa) (I.aC (λ_=>I.inr trivial) λ_=>next _)) λ_=>next _))
  have pZ:hg s ((s.size:Int)- 2) (s.size:Int)=D (s.extract (s.size- 2) s.size):=by grind[k6]
  rw[es,gT];refine I.aC (λ_=>I.aq pZ (I.aC (λ_=>I.ret trivial) λ_=>rest _)) λ_=>rest _
end
section
variable {n : Nat}
theorem anE{k:Nat}(h:1<=k/\k<=6):FN (aZ n) (g0 k)=D (k:Int):=by
 have key:J' (aZ n) (g0 k) (g0 k) (0,0)=D (k:Int):=by unfold J';simp only[zs];rw[eP.on (s':=((k:Int),1)) (by rcases we h with rfl|rfl|rfl|rfl|rfl|rfl<;>rfl),eP.dk (r:=(k:Int)) (by rcases we h with rfl|rfl|rfl|rfl|rfl|rfl<;>rfl)]
 have h2:QZ (aZ n) (g0 k)=J' (aZ n) (g0 k) (g0 k) (0,0):=by rcases we h with rfl|rfl|rfl|rfl|rfl|rfl<;>rfl
 simp_all[FN]
theorem acL{bn:eK}(h:bn.ok)(aV:bn.bR.size< 1000000){r:ByteArray->Option (ByteArray×Int×Bool)}(aM:r bn.bR=D bn.qE):CK (aZ n) r bn.bR=D ah:=by
 obtain⟨b,aJ,_,bp⟩:=MM (n:=n) (s:=bn.bR) aV;refine I.bN ?_;unfold CK;refine I.bC (λ_=>I.ret rfl) λh2=>I.aq aJ (I.bC (λ_=>I.ret rfl) λaB=>I.aq aM (I.ret ?_));have h2:(decide (bn.bR=e2)||decide (bn.bR=eO))=aQ:=h2;cases bn with
 |int=>cases h2
 |bool=>cases h2
 |gl bn k=>rfl
 |hb s=>have:=bp.2 h;simp_all
theorem anF(s:ByteArray)(k:Nat):CF (hU s k) ⟨#[91]⟩=D (s++(il++(g0 k++⟨#[93]⟩)),ah):=by
 have ff:=tK s k;have a5:(hU s k).extract 0 1=⟨#[91]⟩:=by rw[M1];exact Aw rfl
 have bk:(hU s k).extract 1 (hU s k).size=s++(il++(g0 k++⟨#[93]⟩)):=by rw[M1];exact M4 rfl (lT)
 have acM:xJ (hU s k) ⟨#[91]⟩=D ah:=by refine I.bN ?_;unfold xJ;refine I.aC (λ_=>I.aq (k6 (i:=0) (j:=1) aa aa) (I.ret ?_)) λh=>absurd (show(1:Int)<=_ by omega) h;grind
 unfold CF KM;rw[acM];show aw (aw (hg (hU s k) ((1:Nat):Int) ((hU s k).size:Int)) _) _=_;rw[k6 aa (b5 _),bk];rfl
theorem anG(s:ByteArray)(aV:s.size< 1000000)(k:Nat):F1 (s++(il++(g0 k++⟨#[93]⟩))) ⟨#[93]⟩=D (s++(il++g0 k),ah):=by
 have anH:s++(il++(g0 k++⟨#[93]⟩))=(s++(il++g0 k))++⟨#[93]⟩:=by rw[yd,yd]
 rw[anH];have ff:(s++(il++g0 k)).size=s.size+3:=by rw[lT,lT];rfl
 generalize s++(il++g0 k)=a at*;have zg:(a++⟨#[93]⟩:ByteArray).size=a.size+1:=by rw[lT];rfl
 have lR:aH (((a++⟨#[93]⟩:ByteArray).size:Int)- 1)=(a.size:Int):=by grind[c8]
 have a5:(a++⟨#[93]⟩:ByteArray).extract a.size (a++⟨#[93]⟩:ByteArray).size=⟨#[93]⟩:=M4 rfl lT;have bk:(a++⟨#[93]⟩:ByteArray).extract 0 a.size=a:=Aw rfl;have acN:CG (a++⟨#[93]⟩) ⟨#[93]⟩=D ah:=by refine I.bN ?_;unfold CG;refine I.aC (λ_=>?_) λh=>absurd (show(1:Int)<=_ by omega) h;show I (aw (hg _ (aH (((a++⟨#[93]⟩:ByteArray).size:Int)- 1)) _) _) _;rw[lR];refine I.aq (k6 aa (b5 _)) (I.ret ?_);grind
 grind[F1,KN,aw,hg,aH,k6]
theorem acO:∀(f:Nat)(bn:eK),bn.bR.size<f->bn.ok->bn.bR.size< 1000000->F2 (aZ n) f bn.bR=D bn.qE:=by
 intro f;induction f with
 |zero=>omega
 |succ f bB=>
  intro bn a8 au aV;show KT (aZ n) (F2 (aZ n) f) bn.bR=_;refine I.bN ?_;unfold KT;by_cases aK:∃bX k,bn=.gl bX k
  ·obtain⟨bX,k,rfl⟩:=aK;have ff:(eK.gl bX k).bR.size=bX.bR.size+5:=tK _ _;have hp:=eK.pos au.1;have ao:(bX.bR++(il++g0 k)).size=bX.bR.size+3:=by rw[lT,lT];rfl
   have lR:aH ((bX.bR.size:Int)+2)=((bX.bR.size+2:Nat):Int):=by grind[c8]
   have a5:(bX.bR++(il++g0 k)).extract (bX.bR.size+2) (bX.bR++(il++g0 k)).size=g0 k:=by rw[<-yd];refine M4 (by rw[lT];rfl) (by rw[lT])
   have bk:(bX.bR++(il++g0 k)).extract 0 bX.bR.size=bX.bR:=Aw rfl;refine I.aq (anF _ _) (I.aq (anG _ aa _) (I.aq (anC aa hp au.2) ?_));dsimp only;rw[lR];have s1:hg (bX.bR++(il++g0 k)) ((bX.bR.size+2:Nat):Int) ((bX.bR++(il++g0 k)).size:Int)=D (g0 k):=by rw[k6 aa (b5 _),a5]
   have s2:hg (bX.bR++(il++g0 k)) 0 (bX.bR.size:Int)=D bX.bR:=by rw[show(0:Int)=((0:Nat):Int)from rfl,k6 aa aa,bk]
   refine I.bC (λh=>?_) λ_=>I.aq s1 (I.aq (anE au.2) (I.aq s2 (I.aC (λ_=>I.aC (λ_=>I.aq (acF au.2) (I.aq s1 (I.aC (λ_=>I.aq (acL au.1 aa (bB bX aa au.1 aa)) (I.ret rfl)) λh=>absurd rfl h))) λh=>absurd (by have:=au.2;omega) h) λh=>absurd (by have:=au.2;omega) h)));grind
  ·have df:bn.bR[0]? ≠D 91:=λe=>aK ((eK.bw au).1 e);have hp:=eK.pos au;have acM:xJ bn.bR ⟨#[91]⟩=D aQ:=by
    refine I.bN ?_;unfold xJ;refine I.aC (λ_=>I.aq (k6 (i:=0) (j:=1) aa aa) (I.ret ?_)) λ_=>I.ret rfl;refine decide_eq_false λe=>df ?_;have h2:(bn.bR.extract 0 1)[0]? =D 91:=by rw[e];rfl
    grind[DA,acH]
   have anI:CF bn.bR ⟨#[91]⟩=D (bn.bR,aQ):=by simp_all[CF,KM]
   refine I.aq anI (I.bind (Q:=λz=>z.1.size< 1000000) ?_ λz bj=>I.bind (anD bj) λi _=>I.bC (λ_=>I.ret ?_) λh=>?_)
   ·dsimp only;have acN:I (CG bn.bR ⟨#[93]⟩) λb=>True:=by
     unfold CG;refine I.aC (λh=>?_) λ_=>I.ret trivial;show I (aw (hg _ (aH ((bn.bR.size:Int)- 1)) _) _) _;rw[show aH ((bn.bR.size:Int)- 1)=((bn.bR.size- 1:Nat):Int) by grind[c8]];exact I.aq (k6 aa (b5 _)) (I.ret trivial)
    unfold F1;refine I.bind (Q:=λz=>z.1.size< 1000000) ?_ λz bj=>I.ret bj;unfold KN;refine I.bind acN λb _=>I.bC (λ_=>I.ret aV) λ_=>?_;show I (aw (hg _ 0 (aH ((bn.bR.size:Int)- 1))) _) _;rw[show aH ((bn.bR.size:Int)- 1)=((bn.bR.size- 1:Nat):Int) by grind[c8]];exact I.aq (k6 (i:=0) aa aa) (I.ret (by rw[DA];omega))
   ·cases bn with
    |gl bX k=>simp_all
    |_=>rfl
   ·cases h
end
def dR(t:bf)(j:Nat):Nat:=match bd t j with|q::_=>q.toNat|[]=>0
def yk(t:bf):Nat->Nat->eK
 |0,_=>.int
 |k+1,j=>if(af t j).kind=30 then .int else if(af t j).kind=31 then .bool else if(af t j).kind=32 then .hb (af t j).bi else .gl (yk t k (dR t j)) (af t j).n.toNat
def gf(t:bf)(j:Nat):eK:=yk t (j+1) j
def dn(t:bf)(j:Nat):eK:=gf t (dR t j)
def iN(t:bf)(s:ByteArray):Option Nat:=(t.aX.find? λi=>decide ((af t i.toNat).kind=41)&&decide ((af t i.toNat).bi=s)).map Int.toNat
section
variable {n : Nat} {t : bf}
variable {j:Nat}
theorem na(ay:ik t)(ae:j<t.nodes.length)(h:0<(af t j).a3.length):∃r,bd t j=(dR t j:Int)::r/\dR t j<j:=by
 have au:=c6 ae;unfold dR;cases e:bd t j with
 |nil=>simp_all
 |cons q r=>obtain⟨m,rfl,hm⟩:=ib ay ae (by rw[e];exact ra);exact⟨r,rfl,hm⟩
theorem mf(ay:ik t)(ae:j<t.nodes.length)(h:(af t j).kind=4\/(af t j).kind=5\/(af t j).kind=22\/(af t j).kind=25\/(af t j).kind=33\/(af t j).kind=34\/(af t j).kind=43\/(af t j).kind=44):(af t j).a3.length=1:=by have hm:=rF ay ae;unfold jB at hm;rcases h with h|h|h|h|h|h|h|h<;> · grind
theorem pc(ai:c7 t)(ay:ik t)(ae:j<t.nodes.length)(h:(af t j).kind=33\/(af t j).kind=34):bd t j=[(dR t j:Int)]/\dR t j<j/\k9 (af t (dR t j)).kind=ah:=by
 have aK:=mf ay ae aa;obtain⟨r,h1,h2⟩:=na ay ae aa;have aM:r=[]:=by simp_all[congrArg,p_,c6,List.eq_nil_of_length_eq_zero]
 subst aM;refine⟨h1,h2,?_⟩;have:=pb ai ay (p:=j) (j:=dR t j) (a:=0) ae (by rw[<-c6 ae,h1];rfl);unfold m_ at this;grind
theorem anJ(ai:c7 t)(ay:ik t):∀(k cA j:Nat),j<k->j<cA->j<t.nodes.length->k9 (af t j).kind=ah->yk t k j=yk t cA j:=by
 intro k;induction k with
 |zero=>omega
 |succ k bB=>
  intro cA j h dp ae au;cases cA with
  |zero=>omega
  |succ cA=>
   unfold yk;split
   ·rfl
   ·split
    ·rfl
    ·split
     ·rfl
     ·next sy pd DH=>
      unfold k9 at au;simp only[ea,decide_eq_true_eq]at au;obtain⟨_,h2,aJ⟩:=pc ai ay ae (.inl aa);rw[bB cA _ aa aa aa aJ]
theorem GU(ai:c7 t)(ay:ik t)(ae:j<t.nodes.length)(au:k9 (af t j).kind=ah):gf t j=if(af t j).kind=30 then .int else if(af t j).kind=31 then .bool else if(af t j).kind=32 then .hb (af t j).bi else .gl (gf t (dR t j)) (af t j).n.toNat:=by
 show yk t (j+1) j=_;unfold yk;split
 ·rfl
 ·split
  ·rfl
  ·split
   ·rfl
   ·next sy pd DH=>
    unfold k9 at au;simp only[ea,decide_eq_true_eq]at au;obtain⟨_,h2,aJ⟩:=pc ai ay ae (.inl aa);rw[show gf t (dR t j)=yk t (dR t j+1) (dR t j)from rfl,anJ ai ay j (dR t j+1) (dR t j) aa aa aa aJ]
theorem TG(aO:hA t)(ae:j<t.nodes.length):rs t (j:Int)=D ah:=aO.acr j _ (lS ae)
theorem M5(aO:hA t)(ae:j<t.nodes.length)(h:(af t j).kind=33):1<=(af t j).n/\(af t j).n<=6:=by have:=TG aO ae;simp_all[rs,cw,cl]
theorem acP(aO:hA t)(ae:j<t.nodes.length)(h:(af t j).kind=26):1<=(af t j).a3.length/\(af t j).a3.length<=6:=by have:=TG aO ae;unfold rs at this;rw[cw ae,cl]at this;simp[h]at this;have hm:=rF aO.cZ ae;grind[jB]
theorem Az(ay:ik t)(ae:j<t.nodes.length)(h:nK (af t j).kind=ah):fF (af t j).bi:=((ay.o_ j _ (lS ae)).1).name.1 h
theorem AA(k:Int)(h:k=3\/k=20\/k=21\/k=22\/k=24\/k=25\/k=32\/k=34\/k=40\/k=41\/k=42\/k=43\/k=44\/k=45):nK k=ah:=by unfold nK zZ;rcases h with h|h|h|h|h|h|h|h|h|h|h|h|h|h<;> · grind
theorem DI(ai:c7 t)(aO:hA t):∀j,j<t.nodes.length->k9 (af t j).kind=ah->(gf t j).ok/\(gf t j).bR.size<=12+5*(j+1):=by
 have ay:=aO.cZ;intro j;induction j using Nat.strongRecOn with
 |ind j bB=>
  intro ae au;rw[GU ai ay ae au];split
  ·exact⟨trivial,by show 3<=_;omega⟩
  ·split
   ·exact⟨trivial,by show 4<=_;omega⟩
   ·split
    ·next h=>
     have:=Az ay ae (AA _ aa);exact⟨this,by have:=this.2.2.2;show(af t j).bi.size<=_;omega⟩
    ·next sy pd DH=>
     unfold k9 at au;simp only[ea,decide_eq_true_eq]at au;obtain⟨_,h2,aJ⟩:=pc ai ay ae (.inl aa);obtain⟨bp,cy⟩:=bB _ h2 aa aJ;have cY:=M5 aO ae aa;refine⟨⟨bp,aa,aa⟩,?_⟩;show(hU _ _).size<=_;rw[tK];omega
theorem TH(ai:c7 t)(aO:hA t)(a_:1<=n):∀(f j:Nat),j<f->j<t.nodes.length->k9 (af t j).kind=ah->Gm (aZ n) f t (j:Int)=D (gf t j).bR:=by
 have ay:=aO.cZ;intro f;induction f with
 |zero=>omega
 |succ f bB=>
  intro j anK ae au;show LV (aZ n) (Gm (aZ n) f) t (j:Int)=_;rw[GU ai ay ae au];refine I.bN ?_;unfold LV;refine I.aq (cw ae) (I.aC (λh=>I.ret (by rw[if_pos h];rfl)) λsy=>I.aC (λh=>I.ret (by rw[if_neg sy,if_pos h];rfl)) λpd=>I.aC (λh=>I.ret (by rw[if_neg sy,if_neg pd,if_pos h];rfl)) λDH=>?_);rw[if_neg sy,if_neg pd,if_neg DH];unfold k9 at au;simp only[ea,decide_eq_true_eq]at au;obtain⟨h1,h2,aJ⟩:=pc ai ay ae (.inl aa);have cY:=M5 aO ae aa;have de:aL (af t j).a3 0=D (dR t j:Int):=by rw[<-c6 ae,h1];rfl
  have gz:(af t j).n=(((af t j).n.toNat:Nat):Int):=by omega
  have ff:=(DI ai aO _ aa aJ).2;have sT:=ai.nodes;refine I.aq de (I.aq (bB _ aa aa aJ) ?_);rw[gz];exact I.aq (GS a_ aa ⟨aa,aa⟩) (I.ret (by rw[<-gz];rfl))
theorem oq{s:ByteArray}{i:Nat}(ay:ik t)(h:iN t s=D i):i<t.nodes.length/\(i:Int)∈t.aX/\(af t i).kind=41/\(af t i).bi=s:=by
 unfold iN at h;cases e:t.aX.find? λi=>decide ((af t i.toNat).kind=41)&&decide ((af t i.toNat).bi=s)with
 |none=>simp_all
 |some q=>rw[e]at h;cases h;have h1:=List.find?_some e;have h2:=wa e;obtain⟨m,rfl,_,hm⟩:=ay.fI.eB q h2;simp_all
theorem anL(ai:c7 t)(ay:ik t)(s:ByteArray):LX (aZ n) t s=D (GM (iN t s)):=by
 have hn:=ai.aX;refine I.bN ?_;unfold LX abi iN;refine I.for t.aX.length (λi (_:Unit)=>(i:Int)) (λi _=>(t.aX.take i).find? (λi=>decide ((af t i.toNat).kind=41)&&decide ((af t i.toNat).bi=s))=aF) (t0:=()) rfl rfl (λi _ ao bq=>?_) λ_ bq=>?_
 ·refine I.aC (λ_=>I.g7 ao λq aE=>?_) dv;obtain⟨fs,rfl,_,om⟩:=ay.fI.eB q (cC aE);refine I.aq (cw om) (I.bC (λaV=>I.aL aE (I.inr ?_)) λaV=>I.inl ⟨(),by rw[cM aa],?_⟩)
  ·rw[sx aE,qC,bq];simp[aV,GM]
  simp_all[gd,qC]
 ·refine I.aC br λ_=>I.inr ?_;rw[fz (b5 _)]at bq;rw[bq];rfl
end
def fd:ByteArray:=⟨#[]⟩
def nb(t:bf)(i:Nat):List ByteArray:=(bd t i).map λq=>(af t q.toNat).bi
def nc(t:bf)(i:Nat):List ByteArray:=(bd t i).map λq=>(dn t q.toNat).bR
def DJ(t:bf)(s f:ByteArray):ByteArray:=match iN t s with
 |none=>fd
 |some i=>match(bd t i).find? λq=>decide ((af t q.toNat).bi=f)with
  |some q=>(dn t q.toNat).bR
  |none=>fd
def dh(t:bf)(d:Nat):List Int:=(bd t d).take ((bd t d).length- 2)
def k_(t:bf)(d:Nat):Nat:=match(bd t d)[(bd t d).length- 2]? with|some q=>q.toNat|none=>0
def ey(t:bf)(d:Nat):Nat:=match(bd t d).getLast? with|some q=>q.toNat|none=>0
def lw(t:bf)(d:Nat):List ByteArray:=(dh t d).map λq=>(dn t q.toNat).bR
def AB:List (Option Nat)->Option Nat
 |[]=>D 0
 |none::_=>aF
 |some c::r=>if c<=8 then(AB r).map (c+ ·)else aF
def gw(t:bf)(j:Nat):Nat->eK->Option Nat
 |0,_=>aF
 |_+1,.int=>D 1
 |_+1,.bool=>D 1
 |d+1,.gl bn k=>match gw t j d bn with|some c=>if c<=8 then D (k*c)else aF|none=>aF
 |d+1,.hb s=>match iN t s with|none=>aF|some i=>if i<j then AB ((bd t i).map λq=>gw t j d (dn t q.toNat))else aF
section
variable {n : Nat} {t : bf}
variable {q:Int}
theorem sC(ai:c7 t)(ay:ik t){i:Nat}(ao:i<t.nodes.length)(h:(af t i).kind=41)(aE:q∈bd t i):∃m:Nat,q=m/\m<i/\(af t m).kind=34:=by obtain⟨m,rfl,hm⟩:=ib ay ao aE;refine⟨m,rfl,hm,?_⟩;rw[c6 ao]at aE;obtain⟨a,a9⟩:=fO aE;have:=pb ai ay ao a9;simp_all[m_,if_neg,if_pos]
variable {a d:Nat}
theorem TI(ai:c7 t)(ay:ik t)(az:d<t.nodes.length)(h:(af t d).kind=42)(aE:(bd t d)[a]? =D q):∃m:Nat,q=m/\m<d/\(a+2<(bd t d).length->(af t m).kind=34)/\(a+2=(bd t d).length->k9 (af t m).kind=ah)/\(a+1=(bd t d).length->ei (af t m).kind=ah):=by obtain⟨m,rfl,hm⟩:=ib ay az (cC aE);have aK:=(cz.1 aE).1;rw[c6 az]at aE aK⊢;have:=pb ai ay az aE;unfold m_ at this;grind
variable {j:Nat}
theorem GV(ai:c7 t)(ay:ik t)(ae:j<t.nodes.length)(h:(af t j).kind=33\/(af t j).kind=34):aL (af t j).a3 0=D (dR t j:Int):=by rw[<-c6 ae,(pc ai ay ae h).1];rfl
theorem TJ(ai:c7 t)(aO:hA t)(a_:1000<=n)(ae:j<t.nodes.length)(h:(af t j).kind=34):z_ (aZ n) t (dR t j:Int)=D (dn t j).bR:=by obtain⟨_,h2,aJ⟩:=pc ai aO.cZ ae (.inr h);have:=ai.nodes;exact TH ai aO aa n _ aa aa aJ
theorem sD(ai:c7 t)(aO:hA t)(ae:j<t.nodes.length)(h:(af t j).kind=34):(dn t j).ok/\(dn t j).bR.size<=5000:=by obtain⟨_,h2,aJ⟩:=pc ai aO.cZ ae (.inr h);have:=DI ai aO _ aa aJ;have e0:=ai.nodes;grind[dn]
theorem M6(ai:c7 t)(aO:hA t)(a_:1000<=n)(s:ByteArray):Aa (aZ n) t s=D (match iN t s with|none=>([],[])|some i=>(nb t i,nc t i)):=by
 have ay:=aO.cZ;refine I.bN ?_;unfold Aa;refine I.aq (anL ai ay s) ?_;cases e:iN t s with
 |none=>exact I.aC (λ_=>I.ret rfl) λh=>absurd eu h
 |some i=>
  obtain⟨h1,h2,aJ,bp⟩:=oq ay e;have h3:=ai.af h1;refine I.aC (λh=>absurd h (by show ¬(i:Int)< 0;omega)) λ_=>I.aq (cw h1) ?_;unfold abj;refine I.for (af t i).a3.length (λa (o:List ByteArray×List ByteArray)=>(o.1,o.2,(a:Int))) (λa o=>o.1=((bd t i).take a).map (λq=>(af t q.toNat).bi)/\o.2=((bd t i).take a).map (λq=>(dn t q.toNat).bR)) (t0:=([],[])) rfl ⟨rfl,rfl⟩ (λa o a9 bq=>?_) λo bq=>?_
  ·obtain⟨dq,dU⟩:=o;obtain⟨rfl,rfl⟩:=bq;refine I.aC (λ_=>I.g7 a9 λq aE=>?_) dv;have jN:(bd t i)[a]? =D q:=by rw[c6 h1];exact aE
   obtain⟨m,rfl,hm,au⟩:=sC ai ay h1 aJ (cC jN);have ge:m<t.nodes.length:=by omega
   refine I.aq (cw ge) (I.aq (jj dt) (I.aq (GV ai ay ge (.inr au)) (I.aq (TJ ai aO a_ ge au) (I.aq (jj dt) (I.inl ⟨(_,_),by rw[cM aa],?_,?_⟩)))))
   ·rw[gd jN,lk];rfl
   ·rw[gd jN,lk];rfl
  ·obtain⟨dq,dU⟩:=o;obtain⟨cy,cY⟩:=bq;dsimp only at cy cY;refine I.aC br λ_=>I.inr ?_;rw[cy,cY,fz (by rw[c6 h1];omega)];rfl
theorem anM(ai:c7 t)(aO:hA t)(a_:1000<=n)(s f:ByteArray):LY (aZ n) t s f=D (DJ t s f):=by
 have ay:=aO.cZ;refine I.bN ?_;unfold LY;refine I.aq (M6 ai aO a_ s) ?_;unfold abk DJ;cases e:iN t s with
 |none=>exact I.ij (I.aC (λh=>absurd h fT) λ_=>I.inr rfl)
 |some i=>
  obtain⟨h1,h2,aJ,bp⟩:=oq ay e;have h3:=ai.af h1;dsimp only;have aK:(bd t i).length<=800:=by rw[c6 h1];exact h3
  refine I.for (bd t i).length (λa (_:Unit)=>(a:Int)) (λa _=>((bd t i).take a).find? (λq=>decide ((af t q.toNat).bi=f))=aF) (t0:=()) rfl rfl (λa _ a9 bq=>?_) λ_ bq=>?_
  ·obtain⟨q,aE⟩:∃q,(bd t i)[a]? =D q:=⟨_,cq a9⟩
   have a5:aL (nb t i) (a:Int)=D (af t q.toNat).bi:=e3 (by simp_all[nb,fv]);have bk:aL (nc t i) (a:Int)=D (dn t q.toNat).bR:=e3 (by simp_all[nc,fv]);refine I.aC (λ_=>I.aq a5 (I.aC (λaV=>I.aq bk (I.inr ?_)) λaV=>I.inl ⟨(),by rw[cM aa],?_⟩)) λh=>absurd (by simp_all[nb,h6]) h
   ·have:(bd t i).find? (λq=>decide ((af t q.toNat).bi=f))=D q:=by
     rw[sx aE,qC,bq];simp[aV]
    rw[this]
   simp_all[gd,qC]
  ·refine I.aC (λh=>absurd h (by simp_all[nb,h6])) λ_=>I.inr ?_;rw[fz (b5 _)]at bq;rw[bq];rfl
theorem M7(ai:c7 t)(ay:ik t)(az:d<t.nodes.length)(h:(af t d).kind=42):(bd t d)[(bd t d).length- 2]? =D (k_ t d:Int)/\k_ t d<d/\k9 (af t (k_ t d)).kind=ah:=by grind[pY,c6,bd,cq,TI,k_]
theorem nP(ai:c7 t)(ay:ik t)(az:d<t.nodes.length)(h:(af t d).kind=42):(bd t d)[(bd t d).length- 1]? =D (ey t d:Int)/\ey t d<d/\ei (af t (ey t d)).kind=ah:=by grind[pY,c6,bd,cq,TI,ey]
theorem pe(ai:c7 t)(ay:ik t)(az:d<t.nodes.length)(h:(af t d).kind=42)(aE:(dh t d)[a]? =D q):∃m:Nat,q=m/\m<d/\(af t m).kind=34/\(bd t d)[a]? =D q/\a+2<(bd t d).length:=by grind[dh,TI]
theorem M8(ai:c7 t)(aO:hA t)(a_:1000<=n)(az:d<t.nodes.length)(h:(af t d).kind=42):z' (aZ n) t (d:Int)=D (lw t d,(gf t (k_ t d)).bR):=by
 have ay:=aO.cZ;have aK:=pY ay az h;have h3:=ai.af az;have au:=c6 az;have e0:=ai.nodes;refine I.bN ?_;unfold z';refine I.aq (cw az) ?_;unfold abh;have lR:aH (((af t d).a3.length:Int)- 2)=(((af t d).a3.length- 2:Nat):Int):=by grind[c8]
 rw[lR];have pF:(dh t d).length=(af t d).a3.length- 2:=by simp_all[dh,List.length_take]
 refine I.for ((af t d).a3.length- 2) (λa (o:List ByteArray)=>(o,(a:Int))) (λa o=>o=((dh t d).take a).map (λq=>(dn t q.toNat).bR)) (t0:=[]) rfl rfl (λa o a9 bq=>?_) λo bq=>?_
 ·subst bq;have aE:(dh t d)[a]? =D ((dh t d)[a]'aa):=cq _;obtain⟨m,e,hm,nd,jN,_⟩:=pe ai ay az h aE;rw[e]at jN;rw[au]at jN;have ge:m<t.nodes.length:=by omega
  refine I.aC (λ_=>I.aL jN (I.aq (cw ge) (I.aq (GV ai ay ge (.inr nd)) (I.aq (TJ ai aO a_ ge nd) (I.aq (jj dt) (I.inl ⟨_,by rw[cM aa],?_⟩)))))) dv;rw[gd aE,lk,e];rfl
 ·subst bq;obtain⟨h1,h2,aJ⟩:=M7 ai ay az h;rw[au]at h1;refine I.aC br λ_=>I.dk (I.aq (e3 h1) (I.aq (TH ai aO aa n _ aa aa aJ) (I.ret ?_)));rw[fz aa];rfl
theorem TK:∀{l:List (Option Nat)}{c:Nat},AB l=D c->∃cs:List Nat,l=cs.map D/\(∀x∈cs,x<=8)/\c=cs.sum
 |[],c,h=>by cases h;simp
 |none::_,c,h=>by cases h
 |some a::r,c,h=>by
  unfold AB at h;split at h
  ·next a9=>
   cases e:AB r with
   |none=>simp_all
   |some c'=>rw[e]at h;cases h;obtain⟨cs,h1,h2,aJ⟩:=TK e;refine⟨a::cs,dt,λx ar=>?_,dt⟩;grind
  ·cases h
theorem TL:∀{cs:List Nat},(∀x∈cs,x<=8)->AB (cs.map D)=D cs.sum
 |[],_=>rfl
 |a::r,h=>by show(if a<=8 then(AB (r.map D)).map (a+ ·)else aF)=_;rw[if_pos (h a ra),TL λx ar=>h x (BW _ ar)];rfl
theorem wg:∀{d cQ j e8:Nat}{bn:eK}{c:Nat},gw t j d bn=D c->d<=cQ->j<=e8->gw t e8 cQ bn=D c:=by
 intro d;induction d with
 |zero=>intro cQ j e8 bn c h;cases h
 |succ d bB=>
  intro cQ j e8 bn c h az ae;obtain⟨e,rfl⟩:∃e,cQ=e+1:=⟨cQ- 1,aa⟩
  cases bn with
  |int=>exact h
  |bool=>exact h
  |gl bn k=>grind[gw]
  |hb s=>
   unfold gw at h⊢;cases a5:iN t s with
   |none=>simp_all
   |some i=>
    rw[a5]at h;dsimp only at h⊢;split at h
    ·rw[if_pos aa];obtain⟨cs,h1,h2,aJ⟩:=TK h;rw[aJ,<-TL h2,<-h1];congr 1;apply List.map_congr_left;intro q aE;have:gw t j d (dn t q.toNat)∈cs.map D:=by grind
     obtain⟨x,_,ar⟩:=List.mem_map.1 this;rw[bB ar.symm aa ae,ar]
    ·cases h
end
section
variable {n : Nat} {t : bf}
variable {s:ByteArray}
theorem acQ(h:fF s):(decide (s=e2)||decide (s=eO))=aQ:=by grind[e2,fF.M2,eO,fF.M3]
theorem anN(s:ByteArray)(k:Nat):(decide (hU s k=e2)||decide (hU s k=eO))=aQ:=by
 have h1:hU s k≠e2:=λe=>by have:=p0 s k;rw[e]at this;exact absurd this eu
 have h2:hU s k≠eO:=λe=>by have:=p0 s k;rw[e]at this;exact absurd this eu
 grind
variable {a:Nat}{cs:List Nat}
theorem acR {x:Nat}(h:cs[a]? =D x):(cs.take (a+1)).sum=(cs.take a).sum+x:=by rw[gd h,List.sum_append];simp
theorem acS:∀{cs:List Nat},(∀x∈cs,x<=8)->cs.sum<=8*cs.length
 |[],_=>by simp
 |a::r,h=>by have h1:=h a ra;have h2:=acS λx ar=>h x (BW _ ar);grind
theorem acT(h:∀x∈cs,x<=8)(a:Nat):(cs.take a).sum<=8*cs.length:=by grind[acS,List.mem_of_mem_take]
theorem TM{a b:Int}(h:b<a):ih a b=b:=by unfold ih;rw[if_pos h]
variable {bn:eK}
theorem acU(a_:1000000<=n)(h:bn.ok)(aV:bn.bR.size< 100000):Gn (aZ n) bn.bR=D bn.qE:=anB aa n bn aa h aa
theorem TN(a_:1000000<=n)(h:bn.ok)(aV:bn.bR.size< 100000):xS (aZ n) bn.bR=D bn.qE:=acO n bn aa h aa
variable {c d j:Nat}
theorem DK(h:gw t j (d+1) (.hb s)=D c):∃(i:Nat)(cs:List Nat),iN t s=D i/\i<j/\(bd t i).map (λq=>gw t j d (dn t q.toNat))=cs.map D/\(∀x∈cs,x<=8)/\c=cs.sum:=by grind[gw,iN,TK]
theorem DL {k:Nat}(h:gw t j (d+1) (.gl bn k)=D c):∃c',gw t j d bn=D c'/\c'<=8/\c=k*c':=by grind[gw]
theorem acV{α β lj:Type}{f:α->β}{g:lj->β}{xs:List α}{cX:List lj}(h:xs.map f=cX.map g){x:α}(ar:xs[a]? =D x):∃y,cX[a]? =D y/\f x=g y:=by have:=congrArg (λl=>l[a]?) h;grind
theorem DM(ai:c7 t)(aO:hA t)(a_:1000000<=n):∀(d f j:Nat)(bn:eK)(c:Nat),gw t j d bn=D c->d<=f->bn.ok->bn.bR.size< 100000->Gp (aZ n) f t bn.bR=D (c:Int):=by
 have ay:=aO.cZ;intro d;induction d with
 |zero=>intro f j bn c h;cases h
 |succ d bB=>
  intro fx j bn c h az au aV;obtain⟨f,rfl⟩:∃f,fx=f+1:=⟨fx- 1,aa⟩
  show L5 (aZ n) (Gp (aZ n) f) t bn.bR=_;refine I.bN ?_;unfold L5;refine I.aq (acU a_ au aV) ?_;cases bn with
  |int=>cases h;exact I.ret rfl
  |bool=>cases h;exact I.ret rfl
  |gl bn k=>
   obtain⟨c',h1,h2,rfl⟩:=DL h;have cY:=au.2;have ff:(eK.gl bn k).bR.size=bn.bR.size+5:=tK _ _;refine I.bC (λ_=>I.aq (bB f j bn c' h1 aa au.1 aa) (I.ret ?_)) λh=>by cases h
   have hle:k*c'<=48:=by have:=Bz cY.2 h2;omega
   have e:(eK.gl bn k).qE.2.1=(k:Int):=rfl;have c0:((k*c':Nat):Int)=(k:Int)*(c':Int):=DF k c';show ih 10000 (aH ((k:Int)*(c':Int)))=_;rw[<-c0,c8 aa aa,TM aa]
  |hb s=>
   obtain⟨i,cs,h1,r6,h2,aJ,rfl⟩:=DK h;obtain⟨ao,_,j8,_⟩:=oq ay h1;have h3:=ai.af ao;have eE:cs.length=(bd t i).length:=by have:=congrArg p_ h2;grind
   have aCm:(bd t i).length<=800:=by rw[c6 ao];exact h3
   refine I.bC cF λ_=>I.bC (λh=>by have:=acQ au;change (decide (s=e2)||decide (s=eO))=ah at h;simp_all) λ_=>I.aq (M6 ai aO aa s) ?_;rw[h1];unfold abp;refine I.for (bd t i).length (λa (o:Int)=>(o,(a:Int))) (λa o=>o=((cs.take a).sum:Nat)) (t0:=0) rfl rfl (λa o a9 bq=>?_) λo bq=>?_
   ·subst bq;obtain⟨q,aE⟩:∃q,(bd t i)[a]? =D q:=⟨_,cq a9⟩
    obtain⟨x,ar,GW⟩:=acV h2 aE;obtain⟨m,rfl,hm,nd⟩:=sC ai ay ao j8 (cC aE);rw[eq]at GW;have wh:=sD ai aO (j:=m) aa nd;have bk:aL (nc t i) (a:Int)=D (dn t m).bR:=e3 (by simp_all[nc,fv]);have anO:=aJ x (cC ar);have M9:=acT aJ a;refine I.aC (λ_=>I.aq bk (I.aq (bB f j _ x GW aa wh.1 aa) (I.inl ⟨_,by rw[cM aa],?_⟩))) λh=>absurd (by simp_all[nc,h6]) h;grind[acR,c8]
   simp_all[I.aC,absurd,bd,nc,h6,I.inr,fz]
theorem TO(ai:c7 t)(aO:hA t)(a_:1000000<=n)(h:gw t j d bn=D c)(az:d<=n)(au:bn.ok)(aV:bn.bR.size< 100000):Ad (aZ n) t bn.bR=D (if 8<c then 5 else 0):=by refine I.bN ?_;unfold Ad;refine I.aq (DM ai aO a_ d n j bn c h az au aV) (I.aC (λh=>I.ret (by rw[if_pos aa])) λh=>I.ret (by rw[if_neg aa]))
theorem TP(ai:c7 t)(aO:hA t)(a_:1000000<=n){eu:List Int}{M:List (ByteArray×Int)}{P:List ByteArray}(eZ:∀s i,iN t s=D i->i<j->dP M s=D (i:Int))(cL:∀m,m<j->(af t m).kind=34->P[m]? =D (dn t m).bR):
  ∀(d f:Nat)(bn:eK)(c:Nat),gw t j d bn=D c->d<=f->bn.ok->bn.bR.size< 100000->F4 (aZ n) f bn.bR t.nodes t.aX eu t.nodes.length M P=D ((c:Int),ah):=by
 have ay:=aO.cZ;intro d;induction d with
 |zero=>intro f bn c h;cases h
 |succ d bB=>
  intro fx bn c h az au aV;obtain⟨f,rfl⟩:∃f,fx=f+1:=⟨fx- 1,aa⟩
  show KW (aZ n) (F4 (aZ n) f) bn.bR t.nodes t.aX eu t.nodes.length M P=_;refine I.bN ?_;unfold KW;cases bn with
  |int=>cases h;exact I.ret rfl
  |bool=>cases h;exact I.ret rfl
  |gl bn k=>
   obtain⟨c',h1,h2,rfl⟩:=DL h;have cY:=au.2;have ff:(eK.gl bn k).bR.size=bn.bR.size+5:=tK _ _;refine I.bC (λh=>by have:=anN bn.bR k;change (decide (hU bn.bR k=e2)||decide (hU bn.bR k=eO))=ah at h;simp_all) λ_=>I.aq (TN a_ au aV) (I.bC (λ_=>I.aq (bB f bn c' h1 aa au.1 aa) (I.ret ?_)) cF);have hle:k*c'<=48:=by have:=Bz cY.2 h2;omega
   have c0:((k*c':Nat):Int)=(c':Int)*(k:Int):=by rw[DF,Int.mul_comm]
   show(ih 10000 (aH ((c':Int)*(k:Int))),ah)=_;rw[<-c0,c8 aa aa,TM aa]
  |hb s=>
   obtain⟨i,cs,h1,r6,h2,aJ,rfl⟩:=DK h;obtain⟨ao,_,j8,_⟩:=oq ay h1;have h3:=ai.af ao;have eE:cs.length=(bd t i).length:=by have:=congrArg p_ h2;grind
   have fc:=c6 ao;refine I.bC (λh=>by have:=acQ au;change (decide (s=e2)||decide (s=eO))=ah at h;simp_all) λ_=>I.aq (TN a_ au aV) (I.bC cF λ_=>?_);have b2:dP M (eK.hb s).bR=D (i:Int):=eZ s i h1 r6;rw[b2];refine I.bC cF λ_=>?_;show I ((aL t.nodes (i:Int)).bind _) _;refine I.aq (cw ao) ?_;unfold aan;refine I.for (af t i).a3.length (λa (o:Int)=>(o,(a:Int))) (λa o=>o=((cs.take a).sum:Nat)) (t0:=0) rfl rfl (λa o a9 bq=>?_) λo bq=>?_
   ·subst bq;obtain⟨q,aE⟩:∃q,(bd t i)[a]? =D q:=⟨_,cq cK⟩
    obtain⟨x,ar,GW⟩:=acV h2 aE;obtain⟨m,rfl,hm,nd⟩:=sC ai ay ao j8 (cC aE);rw[eq]at GW;have wh:=sD ai aO (j:=m) aa nd;have anO:=aJ x (cC ar);have M9:=acT aJ a;rw[fc]at aE;have M_:cs.length<=800:=by simp_all
    refine I.aC (λ_=>I.aL aE (I.aq (k7 (cL m aa nd) aa) (I.aq (bB f _ x GW aa wh.1 aa) (I.inl ⟨_,by rw[cM aa],?_⟩)))) dv;rw[acR ar,c8 aa aa,TM aa];omega
   simp_all[I.aC,absurd,I.inr,fz,b5]
end
section
variable {n : Nat} {t : bf}
variable {l:List Int}{x:Int}
theorem anP(h:l.getLast? =D x):l=l.dropLast++[x]:=by
 have e5:l≠[]:=λe=>by simp_all
 grind[List.dropLast_concat_getLast,List.getLast?_eq_some_getLast,Option.some.inj]
theorem acW(h:x∈l.take (l.length- 2)):x∈l.dropLast:=by
 rw[List.dropLast_eq_take];obtain⟨a,a9⟩:=fO h;rw[List.getElem?_take]at a9;split at a9
 ·exact cC (i:=a) dt
 ·cases a9
theorem anQ(ai:c7 t)(ay:ik t):∀j,j<t.nodes.length->∀a,ee (bd t) (bd t j) a j->∀d∈(dz t j).1,((af t d.toNat).kind=34/\d<(a:Int))\/(((af t d.toNat).kind=20\/(af t d.toNat).kind=42)/\(j:Int)<d/\∀x∈(bd t d.toNat).dropLast,x<(a:Int)):=by
 refine Dy ay (λj ae e a _ d az=>?_) λj p ae hp Au hm e bB a a9 d az=>?_
 ·simp_all[pa]
 ·rw[j9 ay ae e]at az;obtain⟨eR,u5⟩:=GO ay hp;obtain⟨i,ao⟩:=fO hm;have qn:=sx ao;rw[qn,ee.split]at u5;obtain⟨m,h1,h2⟩:=u5;obtain⟨e8,a5,aJ,bp⟩:=ee.Aq.1 h2;have a5:j=e8:=ew a5;subst a5;have anR:m=a:=aJ.GG a9;subst anR;have aCn:=h1.iE;have u5:ee (bd t) (bd t p) eR p:=by obtain⟨b,aB⟩:=GO ay hp;rw[qn,ee.split]at aB;obtain⟨m',ep,fD⟩:=aB;obtain⟨v',bk,iF,_⟩:=ee.Aq.1 fD;grind[ew,ee.split]
  rcases ig.1 az with az|az
  ·unfold f_ at az;split at az
   ·next aK=>
    have yl:=anP aK;have TQ:∀x∈(bd t p).dropLast,x<(m:Int):=by intro x ar;have acX:=u5;rw[yl,ee.split]at acX;obtain⟨m',ep,fD⟩:=acX;obtain⟨v',bk,iF,_⟩:=ee.Aq.1 fD;have bk:j=v':=ew bk;subst bk;have:=iF.GG aJ;subst this;obtain⟨y,rfl,_,bh⟩:=ep.eB x ar;omega
    split at az
    ·next k8=>
     have az:d=(p:Int):=by grind
     subst az;exact .inr ⟨.inl k8,aa,TQ⟩
    ·split at az
     ·next b9=>
      rcases ig.1 az with az|az
      ·have eI:=acW az;have cf:=TQ d eI;obtain⟨gy,n6⟩:=fO (show d∈dh t p from az);obtain⟨q,rfl,_,ia,_⟩:=pe ai ay hp b9 n6;exact .inl ⟨ia,cf⟩
      ·have az:d=(p:Int):=by grind
       subst az;exact .inr ⟨.inr b9,aa,TQ⟩
     ·cases az
   ·cases az
  ·rcases bB eR u5 d az with⟨cy,cY⟩|⟨cy,cY,gX⟩
   ·omega
   grind
structure AC(t:bf)(j d:Nat):Prop where
 lt:d<t.nodes.length
 bi:(af t d).bi=(af t j).bi
 AD:ko (af t j).kind (af t d).kind=ah
 pos:((d:Int)∈t.aX/\d<j/\gZ t d=ah)\/((af t d).kind=34/\d<j)\/(((af t d).kind=20\/(af t d).kind=42)/\j<d/\∀x∈(bd t d).dropLast,x<(j:Int))
variable {j:Nat}
theorem wi(ai:c7 t)(ay:ik t)(ae:j<t.nodes.length)(aS:gv t j=0)(au:sz (af t j).kind=ah):∃d:Nat,eS t j=d/\AC t j d:=by
 have e5:eS t j≠ -1:=λe=>by
  unfold gv at aS;split at aS
  ·cases aS
  simp_all[mL,if_neg,if_pos]
 have hm:eS t j=match rE t j (af t j).bi with|some d=>if ko (af t j).kind (af t d.toNat).kind then d else-1|none=> -1:=by unfold eS;grind
 rw[hm]at e5⊢;cases e:rE t j (af t j).bi with
 |none=>simp_all
 |some d=>
  obtain⟨m,rfl,h1,h2⟩:=To ay ae e;rw[e]at e5;dsimp only at e5⊢;rw[eq]at e5⊢;cases aV:ko (af t j).kind (af t m).kind with
  |false=>simp_all
  |true=>
   refine⟨m,rfl,h1,h2,aV,?_⟩;have r2:=wa e;rcases ig.1 r2 with h|h
   ·obtain⟨a,a9⟩:=GO ay ae;have hle:=a9.iE;rcases anQ ai ay j ae a a9 _ h with⟨aJ,bp⟩|⟨aJ,bp,cy⟩
    ·grind
    grind
   ·have aJ:=List.mem_filter.1 h;simp_all[ea,decide_eq_true_eq,eq,Tk]
variable {i:Nat}
theorem GX(ay:ik t)(ao:i<t.nodes.length)(h:(i:Int)∈t.aX):jo (af t i).kind=ah:=(bE.at (lS ao)).1 ((ay.gM i ao).2 h)
variable {d:Nat}
theorem AC.gM(ay:ik t)(h:AC t j d)(au:(af t d).kind=40\/(af t d).kind=41\/(af t d).kind=43\/(af t d).kind=44):(d:Int)∈t.aX/\d<j:=by
 rcases h.pos with h|h|h
 ·simp_all
 ·omega
 ·omega
theorem AC.ot(ay:ik t)(h:AC t j d)(au:(af t d).kind=34):d<j:=by
 rcases h.pos with h|h|h
 ·omega
 ·exact h.2
 ·omega
theorem AC.anS(ay:ik t)(h:AC t j d)(au:(af t d).kind=20):j<d/\∀x∈(bd t d).dropLast,x<(j:Int):=by
 rcases h.pos with dp|dp|dp
 ·have:=GX ay h.lt dp.1;rw[au]at this;cases this
 ·omega
 grind
theorem anT(aS:∀i,i<t.nodes.length->gv t i=0)(ay:ik t){a b:Nat}(a9:(a:Int)∈t.aX)(aB:(b:Int)∈t.aX)(acY:gZ t a=ah)(acZ:gZ t b=ah)(h:(af t a).bi=(af t b).bi):a=b:=by
 obtain⟨gy,a5,_,anU⟩:=ay.fI.eB _ a9;obtain⟨gi,bk,_,px⟩:=ay.fI.eB _ aB;have a5:a=gy:=ew a5;have bk:b=gi:=ew bk;subst a5;subst bk;rcases Nat.lt_trichotomy a b with h1|h1|h1
 ·exact absurd (.inl ⟨aB,acZ,a,a9,h1,acY,h⟩) (TC (aS b px))
 ·exact h1
 ·exact absurd (.inl ⟨a9,acY,b,aB,h1,acZ,h.symm⟩) (TC (aS a anU))
theorem ac0(h:(af t i).kind=41):gZ t i=ah:=by grind[gZ,Dx]
theorem TR(aS:∀i,i<t.nodes.length->gv t i=0)(ay:ik t)(ao:i<t.nodes.length)(h:(af t i).kind=41):iN t (af t i).bi=D i:=by
 have g1:=yh ay ao (by rw[h];rfl);cases e:iN t (af t i).bi with
 |none=>grind[iN,List.find?_eq_none,Option.map_eq_none_iff,eq]
 |some g5=>obtain⟨h1,h2,aJ,bp⟩:=oq ay e;rw[anT aS ay h2 g1 (ac0 aJ) (ac0 h) bp]
end
def h4(k:ByteArray)(l:List ByteArray):Bool:=l.all λx=>decide (x=k)
section
variable {n : Nat} {t : bf}
theorem u6{K X:Type} [DecidableEq K]:∀{kv:List (K×X)}{k cA:K}{x:X},dP (d_ kv k x) cA=if k=cA then D x else dP kv cA
 |[],k,cA,x=>by show dP [(k,x)] cA=_;unfold dP;rfl
 |(a,y)::r,k,cA,x=>by
  unfold d_;by_cases h:a=k
  ·simp_all[if_pos,dP]
  ·rw[if_neg h];show(if a=cA then D y else dP (d_ r k x) cA)=_;rw[u6];show _=if k=cA then D x else if a=cA then D y else dP r cA
   grind
variable {a b:List ByteArray}
theorem tL(h:a.length<=1000000):x5 (aZ n) a b=D (decide (a=b)):=by
 have:I (x5 (aZ n) a b) λr=>r=ah↔a=b:=by
  unfold x5;refine I.eh (λaK=>I.ret ⟨cF,λh=>absurd (by rw[h]) aK⟩) λaK=>?_;unfold abf;have aK:a.length=b.length:=by omega
  refine I.for a.length (λi (_:Unit)=>(i:Int)) (λi _=>∀j,j<i->a[j]? =b[j]?) (t0:=()) rfl (λj h=>by omega) (λi _ ao bq=>?_) λ_ bq=>?_
  ·obtain⟨x,ar⟩:∃x,a[i]? =D x:=⟨_,cq ao⟩
   obtain⟨y,bh⟩:∃y,b[i]? =D y:=⟨_,cq aa⟩
   refine I.aC (λ_=>I.aL ar (I.aL bh (I.eh (λhe=>I.inr ⟨cF,λh=>?_⟩) λhe=>I.inl ⟨(),by rw[cM aa],λj ae=>?_⟩))) dv
   ·simp_all
   grind
  ·refine I.aC br λ_=>I.inr ⟨λ_=>?_,λ_=>rfl⟩;apply List.ext_getElem?;grind
 obtain⟨r,e,h⟩:=this;grind
theorem anV(h:a.length<=1000000):RI (aZ n) a b=D (decide (a=b)):=tL (n:=n) h
variable {l:List ByteArray}
theorem ym(k:ByteArray)(h:l.length<=1000000):sl (aZ n) k l=D (h4 k l):=by
 have:I (sl (aZ n) k l) λr=>r=ah↔∀x∈l,x=k:=by
  unfold sl RH RG aad;refine I.bind (Q:=λz=>z=ah↔¬ ∀x∈l,x=k) (I.bind (Q:=λz=>0<=z↔¬ ∀x∈l,x=k) ?_ λz bj=>I.ret cK) λz bj=>I.ret (by rw[mZ,<-Bool.not_eq_true,bj,Classical.not_not]);refine I.for l.length (λi (_:Unit)=>(i:Int)) (λi _=>∀j x,j<i->l[j]? =D x->x=k) (t0:=()) rfl (λj x h=>by omega) (λi _ ao bq=>?_) λ_ bq=>?_
  ·refine I.aC (λ_=>I.g7 ao λx ar=>?_) dv;unfold RF;refine I.aq rfl (I.eh (λhe=>I.inr ⟨λ_ h=>he (h x (cC ar)),λ_=>by omega⟩) λhe=>I.inl ⟨(),by rw[cM aa],λj y ae bh=>?_⟩);grind
  ·refine I.aC br λ_=>I.inr ⟨λh=>by omega,λh=>absurd (λx ar=>?_) h⟩;grind[fO,cz]
 obtain⟨r,e,h⟩:=this;rw[e];congr 1;rw[Bool.eq_iff_iff,h];unfold h4;simp
theorem anW(h:l.length<=1000000):F5 (aZ n) l=D (!l.all λx=>decide (x=e2)||decide (x=eO)):=by
 have:I (F5 (aZ n) l) λr=>r=ah↔¬ ∀x∈l,x=e2\/x=eO:=by
  unfold F5 RP aao;refine I.bind (Q:=λz=>0<=z↔¬ ∀x∈l,x=e2\/x=eO) ?_ λz bj=>I.ret cK;refine I.for l.length (λi (_:Unit)=>(i:Int)) (λi _=>∀j x,j<i->l[j]? =D x->x=e2\/x=eO) (t0:=()) rfl (λj x h=>by omega) (λi _ ao bq=>?_) λ_ bq=>?_
  ·refine I.aC (λ_=>I.g7 ao λx ar=>?_) dv;unfold RO;refine I.aq rfl (I.bC (λhe=>I.inr ⟨λ_ h=>?_,λ_=>by omega⟩) λhe=>I.inl ⟨(),by rw[cM aa],λj y ae bh=>?_⟩)
   ·have he:(!decide (x=e2)&& !decide (x=eO))=ah:=he;rw[ea,mZ,mZ,decide_eq_false_iff_not,decide_eq_false_iff_not]at he;exact(h x (cC ar)).elim he.1 he.2
   grind[decide,e2,eO,decide_eq_false]
  ·refine I.aC br λ_=>I.inr ⟨λh=>by omega,λh=>absurd (λx ar=>?_) h⟩;grind[fO,cz]
 obtain⟨r,e,h⟩:=this;grind
end
def dC(t:bf)(O:Nat->ByteArray)(j:Nat):List ByteArray:=(bd t j).map λq=>O q.toNat
def p1(O:Nat->ByteArray)(j:Nat)(s:ByteArray):Nat->ByteArray:=λi=>if i=j then s else O i
structure kp(t:bf)(j:Nat)(bn:eK):Prop where
 ok:bn.ok
 size:bn.bR.size<=5*j+20
 q2:∃c,1<=c/\c<=8/\gw t j (2*j+2) bn=D c
inductive AE (t:bf) (O:Nat->ByteArray) (i:Nat):Prop
 |num (h:(af t i).kind=1) (e:O i=e2)
 |bool (h:(af t i).kind=2) (e:O i=eO)
 |wj (h:(af t i).kind=3) (d:Nat) (az:eS t i=d) (au:(af t d).kind=40) (e:O i=e2)
 |wk (h:(af t i).kind=3) (d:Nat) (az:eS t i=d) (au:(af t d).kind=34) (e:O i=(dn t d).bR)
 |wl (h:(af t i).kind=3) (d:Nat) (az:eS t i=d) (au:(af t d).kind=43\/(af t d).kind=20) (lt:dR t d<i) (e:O i=O (dR t d))
 |wm (h:(af t i).kind=4\/(af t i).kind=6\/(af t i).kind=7\/(af t i).kind=8\/(af t i).kind=9\/(af t i).kind=10) (au:h4 e2 (dC t O i)=ah) (e:O i=e2)
 |wn (h:(af t i).kind=5\/(af t i).kind=17\/(af t i).kind=18) (au:h4 eO (dC t O i)=ah) (e:O i=eO)
 |bN (h:(af t i).kind=11\/(af t i).kind=12) (au:h4 e2 (dC t O i)=ah\/h4 eO (dC t O i)=ah) (e:O i=eO)
 |wo (h:(af t i).kind=13\/(af t i).kind=14\/(af t i).kind=15\/(af t i).kind=16) (au:h4 e2 (dC t O i)=ah) (e:O i=eO)
 |bC (h:(af t i).kind=19) (au:dC t O i=[eO,O i,O i])
 |lt (h:(af t i).kind=20) (x:ByteArray) (au:dC t O i=[x,O i])
 |call (h:(af t i).kind=21) (d:Nat) (az:eS t i=d) (b9:(af t d).kind=42) (au:dC t O i=lw t d) (e:O i=(gf t (k_ t d)).bR)
 |field (h:(af t i).kind=22) (s:ByteArray) (r:Nat) (au:dC t O i=[s]) (aM:iN t s=D r) (q:Int) (aE:(bd t r).find? (λq=>decide ((af t q.toNat).bi=(af t i).bi))=D q) (e:O i=(dn t q.toNat).bR)
 |index (h:(af t i).kind=23) (bX:eK) (k:Nat) (au:dC t O i=[(eK.gl bX k).bR,e2]) (e:O i=bX.bR)
 |wp (h:(af t i).kind=24) (r:Nat) (az:eS t i=r) (aM:iN t (af t i).bi=D r) (a_:(bd t i).map (λq=>(af t q.toNat).bi)=nb t r) (au:dC t O i=nc t r) (e:O i=(af t i).bi)
 |gl (h:(af t i).kind=26) (x:ByteArray) (au:h4 x (dC t O i)=ah) (e:O i=hU x (bd t i).length)
structure kO(t:bf)(O:Nat->ByteArray)(j:Nat):Prop where
 ex:∀i,i<j->ei (af t i).kind=ah->∃bn,O i=bn.bR/\kp t i bn
 ty:∀i,i<j->k9 (af t i).kind=ah->O i=(gf t i).bR/\kp t i (gf t i)
 ot:∀i,i<j->(af t i).kind=34->O i=(dn t i).bR
 put:∀i,i<j->(af t i).kind=25->O i=O (dR t i)
 TS:∀i,i<j->jo (af t i).kind=ah->O i=fd
 hb:∀i,i<j->(af t i).kind=41->∃c,1<=c/\c<=8/\gw t (i+1) (2*i+1) (.hb (af t i).bi)=D c
 AF:∀i,i<j->ei (af t i).kind=ah->AE t O i
 fn:∀i,i<j->(af t i).kind=42->O (ey t i)=(gf t (k_ t i)).bR
def eN(t:bf)(O:Nat->ByteArray)(j:Nat):List ByteArray:=(mn j).map λi=>if ei (af t i).kind=ah then O i else fd
def j'(t:bf)(O:Nat->ByteArray)(j:Nat)(P:List ByteArray):Prop:=P.length=t.nodes.length/\∀i,i<t.nodes.length->P[i]? =D (if i<j then O i else fd)
def u7(t:bf)(j:Nat)(s:ByteArray):Option Int:=match iN t s with|some i=>if i<j then D (i:Int)else aF|none=>aF
def ne(t:bf)(j:Nat)(M:List (ByteArray×Int)):Prop:=∀s,dP M s=u7 t j s
def c2(t:bf):List Int:=(mn t.nodes.length).map (eS t)
section
variable {n : Nat} {t : bf} {O : Nat -> ByteArray} {j : Nat} {M : List (ByteArray × Int)} {P : List ByteArray}
theorem kp.mono{j e8:Nat}{bn:eK}(h:kp t j bn)(ae:j<=e8):kp t e8 bn:=by obtain⟨h1,h2,c,aJ,bp,cy⟩:=h;exact⟨h1,aa,c,aJ,bp,wg cy aa ae⟩
theorem kp.int(j:Nat):kp t j .int:=⟨trivial,by show 3<=_;omega,1,b5 _,aa,rfl⟩
theorem kp.bool(j:Nat):kp t j .bool:=⟨trivial,by show 4<=_;omega,1,b5 _,aa,rfl⟩
theorem wq(ae:j<t.nodes.length):aL (c2 t) (j:Int)=D (eS t j):=e3 (by grind[c2,Ay])
theorem M'(ai:c7 t)(ay:ik t)(ae:j<t.nodes.length)(h:(af t j).kind=25):aL (af t j).a3 0=D (dR t j:Int)/\dR t j<j/\ei (af t (dR t j)).kind=ah:=by
 have aK:=mf ay ae aa;obtain⟨r,h1,h2⟩:=na ay ae aa;have ar:(af t j).a3[0]? =D (dR t j:Int):=by rw[<-c6 ae,h1];rfl
 refine⟨e3 (i:=0) ar,h2,?_⟩;have:=pb ai ay ae ar;simp_all[m_,if_neg]
variable {q:Int}
theorem TT(ai:c7 t)(ay:ik t)(ae:j<t.nodes.length)(h:ei (af t j).kind=ah)(aE:q∈bd t j):∃m:Nat,q=m/\m<j/\(ei (af t m).kind=ah\/(af t m).kind=25):=by obtain⟨m,rfl,hm⟩:=ib ay ae aE;refine⟨m,rfl,hm,?_⟩;rw[c6 ae]at aE;obtain⟨a,a9⟩:=fO aE;have:=pb ai ay ae a9;unfold ei at h;simp only[ea,decide_eq_true_eq,mZ,decide_eq_false_iff_not]at h;unfold m_ at this;grind
theorem ac1(ai:c7 t)(ay:ik t)(bx:kO t O j)(ae:j<t.nodes.length)(h:ei (af t j).kind=ah)(aE:q∈bd t j):∃m:Nat,q=m/\m<j/\∃bn,O m=bn.bR/\kp t m bn:=by
 obtain⟨m,rfl,hm,au⟩:=TT ai ay ae h aE;refine⟨m,rfl,hm,?_⟩;rcases au with au|au
 ·exact bx.ex m hm au
 ·obtain⟨_,h1,h2⟩:=M' ai ay (j:=m) aa au;obtain⟨bn,aJ,bp⟩:=bx.ex _ aa h2;exact⟨bn,by rw[bx.put m hm au];exact aJ,bp.mono aa⟩
variable {m:Nat}
theorem j'.at(cL:j' t O j P)(h:m<j)(ae:j<=t.nodes.length):fK t.nodes.length P (m:Int)=D ⟨(m,O m),by have:=cL.2 m aa;simp_all⟩:=k7 (by have:=cL.2 m aa;simp_all) aa
variable {eu ks:List Int}
theorem ac2(cL:j' t O j P)(ae:j<=t.nodes.length)(aK:ks.length<=1000)(au:∀q∈ks,∃m:Nat,q=m/\m<j):CD (aZ n) ks t.nodes t.aX eu t.nodes.length M P=D (ks.map λq=>O q.toNat):=by
 refine I.bN ?_;unfold CD aac;refine I.for ks.length (λa (o:List ByteArray)=>(o,(a:Int))) (λa o=>o=(ks.take a).map λq=>O q.toNat) (t0:=[]) rfl rfl (λa o a9 bq=>?_) λo bq=>?_
 ·subst bq;refine I.aC (λ_=>I.g7 a9 λq aE=>?_) dv;obtain⟨m,rfl,hm⟩:=au q (cC aE);refine I.aq (cL.at hm ae) (I.aq (jj dt) (I.inl ⟨_,by rw[cM aa],?_⟩));rw[gd aE,lk];rfl
 simp_all[I.aC,absurd,I.inr,fz,b5]
theorem GY(cL:j' t O j P)(ae:j<=t.nodes.length)(aK:ks.length<=1000)(au:∀q∈ks,∃m:Nat,q=m/\m<j):I (KJ (aZ n) ks t.nodes t.aX eu t.nodes.length M P) λr=>r.1=ks.map λq=>O q.toNat:=by
 unfold KJ aab;refine I.for ks.length (λa (o:List ByteArray×Nat)=>(o.1,(a:Int),o.2)) (λa o=>o.1=(ks.take a).map λq=>O q.toNat) (t0:=([],0)) rfl rfl (λa o a9 bq=>?_) λo bq=>?_
 ·obtain⟨o,v⟩:=o;dsimp only at bq;subst bq;refine I.aC (λ_=>I.g7 a9 λq aE=>?_) dv;obtain⟨m,rfl,hm⟩:=au q (cC aE);refine I.aq (cL.at hm ae) (I.aq (jj dt) (I.inl ⟨(_,_),by rw[cM aa],?_⟩));simp_all[gd,lk]
 simp_all[I.aC,absurd,I.inr,fz,b5]
theorem TU(h:m<j)(au:ei (af t m).kind=ah):aL (eN t O j++[fd]) (m:Int)=D (O m):=by simp_all[e3,List.getElem?_append_left,eN,fv,Ay,Option.map_some,if_pos]
theorem anX(ai:c7 t)(ay:ik t)(bx:kO t O j)(ae:j<t.nodes.length)(h:ei (af t j).kind=ah){s:ByteArray}(aV:md (aZ n) ⟨eu⟩ (j:Int) t (eN t O j++[fd]) (af t j) (dC t O j,(af t j).kind)=D s):C' (aZ n) t ⟨eu⟩ (eN t O j++[fd]) (j:Int)=D s:=by
 have h3:=ai.af ae;have fc:=c6 ae;refine I.bN ?_;unfold C';refine I.aq (cw ae) ?_;unfold abo;refine I.for (af t j).a3.length (λa (o:List ByteArray)=>(o,(a:Int))) (λa o=>o=((bd t j).take a).map λq=>O q.toNat) (t0:=[]) rfl rfl (λa o a9 bq=>?_) λo bq=>?_
 ·subst bq;obtain⟨q,aE⟩:∃q,(af t j).a3[a]? =D q:=⟨_,cq a9⟩
  have jN:(bd t j)[a]? =D q:=by simp_all
  obtain⟨m,rfl,hm,au⟩:=TT ai ay ae h (cC jN);have ge:m<t.nodes.length:=by omega
  have fin:((bd t j).take a).map (λq=>O q.toNat)++[O m]=((bd t j).take (a+1)).map λq=>O q.toNat:=by rw[gd jN,lk];rfl
  refine I.aC (λ_=>I.aL aE (I.aq (cw ge) (I.aC (λyn=>?_) λyn=>?_))) dv
  ·obtain⟨h1,h2,aJ⟩:=M' ai ay ge yn;refine I.aq (cw ge) (I.aq h1 (I.aq (TU aa aJ) (I.aq (jj dt) (I.inl ⟨_,by rw[cM aa],?_⟩))));rw[<-bx.put m hm yn];exact fin
  grind[I.aq,TU,jj,I.inl,cM]
 ·subst bq;refine I.aC br λ_=>I.dk ?_;rw[fz cK];exact I.aY aV rfl
end
end Go.Proofs.YtgfggdcbhjhegaaGreatDoor

/- The law. -/
import Derived.Test.YtjfgooffdmnnkaaGreatDoorWk
import Derived.Test.YtjfgooffdmnnkaaGreatDoorL8
set_option linter.all false
set_option maxRecDepth 100000
set_option maxHeartbeats 1000000
namespace Go.Proofs.YtjfgooffdmnnkaaGreatDoor
open Go Go.Mi Go.RowKit Go.Dp
open Bool renaming true->ad,and_eq_true->dn,false->aS,true_and->fm,not_not->xm
open Int renaming lt_irrefl->eb,ofNat_lt->eA,toNat_natCast->dA,natCast_mul->jP,one_mul->tv
open List renaming getElem?_eq_getElem->bN,getElem?_eq_some_iff->cz,mem_of_getElem?->cm,take_length->e4,replicate->cC,length_take->fF,drop_eq_getElem_cons->l8,filter_append->jo,take_append_drop->kn,cons_append->mB,map_append->hT,range->gD,range_succ->pk,drop_eq_nil_of_le->tK,mem_singleton->ro,length_append->hW,find?_append->nd,mem_append->h3,take_take->qo,drop_zero->qN
open Nat renaming le_refl->bL,le_mul_of_pos_right->qP,mod_eq_of_lt->qO,div_le_self->sC,mul_assoc->tL,mul_comm->oR,lt_or_ge->pj,le_trans->gE,zero_le->fR,add_mul->il,mod_lt->s4
open Option renaming bind_some->bE,some->I,none->aJ,bind->au
open Sum renaming elim_inr->n9
def cP(c:ct):Nat:=(c.hi-c.lo+1).toNat
def bb:List ct->Nat
 |[]=>1
 |c::l=>cP c*bb l
def gU(l:List ct):Prop:=∀c∈l,c.lo<=c.hi/\ -9999<=c.lo/\c.hi<=9999
def du:List ct->Nat->List Int
 |[],_=>[]
 |c::l,n=>(c.lo+((n/bb l:Nat):Int))::du l (n%bb l)
def dk:List ct->List Int->Nat
 |c::l,x::w=>(x-c.lo).toNat*bb l+dk l w
 |_,_=>0
def bF:List ct->List Int->Bool
 |[],[]=>ad
 |c::l,x::w=>decide (c.lo<=x)&&decide (x<=c.hi)&&bF l w
 |_,_=>aS
theorem j'(a b:List ct):bb (a++b)=bb a*bb b:=by
 induction a with
 |nil=>simp[bb]
 |cons c a bx=>simp[bb,bx,tL]
variable {c:ct}{l:List ct}
theorem gU.jd(h:gU (c::l)):gU l:=λx ak=>h x (by simp[ak])
def rE(h:c.lo<=c.hi):0<cP c:=by unfold cP;omega
def lT(h:gU l):0<bb l:=by
 induction l with
 |nil=>simp[bb]
 |cons c l bx=>exact Nat.mul_pos (rE (h c cW).1) (bx h.jd)
theorem hv:∀{l:List ct}{w:List Int},bF l w=ad->w.length=l.length
 |[],[],_=>rfl
 |[],_::_,h=>by simp[bF]at h
 |_::_,[],h=>by simp[bF]at h
 |c::l,x::w,h=>by simp only[bF,dn]at h;simp[hv h.2]
variable {w:List Int}
def pm{x:Int}(h:bF (c::l) (x::w)=ad):c.lo<=x/\x<=c.hi/\bF l w=ad:=by simp_all[bF,dn,decide_eq_true_eq]
def nA:∀{l:List ct}{w:List Int},gU l->bF l w=ad->dk l w<bb l
 |[],[],_,_=>by simp[dk,bb]
 |[],_::_,_,h=>by simp[bF]at h
 |_::_,[],_,h=>by simp[bF]at h
 |c::l,x::w,aU,h=>by
  obtain⟨h1,h2,ay⟩:=pm h;have bl:=nA aU.jd ay;have bO:(x-c.lo).toNat+1<=cP c:=by unfold cP;omega
  have cX:=Nat.mul_le_mul_right (bb l) bO;rw[il,Nat.one_mul]at cX;simp only[dk,bb];omega
theorem oE:∀{l:List ct}{w:List Int},gU l->bF l w=ad->du l (dk l w)=w
 |[],[],_,_=>rfl
 |[],_::_,_,h=>by simp[bF]at h
 |_::_,[],_,h=>by simp[bF]at h
 |c::l,x::w,aU,h=>by obtain⟨h1,h2,ay⟩:=pm h;have bl:=nA aU.jd ay;have hp:=lT aU.jd;simp only[dk,du];rw[Nat.add_comm,Nat.add_mul_div_right _ _ hp,Nat.div_eq_of_lt bl,Nat.add_mul_mod_self_right,qO bl,oE aU.jd ay];grind
def uP:∀{l:List ct}{n:Nat},gU l->n<bb l->bF l (du l n)=ad
 |[],_,_,_=>rfl
 |c::l,n,aU,h=>by have hp:=lT aU.jd;have h1:n/bb l<cP c:=Nat.div_lt_of_lt_mul (by rw[oR];exact h);have h2:=uP aU.jd (s4 n hp);have ay:=(aU c cW).1;unfold cP at h1;simp only[du,bF,h2,Bool.and_true,dn,decide_eq_true_eq];grind
theorem nB:∀{l:List ct}{n:Nat},(du l n).length=l.length
 |[],_=>rfl
 |_::l,n=>by simp[du,nB (l:=l)]
theorem pn:∀{a b:List ct}{w:List Int},bF (a++b) w=ad->bF a (w.take a.length)=ad
 |[],_,_,_=>by simp[bF]
 |c::a,b,[],h=>by simp[bF]at h
 |c::a,b,x::w,h=>by obtain⟨h1,h2,ay⟩:=pm h;simp[bF,h1,h2,pn ay]
theorem tM:∀{a:List ct}{u:List Int}{c:ct}{x:Int},u.length=a.length->dk (a++[c]) (u++[x])=dk a u*cP c+(x-c.lo).toNat
 |[],[],c,x,_=>by simp[dk,bb]
 |[],_::_,_,_,h=>by simp at h
 |_::_,[],_,_,h=>by simp at h
 |d::a,y::u,c,x,h=>by simp only[mB,dk];rw[tM (by grind),j'];simp only[bb,Nat.mul_one,il,tL,Nat.add_assoc]
theorem qQ:∀{a:List ct}{u:List Int}{c:ct}{x:Int},u.length=a.length->bF (a++[c]) (u++[x])=(bF a u&&(decide (c.lo<=x)&&decide (x<=c.hi)))
 |[],[],c,x,_=>by simp[bF]
 |[],_::_,_,_,h=>by simp at h
 |_::_,[],_,_,h=>by simp at h
 |d::a,y::u,c,x,h=>by simp only[mB,bF];rw[qQ (by grind)];grind
def uQ{i n:Nat}(ax:l[i]? =I c):
  du (l.drop i) (n%bb (l.drop i))=(c.lo+((n/bb (l.drop (i+1))%cP c:Nat):Int))::du (l.drop (i+1)) (n%bb (l.drop (i+1)))/\n/bb (l.drop (i+1))/cP c=n/bb (l.drop i):=by
 obtain⟨hi,e⟩:=cz.1 ax;simp_all[l8,du,bb,Nat.mod_mul_left_div_self,Nat.mod_mul_left_mod,Nat.div_div_eq_div_mul,oR,cP]
def b4(t:aZ)(k:Nat):bm:=af t ((t.aD[k]?).getD 0).toNat
def dK(t:aZ):List Int->List ct
 |[]=>[]
 |q::l=>if(af t q.toNat).kind=40 then⟨(af t q.toNat).text,ez t q.toNat,eD t q.toNat⟩::dK t l else dK t l
def a5(t:aZ)(p:Nat):List ct:=dK t (t.aD.take p)
theorem la{t:aZ}:∀{a b:List Int},dK t (a++b)=dK t a++dK t b
 |[],_=>rfl
 |q::a,b=>by
  simp only[mB,dK];split
  ·rw[la];rfl
  ·exact la
def n6(t:aZ){a b:Nat}(h:a<=b):∃r,a5 t b=a5 t a++r:=by refine⟨dK t ((t.aD.take b).drop a),?_⟩;unfold a5;rw[<-la];congr 1;rw[show t.aD.take a=(t.aD.take b).take a by rw[qo,Nat.min_eq_left h],kn]
variable {p:Nat}{t:aZ}
theorem iU{q:Int}(h:t.aD[p]? =I q):a5 t (p+1)=if(af t q.toNat).kind=40 then a5 t p++[⟨(af t q.toNat).text,ez t q.toNat,eD t q.toNat⟩]else a5 t p:=by unfold a5;rw[da h,la];grind[dK]
theorem qR{t:aZ}:∀{l:List Int},(dK t l).length<=l.length
 |[]=>bL _
 |q::l=>by simp only[dK];have:=qR (t:=t) (l:=l);grind
theorem po{t:aZ}{w:List Int}:∀{l:List Int}{k:Nat},k<=w.length->nk t w l k=bF (dK t l) (w.drop k)
 |[],k,h=>by
  rcases pj k w.length with h1|h1
  ·rw[l8 h1];simp only[nk,dK,bF];grind
  ·rw[tK h1];simp only[nk,dK,bF];grind
 |q::l,k,h=>by
  rw[ET];simp only[dK];split
  ·rcases pj k w.length with h1|h1
   ·rw[l8 h1,bN h1];simp only[bF];rw[po (show k+1<=w.length by omega)]
   ·rw[tK h1,List.getElem?_eq_none h1];rfl
  ·exact po h
theorem Ab:jX t w p=bF (a5 t p) w:=by unfold jX a5;rw[po (fR _),qN]
def de(t:aZ):Nat->List Int
 |0=>[]
 |p+1=>if(b4 t p).kind=44 then de t p++[(p:Int)]else if(b4 t p).kind=45 then(de t p).filter λk=> !decide ((b4 t k.toNat).text=(b4 t p).text)else de t p
def gj(t:aZ)(s:ByteArray)(i:Nat):Nat->Bool
 |0=>aS
 |p+1=>gj t s i p||(decide (i<=p)&&(decide ((b4 t p).kind=45)&&decide ((b4 t p).text=s)))
theorem p'{t:aZ}{s:ByteArray}{i:Nat}:∀{p:Nat},p<=i->gj t s i p=aS
 |0,_=>rfl
 |p+1,h=>by simp only[gj,p' (show p<=i by omega),Bool.false_or];grind
def eB(t:aZ)(p i:Nat):Bool:=decide ((b4 t i).kind=44)&& !gj t (b4 t i).text i p
theorem nl(t:aZ):∀p,de t p=((gD p).filter (eB t p)).map λi:Nat=>(i:Int)
 |0=>rfl
 |p+1=>by
  rw[de,nl t p,pk,jo,hT];have h1:[p].filter (eB t (p+1))=if(b4 t p).kind=44 then [p]else []:=by
   by_cases h:(b4 t p).kind=44
   ·simp[eB,h,gj,p' (bL p)]
   ·simp[eB,h]
  have h2:∀i∈gD p,eB t (p+1) i=(eB t p i&& !(decide ((b4 t p).kind=45)&&decide ((b4 t i).text=(b4 t p).text))):=λi hi=>by
   have hi:i<=p:=by grind
   simp only[eB,gj,Bool.not_or,decide_eq_true hi,fm,Bool.and_assoc,eq_comm]
  rw[h1,List.filter_congr h2];by_cases h:(b4 t p).kind=44
  ·simp[h]
  ·by_cases bO:(b4 t p).kind=45
   ·simp[bO,List.filter_map,List.filter_filter,Function.comp_def,Bool.and_comm]
   ·simp[h,bO]
def qa{k:Int}(h:k∈de t p):∃i:Nat,k=(i:Int)/\i<p/\(b4 t i).kind=44:=by rw[nl]at h;obtain⟨i,hi,rfl⟩:=List.mem_map.1 h;obtain⟨h1,h2⟩:=List.mem_filter.1 hi;simp only[eB,dn,decide_eq_true_eq]at h2;grind
def me(t:aZ)(p:Nat):(de t p).length<=p:=by rw[nl,List.length_map];grind
section
variable {n : Nat} {t : aZ} {O : Nat -> ByteArray}
theorem qS(aj:cH t)(aR:fZ t){i:Nat}(hi:i<t.nodes.length)(h:(af t i).kind=40):ez t i<=eD t i/\eD t i-ez t i+1<=12/\ -9999<=ez t i/\eD t i<=9999:=by
 obtain⟨⟨hF,gI⟩,_,bh,h1,h0,fW⟩:=oC aj aR hi h;have aQ:=aR.BZ i (af t i) (k9 hi);unfold nb at aQ;rw[b8 hi,bE,if_pos (decide_eq_true h),bh,bE,b8 (show bz t i 0<t.nodes.length by omega),bE,h1,bE,b8 (show bz t i 1<t.nodes.length by omega),bE]at aQ;simp only[Option.some.injEq,dn,decide_eq_true_eq]at aQ;unfold ez at*;unfold eD at*;obtain⟨fe,hX⟩:=aQ;have bX:=aj.af (show bz t i 0<t.nodes.length by omega);have dV:=aj.af (show bz t i 1<t.nodes.length by omega);have e:(af t (bz t i 1)).n-(af t (bz t i 0)).n<=9999+9999:=by omega
 rw[b3 (n:=(af t (bz t i 1)).n-(af t (bz t i 0)).n) U U,b3 U U]at hX;omega
variable {p:Nat}
def nm(aR:fZ t)(h:p<t.aD.length):∃i:Nat,t.aD[p]? =I (i:Int)/\i<t.nodes.length:=by
 obtain⟨q,aB⟩:∃q,t.aD[p]? =I q:=⟨_,bN h⟩
 obtain⟨i,rfl,_,hi⟩:=aR.dI.ht.fw _ (cm aB);grind
def kb(aj:cH t)(aR:fZ t):∀{p:Nat},p<=t.aD.length->gU (a5 t p)
 |0,_=>λc ax=>by simp[a5,dK]at ax
 |p+1,hp=>by
  obtain⟨i,hi,c4⟩:=nm aR (show p<t.aD.length by omega);rw[iU hi];split
  ·next h=>
   intro c ax;rcases h3.1 ax with ax|ax
   ·exact kb aj aR (show p<=t.aD.length by omega) c ax
   simp_all[ro,qS]
  ·exact kb aj aR (show p<=t.aD.length by omega)
def xr(aj:cH t)(aR:fZ t)(aY:∀i,i<t.nodes.length->gS t i=0)(a6:10000000<=n):D (ou (aM n) t (⟨c_ t⟩,0,0) (0,1,0,0)) λr=>r.2=0->bb (a5 t t.aD.length)<=2000/\(a5 t t.aD.length).length<=6:=by
 have ey:=aj.aD;unfold ou;refine D.for t.aD.length (λi (z:Int×Int×Int)=>(z.1,z.2.1,z.2.2,(i:Int))) (λi z=>(z.2.1=(bb (a5 t i):Int)/\bb (a5 t i)<=2000)/\z.1=((a5 t i).length:Int)/\(a5 t i).length<=6) (t0:=(0,1,0)) rfl ⟨⟨rfl,by simp[a5,dK,bb]⟩,rfl,by simp[a5,dK]⟩ (λp z hp a7=>?_) λz a7=>?_
 ·obtain⟨c,w,a⟩:=z;obtain⟨⟨hw,aC⟩,dy,Mh⟩:=a7;dsimp only at hw dy;obtain⟨i,hi,c4⟩:=nm aR hp;have tu:=EJ aj aR aY a6 hi;have tail:∀c' w' fo k,c'=((a5 t (p+1)).length:Int)->(w'<=2000->w'=(bb (a5 t (p+1)):Int)/\bb (a5 t (p+1))<=2000)->D (mq t (p:Int) (aM n) (⟨c_ t⟩,0,0) (c',w',fo,k)) (jv (λs'=>∃hs:Int×Int×Int,s'=(hs.1,hs.2.1,hs.2.2,((p+1:Nat):Int))/\(hs.2.1=(bb (a5 t (p+1)):Int)/\bb (a5 t (p+1))<=2000)/\hs.1=((a5 t (p+1)).length:Int)/\(a5 t (p+1)).length<=6) λr=>r.2=0->bb (a5 t t.aD.length)<=2000/\(a5 t t.aD.length).length<=6):=λc' w' fo k lI ap=>by
   unfold mq;refine D.bK (λ_=>D.aH hi (D.bu (D.ret dF))) λuI=>D.ae tu (D.ar (λ_=>D.aH hi (D.bu (D.ret dF))) λ_=>D.inl ⟨(c',w',fo),by rw[bw U],ap ?_,lI,?_⟩)
   all_goals
    grind
  have ia:(af t i).kind≠40->a5 t (p+1)=a5 t p:=λh=>by rw[iU hi,dA,if_neg h]
  refine D.ar (λ_=>D.aH hi (D.ae (b8 c4) (D.ar (λdm=>?_) λdm=>D.ar (λ_=>tail _ _ _ _ (by simp_all) λ_=>by simp_all) λ_=>D.ar (λ_=>tail _ _ _ _ (by simp_all) λ_=>by simp_all) λ_=>tail _ _ _ _ (by simp_all) λ_=>by simp_all))) λh=>absurd (show(p:Int)<(t.aD.length:Int) by omega) h;obtain⟨_,_,bh,h1,h0,fW⟩:=oC aj aR c4 dm;obtain⟨s1,s2,h6,E0⟩:=qS aj aR c4 dm;refine D.ae h1 (D.ae (b8 (show bz t i 1<t.nodes.length by omega)) (D.ae bh (D.ae (b8 (show bz t i 0<t.nodes.length by omega)) (tail _ _ _ _ ?_ ?_))))
  ·rw[iU hi,dA,if_pos dm,hW,dy,b3 U U];simp
  have e:a5 t (p+1)=a5 t p++[⟨(af t i).text,ez t i,eD t i⟩]:=by rw[iU hi,dA,if_pos dm]
  have bc:bb (a5 t (p+1))=bb (a5 t p)*cP ⟨(af t i).text,ez t i,eD t i⟩:=by rw[e,j'];simp[bb]
  have cR:((cP ⟨(af t i).text,ez t i,eD t i⟩:Nat):Int)=eD t i-ez t i+1:=by grind[cP]
  have go:az (az ((af t (bz t i 1)).n-(af t (bz t i 0)).n)+1)=eD t i-ez t i+1:=by show az (az (eD t i-ez t i)+1)=_;rw[b3 (n:=eD t i-ez t i) U U,b3 U U]
  have gN:w*(eD t i-ez t i+1)=(bb (a5 t (p+1)):Int):=by rw[bc,hw,<-cR,jP]
  have ki:bb (a5 t (p+1))<=2000*12:=by rw[bc];exact Nat.mul_le_mul aC (by omega)
  rw[go,gN,b3 U U];grind[it]
 ·exact D.ar bt λ_=>D.bu (D.ret λ_=>⟨a7.1.2,a7.2.2⟩)
def v8(aK:c2 n t O)(hp:p<=t.aD.length):bb (a5 t p)<=2000/\(a5 t p).length<=6:=by
 have bh:pR (aM n) t=I 0:=by obtain⟨e,h1,h2,_⟩:=v6 aK.ok aK.p_;rw[aK.EY]at h1;simp_all
 obtain⟨r,h1,h2⟩:=xr (n:=n) aK.ok aK.wf aK.mw aK.p_;unfold pR yl at bh;rw[aK.p5,bE,if_neg cW,aK.pf,bE]at bh;rw[show ou (aM n) t (⟨c_ t⟩,0,0) (0,1,0,0)=I r from h1,bE]at bh;have ay:=h2 (by simp_all);obtain⟨q,aB⟩:=n6 t hp;rw[aB,j',hW]at ay;have kJ:0<bb q:=lT λc ax=>kb aK.ok aK.wf (bL _) c (by simp_all);exact⟨gE (qP _ kJ) ay.1,U⟩
def xt(aK:c2 n t O)(hp:p<=t.aD.length):bb (a5 t p)<=2000:=(v8 aK hp).1
end
section
variable {n : Nat} {t : aZ} {O : Nat -> ByteArray} {M : List (gq × fT)}
variable {p:Nat}
def kc(aK:c2 n t O)(hp:p<t.aD.length):∃i:Nat,t.aD[p]? =I (i:Int)/\i<t.nodes.length/\b4 t p=af t i:=by obtain⟨i,h1,h2⟩:=nm aK.wf hp;grind[b4]
def mf(aK:c2 n t O)(hp:p<t.aD.length):o1 t (p:Int)=I (b4 t p):=by obtain⟨i,h1,h2,ay⟩:=kc aK hp;unfold o1;rw[e7 h1,bE,b8 h2,bE,ay]
theorem n7(aK:c2 n t O)(hp:p<t.aD.length):qw (p:Int) t.nodes t.aD M=I (b4 t p):=by obtain⟨i,h1,h2,ay⟩:=kc aK hp;unfold qw;rw[e7 h1,bE,b8 h2,bE,ay]
def Ac(aK:c2 n t O)(hp:p<t.aD.length):vE (p:Int) t.nodes t.aD M=I ((b4 t p).kind,(b4 t p).text,(b4 t p).n,(b4 t p).a8,(b4 t p).at_):=by obtain⟨i,h1,h2,ay⟩:=kc aK hp;unfold vE;rw[e7 h1,bE,b8 h2,bE,ay]
def qT(aK:c2 n t O)(hp:p<t.aD.length):((b4 t p).kind=40/\∃a b:Nat,a<t.nodes.length/\b<t.nodes.length/\aH (b4 t p).a8 0=I (a:Int)/\aH (b4 t p).a8 1=I (b:Int)/\a5 t (p+1)=a5 t p++[⟨(b4 t p).text,(af t a).n,(af t b).n⟩])\/((b4 t p).kind≠40/\a5 t (p+1)=a5 t p):=by
 obtain⟨i,h1,h2,ay⟩:=kc aK hp;rw[ay,iU h1,dA];by_cases h:(af t i).kind=40
 ·obtain⟨_,_,k0,bX,h0,fW⟩:=oC aK.ok aK.wf h2 h;rw[if_pos h];exact .inl ⟨h,_,_,U,U,k0,bX,rfl⟩
 simp_all
theorem hR(aK:c2 n t O):(a5 t p).length<=800:=by have h1:=aK.ok.aD;grind[a5,qR,fF]
def mY(aK:c2 n t O)(hp:p<=t.aD.length):nc (aM n) t (p:Int)=I (a5 t p):=by
 have ey:=aK.ok.aD;refine D.br ?_;unfold nc DY;refine D.for p (λi (_:Unit)=>(a5 t i,(i:Int))) (λ_ _=>True) (t0:=()) rfl trivial (λi _ hi _=>?_) λ_ _=>D.ar (λh=>absurd h (eb _)) λ_=>D.bu (D.ret rfl);have fV:i<t.aD.length:=by omega
 refine D.ar (λ_=>D.ae (mf aK fV) ?_) λh=>absurd (eA.2 hi) h;have aC:=hR aK (p:=i);rcases qT aK fV with⟨h,a,b,a4,aF,k0,bX,e⟩|⟨h,e⟩
 ·exact D.ar (λ_=>D.ae k0 (D.ae (b8 a4) (D.ae bX (D.ae (b8 aF) (D.ae (eX (by grind)) (D.inl ⟨(),by rw[e,bw U],trivial⟩)))))) λcr=>absurd h cr
 ·exact D.ar (λcr=>absurd cr h) λ_=>D.inl ⟨(),by rw[e,bw U],trivial⟩
theorem lb(aK:c2 n t O)(hp:p<=t.aD.length):nX (aM n) (p:Int) t.nodes t.aD M=I (a5 t p):=by
 have ey:=aK.ok.aD;refine D.br ?_;unfold nX Eb;refine D.for p (λi (_:Unit)=>(a5 t i,(i:Int))) (λ_ _=>True) (t0:=()) rfl trivial (λi _ hi _=>?_) λ_ _=>D.ar (λh=>absurd h (eb _)) λ_=>D.bu (D.ret rfl);have fV:i<t.aD.length:=by omega
 refine D.ar (λ_=>D.ae (n7 aK fV) ?_) λh=>absurd (eA.2 hi) h;have aC:=hR aK (p:=i);rcases qT aK fV with⟨h,a,b,a4,aF,k0,bX,e⟩|⟨h,e⟩
 ·exact D.ar (λ_=>D.ae k0 (D.ae (b8 a4) (D.ae bX (D.ae (b8 aF) (D.ae (eX (by grind)) (D.inl ⟨(),by rw[e,bw U],trivial⟩)))))) λcr=>absurd h cr
 ·exact D.ar (λcr=>absurd cr h) λ_=>D.inl ⟨(),by rw[e,bw U],trivial⟩
end
structure dG(l:List ct):Prop where
 ok:gU l
 kP:bb l<=2000
 len:l.length<=800
theorem dG.aX{n:Nat}{t:aZ}{O:Nat->ByteArray}(aK:c2 n t O){p:Nat}(hp:p<=t.aD.length):dG (a5 t p):=⟨kb aK.ok aK.wf hp,xt aK hp,hR aK⟩
section
variable {n : Nat} {l : List ct}
theorem dG.take(h:dG l)(i:Nat):bb (l.take i)<=2000:=by
 have e:bb l=bb (l.take i)*bb (l.drop i):=by rw[<-j',kn]
 have h1:0<bb (l.drop i):=lT λc ax=>h.ok c (List.mem_of_mem_drop ax);have h2:=h.kP;rw[e]at h2;exact gE (qP _ h1) h2
variable {c:ct}{i:Nat}
theorem jE(h:dG l)(ax:l[i]? =I c):az (az (c.hi-c.lo)+1)=(cP c:Int)/\1<=cP c/\cP c<=20000:=by have aU:=h.ok c (cm ax);rw[b3 (n:=c.hi-c.lo) U U,b3 U U];unfold cP;omega
def rF(ax:∀{i:Nat}{c:ct},l[i]? =I c->True)(h:l[i]? =I c):bb (l.take (i+1))=bb (l.take i)*cP c:=by rw[da h,j'];simp[bb]
variable {body:Int×Int->Option ((Int×Int) ⊕ Int)}
def aIL(h:dG l)(aF:∀(i k:Nat) c,l[i]? =I c->k<=2000->body (k,i)=I (.inl (az ((k*cP c:Nat):Int),az ((i:Int)+1))))(he:∀k:Int,body (k,l.length)=I (.inr k)):D (fv body (1,0)) (· =(bb l:Int)):=by
 have aC:=h.len;refine D.for l.length (λi (_:Unit)=>((bb (l.take i):Int),(i:Int))) (λ_ _=>True) (t0:=()) rfl trivial (λi _ hi _=>?_) λ_ _=>D.aX (he _) (by rw[e4];rfl);obtain⟨c,ax⟩:∃c,l[i]? =I c:=⟨_,bN hi⟩
 have h2:=h.take (i+1);have e:=rF (λ_=>trivial) ax;rw[e]at h2;refine D.aX (aF i _ c ax (h.take i)) ⟨(),?_,trivial⟩;rw[bw U,e,b3 U U]
def pp(h:dG l):o2 (aM n) l=I (bb l:Int):=by refine D.br ?_;unfold o2 DZ;refine aIL h (λi k c ax ap=>D.br ?_) λk=>D.br (D.ar (λh=>absurd h (eb _)) λ_=>D.ret rfl);have hi:=(cz.1 ax).1;refine D.ar (λ_=>D.aH ax (D.aH ax (D.ret ?_))) λh=>absurd (eA.2 hi) h;rw[(jE h ax).1,<-jP]
def mC:wW c=I (az (az (c.hi-c.lo)+1)):=rfl
variable {x:Int}
def sD {y:Int}:sf (aM n) [x,y]=I (az (az (1*x)*y)):=by
 unfold sf Ec;refine D.br ?_;refine D.for 2 (λi (z:Int)=>(z,(i:Int))) (λi z=>z=if i=0 then 1 else if i=1 then az (1*x)else az (az (1*x)*y)) (t0:=1) rfl rfl (λi z hi aP=>?_) λz aP=>D.ar (λh=>absurd h cW) λ_=>D.bu (D.ret (by omega));have:i=0\/i=1:=by omega
 rcases this with rfl|rfl
 ·exact D.ar (λ_=>D.aH (x:=x) rfl (D.inl ⟨az (z*x),rfl,by grind⟩)) λh=>absurd cW h
 ·exact D.ar (λ_=>D.aH (x:=y) rfl (D.inl ⟨az (z*y),rfl,by grind⟩)) λh=>absurd cW h
theorem tN(h:dG l):tf (aM n) l=I (bb l:Int):=by refine D.br ?_;unfold tf Hm;refine aIL h (λi k c ax ap=>D.br ?_) λk=>D.br (D.ar (λh=>absurd h (eb _)) λ_=>D.ret rfl);have hi:=(cz.1 ax).1;refine D.ar (λ_=>D.aH ax (D.ae mC (D.ae sD (D.ret ?_)))) λh=>absurd (eA.2 hi) h;rw[(jE h ax).1,tv,b3 (n:=(k:Int)) U U,<-jP]
variable {r:List Int}
theorem uR:(cC (i+1) (0:Int)++r).set i x=cC i 0++x::r:=by rw[List.replicate_succ',List.append_assoc,List.set_append_right _ _ cW];simp
def uS:(cC (i+1) (0:Int)++r)[i]? =I 0:=by grind
theorem nC{a b:Nat}(h:0<b):nq (a:Int) (b:Int)=I ((a/b:Nat):Int)/\nr (a:Int) (b:Int)=I ((a%b:Nat):Int):=by unfold nq nr;grind
variable {k:Nat}
theorem uT(h:dG l)(ax:l[i]? =I c):az (c.lo+((k%cP c:Nat):Int))=c.lo+((k%cP c:Nat):Int):=by have aU:=h.ok c (cm ax);have h1:k%cP c<cP c:=s4 _ (rE aU.1);have h2:=(jE h ax).2.2;exact b3 U U
def aIW{R cd:Type}(h:dG l)(ap:k<bb l){f:Int->Int->List Int->cd}{body:cd->Option (cd ⊕ R)}{T:R->Prop}
  (aF:∀(j q:Nat) c r,l[j]? =I c->q<=2000->(r:List Int).length+j+1=l.length->body (f j q (cC (j+1) 0++r))=I (.inl (f (az ((j:Int)- 1)) (az ((q/cP c:Nat):Int)) (cC j 0++az (c.lo+((q%cP c:Nat):Int))::r))))
  (he:∀q,D (body (f (-1) q (du l k))) (jv (λ_=>False) T)):D (fv body (f (az ((l.length:Int)- 1)) k (cC l.length 0))) T:=by
 have aC:=h.len;have zN:=h.kP;refine D.for l.length (λi (_:Unit)=>f (((l.length-i:Nat):Int)- 1) ((k/bb (l.drop (l.length-i)):Nat):Int) (cC (l.length-i) 0++du (l.drop (l.length-i)) (k%bb (l.drop (l.length-i))))) (λ_ _=>True) (t0:=()) ?_ trivial (λi _ hi _=>?_) λ_ _=>?_
 ·rw[Nat.sub_zero,List.drop_length];simp only[bb,du,Nat.div_one,List.append_nil];rw[b3 U U]
 ·obtain⟨j,ag⟩:∃j,l.length-i=j+1:=⟨l.length-i- 1,U⟩
  have m_:l.length-(i+1)=j:=by omega
  rw[ag,m_];obtain⟨c,ax⟩:∃c,l[j]? =I c:=⟨_,bN U⟩
  obtain⟨a2,bc⟩:=uQ (n:=k) ax;rw[show((j+1:Nat):Int)- 1=(j:Int) by omega];refine D.aX (aF j _ c _ ax (by have:=sC k (bb (l.drop (j+1)));omega) (by rw[nB,List.length_drop];omega)) ⟨(),?_,trivial⟩;rw[uT h ax,bc,a2,b3 (n:=((k/bb (l.drop j):Nat):Int)) (by grind) (by have:=sC k (bb (l.drop j));omega),vj U]
 ·rw[Nat.sub_self,qN,qO ap];exact he _
theorem aIX:gF (cC l.length (0:Int)).length (du l k)=I (du l k):=by unfold gF;rw[if_pos (by simp[nB])]
theorem yS(h:dG l)(ap:k<bb l):uv (aM n) l (k:Int)=I (du l k):=by have aC:=h.len;refine D.br ?_;unfold uv;refine D.ae (xd U 0) (D.ae (z:=l) rfl (D.bind (Q:=λz=>z.2=du l k) ?_ λz aP=>by grind[D.ae,aIX,D.ret]));unfold Ed Hn;refine aIW (f:=λa b c=>(a,b,c)) h ap (λj q c r ax aB aO=>D.br ?_) λq=>D.ar lp λ_=>D.bu (D.ret rfl);obtain⟨s1,s2,h6⟩:=jE h ax;refine D.ar (λ_=>D.aH ax (D.ae (z:=(az ((q/cP c:Nat):Int),cC j 0++az (c.lo+((q%cP c:Nat):Int))::r)) (D.br ?_) (D.ret rfl))) d_;unfold vD;refine D.ae mC ?_;rw[s1];refine D.ae (nC s2).2 (D.ae (hN uS (by grind)) (D.ae mC ?_));grind[D.ae,nC,D.ret,uR]
variable {w:List Int}
theorem qU(h:bF l w=ad)(i:Nat):bF (l.take i) (w.take i)=ad:=by
 have h1:bF (l.take i++l.drop i) w=ad:=by simp_all
 have h2:=pn h1;have ay:=hv h;grind
def rG(h:dG l)(hw:bF l w=ad)(i:Nat):dk (l.take i) (w.take i)< 2000:=by have h1:=nA (λc ax=>h.ok c (List.mem_of_mem_take ax)) (qU hw i);have h2:=h.take i;omega
def yT(h:dG l)(hw:bF l w=ad)(ax:l[i]? =I c)(ak:w[i]? =I x):
  ((dk (l.take (i+1)) (w.take (i+1)):Nat):Int)=((dk (l.take i) (w.take i)*cP c:Nat):Int)+x-c.lo/\c.lo<=x/\x<=c.hi:=by
 have ay:=hv hw;have hi:=(cz.1 ax).1;have k:=qU hw (i+1);have aC:(w.take i).length=(l.take i).length:=by rw[fF,fF,ay]
 rw[da ax,da ak,qQ aC]at k;simp only[dn,decide_eq_true_eq]at k;rw[da ax,da ak,tM aC];omega
def aIY(h:dG l)(hw:bF l w=ad)(aF:∀(i k:Nat) c x,l[i]? =I c->w[i]? =I x->k< 2000->cP c<=20000->body (k,i)=I (.inl (az (az (az ((k*cP c:Nat):Int)+x)-c.lo),az ((i:Int)+1))))(he:∀k:Int,body (k,l.length)=I (.inr k)):D (fv body (0,0)) (· =(dk l w:Int)):=by
 have aC:=h.len;have ay:=hv hw;refine D.for l.length (λi (_:Unit)=>((dk (l.take i) (w.take i):Int),(i:Int))) (λ_ _=>True) (t0:=()) rfl trivial (λi _ hi _=>?_) λ_ _=>D.aX (he _) (by rw[e4,<-ay,e4];rfl);obtain⟨c,ax⟩:∃c,l[i]? =I c:=⟨_,bN hi⟩
 obtain⟨x,ak⟩:∃x,w[i]? =I x:=⟨_,bN U⟩
 obtain⟨s1,s2,h6⟩:=jE h ax;obtain⟨e,a2,bc⟩:=yT h hw ax ak;have i2:=rG h hw (i+1);have aU:=h.ok c (cm ax);refine D.aX (aF i _ c x ax ak (rG h hw i) h6) ⟨(),?_,trivial⟩;rw[bw U];generalize dk (l.take i) (w.take i)*cP c=q at e⊢;rw[b3 (n:=(q:Int)) U U,b3 (n:=(q:Int)+x) U U,b3 U U,e]
theorem yU(h:dG l)(hw:bF l w=ad):uw (aM n) l w=I (dk l w:Int):=by refine D.br ?_;unfold uw Ho;refine aIY h hw (λi k c x ax ak ap aQ=>D.br ?_) λk=>D.br (D.ar (λh=>absurd h (eb _)) λ_=>D.ret rfl);have hi:=(cz.1 ax).1;refine D.ar (λ_=>D.aH ax (D.ae mC (D.ae sD (D.aH ak (D.ret ?_))))) λh=>absurd (eA.2 hi) h;rw[(jE h ax).1,tv,b3 (n:=(k:Int)) U U,<-jP]
def E5(ay:w.length=l.length)(ax:l[i]? =I c)(ak:w[i]? =I x):bF (l.take (i+1)) (w.take (i+1))=(bF (l.take i) (w.take i)&&(decide (c.lo<=x)&&decide (x<=c.hi))):=by rw[da ax,da ak,qQ (by rw[fF,fF,ay])]
def v9(h:bF (l.take i) (w.take i)=aS):bF l w=aS:=by grind[bF,qU]
def aIZ(aC:l.length<=800){body:Int->Option (Int ⊕ Bool)}(aF:∀(i:Nat) c x,l[i]? =I c->w[i]? =I x->D (body i) (jv (λs'=>s'=az ((i:Int)+1)/\c.lo<=x/\x<=c.hi) λb=>b=aS/\¬(c.lo<=x/\x<=c.hi)))(he:D (body l.length) (jv (λ_=>False) (· =ad))):
  D (if(!decide ((w.length:Int)=(l.length:Int)))=ad then I aS else fv body 0) (· =bF l w):=by
 refine D.dB (λh=>D.ret ?_) λh=>?_
 ·grind[bF,absurd,hv]
 ·have ay:w.length=l.length:=by omega
  refine D.for l.length (λi (_:Unit)=>(i:Int)) (λi _=>bF (l.take i) (w.take i)=ad) (t0:=()) rfl (by simp[bF]) (λi _ hi a7=>?_) λ_ a7=>he.mono λy a9=>?_
  ·obtain⟨c,ax⟩:∃c,l[i]? =I c:=⟨_,bN hi⟩
   obtain⟨x,ak⟩:∃x,w[i]? =I x:=⟨_,bN U⟩
   have e:=E5 ay ax ak;rw[a7,fm,<-Bool.decide_and]at e;refine(aF i c x ax ak).mono λy a9=>?_;cases y with
   |inl y=>exact⟨(),by rw[a9.1,bw U],by rw[e];exact decide_eq_true a9.2⟩
   |inr y=>exact a9.1.trans (v9 (i:=i+1) (by rw[e];exact decide_eq_false a9.2)).symm
  grind
theorem Ai(aC:l.length<=800):yr (aM n) l w=I (bF l w):=by refine D.br ?_;unfold yr Qs;refine aIZ aC (λi c x ax ak=>?_) (D.ar (λh=>absurd h (eb _)) λ_=>D.bu (D.ret rfl));have hi:=(cz.1 ax).1;exact D.ar (λ_=>D.aH ax (D.aH ak (D.ar (λh1=>D.bu (D.ret ⟨rfl,U⟩)) λh1=>D.aH ak (D.ar (λh2=>D.bu (D.ret ⟨rfl,U⟩)) λh2=>D.inl ⟨rfl,U,U⟩)))) λh=>absurd (eA.2 hi) h
end
section
variable {n : Nat} {xs : List Int} {keep : Int -> Bool} {am : Int} {ao : ByteArray} {ah : Int} {aq : List Int} {av : Int} {aT : List bm} {bd : List Int} {bf : List (gq × fT)}
def Ad(h:∀k∈xs,pV k am ao ah aq av aT bd bf=I (!keep k))(aC:xs.length<=800){v:Nat}:D (vF (aM n) xs v am ao ah aq av aT bd bf) λz=>(z=-1/\xs.filter keep=xs)\/∃i:Nat,z=i/\i<xs.length/\(xs.take (i+1)).filter keep=xs.take i:=by
 unfold vF Hp;refine D.for xs.length (λi (_:Unit)=>(i:Int)) (λi _=>(xs.take i).filter keep=xs.take i) (t0:=()) rfl cW (λi _ hi a7=>?_) λ_ a7=>D.ar (λh=>absurd h (eb _)) λ_=>D.bu (D.ret (.inl ⟨rfl,by simp_all⟩));obtain⟨x,ak⟩:∃x,xs[i]? =I x:=⟨_,bN hi⟩
 refine D.ar (λ_=>D.ae (hN ak hi) (D.ae (h x (cm ak)) (D.bK (λe=>D.bu (D.ret (.inr ⟨i,rfl,hi,?_⟩))) λe=>D.inl ⟨(),bw U,?_⟩))) λh=>absurd (eA.2 hi) h
 ·simp_all[da,jo]
 simp_all[da,jo]
def Ae(h:∀k∈xs,pV k am ao ah aq av aT bd bf=I (!keep k))(aC:xs.length<=800){v:Nat}:D (vG (aM n) xs v am ao ah aq av aT bd bf) λz=>z.1=xs.filter keep:=by
 unfold vG;refine D.bind (Ad h aC) λz aP=>?_;rcases aP with⟨rfl,e⟩|⟨i,rfl,hi,e⟩
 ·exact D.ar (λ_=>D.ret e.symm) λh=>absurd rfl h
 ·refine D.ar bt λ_=>?_;unfold Hq;rw[bw U];refine D.b1 (λq:List Int×Int×Int×Nat=>∃a b:Nat,q.2.1=a/\q.2.2.1=b/\a<b/\b<=xs.length/\q.1.length=xs.length/\q.1.take a=(xs.take b).filter keep/\q.1.drop b=xs.drop b) (λq=>xs.length-q.2.2.1.toNat) ?_ ⟨i,i+1,rfl,rfl,U,U,rfl,e.symm,rfl⟩;rintro⟨cO,_,_,v⟩ ⟨a,b,rfl,rfl,h1,h2,ay,bl,bO⟩;dsimp only at ay bl bO;refine D.ar (λaF=>?_) λaF=>?_
  ·have aF:b<xs.length:=by omega
   obtain⟨x,ak⟩:∃x,xs[b]? =I x:=⟨_,bN aF⟩
   have a9:cO[b]? =I x:=by have:=congrArg (λl:List Int=>l[0]?) bO;grind
   have aj:=da ak;refine D.ae (hN a9 U) (D.ae (h x (cm ak)) (D.bK (λe=>?_) λe=>?_))
   ·have e:keep x=ad:=by grind
    obtain⟨y,Af⟩:∃y,cO[a]? =I y:=⟨_,bN U⟩
    refine D.ae (hN Af U) (D.inl ⟨⟨a+1,b+1,bw U,bw U,U,U,by simp[ay],?_,?_⟩,?_⟩)
    ·dsimp only;rw[aj,jo,<-bl,da (x:=x) (by rw[List.getElem?_set_self U]),List.take_set_of_le (bL _)];simp[e]
    ·dsimp only;rw[List.drop_set_of_lt U];have:=congrArg (λl:List Int=>l.drop 1) bO;simpa using this
    ·dsimp only;rw[bw U];omega
   ·have e:keep x=aS:=by grind
    refine D.inl ⟨⟨a,b+1,rfl,bw U,U,U,ay,?_,?_⟩,?_⟩
    ·simp_all
    ·have:=congrArg (λl:List Int=>l.drop 1) bO;simpa using this
    ·dsimp only;rw[bw U];omega
  ·have aF:b=xs.length:=by omega
   subst aF;have b5:rb cO.length (a:Int)=I ⟨a,U⟩:=by unfold rb;rw[dif_pos U];simp
   refine D.bu (D.ae b5 (D.ae b5 (D.ret ?_)));dsimp only;rw[List.take_append_of_le_length (by grind),qo,Nat.min_self,bl,e4]
end
section
variable {n : Nat} {t : aZ} {O : Nat -> ByteArray} {M : List (gq × fT)}
variable {p:Nat}
def tO(aK:c2 n t O)(hp:p<=t.aD.length):rl (aM n) (p:Int) t.nodes t.aD M=I (de t p):=by
 have ey:=aK.ok.aD;refine D.br ?_;unfold rl Hr;refine D.for p (λi (v:Nat)=>(de t i,(i:Int),v)) (λ_ _=>True) (t0:=1) rfl trivial (λi v hi _=>?_) λ_ _=>D.ar (λh=>absurd h (eb _)) λ_=>D.bu (D.ret rfl);have fV:i<t.aD.length:=by omega
 have aC:=me t i;refine D.ar (λ_=>D.ae (Ac aK fV) ?_) λh=>absurd (eA.2 hi) h;refine D.ar (λh=>?_) λh=>D.ar (λbO=>?_) λbO=>?_
 ·exact D.ae (Ic (by grind)) (D.inl ⟨v+1,by rw[de,if_pos h,bw U],trivial⟩)
 ·refine D.bind (Ae (n:=n) (keep:=λk=> !decide ((b4 t k.toNat).text=(b4 t i).text)) (λk ap=>?_) U) λz aP=>D.inl ⟨z.2,?_,trivial⟩
  ·obtain⟨j,rfl,ag,_⟩:=qa ap;unfold pV;rw[n7 aK U,bE,xm,dA]
  ·rw[de,if_neg h,if_pos bO,bw U,<-aP]
 ·exact D.inl ⟨v,by rw[de,if_neg h,if_neg bO,bw U],trivial⟩
def n8(t:aZ)(k:Int):ByteArray:=(b4 t k.toNat).text
def jF(t:aZ)(p:Nat)(ks:List Int):Prop:=∀k∈ks,∃i:Nat,k=(i:Int)/\i<p/\(b4 t i).kind=44
def oF(t:aZ)(p:Nat):jF t p (de t p):=λk ap=>qa ap
variable {k:Int}{ks:List Int}
theorem jF.at(h:jF t p ks){j:Nat}(ap:ks[j]? =I k):∃i:Nat,k=(i:Int)/\i<p/\(b4 t i).kind=44:=h k (cm ap)
def hx(t:aZ)(p:Nat)(s:ByteArray):Option Int:=(de t p).find? λk=>decide (n8 t k=s)
variable {P:Int->Bool}{i:Nat}
theorem E6(h:(ks.take i).find? P=aJ)(ap:ks[i]? =I k):P k=ad->ks.find? P=I k:=λhp=>by grind[cz,kn,l8]
def E7(h:(ks.take i).find? P=aJ)(ap:ks[i]? =I k)(hp:P k=aS):(ks.take (i+1)).find? P=aJ:=by simp_all[da,nd]
def Mq(aK:c2 n t O)(hp:p<=t.aD.length)(s:ByteArray):D (BV (aM n) (de t p) s t.nodes t.aD M) λz=>(z< 0/\hx t p s=aJ)\/∃(i:Nat)(k:Int),z=i/\(de t p)[i]? =I k/\hx t p s=I k:=by
 have ey:=aK.ok.aD;have aC:=me t p;unfold BV RC;refine D.for (de t p).length (λi (_:Unit)=>(i:Int)) (λi _=>((de t p).take i).find? (λk=>decide (n8 t k=s))=aJ) (t0:=()) rfl cW (λi _ hi a7=>?_) λ_ a7=>D.ar (λh=>absurd h (eb _)) λ_=>D.bu (D.ret (.inl ⟨by decide,by rw[e4]at a7;exact a7⟩));obtain⟨k,ak⟩:∃k,(de t p)[i]? =I k:=⟨_,bN hi⟩
 have wD:=ak;obtain⟨j,rfl,ag,_⟩:=(oF t p).at ak;have e:BU (j:Int) s t.nodes t.aD M=I (decide (n8 t (j:Int)=s)):=by unfold BU;rw[n7 aK U];rfl
 refine D.ar (λ_=>D.aH ak (D.ae e (D.ar (λe=>D.bu (D.ret (.inr ⟨i,_,rfl,ak,?_⟩))) λe=>D.inl ⟨(),bw U,?_⟩))) λh=>absurd (eA.2 hi) h
 ·unfold hx;rw[E6 a7 ak (decide_eq_true e)]
 ·exact E7 a7 ak (decide_eq_false e)
def gk(t:aZ)(p:Nat):List ByteArray->Option (List Int)
 |[]=>I []
 |s::ss=>au (hx t p s) λk=>(gk t p ss).map λks=>k::ks
theorem Aj{p:Nat}{s:ByteArray}:∀{ss:List ByteArray}{l:List Int},gk t p ss=I l->gk t p (ss++[s])=(hx t p s).map λk=>l++[k]
 |[],l,h=>by cases h;simp only[List.nil_append,gk];cases hx t p s<;>rfl
 |a::ss,l,h=>by
  simp only[gk]at h;cases e:hx t p a with
  |none=>simp_all
  |some k=>
   rw[e]at h;cases bc:gk t p ss with
   |none=>simp_all
   |some jj=>rw[bc]at h;cases h;simp only[mB,gk,e,Aj bc,bE];cases hx t p s<;>rfl
theorem Ak{p:Nat}{b:List ByteArray}:∀{a:List ByteArray},gk t p a=aJ->gk t p (a++b)=aJ
 |[],h=>by cases h
 |s::a,h=>by
  simp only[mB,gk]at h⊢;cases e:hx t p s with
  |none=>rfl
  |some k=>
   rw[e]at h;cases bc:gk t p a with
   |none=>rw[Ak bc];rfl
   |some jj=>simp_all
def Cv{s:ByteArray}(h:hx t p s=I k):∃i:Nat,k=(i:Int)/\i<p/\(b4 t i).kind=44:=qa (List.mem_of_find?_eq_some h)
def v_{p:Nat}:∀{ss:List ByteArray}{l:List Int},gk t p ss=I l->jF t p l/\l.length=ss.length
 |[],l,h=>by cases h;exact⟨λk ap=>(by cases ap),rfl⟩
 |a::ss,l,h=>by
  simp only[gk]at h;cases e:hx t p a with
  |none=>simp_all
  |some k=>
   rw[e]at h;cases bc:gk t p ss with
   |none=>simp_all
   |some jj=>
    rw[bc]at h;cases h;obtain⟨h1,h2⟩:=v_ bc;refine⟨λx ak=>?_,by simp[h2]⟩;rcases List.mem_cons.1 ak with rfl|ak
    ·exact Cv e
    ·exact h1 x ak
def Al(aK:c2 n t O)(hp:p<=t.aD.length){ss:List ByteArray}(aQ:ss.length<=100000):zF (aM n) (p:Int) ss t.nodes t.aD M=I (match gk t p ss with|some l=>(l,ad)|none=>([],aS)):=by
 refine D.br ?_;unfold zF;refine D.ae (tO aK hp) ?_;unfold RD;refine D.for ss.length (λi (l:List Int)=>(l,(i:Int))) (λi l=>gk t p (ss.take i)=I l) (t0:=[]) rfl rfl (λi l hi a7=>?_) λl a7=>D.ar (λh=>absurd h (eb _)) λ_=>D.bu (D.ret (by rw[e4]at a7;rw[a7]));obtain⟨s,oT⟩:∃s,ss[i]? =I s:=⟨_,bN hi⟩
 have pq:=Aj (s:=s) a7;rw[<-da oT]at pq;obtain⟨gM,p1⟩:=v_ a7;rw[fF]at p1;refine D.ar (λ_=>D.aH oT (D.bind (Mq aK hp s) λz aP=>?_)) λh=>absurd (eA.2 hi) h;rcases aP with⟨aP,e⟩|⟨j,k,rfl,ap,e⟩
 ·refine D.ar (λ_=>D.bu (D.ret ?_)) λh=>absurd aP h;rw[e]at pq;have:=Ak (t:=t) (p:=p) (b:=ss.drop (i+1)) pq;rw[kn]at this;rw[this]
 ·refine D.ar bt λ_=>D.aH ap (D.ae (eX (by grind)) (D.inl ⟨l++[k],by rw[bw U],?_⟩));simp_all
end
noncomputable def iI(n:Nat)(t:aZ)(a:Nat)(w:List Int):Bool:=((qx (aM n) t (a:Int) w).getD (aS,0)).1
noncomputable def f_(n:Nat)(t:aZ)(k:Int)(w:List Int):Bool:=iI n t k.toNat (w.take (a5 t k.toNat).length)
def ej(n:Nat)(t:aZ)(M:List (gq×fT)):Prop:=∀sp h,eE M sp=I h->h.qk=ad/\∀(a:Nat) w,sp.kk=(a:Int)->a<t.aD.length->bF (a5 t a) w=ad->(dk (a5 t a) w:Int)=sp.vo->h.jK=iI n t a w
section
variable {n : Nat} {t : aZ} {O : Nat -> ByteArray} {M : List (gq × fT)}
def ej.nil:ej n t []:=λsp h e=>by cases e
variable {a:Nat}{w:List Int}
theorem ej.put(dz:ej n t M)(aK:c2 n t O)(a4:a<t.aD.length)(hw:bF (a5 t a) w=ad):ej n t (fB M ⟨(a:Int),(dk (a5 t a) w:Int)⟩ ⟨ad,iI n t a w⟩):=λsp h e=>by
 rw[sr]at e;split at e
 ·next h1=>
  subst h1;cases e;refine⟨rfl,λb u h2 ay bl bO=>?_⟩;have h2:b=a:=by grind
  subst h2;dsimp only at bO⊢;have aU:=kb aK.ok aK.wf (show b<=t.aD.length by omega);rw[<-oE aU hw,<-oE aU bl,Int.ofNat.inj bO]
 ·exact dz sp h e
def uU(aK:c2 n t O)(a4:a<t.aD.length)(ap:(b4 t a).kind=44)(hw:bF (a5 t a) w=ad):qx (aM n) t (a:Int) w=I (iI n t a w,0)/\yy (aM n) t (a:Int) w=I (iI n t a w):=by
 obtain⟨i,h1,h2,ay⟩:=kc aK a4;have aC:=hv hw;have kR:=hR aK (p:=a);rw[ay]at ap;have bg:jX t w (a+1)=ad:=by rw[Ab,iU h1,dA,if_neg U,hw]
 rcases L7 aK h1 (w:=w) U ap with⟨e,_⟩|⟨_,b,a2,bc⟩
 ·simp_all
 simp_all[iI]
variable {p:Nat}
def uV(a4:a<=p)(hw:bF (a5 t p) w=ad):bF (a5 t a) (w.take (a5 t a).length)=ad:=by obtain⟨r,aO⟩:=n6 t a4;grind[pn]
def uW{α:Type}{xs:List α}{k:Nat}(h:k<=xs.length):iC xs 0 (k:Int)=I (xs.take k):=by have:=uz (xs:=xs) (fR k) h;simp_all
def uX(a4:a<=p)(hw:bF (a5 t p) w=ad):(a5 t a).length<=w.length:=by obtain⟨r,aO⟩:=n6 t a4;have:=hv hw;simp_all
theorem oG(h:w.length<=100000):e6 ([]:List Int) w=I w:=by grind[eX]
def Ag(aK:c2 n t O)(dz:ej n t M)(hp:p<=t.aD.length)(a4:a<p)(ap:(b4 t a).kind=44)(hw:bF (a5 t p) w=ad):D (tg (aM n) (a:Int) w t.nodes t.aD M) λz=>z.1=f_ n t (a:Int) w/\ej n t z.2:=by
 have hd:a<t.aD.length:=by omega
 have aQ:=uV (show a<=p by omega) hw;have ra:=hv aQ;have kR:=hR aK (p:=a);obtain⟨a2,_⟩:=uU aK hd ap aQ;unfold tg;refine D.ae (lb aK U) (D.ae (uW (uX U hw)) (D.ae (yU (dG.aX aK U) aQ) ?_));cases e:eE M ⟨(a:Int),(dk (a5 t a) (w.take (a5 t a).length):Int)⟩with
 |none=>refine D.ar (λ_=>D.ae (z:=w.take (a5 t a).length) ?_ (D.ae a2 (D.ret ⟨rfl,dz.put aK hd aQ⟩))) λh=>absurd rfl h;unfold Ee;rw[oG U];rfl
 |some h=>obtain⟨h1,h2⟩:=dz _ _ e;refine D.ar (λcr=>?_) λ_=>D.ret ⟨h2 a _ rfl hd aQ rfl,dz⟩;simp_all
variable {ks:List Int}
def yW{P:Int->Bool}{i:Nat}{k:Int}(ap:ks[i]? =I k):(ks.take (i+1)).all P=((ks.take i).all P&&P k):=by rw[da ap,List.all_append];simp
def Mj(aK:c2 n t O)(dz:ej n t M)(hp:p<=t.aD.length)(kG:jF t p ks)(aC:ks.length<=100000)(hw:bF (a5 t p) w=ad):D (BP (aM n) ks w t.nodes t.aD M) λz=>z.1=(ks.all λk=>f_ n t k w)/\ej n t z.2:=by
 unfold BP K3 K2 Q6;refine D.bind (Q:=λz=>z.1= !(ks.all λk=>f_ n t k w)/\ej n t z.2) (D.bind (Q:=λz=>decide (0<=z.1)= !(ks.all λk=>f_ n t k w)/\ej n t z.2) ?_ λz aP=>D.ret aP) λz aP=>D.ret ⟨by rw[aP.1,xm],aP.2⟩;refine D.for ks.length (λi (M:List (gq×fT))=>((i:Int),M)) (λi M=>ej n t M/\((ks.take i).all λk=>f_ n t k w)=ad) (t0:=M) rfl ⟨dz,by simp⟩ (λi M hi a7=>?_) λM a7=>D.ar (λh=>absurd h (eb _)) λ_=>D.bu (D.ret ⟨?_,a7.1⟩)
 ·obtain⟨k,ap⟩:∃k,ks[i]? =I k:=⟨_,bN hi⟩
  have sL:=ap;obtain⟨a,rfl,a4,mb⟩:=kG.at ap;have aQ:=yW (P:=λk=>f_ n t k w) ap;rw[a7.2,fm]at aQ;refine D.ar (λ_=>D.aH ap (D.bind (Q:=λz=>z.1= !(f_ n t (a:Int) w)/\ej n t z.2) ?_ λz aP=>D.bK (λe=>D.bu (D.ret ⟨?_,aP.2⟩)) λe=>D.inl ⟨z.2,by rw[bw U],aP.2,?_⟩)) λh=>absurd (eA.2 hi) h
  ·unfold K1 K0;exact D.bind (Q:=λz=>z.1=f_ n t (a:Int) w/\ej n t z.2) (D.bind (Ag aK a7.1 hp a4 mb hw) λz aP=>D.ret aP) λz aP=>D.ret ⟨by rw[aP.1],aP.2⟩
  ·grind
  simp_all
 simp_all
noncomputable def mD(n:Nat)(t:aZ)(p:Nat)(ks:List Int)(k:Nat):Bool:=ks.all λq=>f_ n t q (du (a5 t p) k)
noncomputable def iJ(n:Nat)(t:aZ)(p:Nat)(ks:List Int)(m:Nat):List (List Int):=((gD m).filter (mD n t p ks)).map (du (a5 t p))
noncomputable def jS(n:Nat)(t:aZ)(p:Nat)(ks:List Int):List (List Int):=iJ n t p ks (bb (a5 t p))
variable {m:Nat}
def xu:(iJ n t p ks m).length<=m:=by unfold iJ;grind
theorem sE:iJ n t p ks (m+1)=if mD n t p ks m=ad then iJ n t p ks m++[du (a5 t p) m]else iJ n t p ks m:=by unfold iJ;rw[pk,jo,hT];cases h:mD n t p ks m<;>simp[h]
def Cu(aK:c2 n t O)(dz:ej n t M)(hp:p<=t.aD.length)(kG:jF t p ks)(aC:ks.length<=100000):D (ys (aM n) (p:Int) ks t.nodes t.aD M) λz=>z.1=jS n t p ks/\ej n t z.2:=by
 have hC:=dG.aX aK hp;have tn:=hC.kP;unfold ys;refine D.ae (lb aK hp) (D.ae (z:=a5 t p) rfl (D.bind (Q:=λz=>z.1=jS n t p ks/\ej n t z.2.1) ?_ λz aP=>D.ret aP));unfold K5;refine D.ae (tN hC) ?_;unfold Q7;refine D.for (bb (a5 t p)) (λi (q:Nat×List (gq×fT))=>((i:Int),iJ n t p ks i,q.1,q.2)) (λi q=>ej n t q.2) (t0:=(0,M)) rfl dz (λi q hi a7=>?_) λq a7=>D.ar (λh=>absurd h (eb _)) λ_=>D.bu (D.ret ⟨rfl,a7⟩);have wh:=xu (n:=n) (t:=t) (p:=p) (ks:=ks) (m:=i);refine D.ar (λ_=>D.ae (yS hC hi) (D.bind (Q:=λz=>z.1=iJ n t p ks (i+1)/\ej n t z.2.1) ?_ λz aP=>D.inl ⟨(z.2.2,z.2.1),by dsimp only;rw[bw U,<-aP.1],aP.2⟩)) λh=>absurd (eA.2 hi) h;unfold K4;refine D.bind (Mj aK a7 hp kG aC (uP hC.ok hi)) λz aP=>D.bK (λe=>?_) λe=>D.ret ⟨?_,aP.2⟩
 ·refine D.ae (eX (by grind)) (D.ret ⟨?_,aP.2⟩);rw[sE,if_pos (by rw[aP.1]at e;exact e)]
 simp_all[sE,if_neg,mD]
end
section
variable {n : Nat} {t : aZ}
def mE{l:List Int}(h:l.length<=100000):ov l=I l:=by grind[ov,oG]
def iz(aj:cH t):j6 (aM n) t=I t:=by
 have fz:=aj.nodes;have ey:=aj.aD;refine D.br ?_;unfold j6;refine D.ae (mE U) ?_;unfold El;refine D.for t.nodes.length (λi (_:Unit)=>((i:Int),t.nodes.take i)) (λ_ _=>True) (t0:=()) rfl trivial (λi _ hi _=>?_) λ_ _=>D.ar (λh=>absurd h (eb _)) λ_=>D.bu (D.ret (by rw[e4]));obtain⟨x,ak⟩:∃x,t.nodes[i]? =I x:=⟨_,bN hi⟩
 have ap:=aj.a8 x (cm ak);refine D.ar (λ_=>D.aH ak (D.ae (mE U) (D.ae (eX (by grind)) (D.inl ⟨(),?_,trivial⟩)))) λh=>absurd (eA.2 hi) h;rw[bw U,da ak]
def qb(aj:cH t)(a6:10000000<=n)(p:Int):(∃e,e≠0/\kD (aM n) t p=I e/\iE (aM n) t p=I (.inl e))\/
  ∃(O:Nat->ByteArray)(q:Nat),p=q/\q<=t.aD.length/\c2 n t O/\kD (aM n) t p=I 0/\iE (aM n) t p=I (.inr (0,t.nodes,t.aD,[])):=by
 obtain⟨e,h1,h2,ay⟩:=v6 aj a6;unfold kD iE BJ;rw[h1,h2];by_cases he:e=0
 ·subst he;obtain⟨O,aK⟩:=ay rfl;by_cases bh:p< 0
  ·simp_all
  ·by_cases aC:(t.aD.length:Int)<p
   ·simp_all
   ·exact .inr ⟨O,p.toNat,U,U,aK,by grind,by grind⟩
 simp_all
section
variable {p e : Int} (he : e ≠ 0) (h : iE (aM n) t p = I (.inl e))
include he h
theorem Zu:vC (aM n) t p=I ([],e):=by unfold vC;simp_all
theorem Zv:wZ (aM n) t p=I (0,e):=by unfold wZ;simp_all
theorem Zw{k:Int}:o3 (aM n) t p k=I ([],e):=by unfold o3;simp_all
variable {w:List Int}
theorem SG:sh (aM n) t p w=I (0,e):=by unfold sh;simp_all
theorem Zo:vH (aM n) t p=I ([],e):=by unfold vH;simp_all
theorem Zp:vJ (aM n) t p=I ([],e):=by unfold vJ;simp_all
theorem ZH:vI (aM n) t p=I ([],e):=by unfold vI;simp_all
theorem ZI{ss:List ByteArray}:ux (aM n) t p ss=I ([],e):=by unfold ux;simp_all
theorem ZM{s:ByteArray}:sj (aM n) t p s w=I (aS,e):=by unfold sj;simp_all
end
section
variable {O : Nat -> ByteArray} {q : Nat} (aK : c2 n t O) (aB : q <= t.aD.length) (h : iE (aM n) t (q : Int) = I (.inr (0, t.nodes, t.aD, [])))
include aK aB h
theorem Zx:vC (aM n) t (q:Int)=I (a5 t q,0):=by unfold vC;rw[h,bE];simp only[n9];rw[if_neg cW,lb aK aB];rfl
theorem Zy:wZ (aM n) t (q:Int)=I ((bb (a5 t q):Int),0):=by unfold wZ;rw[h,bE];simp only[n9];rw[if_neg cW,lb aK aB,bE,tN (dG.aX aK aB)];rfl
theorem Mm{k:Nat}(ap:k<bb (a5 t q)):o3 (aM n) t (q:Int) (k:Int)=I (du (a5 t q) k,0):=by unfold o3;rw[h,bE];simp only[n9];rw[if_neg cW,lb aK aB,bE,if_neg (by simp<;>omega),tN (dG.aX aK aB),bE,if_neg (by simp<;>omega),yS (dG.aX aK aB) ap];rfl
variable {w:List Int}
theorem SH(hw:bF (a5 t q) w=aS):sh (aM n) t (q:Int) w=I (0,3):=by unfold sh;rw[h,bE];simp only[n9];rw[if_neg cW,lb aK aB,bE,Ai (hR aK),bE,hw,if_pos cW]
theorem Zq:vH (aM n) t (q:Int)=I ((de t q).map (n8 t),0):=by
 have ey:=aK.ok.aD;have aC:=me t q;refine D.br ?_;unfold vH;refine D.ae h ?_;simp only[n9];refine D.dB (λh=>absurd trivial h) λ_=>D.ae (tO aK aB) ?_;unfold WQ;refine D.for (de t q).length (λi (_:Unit)=>(((de t q).take i).map (n8 t),(i:Int))) (λ_ _=>True) (t0:=()) rfl trivial (λi _ hi _=>?_) λ_ _=>D.ar (λh=>absurd h (eb _)) λ_=>D.bu (D.ret (by rw[e4]));obtain⟨k,ak⟩:∃k,(de t q)[i]? =I k:=⟨_,bN hi⟩
 have wD:=ak;obtain⟨j,rfl,ag,_⟩:=(oF t q).at ak;refine D.ar (λ_=>D.aH ak (D.ae (n7 aK U) (D.ae (eX (by grind)) (D.inl ⟨(),?_,trivial⟩)))) λh=>absurd (eA.2 hi) h;rw[bw U,da ak,hT];rfl
theorem Zr:vJ (aM n) t (q:Int)=I ((gD (q+1)).map (λp=>((jS n t p (de t p)).length:Int)),0):=by have ey:=aK.ok.aD;refine D.br ?_;unfold vJ;refine D.ae h ?_;simp only[n9];refine D.dB (λh=>absurd trivial h) λ_=>?_;unfold Xk;rw[bw U];refine D.for (q+1) (λi (M:List (gq×fT))=>((gD i).map (λp=>((jS n t p (de t p)).length:Int)),(i:Int),M)) (λ_ M=>ej n t M) (t0:=[]) rfl ej.nil (λi M hi dz=>?_) λ_ _=>D.ar (λh=>absurd h (eb _)) λ_=>D.bu (D.ret rfl);have aC:=me t i;refine D.ar (λ_=>D.ae (tO aK U) (D.bind (Cu aK dz U (oF t i) U) λz aP=>D.ae (eX (by grind)) (D.inl ⟨z.2,?_,aP.2⟩))) λh=>absurd (show(i:Int)<((q+1:Nat):Int) by omega) h;rw[bw U,aP.1,pk,hT];rfl
theorem ZJ:vI (aM n) t (q:Int)=I (jS n t q (de t q),0):=by have ey:=aK.ok.aD;have aC:=me t q;refine D.br ?_;unfold vI;refine D.ae h ?_;simp only[n9];exact D.dB (λh=>absurd trivial h) λ_=>D.ae (tO aK aB) (D.bind (Cu aK ej.nil aB (oF t q) U) λz aP=>D.ret (by rw[aP.1]))
theorem ZK{ss:List ByteArray}(aQ:ss.length<=100000){l:List Int}(e:gk t q ss=I l):ux (aM n) t (q:Int) ss=I (jS n t q l,0):=by obtain⟨h1,h2⟩:=v_ e;refine D.br ?_;unfold ux;refine D.ae h ?_;simp only[n9];refine D.dB (λh=>absurd trivial h) λ_=>D.ae (Al aK aB aQ) ?_;rw[e];exact D.bK dF λ_=>D.bind (Cu aK ej.nil aB h1 (by simp_all)) λz aP=>D.ret (by rw[aP.1])
theorem ZN{s:ByteArray}(e:hx t q s=aJ):sj (aM n) t (q:Int) s w=I (aS,10):=by refine D.br ?_;unfold sj;refine D.ae h ?_;simp only[n9];refine D.dB (λh=>absurd trivial h) λ_=>D.ae (Al aK aB cW) ?_;simp_all[gk,D.ret]
end
end
section
variable {n : Nat}
def ld:D (au kF λz=>I z) (· =ad):=⟨ad,rfl,rfl⟩
variable (a6 : 10000000 <= n)
include a6
end
def avO(t:aZ):Prop:=∀x∈t.nodes,(-9223372036854775808<=x.n/\x.n<=9223372036854775807/\0<=x.kind/\x.kind<=255)/\x.text.size< 9223372036854775808
section
variable {n : Nat} {t : aZ} {O : Nat -> ByteArray}
def avP(aK:c2 n t O){q:Nat}(aB:q<=t.aD.length):hx t q ⟨#[]⟩=aJ:=by
 unfold hx;rw[List.find?_eq_none];intro k ap h;obtain⟨i,rfl,hi,mb⟩:=qa ap;obtain⟨j,_,h2,ay⟩:=kc aK (show i<t.aD.length by omega);have e:(af t j).text=⟨#[]⟩:=by have h:=of_decide_eq_true h;unfold n8 at h;rw[dA]at h;rw[<-ay];exact h
 have bg:=(aK.wf.dI.qy j _ (k9 h2)).1;have ap:o4 (af t j).kind=ad:=by rw[<-ay,mb];decide
 have:=bg.name.1 ap;rw[e]at this;exact gP.nil this
variable (a6 : 10000000 <= n)
include a6
theorem avQ(eO:avO t)(p:Int):ZP (aM n) t p=I ad:=by
 refine D.br ?_;unfold ZP;refine D.bK (λ_=>ld) λaQ=>?_;simp only[Bool.or_eq_false_iff,decide_eq_false_iff_not]at aQ;unfold aiN;refine D.for t.nodes.length (λi (_:Unit)=>(i:Int)) (λi _=>∀x∈t.nodes.take i,x.a8.length<=8) (t0:=()) rfl (λx ak=>by simp at ak) (λi _ hi a7=>?_) λ_ a7=>D.ar (λh=>absurd h (eb _)) λ_=>D.bu ?_
 ·obtain⟨x,ak⟩:∃x,t.nodes[i]? =I x:=⟨_,bN hi⟩
  refine D.ar (λ_=>D.aH ak (D.ar (λ_=>D.bu ld) λg8=>D.inl ⟨(),bw U,λy a9=>?_⟩)) λh=>absurd (eA.2 hi) h;rw[da ak]at a9;rcases h3.1 a9 with a9|a9
  ·exact a7 y a9
  ·rw[ro]at a9;subst a9;omega
 rw[e4]at a7;have aj:cH t:=⟨U,U,λx ak=>by have h1:=a7 x ak;obtain⟨h2,ay⟩:=eO x ak;exact⟨U,ay,h2⟩⟩
 have body:∀ai,kD (aM n) t p=I ai->D (Mr (aM n) t p ai ()) (· =ad):=λai qz=>by
  unfold Mr;rcases qb aj a6 p with⟨e,he,h1,h2⟩|⟨O,q,rfl,aB,aK,h1,h2⟩
  ·rw[qz]at h1;cases h1;refine D.ae (iz aj) (D.ae (Zu he h2) (D.ae (iz aj) (D.ae (Zv he h2) (D.ae (iz aj) (D.ae (Zo he h2) (D.ae (iz aj) (D.ae (ZH he h2) (D.ae (iz aj) (D.ae (ZI he h2) (D.ae (iz aj) (D.ae (Zp he h2) (D.ae (iz aj) (D.ae (Zw he h2) (D.ae (iz aj) (D.ae (SG he h2) (D.ae (iz aj) (D.ae (ZM he h2) (D.dB (λ_=>D.bK (λ_=>ld) λh=>?_) λh=>absurd h he))))))))))))))))));simp at h
  ·rw[qz]at h1;cases h1;have hC:=dG.aX aK aB;have kJ:=lT hC.ok;have cX:=(v8 aK aB).2;have hi:bF (a5 t q) [9,9,9,9,9,9,9]=aS:=by
    cases e:bF (a5 t q) [9,9,9,9,9,9,9]with
    |false=>rfl
    |true=>have:=hv e;simp at this;omega
   refine D.ae (iz aj) (D.ae (Zx aK aB h2) (D.ae (iz aj) (D.ae (Zy aK aB h2) (D.ae (iz aj) (D.ae (Zq aK aB h2) (D.ae (iz aj) (D.ae (ZJ aK aB h2) (D.ae (iz aj) (D.ae (ZK aK aB h2 (ss:=[]) cW rfl) (D.ae (iz aj) (D.ae (Zr aK aB h2) (D.ae (iz aj) (D.ae (Mm aK aB h2 (k:=0) kJ) (D.ae (iz aj) (D.ae (SH aK aB h2 hi) (D.ae (iz aj) (D.ae (ZN aK aB h2 (avP aK aB)) (D.dB (λh=>absurd rfl h) λ_=>D.bK (λ_=>ld) λh=>?_))))))))))))))))));have:0<(bb (a5 t q):Int):=by omega
   simp at h;omega
 unfold ZO;obtain⟨ai,qz⟩:∃z,kD (aM n) t p=I z:=by
  rcases qb aj a6 p with⟨e,_,h1,_⟩|⟨_,_,_,_,_,h1,_⟩
  ·exact⟨_,h1⟩
  ·exact⟨_,h1⟩
 refine D.ae qz ?_;rcases qb aj a6 0 with⟨e,he,h1,_⟩|⟨O,q,aB,_,aK,h1,_⟩
 ·exact D.ae h1 (D.ar (λh=>absurd h he) λ_=>body ai qz)
 ·exact D.ae h1 (D.ar (λ_=>D.ae (mY aK (bL _)) (D.ae (pp (dG.aX aK (bL _))) (D.ar (λ_=>ld) λ_=>body ai qz))) λh=>absurd rfl h)
end
end Go.Proofs.YtjfgooffdmnnkaaGreatDoor

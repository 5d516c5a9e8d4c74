/- The law. -/
import Derived.Test.YtjfgooffdmnnkaaGreatDoorWk
import Derived.Test.YtjfgooffdmnnkaaGreatDoorXa
import Derived.Test.YtjfgooffdmnnkaaGreatDoorL4
set_option linter.all false
set_option maxRecDepth 100000
set_option maxHeartbeats 1000000
namespace Go.Proofs.YtjfgooffdmnnkaaGreatDoor
open Go Go.Mi Go.RowKit Go.Dp
open Int renaming lt_irrefl->eb,ofNat_lt->eA,toNat_natCast->dA,natCast_mul->jP
open List renaming getElem?_eq_getElem->bN,replicate->cC,mem_of_getElem?->cm,getElem?_eq_some_iff->cz,take_append_drop->kn,length_append->hW,take_length->e4
open Nat renaming le_refl->bL,le_mul_of_pos_right->qP,div_le_self->sC,le_trans->gE
open Option renaming bind_some->bE,some->I,bind->au
open Sum renaming elim_inr->n9
def cP(c:ct):Nat:=(c.hi-c.lo+1).toNat
def bb:List ct->Nat
 |[]=>1
 |c::l=>cP c*bb l
def gU(l:List ct):Prop:=∀c∈l,c.lo<=c.hi/\ -9999<=c.lo/\c.hi<=9999
def du:List ct->Nat->List Int
 |[],_=>[]
 |c::l,n=>(c.lo+((n/bb l:Nat):Int))::du l (n%bb l)
def dk:List ct->List Int->Nat
 |c::l,x::w=>(x-c.lo).toNat*bb l+dk l w
 |_,_=>0
def bF:List ct->List Int->Bool
 |[],[]=>true
 |c::l,x::w=>decide (c.lo<=x)&&decide (x<=c.hi)&&bF l w
 |_,_=>false
theorem j'(a b:List ct):bb (a++b)=bb a*bb b:=by
 induction a with
 |nil=>simp[bb]
 |cons c a bx=>simp[bb,bx,Nat.mul_assoc]
variable {c:ct}{l:List ct}
theorem gU.jd(h:gU (c::l)):gU l:=λx ak=>h x (by simp[ak])
def rE(h:c.lo<=c.hi):0<cP c:=by unfold cP;omega
def lT(h:gU l):0<bb l:=by
 induction l with
 |nil=>simp[bb]
 |cons c l bx=>exact Nat.mul_pos (rE (h c cW).1) (bx h.jd)
theorem nB:∀{l:List ct}{n:Nat},(du l n).length=l.length
 |[],_=>rfl
 |_::l,n=>by simp[du,nB (l:=l)]
def uQ{i n:Nat}(ax:l[i]? =I c):
  du (l.drop i) (n%bb (l.drop i))=(c.lo+((n/bb (l.drop (i+1))%cP c:Nat):Int))::du (l.drop (i+1)) (n%bb (l.drop (i+1)))/\n/bb (l.drop (i+1))/cP c=n/bb (l.drop i):=by
 obtain⟨hi,e⟩:=cz.1 ax;simp_all[List.drop_eq_getElem_cons,du,bb,Nat.mod_mul_left_div_self,Nat.mod_mul_left_mod,Nat.div_div_eq_div_mul,Nat.mul_comm,cP]
def b4(t:aZ)(k:Nat):bm:=af t ((t.aD[k]?).getD 0).toNat
def dK(t:aZ):List Int->List ct
 |[]=>[]
 |q::l=>if(af t q.toNat).kind=40 then⟨(af t q.toNat).text,ez t q.toNat,eD t q.toNat⟩::dK t l else dK t l
def a5(t:aZ)(p:Nat):List ct:=dK t (t.aD.take p)
theorem la{t:aZ}:∀{a b:List Int},dK t (a++b)=dK t a++dK t b
 |[],_=>rfl
 |q::a,b=>by
  simp only[List.cons_append,dK];split
  ·rw[la];rfl
  ·exact la
def n6(t:aZ){a b:Nat}(h:a<=b):∃r,a5 t b=a5 t a++r:=by refine⟨dK t ((t.aD.take b).drop a),?_⟩;unfold a5;rw[<-la];congr 1;rw[show t.aD.take a=(t.aD.take b).take a by rw[List.take_take,Nat.min_eq_left h],kn]
theorem iU{t:aZ}{p:Nat}{q:Int}(h:t.aD[p]? =I q):a5 t (p+1)=if(af t q.toNat).kind=40 then a5 t p++[⟨(af t q.toNat).text,ez t q.toNat,eD t q.toNat⟩]else a5 t p:=by unfold a5;rw[da h,la];grind[dK]
theorem qR{t:aZ}:∀{l:List Int},(dK t l).length<=l.length
 |[]=>bL _
 |q::l=>by simp only[dK];have:=qR (t:=t) (l:=l);grind
section
variable {n : Nat} {t : aZ} {O : Nat -> ByteArray}
theorem qS(aj:cH t)(aR:fZ t){i:Nat}(hi:i<t.nodes.length)(h:(af t i).kind=40):ez t i<=eD t i/\eD t i-ez t i+1<=12/\ -9999<=ez t i/\eD t i<=9999:=by
 obtain⟨⟨hF,gI⟩,_,bh,h1,h0,fW⟩:=oC aj aR hi h;have aQ:=aR.BZ i (af t i) (k9 hi);unfold nb at aQ;rw[b8 hi,bE,if_pos (decide_eq_true h),bh,bE,b8 (show bz t i 0<t.nodes.length by omega),bE,h1,bE,b8 (show bz t i 1<t.nodes.length by omega),bE]at aQ;simp only[Option.some.injEq,Bool.and_eq_true,decide_eq_true_eq]at aQ;unfold ez at*;unfold eD at*;obtain⟨fe,hX⟩:=aQ;have bX:=aj.af (show bz t i 0<t.nodes.length by omega);have dV:=aj.af (show bz t i 1<t.nodes.length by omega);have e:(af t (bz t i 1)).n-(af t (bz t i 0)).n<=9999+9999:=by omega
 rw[b3 (n:=(af t (bz t i 1)).n-(af t (bz t i 0)).n) U U,b3 U U]at hX;omega
variable {p:Nat}
def nm(aR:fZ t)(h:p<t.aD.length):∃i:Nat,t.aD[p]? =I (i:Int)/\i<t.nodes.length:=by
 obtain⟨q,aB⟩:∃q,t.aD[p]? =I q:=⟨_,bN h⟩
 obtain⟨i,rfl,_,hi⟩:=aR.dI.ht.fw _ (cm aB);grind
def kb(aj:cH t)(aR:fZ t):∀{p:Nat},p<=t.aD.length->gU (a5 t p)
 |0,_=>λc ax=>by simp[a5,dK]at ax
 |p+1,hp=>by
  obtain⟨i,hi,c4⟩:=nm aR (show p<t.aD.length by omega);rw[iU hi];split
  ·next h=>
   intro c ax;rcases List.mem_append.1 ax with ax|ax
   ·exact kb aj aR (show p<=t.aD.length by omega) c ax
   simp_all[List.mem_singleton,qS]
  ·exact kb aj aR (show p<=t.aD.length by omega)
def xr(aj:cH t)(aR:fZ t)(aY:∀i,i<t.nodes.length->gS t i=0)(a6:10000000<=n):D (ou (aM n) t (⟨c_ t⟩,0,0) (0,1,0,0)) λr=>r.2=0->bb (a5 t t.aD.length)<=2000/\(a5 t t.aD.length).length<=6:=by
 have ey:=aj.aD;unfold ou;refine D.for t.aD.length (λi (z:Int×Int×Int)=>(z.1,z.2.1,z.2.2,(i:Int))) (λi z=>(z.2.1=(bb (a5 t i):Int)/\bb (a5 t i)<=2000)/\z.1=((a5 t i).length:Int)/\(a5 t i).length<=6) (t0:=(0,1,0)) rfl ⟨⟨rfl,by simp[a5,dK,bb]⟩,rfl,by simp[a5,dK]⟩ (λp z hp a7=>?_) λz a7=>?_
 ·obtain⟨c,w,a⟩:=z;obtain⟨⟨hw,aC⟩,dy,Mh⟩:=a7;dsimp only at hw dy;obtain⟨i,hi,c4⟩:=nm aR hp;have tu:=EJ aj aR aY a6 hi;have tail:∀c' w' fo k,c'=((a5 t (p+1)).length:Int)->(w'<=2000->w'=(bb (a5 t (p+1)):Int)/\bb (a5 t (p+1))<=2000)->D (mq t (p:Int) (aM n) (⟨c_ t⟩,0,0) (c',w',fo,k)) (jv (λs'=>∃hs:Int×Int×Int,s'=(hs.1,hs.2.1,hs.2.2,((p+1:Nat):Int))/\(hs.2.1=(bb (a5 t (p+1)):Int)/\bb (a5 t (p+1))<=2000)/\hs.1=((a5 t (p+1)).length:Int)/\(a5 t (p+1)).length<=6) λr=>r.2=0->bb (a5 t t.aD.length)<=2000/\(a5 t t.aD.length).length<=6):=λc' w' fo k lI ap=>by
   unfold mq;refine D.bK (λ_=>D.aH hi (D.bu (D.ret dF))) λuI=>D.ae tu (D.ar (λ_=>D.aH hi (D.bu (D.ret dF))) λ_=>D.inl ⟨(c',w',fo),by rw[bw U],ap ?_,lI,?_⟩)
   all_goals
    grind
  have ia:(af t i).kind≠40->a5 t (p+1)=a5 t p:=λh=>by rw[iU hi,dA,if_neg h]
  refine D.ar (λ_=>D.aH hi (D.ae (b8 c4) (D.ar (λdm=>?_) λdm=>D.ar (λ_=>tail _ _ _ _ (by simp_all) λ_=>by simp_all) λ_=>D.ar (λ_=>tail _ _ _ _ (by simp_all) λ_=>by simp_all) λ_=>tail _ _ _ _ (by simp_all) λ_=>by simp_all))) λh=>absurd (show(p:Int)<(t.aD.length:Int) by omega) h;obtain⟨_,_,bh,h1,h0,fW⟩:=oC aj aR c4 dm;obtain⟨s1,s2,h6,E0⟩:=qS aj aR c4 dm;refine D.ae h1 (D.ae (b8 (show bz t i 1<t.nodes.length by omega)) (D.ae bh (D.ae (b8 (show bz t i 0<t.nodes.length by omega)) (tail _ _ _ _ ?_ ?_))))
  ·rw[iU hi,dA,if_pos dm,hW,dy,b3 U U];simp
  have e:a5 t (p+1)=a5 t p++[⟨(af t i).text,ez t i,eD t i⟩]:=by rw[iU hi,dA,if_pos dm]
  have bc:bb (a5 t (p+1))=bb (a5 t p)*cP ⟨(af t i).text,ez t i,eD t i⟩:=by rw[e,j'];simp[bb]
  have cR:((cP ⟨(af t i).text,ez t i,eD t i⟩:Nat):Int)=eD t i-ez t i+1:=by grind[cP]
  have go:az (az ((af t (bz t i 1)).n-(af t (bz t i 0)).n)+1)=eD t i-ez t i+1:=by show az (az (eD t i-ez t i)+1)=_;rw[b3 (n:=eD t i-ez t i) U U,b3 U U]
  have gN:w*(eD t i-ez t i+1)=(bb (a5 t (p+1)):Int):=by rw[bc,hw,<-cR,jP]
  have ki:bb (a5 t (p+1))<=2000*12:=by rw[bc];exact Nat.mul_le_mul aC (by omega)
  rw[go,gN,b3 U U];grind[it]
 ·exact D.ar bt λ_=>D.bu (D.ret λ_=>⟨a7.1.2,a7.2.2⟩)
def v8(aK:c2 n t O)(hp:p<=t.aD.length):bb (a5 t p)<=2000/\(a5 t p).length<=6:=by
 have bh:pR (aM n) t=I 0:=by obtain⟨e,h1,h2,_⟩:=v6 aK.ok aK.p_;rw[aK.EY]at h1;simp_all
 obtain⟨r,h1,h2⟩:=xr (n:=n) aK.ok aK.wf aK.mw aK.p_;unfold pR yl at bh;rw[aK.p5,bE,if_neg cW,aK.pf,bE]at bh;rw[show ou (aM n) t (⟨c_ t⟩,0,0) (0,1,0,0)=I r from h1,bE]at bh;have ay:=h2 (by simp_all);obtain⟨q,aB⟩:=n6 t hp;rw[aB,j',hW]at ay;have kJ:0<bb q:=lT λc ax=>kb aK.ok aK.wf (bL _) c (by simp_all);exact⟨gE (qP _ kJ) ay.1,U⟩
def xt(aK:c2 n t O)(hp:p<=t.aD.length):bb (a5 t p)<=2000:=(v8 aK hp).1
end
section
variable {n : Nat} {t : aZ} {O : Nat -> ByteArray} {M : List (gq × fT)}
variable {p:Nat}
def kc(aK:c2 n t O)(hp:p<t.aD.length):∃i:Nat,t.aD[p]? =I (i:Int)/\i<t.nodes.length/\b4 t p=af t i:=by obtain⟨i,h1,h2⟩:=nm aK.wf hp;grind[b4]
def mf(aK:c2 n t O)(hp:p<t.aD.length):o1 t (p:Int)=I (b4 t p):=by obtain⟨i,h1,h2,ay⟩:=kc aK hp;unfold o1;rw[e7 h1,bE,b8 h2,bE,ay]
theorem n7(aK:c2 n t O)(hp:p<t.aD.length):qw (p:Int) t.nodes t.aD M=I (b4 t p):=by obtain⟨i,h1,h2,ay⟩:=kc aK hp;unfold qw;rw[e7 h1,bE,b8 h2,bE,ay]
def qT(aK:c2 n t O)(hp:p<t.aD.length):((b4 t p).kind=40/\∃a b:Nat,a<t.nodes.length/\b<t.nodes.length/\aH (b4 t p).a8 0=I (a:Int)/\aH (b4 t p).a8 1=I (b:Int)/\a5 t (p+1)=a5 t p++[⟨(b4 t p).text,(af t a).n,(af t b).n⟩])\/((b4 t p).kind≠40/\a5 t (p+1)=a5 t p):=by
 obtain⟨i,h1,h2,ay⟩:=kc aK hp;rw[ay,iU h1,dA];by_cases h:(af t i).kind=40
 ·obtain⟨_,_,k0,bX,h0,fW⟩:=oC aK.ok aK.wf h2 h;rw[if_pos h];exact .inl ⟨h,_,_,U,U,k0,bX,rfl⟩
 simp_all
theorem hR(aK:c2 n t O):(a5 t p).length<=800:=by have h1:=aK.ok.aD;grind[a5,qR,List.length_take]
def mY(aK:c2 n t O)(hp:p<=t.aD.length):nc (aM n) t (p:Int)=I (a5 t p):=by
 have ey:=aK.ok.aD;refine D.br ?_;unfold nc DY;refine D.for p (λi (_:Unit)=>(a5 t i,(i:Int))) (λ_ _=>True) (t0:=()) rfl trivial (λi _ hi _=>?_) λ_ _=>D.ar (λh=>absurd h (eb _)) λ_=>D.bu (D.ret rfl);have fV:i<t.aD.length:=by omega
 refine D.ar (λ_=>D.ae (mf aK fV) ?_) λh=>absurd (eA.2 hi) h;have aC:=hR aK (p:=i);rcases qT aK fV with⟨h,a,b,a4,aF,k0,bX,e⟩|⟨h,e⟩
 ·exact D.ar (λ_=>D.ae k0 (D.ae (b8 a4) (D.ae bX (D.ae (b8 aF) (D.ae (eX (by grind)) (D.inl ⟨(),by rw[e,bw U],trivial⟩)))))) λcr=>absurd h cr
 ·exact D.ar (λcr=>absurd cr h) λ_=>D.inl ⟨(),by rw[e,bw U],trivial⟩
theorem lb(aK:c2 n t O)(hp:p<=t.aD.length):nX (aM n) (p:Int) t.nodes t.aD M=I (a5 t p):=by
 have ey:=aK.ok.aD;refine D.br ?_;unfold nX Eb;refine D.for p (λi (_:Unit)=>(a5 t i,(i:Int))) (λ_ _=>True) (t0:=()) rfl trivial (λi _ hi _=>?_) λ_ _=>D.ar (λh=>absurd h (eb _)) λ_=>D.bu (D.ret rfl);have fV:i<t.aD.length:=by omega
 refine D.ar (λ_=>D.ae (n7 aK fV) ?_) λh=>absurd (eA.2 hi) h;have aC:=hR aK (p:=i);rcases qT aK fV with⟨h,a,b,a4,aF,k0,bX,e⟩|⟨h,e⟩
 ·exact D.ar (λ_=>D.ae k0 (D.ae (b8 a4) (D.ae bX (D.ae (b8 aF) (D.ae (eX (by grind)) (D.inl ⟨(),by rw[e,bw U],trivial⟩)))))) λcr=>absurd h cr
 ·exact D.ar (λcr=>absurd cr h) λ_=>D.inl ⟨(),by rw[e,bw U],trivial⟩
end
structure dG(l:List ct):Prop where
 ok:gU l
 kP:bb l<=2000
 len:l.length<=800
theorem dG.aX{n:Nat}{t:aZ}{O:Nat->ByteArray}(aK:c2 n t O){p:Nat}(hp:p<=t.aD.length):dG (a5 t p):=⟨kb aK.ok aK.wf hp,xt aK hp,hR aK⟩
section
variable {n : Nat} {l : List ct}
theorem dG.take(h:dG l)(i:Nat):bb (l.take i)<=2000:=by
 have e:bb l=bb (l.take i)*bb (l.drop i):=by rw[<-j',kn]
 have h1:0<bb (l.drop i):=lT λc ax=>h.ok c (List.mem_of_mem_drop ax);have h2:=h.kP;rw[e]at h2;exact gE (qP _ h1) h2
variable {c:ct}{i:Nat}
theorem jE(h:dG l)(ax:l[i]? =I c):az (az (c.hi-c.lo)+1)=(cP c:Int)/\1<=cP c/\cP c<=20000:=by have aU:=h.ok c (cm ax);rw[b3 (n:=c.hi-c.lo) U U,b3 U U];unfold cP;omega
def rF(ax:∀{i:Nat}{c:ct},l[i]? =I c->True)(h:l[i]? =I c):bb (l.take (i+1))=bb (l.take i)*cP c:=by rw[da h,j'];simp[bb]
def aIL(h:dG l){body:Int×Int->Option ((Int×Int) ⊕ Int)}(aF:∀(i k:Nat) c,l[i]? =I c->k<=2000->body (k,i)=I (.inl (az ((k*cP c:Nat):Int),az ((i:Int)+1))))(he:∀k:Int,body (k,l.length)=I (.inr k)):D (fv body (1,0)) (· =(bb l:Int)):=by
 have aC:=h.len;refine D.for l.length (λi (_:Unit)=>((bb (l.take i):Int),(i:Int))) (λ_ _=>True) (t0:=()) rfl trivial (λi _ hi _=>?_) λ_ _=>D.aX (he _) (by rw[e4];rfl);obtain⟨c,ax⟩:∃c,l[i]? =I c:=⟨_,bN hi⟩
 have h2:=h.take (i+1);have e:=rF (λ_=>trivial) ax;rw[e]at h2;refine D.aX (aF i _ c ax (h.take i)) ⟨(),?_,trivial⟩;rw[bw U,e,b3 U U]
def pp(h:dG l):o2 (aM n) l=I (bb l:Int):=by refine D.br ?_;unfold o2 DZ;refine aIL h (λi k c ax ap=>D.br ?_) λk=>D.br (D.ar (λh=>absurd h (eb _)) λ_=>D.ret rfl);have hi:=(cz.1 ax).1;refine D.ar (λ_=>D.aH ax (D.aH ax (D.ret ?_))) λh=>absurd (eA.2 hi) h;rw[(jE h ax).1,<-jP]
def mC:wW c=I (az (az (c.hi-c.lo)+1)):=rfl
variable {x:Int}
def sD {y:Int}:sf (aM n) [x,y]=I (az (az (1*x)*y)):=by
 unfold sf Ec;refine D.br ?_;refine D.for 2 (λi (z:Int)=>(z,(i:Int))) (λi z=>z=if i=0 then 1 else if i=1 then az (1*x)else az (az (1*x)*y)) (t0:=1) rfl rfl (λi z hi aP=>?_) λz aP=>D.ar (λh=>absurd h cW) λ_=>D.bu (D.ret (by omega));have:i=0\/i=1:=by omega
 rcases this with rfl|rfl
 ·exact D.ar (λ_=>D.aH (x:=x) rfl (D.inl ⟨az (z*x),rfl,by grind⟩)) λh=>absurd cW h
 ·exact D.ar (λ_=>D.aH (x:=y) rfl (D.inl ⟨az (z*y),rfl,by grind⟩)) λh=>absurd cW h
theorem tN(h:dG l):tf (aM n) l=I (bb l:Int):=by refine D.br ?_;unfold tf Hm;refine aIL h (λi k c ax ap=>D.br ?_) λk=>D.br (D.ar (λh=>absurd h (eb _)) λ_=>D.ret rfl);have hi:=(cz.1 ax).1;refine D.ar (λ_=>D.aH ax (D.ae mC (D.ae sD (D.ret ?_)))) λh=>absurd (eA.2 hi) h;rw[(jE h ax).1,Int.one_mul,b3 (n:=(k:Int)) U U,<-jP]
variable {r:List Int}
theorem uR:(cC (i+1) (0:Int)++r).set i x=cC i 0++x::r:=by rw[List.replicate_succ',List.append_assoc,List.set_append_right _ _ cW];simp
def uS:(cC (i+1) (0:Int)++r)[i]? =I 0:=by grind
theorem nC{a b:Nat}(h:0<b):nq (a:Int) (b:Int)=I ((a/b:Nat):Int)/\nr (a:Int) (b:Int)=I ((a%b:Nat):Int):=by unfold nq nr;grind
variable {k:Nat}
theorem uT(h:dG l)(ax:l[i]? =I c):az (c.lo+((k%cP c:Nat):Int))=c.lo+((k%cP c:Nat):Int):=by have aU:=h.ok c (cm ax);have h1:k%cP c<cP c:=Nat.mod_lt _ (rE aU.1);have h2:=(jE h ax).2.2;exact b3 U U
def aIW{R cd:Type}(h:dG l)(ap:k<bb l){f:Int->Int->List Int->cd}{body:cd->Option (cd ⊕ R)}{T:R->Prop}
  (aF:∀(j q:Nat) c r,l[j]? =I c->q<=2000->(r:List Int).length+j+1=l.length->body (f j q (cC (j+1) 0++r))=I (.inl (f (az ((j:Int)- 1)) (az ((q/cP c:Nat):Int)) (cC j 0++az (c.lo+((q%cP c:Nat):Int))::r))))
  (he:∀q,D (body (f (-1) q (du l k))) (jv (λ_=>False) T)):D (fv body (f (az ((l.length:Int)- 1)) k (cC l.length 0))) T:=by
 have aC:=h.len;have zN:=h.kP;refine D.for l.length (λi (_:Unit)=>f (((l.length-i:Nat):Int)- 1) ((k/bb (l.drop (l.length-i)):Nat):Int) (cC (l.length-i) 0++du (l.drop (l.length-i)) (k%bb (l.drop (l.length-i))))) (λ_ _=>True) (t0:=()) ?_ trivial (λi _ hi _=>?_) λ_ _=>?_
 ·rw[Nat.sub_zero,List.drop_length];simp only[bb,du,Nat.div_one,List.append_nil];rw[b3 U U]
 ·obtain⟨j,ag⟩:∃j,l.length-i=j+1:=⟨l.length-i- 1,U⟩
  have m_:l.length-(i+1)=j:=by omega
  rw[ag,m_];obtain⟨c,ax⟩:∃c,l[j]? =I c:=⟨_,bN U⟩
  obtain⟨a2,bc⟩:=uQ (n:=k) ax;rw[show((j+1:Nat):Int)- 1=(j:Int) by omega];refine D.aX (aF j _ c _ ax (by have:=sC k (bb (l.drop (j+1)));omega) (by rw[nB,List.length_drop];omega)) ⟨(),?_,trivial⟩;rw[uT h ax,bc,a2,b3 (n:=((k/bb (l.drop j):Nat):Int)) (by grind) (by have:=sC k (bb (l.drop j));omega),vj U]
 ·rw[Nat.sub_self,List.drop_zero,Nat.mod_eq_of_lt ap];exact he _
theorem aIX:gF (cC l.length (0:Int)).length (du l k)=I (du l k):=by unfold gF;rw[if_pos (by simp[nB])]
def Ct(h:dG l)(ap:k<bb l):vK (aM n) l (k:Int)=I (du l k):=by have aC:=h.len;refine D.br ?_;unfold vK;refine D.ae (xd U 0) ?_;unfold K9;refine aIW (f:=λa b c=>(b,a,c)) h ap (λj q c r ax aB aO=>D.br ?_) λq=>D.ar lp λ_=>D.bu (D.ae aIX (D.ret rfl));obtain⟨s1,s2,h6⟩:=jE h ax;refine D.ar (λ_=>D.aH ax (D.aH ax (D.aH ax ?_))) d_;rw[s1];exact D.ae (nC s2).2 (D.ae (hN uS (by grind)) (D.ae (nC s2).1 (D.ret (by dsimp only;rw[uR]))))
theorem yS(h:dG l)(ap:k<bb l):uv (aM n) l (k:Int)=I (du l k):=by have aC:=h.len;refine D.br ?_;unfold uv;refine D.ae (xd U 0) (D.ae (z:=l) rfl (D.bind (Q:=λz=>z.2=du l k) ?_ λz aP=>by grind[D.ae,aIX,D.ret]));unfold Ed Hn;refine aIW (f:=λa b c=>(a,b,c)) h ap (λj q c r ax aB aO=>D.br ?_) λq=>D.ar lp λ_=>D.bu (D.ret rfl);obtain⟨s1,s2,h6⟩:=jE h ax;refine D.ar (λ_=>D.aH ax (D.ae (z:=(az ((q/cP c:Nat):Int),cC j 0++az (c.lo+((q%cP c:Nat):Int))::r)) (D.br ?_) (D.ret rfl))) d_;unfold vD;refine D.ae mC ?_;rw[s1];refine D.ae (nC s2).2 (D.ae (hN uS (by grind)) (D.ae mC ?_));grind[D.ae,nC,D.ret,uR]
end
section
variable {n : Nat} {xs : List Int} {keep : Int -> Bool} {am : Int} {ao : ByteArray} {ah : Int} {aq : List Int} {av : Int} {aT : List bm} {bd : List Int} {bf : List (gq × fT)}
end
section
variable {n : Nat} {t : aZ} {O : Nat -> ByteArray} {M : List (gq × fT)}
def jF(t:aZ)(p:Nat)(ks:List Int):Prop:=∀k∈ks,∃i:Nat,k=(i:Int)/\i<p/\(b4 t i).kind=44
theorem jF.at{p:Nat}{ks:List Int}(h:jF t p ks){j:Nat}{k:Int}(ap:ks[j]? =I k):∃i:Nat,k=(i:Int)/\i<p/\(b4 t i).kind=44:=h k (cm ap)
end
noncomputable def iI(n:Nat)(t:aZ)(a:Nat)(w:List Int):Bool:=((qx (aM n) t (a:Int) w).getD (false,0)).1
def ej(n:Nat)(t:aZ)(M:List (gq×fT)):Prop:=∀sp h,eE M sp=I h->h.qk=true/\∀(a:Nat) w,sp.kk=(a:Int)->a<t.aD.length->bF (a5 t a) w=true->(dk (a5 t a) w:Int)=sp.vo->h.jK=iI n t a w
section
variable {n : Nat} {t : aZ} {O : Nat -> ByteArray} {M : List (gq × fT)}
def ej.nil:ej n t []:=λsp h e=>by cases e
theorem oG{w:List Int}(h:w.length<=100000):e6 ([]:List Int) w=I w:=by grind[eX]
end
section
variable {n : Nat} {t : aZ}
def mE{l:List Int}(h:l.length<=100000):ov l=I l:=by grind[ov,oG]
def iz(aj:cH t):j6 (aM n) t=I t:=by
 have fz:=aj.nodes;have ey:=aj.aD;refine D.br ?_;unfold j6;refine D.ae (mE U) ?_;unfold El;refine D.for t.nodes.length (λi (_:Unit)=>((i:Int),t.nodes.take i)) (λ_ _=>True) (t0:=()) rfl trivial (λi _ hi _=>?_) λ_ _=>D.ar (λh=>absurd h (eb _)) λ_=>D.bu (D.ret (by rw[e4]));obtain⟨x,ak⟩:∃x,t.nodes[i]? =I x:=⟨_,bN hi⟩
 have ap:=aj.a8 x (cm ak);refine D.ar (λ_=>D.aH ak (D.ae (mE U) (D.ae (eX (by grind)) (D.inl ⟨(),?_,trivial⟩)))) λh=>absurd (eA.2 hi) h;rw[bw U,da ak]
def Ml{α:Type}{a b:List α}(aC:a.length=b.length)(h:a.take a.length=b.take a.length):a=b:=by grind
def It{a b:List Int}(a4:a.length<=100000):th (aM n) a b=I (decide (a=b)):=by
 refine D.br ?_;unfold th;refine D.dB (λh=>D.ret (decide_eq_false λe=>h (by rw[e])).symm) λh=>?_;have ay:a.length=b.length:=by omega
 unfold Q8;refine D.for a.length (λi (_:Unit)=>(i:Int)) (λi _=>a.take i=b.take i) (t0:=()) rfl cW (λi _ hi a7=>?_) λ_ a7=>D.ar (λh=>absurd h (eb _)) λ_=>D.bu (D.ret (decide_eq_true (Ml ay a7)).symm);obtain⟨x,ak⟩:∃x,a[i]? =I x:=⟨_,bN hi⟩
 obtain⟨y,a9⟩:∃y,b[i]? =I y:=⟨_,bN U⟩
 refine D.ar (λ_=>D.aH ak (D.aH a9 (D.dB (λe=>D.bu (D.ret ?_)) λe=>D.inl ⟨(),bw U,?_⟩))) λh=>absurd (eA.2 hi) h
 ·grind
 simp_all[da]
def qb(aj:cH t)(a6:10000000<=n)(p:Int):(∃e,e≠0/\kD (aM n) t p=I e/\iE (aM n) t p=I (.inl e))\/
  ∃(O:Nat->ByteArray)(q:Nat),p=q/\q<=t.aD.length/\c2 n t O/\kD (aM n) t p=I 0/\iE (aM n) t p=I (.inr (0,t.nodes,t.aD,[])):=by
 obtain⟨e,h1,h2,ay⟩:=v6 aj a6;unfold kD iE BJ;rw[h1,h2];by_cases he:e=0
 ·subst he;obtain⟨O,aK⟩:=ay rfl;by_cases bh:p< 0
  ·simp_all
  ·by_cases aC:(t.aD.length:Int)<p
   ·simp_all
   ·exact .inr ⟨O,p.toNat,U,U,aK,by grind,by grind⟩
 simp_all
section
variable {p e : Int} (he : e ≠ 0) (h : iE (aM n) t p = I (.inl e))
include he h
theorem Zu:vC (aM n) t p=I ([],e):=by unfold vC;simp_all
theorem Zv:wZ (aM n) t p=I (0,e):=by unfold wZ;simp_all
theorem Zw{k:Int}:o3 (aM n) t p k=I ([],e):=by unfold o3;simp_all
end
section
variable {O : Nat -> ByteArray} {q : Nat} (aK : c2 n t O) (aB : q <= t.aD.length) (h : iE (aM n) t (q : Int) = I (.inr (0, t.nodes, t.aD, [])))
include aK aB h
theorem Zx:vC (aM n) t (q:Int)=I (a5 t q,0):=by unfold vC;rw[h,bE];simp only[n9];rw[if_neg cW,lb aK aB];rfl
theorem Zy:wZ (aM n) t (q:Int)=I ((bb (a5 t q):Int),0):=by unfold wZ;rw[h,bE];simp only[n9];rw[if_neg cW,lb aK aB,bE,tN (dG.aX aK aB)];rfl
theorem Zz{k:Int}(ap:k< 0\/(bb (a5 t q):Int)<=k):o3 (aM n) t (q:Int) k=I ([],3):=by
 unfold o3;rw[h,bE];simp only[n9];rw[if_neg cW,lb aK aB,bE];by_cases bh:k< 0
 ·rw[if_pos (decide_eq_true bh)]
 ·rw[if_neg (by simp_all),tN (dG.aX aK aB),bE,if_pos (decide_eq_true U)]
theorem Mm{k:Nat}(ap:k<bb (a5 t q)):o3 (aM n) t (q:Int) (k:Int)=I (du (a5 t q) k,0):=by unfold o3;rw[h,bE];simp only[n9];rw[if_neg cW,lb aK aB,bE,if_neg (by simp<;>omega),tN (dG.aX aK aB),bE,if_neg (by simp<;>omega),yS (dG.aX aK aB) ap];rfl
end
end
section
variable {n : Nat}
def ld:D (au kF λz=>I z) (· =true):=⟨true,rfl,rfl⟩
def Ah{s:ByteArray}(a6:10000000<=n):D (rj (aM n) s) λz=>z.2=true->cH z.1:=by
 unfold rj;refine D.ar (λ_=>D.ret dF) λaQ=>D.bind (Mg (n:=n) U U) λz aP=>D.dB (λ_=>D.ret dF) λe=>?_;have aj:=aP e;have fz:=aj.nodes;rcases qb aj a6 0 with⟨e,he,h1,_⟩|⟨O,q,aB,_,aK,h1,_⟩
 ·simp_all[D.ae,D.ar,absurd,D.ret]
 ·exact D.ae h1 (D.ar (λ_=>D.ae (mY aK (bL _)) (D.ae (pp (dG.aX aK (bL _))) (D.ar (λ_=>D.ret dF) λ_=>D.ret λ_=>aj))) λh=>absurd rfl h)
variable (a6 : 10000000 <= n)
include a6
theorem avw(s:ByteArray)(p k:Int):Zt (aM n) s p k=I true:=by
 refine D.br ?_;unfold Zt;refine D.bind (Ah a6) λz aP=>D.bK (λ_=>ld) λh=>?_;obtain⟨t,b⟩:=z;have aj:cH t:=aP (by grind);refine D.ae (iz aj) ?_;rcases qb aj a6 p with⟨e,he,h1,h2⟩|⟨O,q,rfl,aB,aK,h1,h2⟩
 ·refine D.ae (Zu he h2) (D.ae (iz aj) (D.ae (Zv he h2) (D.ae (iz aj) (D.ae (Zw he h2) (D.ae h1 (D.dB (λ_=>D.bK (λ_=>ld) λh=>?_) λh=>absurd h he))))));simp at h
 ·refine D.ae (Zx aK aB h2) (D.ae (iz aj) (D.ae (Zy aK aB h2) (D.ae (iz aj) ?_)));have hC:=dG.aX aK aB;have tn:=hC.kP;have dy:=hC.len;have rest:∀bJ:List Int×Int,D (Mk k ((bb (a5 t q):Int),0) bJ (aM n) (a5 t q) ()) (· =true)->D (au (kD (aM n) t (q:Int)) λcG=>if(!decide (cG=0))=true then if(((((decide ((0:Int)=cG)&&decide ((0:Int)=cG))&&decide (bJ.2=cG))&&decide (((a5 t q).length:Int)=0))&&decide ((bb (a5 t q):Int)=0))&&decide ((bJ.1.length:Int)=0))=true then(kF).bind λc1=>I c1 else I false else(nc (aM n) t (q:Int)).bind λcJ=>if((!decide ((0:Int)=0))||(!decide ((0:Int)=0)))=true then I false else(o2 (aM n) cJ).bind λdP=>if((!decide ((bb (a5 t q):Int)=dP))||(!decide (((a5 t q).length:Int)=(cJ.length:Int))))=true then I false else Zs (aM n) (a5 t q,0) cJ k ((bb (a5 t q):Int),0) bJ 0) (· =true):=λbJ bg=>by
   refine D.ae h1 (D.dB (λh=>absurd rfl h) λ_=>D.ae (mY aK aB) (D.bK (λh=>by simp at h) λ_=>D.ae (pp hC) (D.bK (λh=>by simp at h) λ_=>?_)));unfold Zs;refine D.for (a5 t q).length (λi (_:Unit)=>(i:Int)) (λ_ _=>True) (t0:=()) rfl trivial (λi _ hi _=>?_) λ_ _=>D.ar (λh=>absurd h (eb _)) λ_=>D.bu bg;obtain⟨c,ax⟩:∃c,(a5 t q)[i]? =I c:=⟨_,bN hi⟩
   exact D.ar (λ_=>D.aH ax (D.aH ax (D.dB (λh=>absurd rfl h) λ_=>D.inl ⟨(),bw U,trivial⟩))) λh=>absurd (eA.2 hi) h
  by_cases ap:k< 0\/(bb (a5 t q):Int)<=k
  ·refine D.ae (Zz aK aB h2 ap) (rest _ ?_);unfold Mk;refine D.bK (λ_=>D.bK (λ_=>ld) λh=>by simp at h) λh=>?_;grind
  ·obtain⟨j,rfl⟩:∃j:Nat,k=j:=⟨k.toNat,U⟩
   have ag:j<bb (a5 t q):=by omega
   refine D.ae (Mm aK aB h2 ag) (rest _ ?_);unfold Mk;refine D.bK (λh=>?_) λ_=>D.ar (λ_=>D.ae (Ct hC ag) (D.ae (It (by rw[nB];omega)) (D.bK (λ_=>ld) λh=>by simp at h))) λh=>absurd rfl h;grind
end
end Go.Proofs.YtjfgooffdmnnkaaGreatDoor

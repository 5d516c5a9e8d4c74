/- The parser. -/
import Derived.Test.YtjfgooffdmnnkaaGreatDoorWk
set_option linter.all false
set_option maxRecDepth 100000
set_option maxHeartbeats 1000000
namespace Go.Proofs.YtjfgooffdmnnkaaGreatDoor
open Go Go.Mi Go.RowKit Go.Dp
open Bool renaming or_eq_false_iff->jy,true->ad,false->aS
open Int renaming le_refl->g_,le_add_one->L8
open List renaming mem_of_getElem?->cm,getElem?_eq_some_iff->cz,length_append->hW,mem_append->h3
open Nat renaming le_refl->bL,le_of_lt->SA,lt_or_ge->pj
open Option renaming bind_some->bE,bind->au,some->I
structure EZ(x:bm)(i:Nat):Prop where
 a8:∀k∈x.a8,0<=k/\k<(i:Int)
 len:x.a8.length<=i
 ts:x.kind=40->2<=x.a8.length
 text:x.text.size< 1000000
 n: -9223372036854775808<=x.n/\x.n<=9223372036854775807
 kind:0<=x.kind/\x.kind<=255
def xl(cA:List bm):Prop:=∀(i:Nat) x,cA[i]? =I x->EZ x i
def xl.nil:xl []:=λi x h=>by simp at h
variable {cA:List bm}
theorem xl.put(h:xl cA){x:bm}(ak:EZ x cA.length):xl (cA++[x]):=λi y a9=>by
 rcases pj i cA.length with hi|hi
 ·rw[List.getElem?_append_left hi]at a9;exact h i y a9
 ·rw[List.getElem?_append_right hi]at a9;obtain⟨h1,h2⟩:=cz.1 a9;have e:i=cA.length:=by simp at h1;omega
  subst e;simp at h2;exact h2▸ak
def L9(L:List e'):Prop:=L.length<=800/\∀t∈L,t.text.size< 100000
structure hK(L:List e')(a:Int)(cA:List bm)(s:Int):Prop where
 Z:0<=a
 an:a<=L.length
 ok:xl cA
 d:(cA.length:Int)<=8*a+s
 s1:s<=1000
 l:L9 L
variable {L:List e'}{a b s:Int}
theorem hK.take(h:hK L a cA s)(h1:a+1<=b)(h2:b<=L.length):hK L b cA (s- 8):=by obtain⟨ay,bl,bO,cX,hq,g8⟩:=h;exact⟨U,h2,bO,U,U,g8⟩
def hK.g2(h:hK L a cA s)(h1:a<=b)(h2:b<=L.length):hK L b cA s:=by obtain⟨ay,bl,bO,cX,hq,g8⟩:=h;exact⟨U,h2,bO,U,hq,g8⟩
def hK.mono {s':Int}(h:hK L a cA s)(h1:s<=s')(h2:s'<=1000):hK L a cA s':=by obtain⟨ay,bl,bO,cX,hq,g8⟩:=h;exact⟨ay,bl,bO,U,h2,g8⟩
theorem hK.put{L:List e'}{a:Int}{cA:List bm}{s:Int}(h:hK L a cA s){x:bm}(ak:EZ x cA.length)(aQ:s+1<=1000):hK L a (cA++[x]) (s+1):=by obtain⟨ay,bl,bO,cX,hq,g8⟩:=h;exact⟨ay,bl,bO.put ak,by rw[hW];simp;omega,aQ,g8⟩
def L_(cA tI:List bm)(r:Int):Prop:=(cA.length:Int)<=r/\r<tI.length
def ko(cA tI:List bm)(ks:List Int):Prop:=(∀k∈ks,(cA.length:Int)<=k/\k<tI.length)/\ks.length+cA.length<=tI.length
def ko.nil:ko cA cA []:=⟨by simp,by simp⟩
variable {tI:List bm}{r:Int}
theorem ko.one(h:L_ cA tI r):ko cA tI [r]:=by obtain⟨h1,h2⟩:=h;exact⟨by simp;exact⟨h1,h2⟩,by simp;omega⟩
variable {ks:List Int}
def ko.uN {j_:List bm}(h:ko cA tI ks)(h2:L_ tI j_ r):ko cA j_ (ks++[r]):=by
 obtain⟨ay,bl⟩:=h;obtain⟨bO,cX⟩:=h2;refine⟨λk ap=>?_,by rw[hW];simp;omega⟩;rcases h3.1 ap with ap|ap
 ·have:=ay k ap;omega
 ·rw[List.mem_singleton]at ap;subst ap;omega
theorem ko.af(h:ko cA tI ks){k n at_:Int}{s:ByteArray}(ap:0<=k/\k<=255)(dm:k=40->2<=ks.length)(aQ:s.size< 1000000)(a6: -9223372036854775808<=n/\n<=9223372036854775807):EZ ⟨k,s,n,ks,at_⟩ tI.length:=
 ⟨λx ak=>by have:=h.1 x ak;omega,by have:=h.2;dsimp only;omega,dm,aQ,a6,ap⟩
section
variable {L : List e'} {a : Int} {cA : List bm} {s : Int} {v v' : Nat} {dc : List Int} {bad : Bool}
theorem hK.lv(h:hK L a cA s):az (a+1)=a+1:=by have:=h.l.1;have:=h.Z;have:=h.an;exact b3 U U
theorem hK.len(h:hK L a cA s):cA.length<=10000:=by have:=h.l.1;have:=h.an;have:=h.d;have:=h.s1;omega
def kO(h:hK L a cA s):D (kl L a v cA v' dc bad) λz=>z.size< 100000/\(z.size≠0->a+1<=L.length):=by unfold kl;refine D.bK (λ_=>D.ret ⟨by decide,λh=>absurd rfl h⟩) λ_=>D.ar (λ_=>D.ret ⟨by decide,λh=>absurd rfl h⟩) λaC=>D.x8 h.Z U λx ak=>D.ret ⟨h.l.2 x (cm ak),λ_=>by omega⟩
def v7(h:hK L a cA s):D (sb L a v cA v' dc bad) λ_=>True:=by unfold sb;exact D.ar (λaC=>D.x8 h.Z U λx ak=>D.ret trivial) λ_=>D.ret trivial
def Zj(h:hK L a cA s):D (GA L a v cA v' dc bad) λz=>z≠0->a+1<=L.length:=by unfold GA;exact D.bK (λ_=>D.ret λh=>absurd rfl h) λ_=>D.ar (λ_=>D.ret λh=>absurd rfl h) λaC=>D.x8 h.Z U λx ak=>D.ret λ_=>by omega
def lS(h:hK L a cA s)(c:ByteArray)(ax:c.size≠0):D (j3 c L a v cA v' dc bad) λz=>a<=z.1/\z.1<=L.length:=by unfold j3;refine D.bind (kO h) λz aP=>D.dB (λ_=>D.ret ⟨g_ _,h.an⟩) λe=>D.ret ?_;subst e;have:=aP.2 ax;rw[h.lv];omega
def Cq(h:hK L a cA s)(k:Int)(ap:k≠0):D (wO k L a v cA v' dc bad) λz=>(a<=z.2.1/\z.2.1<=L.length)/\z.1.size< 100000:=by unfold wO;refine D.bind (kO h) λz aP=>D.bind (Zj h) λy a9=>D.dB (λ_=>D.ret ⟨⟨g_ _,h.an⟩,show(⟨#[]⟩:ByteArray).size< 100000 from by decide⟩) λe=>D.ret ?_;subst e;have:=a9 ap;rw[h.lv];grind
def L'(h:hK L a cA s)(x:bm){b:Int}:D (jf x L b v cA v' dc bad) λz=>z.1=cA.length/\z.2.1=cA++[x]:=by have:=h.len;grind[jf,D.ae,eX,D.ret,b3]
def ho(L:List e')(a:Int)(cA:List bm)(s:Int)(z:Int×Int×List bm×Bool×Nat):Prop:=L_ cA z.2.2.1 z.1/\a<=z.2.1/\hK L z.2.1 z.2.2.1 (s+1)
def iy(L:List e')(K:Int)(r:iv):Prop:=∀a v cA v' dc bad s,hK L a cA s->s<=500->(L.length:Int)-a<K->D (r L a v cA v' dc bad) (ho L a cA s)
def iy.mono{K js:Int}{r:iv}(h:iy L K r)(ap:js<=K):iy L js r:=λa v cA v' dc bad s h1 h2 ay=>h a v cA v' dc bad s h1 h2 U
def ho.fi{Z:Int}{Cr:List bm}{ir:Int}{x:bm}(h:hK L a cA s)(ak:EZ x cA.length)(aC:Cr.length<=cA.length)(a4:Z<=a)(aQ:s<=ir)(bh:ir+1<=1000):D (au (jf x L a v cA v' dc bad) λz=>I (z.1,a,z.2.1,bad,z.2.2)) (ho L Z Cr ir):=by
 refine D.bind (L' h x) λz aP=>D.ret ⟨?_,a4,?_⟩
 ·dsimp only;rw[aP.1,aP.2];exact⟨U,by simp<;>omega⟩
 ·dsimp only;rw[aP.2];exact(h.put ak U).mono U bh
def uO{k n at_:Int}{c:ByteArray}{i:Nat}(ap:0<=k/\k<=255)(dm:k≠40)(aQ:c.size< 1000000)(a6: -9223372036854775808<=n/\n<=9223372036854775807):EZ ⟨k,c,n,[],at_⟩ i:=
 ⟨by simp,by simp,λh=>absurd h dm,aQ,a6,ap⟩
theorem dg:(⟨#[]⟩:ByteArray).size< 1000000:=by decide
def el: -9223372036854775808<=(0:Int)/\(0:Int)<=9223372036854775807:=by decide
def Zk(x:Int): -9223372036854775808<=az x/\az x<=9223372036854775807:=by grind[az,IntKind.wrap,IntKind.signed,IntKind.bits]
end
section
variable {n : Nat} {s : ByteArray}
def qK(s:ByteArray)(a:Nat)(z:e'):Prop:=z.text.size< 100000/\(z.kind≠0->1<=z.text.size/\a+z.text.size<=s.size)
variable {a:Nat}
theorem qK.bt:qK s a ⟨0,⟨#[]⟩,0⟩:=⟨by decide,λh=>absurd rfl h⟩
theorem qK.ex {k:Nat}{q at_:Int}(aQ:s.size< 100000)(h:a<k)(h2:k<=s.size):qK s a ⟨q,s.extract a k,at_⟩:=by
 have e:(s.extract a k).size=k-a:=by simp;omega
 exact⟨by grind,λ_=>⟨by grind,by grind⟩⟩
def aiF(aQ:s.size< 100000):D (Gz (aM n) s (a:Int)) (qK s a):=by
 unfold Gz;refine D.ar (λe=>D.ret qK.bt) λbh=>?_;have bh:a<s.size:=by omega
 have H6:s[a]? =I s[a]:=getElem?_pos s a bh;refine D.ae (lM H6) ?_;rw[HM,bE];refine D.bK (λeK=>?_) λeK=>?_
 ·have stop:∀k:Nat,a<k->k<=s.size->D (DA s (a:Int) (aM n) (k:Int)) (qK s a):=λk h1 h2=>by
   unfold DA;refine D.ae (lN (SA h1) h2) ?_;refine D.ae (z:=Dz.getD []) rfl ?_;refine D.bind (agy ci) λc ax=>D.bK (λ_=>D.ret (qK.ex aQ h1 h2)) λ_=>D.ar (λ_=>D.ret (qK.ex aQ h1 h2)) λ_=>D.ret qK.bt
  unfold OF;refine HL (s:=s) rq (k0:=a) (SA bh) (λk b ap aF hp=>?_) λk X7 ap h1 h2=>?_
  ·rw[if_pos dq,lM aF,bE,HM,bE,bE,yB,bE,bw U];grind[rq,zH]
  ·have Ma:a<k:=by
    grind[pj,rp,rq]
   by_cases h:k<s.size
   ·have e:s[k]? =I s[k]:=getElem?_pos s k h;have bg:=h2 h;rw[rp e]at bg;unfold rq at bg;simp only[jy]at bg;rw[if_pos dZ,lM e,bE,HM,bE,bg.1,if_neg cW,bE,yB,bE,bg.2,if_neg cW];exact D.bu (stop k Ma ap)
   simp_all[if_neg,dZ,D.bu]
 ·refine D.ae (lM H6) ?_;rw[yB,bE];refine D.bK (λl3=>?_) λl3=>?_
  ·have stop:∀k:Nat,a<k->k<=s.size->D (DB s (a:Int) (k:Int)) (qK s a):=λk h1 h2=>by
    have e:(s.extract a k).size=k-a:=by simp;omega
    unfold DB;refine D.ae (lN (SA h1) h2) ?_;refine D.ar (λ_=>D.ret (qK.ex aQ h1 h2)) λ_=>D.ar (λ_=>?_) λ_=>D.ret qK.bt;exact D.gW (i:=0) U λ_ _=>D.bK (λ_=>D.ret (qK.ex aQ h1 h2)) λ_=>D.ret qK.bt
   unfold VE;refine HL (s:=s) yA (k0:=a) (SA bh) (λk b ap aF hp=>?_) λk X7 ap h1 h2=>?_
   ·rw[if_pos dq,lM aF,bE,yB,hp,bE,if_pos rfl,bw U]
   ·have Ma:a<k:=by
     grind[pj,rp]
    by_cases h:k<s.size
    ·have e:s[k]? =I s[k]:=getElem?_pos s k h;have bg:=h2 h;rw[rp e]at bg;simp_all[if_pos,dZ,lM,bE,yB,if_neg,cW,D.bu]
    simp_all[if_neg,dZ,D.bu]
  ·refine D.ae (z:=vr.getD []) rfl ?_;unfold VD;have aC:(vr.getD []).length=23:=rfl;have small:∀x∈vr.getD [],1<=x.size/\x.size< 10:=by
    have h:((vr.getD []).all λx=>decide (1<=x.size)&&decide (x.size< 10))=ad:=by kernel_rfl
    simp_all
   refine D.for (vr.getD []).length (λk (_:Unit)=>(k:Int)) (λk _=>True) (t0:=()) rfl trivial (λk _ ap _=>?_) λ_ _=>D.ar bt λ_=>D.inr qK.bt;refine D.ar (λ_=>D.hA ap λx ak=>?_) d_;have agB:=small x (cm ak);have next:D (I (Sum.inl (az ((k:Int)+1))):Option (Int ⊕ e')) (jv (λs'=>∃hs:Unit,s'=((k+1:Nat):Int)/\True) (qK s a)):=D.inl ⟨(),by rw[bw U],trivial⟩
   have nZ:az ((a:Int)+(x.size:Int))=((a+x.size:Nat):Int):=by rw[b3 U U];omega
   rw[nZ];refine D.ar (λhle=>?_) λ_=>next
   refine D.ae (lN (Nat.le_add_right _ _) U) ?_;refine D.aH ak (D.ar (λ_=>D.aH ak (D.bu (D.ret ⟨by grind,λ_=>⟨agB.1,by grind⟩⟩))) λ_=>next)
def aiG(aQ:s.size< 100000)(a4:a<=s.size):D (Kb (aM n) s (a:Int)) λz=>∃k:Nat,z=k/\a<=k/\k<=s.size:=by
 unfold Kb adS;refine D.b1 (λz:Int=>∃k:Nat,z=k/\a<=k/\k<=s.size) (λz=>s.size-z.toNat) ?_ ⟨a,rfl,bL _,a4⟩;rintro _ ⟨k,rfl,h1,h2⟩;have ub:k<s.size->D (I (Sum.inl (az ((k:Int)+1))):Option (Int ⊕ Int)) (jv (λs'=>(∃j:Nat,s'=(j:Int)/\a<=j/\j<=s.size)/\s.size-s'.toNat<s.size-((k:Int)).toNat) λz=>∃j:Nat,z=j/\a<=j/\j<=s.size):=λh=>D.inl ⟨⟨k+1,bw U,U,U⟩,by rw[bw U];omega⟩;refine D.ar (λh=>?_) λ_=>D.bu (D.ret ⟨k,rfl,h1,h2⟩);have ap:k<s.size:=by omega
 have Ip:s[k]? =I s[k]:=getElem?_pos s k ap;refine D.ae (lM Ip) (D.ar (λ_=>ub ap) λ_=>D.ae (lM Ip) (D.ar (λ_=>ub ap) λ_=>D.ae (lM Ip) (D.dB (λ_=>D.bu (D.ret ⟨k,rfl,h1,h2⟩)) λaIM=>?_)));unfold adR;refine D.b1 (λz:Int=>∃j:Nat,z=j/\k<=j/\j<=s.size/\(j=k->s[k]?.map UInt8.toNat=I 35)) (λz=>s.size-z.toNat) ?_ ⟨k,rfl,bL _,h2,λ_=>by grind⟩;rintro _ ⟨j,rfl,c9,dU,dE⟩;have fi:k<j->D ((I (Sum.inl (j:Int)):Option (Int ⊕ Int)).map (Sum.inr:_->Int ⊕ (Int ⊕ Int))) (jv (λs'=>(∃i:Nat,s'=(i:Int)/\k<=i/\i<=s.size/\(i=k->s[k]?.map UInt8.toNat=I 35))/\s.size-s'.toNat<s.size-((j:Int)).toNat) (jv (λs'=>(∃i:Nat,s'=(i:Int)/\a<=i/\i<=s.size)/\s.size-s'.toNat<s.size-((k:Int)).toNat) λz=>∃i:Nat,z=i/\a<=i/\i<=s.size)):=λh=>D.bu (D.inl ⟨⟨j,rfl,U,dU⟩,by omega⟩);refine D.ar (λh=>?_) λh=>fi U;have ag:j<s.size:=by omega
 have kY:s[j]? =I s[j]:=getElem?_pos s j ag;refine D.ae (lM kY) (D.dB (λ_=>D.inl ⟨⟨j+1,bw U,U,U,λe=>by omega⟩,by rw[bw U];omega⟩) λaIN=>fi ?_);grind
def auZ(aQ:s.size< 100000):D (OG (aM n) s) λz=>L9 z.1:=by
 have nil:L9 []:=⟨by simp,by simp⟩
 unfold OG;refine D.bind (Q:=λ_=>True) ?_ λz _=>D.dB (λ_=>D.ret nil) λ_=>?_
 ·unfold VC;refine D.ar (λ_=>D.ret trivial) λ_=>?_;unfold adQ;refine D.for s.size (λi (_:Unit)=>(i:Int)) (λ_ _=>True) (t0:=()) rfl trivial (λi _ hi _=>?_) λ_ _=>D.ar bt λ_=>D.inr trivial;have Mb:s[i]? =I s[i]:=getElem?_pos s i hi;have ub:D (I (Sum.inl (az ((i:Int)+1))):Option (Int ⊕ (Int×Int))) (jv (λs'=>∃hs:Unit,s'=((i+1:Nat):Int)/\True) λ_=>True):=D.inl ⟨(),bw U,trivial⟩;exact D.ar (λ_=>D.ae (lM Mb) (D.dB (λ_=>D.ae (lM Mb) (D.ar (λ_=>D.bu (D.ret trivial)) λ_=>D.ae (lM Mb) (D.ar (λ_=>D.bu (D.ret trivial)) λ_=>ub))) λ_=>ub)) d_
 ·refine D.bind (aiG aQ (a:=0) (Nat.zero_le _)) λz aP=>?_;obtain⟨k,rfl,_,ap⟩:=aP;unfold adU;refine D.b1 (λq:List e'×Int=>L9 q.1/\∃j:Nat,q.2=j/\j<=s.size) (λq=>s.size-q.2.toNat) ?_ ⟨nil,k,rfl,ap⟩;rintro⟨l,_⟩ ⟨aC,j,rfl,ag⟩;refine D.ar (λh=>?_) λ_=>D.bu (D.ret aC);refine D.bind (aiF aQ (a:=j)) λt aj=>D.ar (λ_=>D.bu (D.ret nil)) λuy=>D.ar (λ_=>D.bu (D.ret nil)) λg8=>?_;obtain⟨t1,t2⟩:=aj.2 uy;have ar1:l.length<=800:=aC.1;refine D.ae (eX (by grind)) ?_;rw[show az ((j:Int)+(t.text.size:Int))=((j+t.text.size:Nat):Int) by rw[b3 U U];omega];refine D.bind (aiG aQ t2) λz aP=>?_;obtain⟨i,rfl,i1,i2⟩:=aP;refine D.inl ⟨⟨⟨by grind,λx ak=>?_⟩,i,rfl,i2⟩,by omega⟩;rcases h3.1 ak with ak|ak
  ·exact aC.2 x ak
  grind
def au0(aQ:s.size< 100000):D (OH (aM n) s) λz=> -9223372036854775808<=z.1/\z.1<=9223372036854775807:=by
 unfold OH;refine D.bind (Q:=λ_=>True) ?_ λz _=>D.bK (λ_=>D.ret ci) λ_=>?_
 ·unfold Kd;exact D.bind (aiF aQ (a:=0)) λz _=>D.bK (λ_=>D.ret trivial) λ_=>D.ret trivial
 ·unfold adV;refine D.for s.size (λi (x:Int)=>(x,(i:Int))) (λ_ x=> -9223372036854775808<=x/\x<=9223372036854775807) (t0:=0) rfl ci (λi x hi ak=>?_) λx ak=>D.ar bt λ_=>D.bu (D.ret ak);have Mb:s[i]? =I s[i]:=getElem?_pos s i hi;exact D.ar (λ_=>D.ae (lM Mb) (D.inl ⟨az (az (10*x)+az (xR ((s[i].toNat:Int)- 48))),by rw[bw U],Zk _⟩)) d_
end
section
variable {n : Nat} {L : List e'} {a : Int} {cA : List bm} {s K : Int} {v v' : Nat} {dc : List Int} {bad : Bool} {r fu gG og xM : iv}
def z'(L:List e')(a:Int)(cA:List bm)(s:Int)(ks:List Int)(fo:Int)(tI:List bm):Prop:=ko cA tI ks/\a<=fo/\hK L fo tI s
theorem ho.d{z:Int×Int×List bm×Bool×Nat}(h:ho L a cA s z):L_ cA z.2.2.1 z.1/\a<=z.2.1/\hK L z.2.1 z.2.2.1 (s+1):=h
def Cs(h:hK L a cA s):D (wP (aM n) L a v cA v' dc bad) λz=>(a<=z.2.1/\z.2.1<=L.length)/\ -9223372036854775808<=z.1/\z.1<=9223372036854775807:=by unfold wP;exact D.bind (Cq h 2 ci) λz aP=>D.bind (au0 aP.2) λy a9=>D.ret ⟨aP.1,a9⟩
def au1(aO:iy L K r)(h:hK L a cA s)(aQ:s<=500)(bZ:(L.length:Int)-a<K):D (OI (aM n) r L a v cA v' dc bad) λz=>z' L a cA (s+1) z.1 z.2.1 z.2.2.1:=by unfold OI;refine D.bind (aO _ _ _ _ _ _ _ h U bZ) λz aP=>?_;obtain⟨aa,an,au2,hF,v1⟩:=z;obtain⟨h1,h2,ay⟩:=aP.d;dsimp only at h1 h2 ay⊢;unfold adW;refine D.b1 (λq:List Int×Int×List bm×Bool×Nat×Nat=>z' L a cA (s+1) q.1 q.2.1 q.2.2.1) (λq=>((L.length:Int)-q.2.1).toNat) ?_ ⟨ko.one h1,h2,ay⟩;rintro⟨ks,a',j_,gI,v2,yR⟩ ⟨c9,dU,dE⟩;dsimp only at c9 dU dE;refine D.bind (kO dE) λc ax=>D.ar (λe=>?_) λ_=>D.bu (D.ret ⟨c9,dU,dE⟩);subst e;have aC:=ax.2 ci;rw[dE.lv];refine D.bind (aO _ _ _ _ _ _ _ (dE.take (g_ _) aC) U U) λz aP=>?_;obtain⟨bX,dV,dQ⟩:=aP.d;have a6:=dQ.len;have b5:=c9.2;have FW:=bX.1;have SB:=bX.2;refine D.ae (eX (by grind)) (D.inl ⟨⟨c9.uN bX,by grind,dQ.mono U U⟩,by grind⟩)
def au3(aO:iy L K r)(h:hK L a cA s)(aQ:s<=500)(bZ:(L.length:Int)-a<K):D (OJ (aM n) r L a v cA v' dc bad) λz=>z' L a cA (s+1) z.1 z.2.2.1 z.2.2.2.1:=by unfold OJ;refine D.bind (aO _ _ _ _ _ _ _ h U bZ) λz aP=>?_;obtain⟨aa,an,au2,hF,v1⟩:=z;obtain⟨h1,h2,ay⟩:=aP.d;dsimp only at h1 h2 ay⊢;unfold adX;refine D.b1 (λq:List Int×Int×List bm×Bool×Nat×Nat=>z' L a cA (s+1) q.1 q.2.1 q.2.2.1) (λq=>((L.length:Int)-q.2.1).toNat) ?_ ⟨ko.one h1,h2,ay⟩;rintro⟨ks,a',j_,gI,v2,yR⟩ ⟨c9,dU,dE⟩;dsimp only at c9 dU dE;refine D.bind (kO dE) λc ax=>D.ar (λe=>?_) λ_=>D.bu (D.ret ⟨c9,dU,dE⟩);subst e;have aC:=ax.2 ci;rw[dE.lv];refine D.bind (aO _ _ _ _ _ _ _ (dE.take (g_ _) aC) U U) λz aP=>?_;obtain⟨bX,dV,dQ⟩:=aP.d;have a6:=dQ.len;have b5:=c9.2;have FW:=bX.1;have SB:=bX.2;refine D.ae (eX (by grind)) (D.inl ⟨⟨c9.uN bX,by grind,dQ.mono U U⟩,by grind⟩)
def au4(h:hK L a cA s):D (OK L a v cA v' dc bad) λz=>(z.1=aS/\z.2=a)\/(z.1=ad/\z.2=a+1/\a+1<=L.length):=by unfold OK;refine D.bind (kO h) λz aP=>D.dB (λ_=>D.ret (.inl ⟨rfl,rfl⟩)) λe=>D.ret ?_;subst e;rw[h.lv];exact .inr ⟨rfl,rfl,aP.2 ci⟩
def au5(aO:iy L K r):iy L (K+1) (OL (aM n) r):=λa v cA v' dc bad s h aQ bZ=>by
 unfold OL;refine D.bind (v7 h) λat_ _=>D.bind (Cq h 1 ci) λw hw=>?_;obtain⟨⟨vZ,yM⟩,R'⟩:=hw;have h1:=h.g2 vZ yM;have aC:=h.len;refine D.bind (kO h1) λc ax=>D.ar (λe=>?_) λ_=>D.ar (λe=>?_) λ_=>?_
 ·subst e;have b':=ax.2 ci;rw[h1.lv];have h2:=h1.take (g_ _) b';refine D.bind (kO h2) λhX BW=>D.dB (λ_=>?_) λe=>?_
  ·refine D.bind (au3 aO h2 U U) λz aP=>?_;obtain⟨bX,dV,dQ⟩:=aP;refine D.bind (lS dQ _ ci) λy a9=>?_;have lj:=dQ.g2 a9.1 a9.2;exact ho.fi lj (bX.af ci lp U el) (by have:=bX.2;omega) U U U
  ·refine D.bind (lS h2 _ ci) λy a9=>?_;exact ho.fi (h2.g2 a9.1 a9.2) (uO ci ci U el) (bL _) U U U
 ·subst e;have b':=ax.2 ci;rw[h1.lv];have h2:=h1.take (g_ _) b';unfold adY;refine D.b1 (λq:Bool×Int×List bm×Bool×Nat×List Int×Nat=>z' L (w.2.1+1) cA (if q.1=ad then s- 8 else s- 6) q.2.2.2.2.2.1 q.2.1 q.2.2.1) (λq=>(if q.1=ad then 1 else 0)+((L.length:Int)-q.2.1).toNat) ?_ ⟨ko.nil,g_ _,h2⟩;rintro⟨m,a',j_,gI,v2,ks,yR⟩ ⟨c9,dU,dE⟩;dsimp only at c9 dU dE;refine D.bK (λem=>?_) λem=>?_
  ·subst em;rw[if_pos rfl]at dE;refine D.bind (v7 dE) λau6 _=>D.bind (Cq dE 1 ci) λke au7=>?_;obtain⟨⟨i1,i2⟩,i3⟩:=au7;have k3:=dE.g2 i1 i2;refine D.bind (lS k3 _ ci) λy a9=>?_;have jY:=k3.g2 a9.1 a9.2;refine D.bind (aO _ _ _ _ _ _ _ jY U U) λz aP=>?_;obtain⟨bX,dV,dQ⟩:=aP.d;refine D.bind (L' dQ _) λx ak=>?_;obtain⟨rB,qI⟩:=ak;have mI:=dQ.put (x:=⟨25,ke.1,0,[z.1],au6⟩) ((ko.one bX).af ci lp U el) U;rw[<-qI]at mI;have b5:=c9.2;have FW:=bX.1;have SB:=bX.2;have EK:=dQ.len;have w4:x.2.1.length=z.2.2.1.length+1:=by grind
   have pw:ko cA x.2.1 (ks++[x.1]):=c9.uN ⟨U,U⟩;refine D.ae (eX (by grind)) (D.bind (au4 mI) λq aB=>D.inl ?_);rcases aB with⟨ea,fN⟩|⟨ea,fN,jZ⟩
   ·refine⟨⟨pw,?_,?_⟩,?_⟩
    ·grind
    ·grind
    grind
   ·refine⟨⟨pw,?_,?_⟩,?_⟩
    ·grind
    ·dsimp only;rw[ea,fN];exact(mI.take (g_ _) jZ).mono (by simp<;>omega) (by simp<;>omega)
    grind
  ·subst em;rw[if_neg ci]at dE;refine D.bu (D.bind (lS dE _ ci) λy a9=>?_);exact ho.fi (dE.g2 a9.1 a9.2) (c9.af ci lp U el) (by have:=c9.2;omega) U U U
 ·exact ho.fi h1 (uO ci ci U el) (bL _) vZ U U
end
section
variable {n : Nat} {L : List e'} {a : Int} {cA : List bm} {s K : Int} {v v' : Nat} {dc : List Int} {bad : Bool} {r fu gG og xM : iv}
def au8(aO:iy L K r):iy L (K+1) (OM (aM n) r):=λa v cA v' dc bad s h aQ bZ=>by
 have aC:=h.len;unfold OM;refine D.bind (kO h) λc ax=>D.bind (v7 h) λat_ _=>D.bind (Zj h) λk ap=>D.ar (λe=>?_) λ_=>D.bK (λe=>?_) λ_=>D.ar (λe=>?_) λ_=>D.ar (λe=>?_) λ_=>?_
 ·refine D.bind (Cs h) λz aP=>?_;exact ho.fi (h.g2 aP.1.1 aP.1.2) (uO ci ci dg aP.2) (bL _) aP.1.1 U U
 ·have b':a+1<=L.length:=ax.2 (by
   simp only[Bool.or_eq_true,decide_eq_true_eq]at e;rcases e with e|e<;>(subst e;decide))
  rw[h.lv];have h2:=h.take (g_ _) b';exact D.ar (λ_=>ho.fi h2 (uO ci ci dg ci) (bL _) U U U) λ_=>ho.fi h2 (uO ci ci dg ci) (bL _) U U U
 ·subst e;have b':=ax.2 ci;rw[h.lv];refine D.bind (aO _ _ _ _ _ _ _ (h.take (g_ _) b') U U) λz aP=>?_;obtain⟨bX,dV,dQ⟩:=aP.d;refine D.bind (lS dQ _ ci) λy a9=>D.ret ⟨bX,?_,?_⟩
  ·grind
  ·exact(dQ.g2 a9.1 a9.2).mono U U
 ·subst e;have b':=ax.2 ci;rw[h.lv];refine D.bind (au1 aO (h.take (g_ _) b') U U) λz aP=>?_;obtain⟨bX,dV,dQ⟩:=aP;refine D.bind (lS dQ _ ci) λy a9=>?_;exact ho.fi (dQ.g2 a9.1 a9.2) (bX.af ci lp dg el) (by have:=bX.2;omega) U U U
 ·exact D.bind (au5 aO _ _ _ _ _ _ _ h aQ bZ) λz aP=>D.ret aP
def au9(aO:iy L K r):iy L (K+1) (ON (aM n) r):=λa v cA v' dc bad s h aQ bZ=>by
 unfold ON;refine D.bind (au8 aO _ _ _ _ _ _ _ h aQ bZ) λz aP=>?_;unfold adZ;refine D.b1 (λq:Int×Int×List bm×Bool×Nat=>ho L a cA s q) (λq=>((L.length:Int)-q.2.1).toNat) ?_ aP;rintro⟨k,a',j_,gI,v2⟩ ⟨c9,dU,dE⟩;dsimp only at c9 dU dE;have oe:=dE.len;have aIO:=c9.1;have aIP:=c9.2;refine D.bind (v7 dE) λat_ _=>D.bind (kO dE) λc ax=>D.ar (λe=>?_) λ_=>D.ar (λe=>?_) λ_=>D.bu (D.ret ⟨c9,dU,dE⟩)
 ·subst e;have b':=ax.2 ci;rw[dE.lv];have h2:=dE.take (g_ _) b';refine D.bind (Cq h2 1 ci) λw hw=>?_;obtain⟨⟨iK,ke⟩,rO⟩:=hw;have ay:=h2.g2 iK ke;refine D.bind (L' ay _) λx ak=>D.inl ?_;obtain⟨rB,qI⟩:=ak;have bl:=ay.put (x:=⟨22,w.1,0,[k],at_⟩) ((ko.one c9).af ci lp U el) U;rw[<-qI]at bl;have w4:x.2.1.length=j_.length+1:=by grind
  exact⟨⟨⟨by omega,by grind⟩,by grind,bl.mono U U⟩,by grind⟩
 ·subst e;have b':=ax.2 ci;rw[dE.lv];refine D.bind (aO _ _ _ _ _ _ _ (dE.take (g_ _) b') U U) λz aP=>?_;obtain⟨bX,dV,dQ⟩:=aP.d;have aIQ:=bX.1;have aIR:=bX.2;have L5:=dQ.len;refine D.bind (lS dQ _ ci) λy a9=>?_;have lj:=dQ.g2 a9.1 a9.2;refine D.bind (L' lj _) λx ak=>D.inl ?_;obtain⟨rB,qI⟩:=ak;have bl:=lj.put (x:=⟨23,⟨#[]⟩,0,[k,z.1],at_⟩) (((ko.one c9).uN bX).af ci lp dg el) U;rw[<-qI]at bl;have w4:x.2.1.length=z.2.2.1.length+1:=by grind
  exact⟨⟨⟨by omega,by grind⟩,by grind,bl.mono U U⟩,by grind⟩
def iy.zero{K:Int}(bZ:K<=0){r:iv}:iy L K r:=λa v cA v' dc bad s h aQ ay=>by have:=h.an;omega
def ava(aO:iy L K r)(eK:(L.length:Int)<n):iy L (K+1) (Kf (aM n) r):=by
 have key:∀k:Nat,∀js:Int,js<=K+1->js<=k->iy L js (Ke (aM n) r k):=by
  intro k;induction k with
  |zero=>intro js _ h;exact iy.zero U
  |succ k bx=>intro js h1 h2 a v cA v' dc bad s h aQ bZ;have aC:=h.len;show D (OO (aM n) r (Ke (aM n) r k) L a v cA v' dc bad) _;unfold OO;refine D.bind (v7 h) λat_ _=>D.bind (kO h) λc ax=>D.ar (λe=>?_) λ_=>D.bind (au9 aO _ _ _ _ _ _ _ h aQ U) λz aP=>D.ret aP;subst e;have b':=ax.2 ci;rw[h.lv];refine D.bind (bx (js- 1) U U _ _ _ _ _ _ _ (h.take (g_ _) b') U U) λz aP=>?_;obtain⟨bX,dV,dQ⟩:=aP.d;exact ho.fi dQ ((ko.one bX).af ci lp dg el) (by have:=bX.1;have:=bX.2;omega) U U U
 intro a v cA v' dc bad s h aQ bZ;have:=h.Z;exact key n (min (K+1) n) U U _ _ _ _ _ _ _ h aQ U
def Mc{q:iv}{ab al am:Int}(aB:(am=3/\q=fu)\/(am=4/\q=gG)\/(am=6/\q=og)\/(am=7/\q=xM)\/(am=8/\q=Kf (aM n) r))(dt:iy L K q)(hp:0<=ab/\ab<=255)(dm:ab≠40)
  {Cr:List bm} (h1:L_ Cr cA al) (h:hK L a cA s) (aQ:s<=501) (b':a+1<=L.length) (bZ:(L.length:Int)-(a+1)<K) {Z:Int} (a4:Z<=a) {ir:Int} (C2:s- 7<=ir) (Es:ir+1<=1000):
  D (oX (aM n) r fu gG og xM ab al am L a v cA v' dc bad) λz=>ho L Z Cr ir z/\a+1<=z.2.1:=by
 have tail:∀at_:Int,∀z:Int×Int×List bm×Bool×Nat,ho L (a+1) cA (s- 8) z->D (zs ab al at_ L v' dc (z.1,z.2.1,z.2.2.1,z.2.2.2.1,z.2.2.2.2)) λz=>ho L Z Cr ir z/\a+1<=z.2.1:=λat_ z aP=>by
  obtain⟨bX,dV,dQ⟩:=aP;have e:D (zs ab al at_ L v' dc (z.1,z.2.1,z.2.2.1,z.2.2.2.1,z.2.2.2.2)) (ho L (a+1) Cr ir):=by have:=h1.1;have:=h1.2;have:=bX.1;have:=bX.2;exact ho.fi dQ (((ko.one h1).uN bX).af hp (λe=>absurd e dm) dg el) U dV U Es
  exact e.mono λy a9=>⟨⟨a9.1,by have:=a9.2.1;omega,a9.2.2⟩,a9.2.1⟩
 have h2:=h.take (g_ _) b';have run:∀at_:Int,D (au (q L (a+1) v cA v' dc bad) λz=>zs ab al at_ L v' dc (z.1,z.2.1,z.2.2.1,z.2.2.2.1,z.2.2.2.2)) λz=>ho L Z Cr ir z/\a+1<=z.2.1:=λat_=>D.bind (dt _ _ _ _ _ _ _ h2 U bZ) λz aP=>tail at_ z aP;unfold oX;rw[h.lv];refine D.bind (v7 h) λat_ _=>?_;rcases aB with⟨rfl,rfl⟩|⟨rfl,rfl⟩|⟨rfl,rfl⟩|⟨rfl,rfl⟩|⟨rfl,rfl⟩
 ·exact run at_
 ·exact run at_
 ·exact run at_
 ·exact run at_
 simp_all
end
section
variable {n : Nat} {L : List e'} {a : Int} {cA : List bm} {s K : Int} {v v' : Nat} {dc : List Int} {bad : Bool} {r fu gG og xM : iv}
def SC{body:Int×Int×List bm×Bool×Nat->Option ((Int×Int×List bm×Bool×Nat) ⊕ (Int×Int×List bm×Bool×Nat))}(z:Int×Int×List bm×Bool×Nat)(aP:ho L a cA s z)
  (h:∀k a' j_ gI v2,ho L a cA s (k,a',j_,gI,v2)->D (body (k,a',j_,gI,v2)) (jv (λq=>ho L a cA s q/\a'+1<=q.2.1) (ho L a cA s))):D (fv body (z.1,z.2.1,z.2.2.1,z.2.2.2.1,z.2.2.2.2)) (ho L a cA s):=by
 refine D.b1 (λq:Int×Int×List bm×Bool×Nat=>ho L a cA s q) (λq=>((L.length:Int)-q.2.1).toNat) ?_ aP;rintro⟨k,a',j_,gI,v2⟩ g;refine(h k a' j_ gI v2 g).mono λy a9=>?_;cases y with
 |inr y=>exact a9
 |inl y=>obtain⟨h1,h2⟩:=a9;have ay:hK L y.2.1 y.2.2.1 (s+1):=h1.2.2;have:=ay.an;exact⟨h1,by grind⟩
def avb(aO:iy L K r)(eK:(L.length:Int)<n):iy L (K+1) (re (aM n) r fu gG og):=by
 have hu:=ava aO eK;obtain⟨m,rfl⟩:∃m,n=m+1:=⟨n- 1,U⟩
 intro a v cA v' dc bad s h aQ bZ;show D (OR (aM (m+1)) r fu gG og (Kg (aM (m+1)) r fu gG og m) L a v cA v' dc bad) _;unfold OR;refine D.bind (hu _ _ _ _ _ _ _ h aQ bZ) λz aP=>?_;unfold ad1;refine SC z aP λk a' j_ gI v2 g=>?_;obtain⟨c9,dU,dE⟩:=g;dsimp only at c9 dU dE
 have ts:∀ab:Int,0<=ab/\ab<=255->ab≠40->a'+1<=L.length->D (au (oX (aM (m+1)) r fu gG og (Kg (aM (m+1)) r fu gG og m) ab k 8 L a' v2 j_ v' dc gI) λz=>I (.inl (z.1,z.2.1,z.2.2.1,z.2.2.2.1,z.2.2.2.2)))
   (jv (λq=>ho L a cA s q/\a'+1<=q.2.1) (ho L a cA s)):=λab hp dm b'=>
  D.bind (Mc (.inr (.inr (.inr (.inr ⟨rfl,rfl⟩)))) (hu.mono (L8 (g_ _))) hp dm c9 dE U b' U dU U U) λy a9=>D.inl a9
 refine D.bind (kO dE) λc ax=>D.ar (λe=>?_) λ_=>D.ar (λe=>?_) λ_=>D.ar (λe=>?_) λ_=>D.bu (D.ret ⟨c9,dU,dE⟩)
 all_goals
  subst e;exact ts _ ci ci (ax.2 ci)
def avc(aO:iy L K r)(eK:(L.length:Int)<n):iy L (K+1) (nw (aM n) r fu gG):=by
 have hu:∀og,iy L (K+1) (re (aM n) r fu gG og):=λog=>avb aO eK;obtain⟨m,rfl⟩:∃m,n=m+1:=⟨n- 1,U⟩
 intro a v cA v' dc bad s h aQ bZ;show D (OS (aM (m+1)) r fu gG (GF (aM (m+1)) r fu gG m) L a v cA v' dc bad) _;unfold OS;refine D.bind (hu _ _ _ _ _ _ _ _ h aQ bZ) λz aP=>?_;unfold ad2;refine SC z aP λk a' j_ gI v2 g=>?_;obtain⟨c9,dU,dE⟩:=g;dsimp only at c9 dU dE
 have ts:∀ab:Int,0<=ab/\ab<=255->ab≠40->a'+1<=L.length->D (au (oX (aM (m+1)) r fu gG (GF (aM (m+1)) r fu gG m) (re (aM (m+1)) r fu gG (GF (aM (m+1)) r fu gG m)) ab k 7 L a' v2 j_ v' dc gI) λz=>I (.inl (z.1,z.2.1,z.2.2.1,z.2.2.2.1,z.2.2.2.2)))
   (jv (λq=>ho L a cA s q/\a'+1<=q.2.1) (ho L a cA s)):=λab hp dm b'=>
  D.bind (Mc (.inr (.inr (.inr (.inl ⟨rfl,rfl⟩)))) ((hu _).mono (L8 (g_ _))) hp dm c9 dE U b' U dU U U) λy a9=>D.inl a9
 refine D.bind (kO dE) λc ax=>D.ar (λe=>?_) λ_=>D.ar (λe=>?_) λ_=>D.bu (D.ret ⟨c9,dU,dE⟩)
 all_goals
  subst e;exact ts _ ci ci (ax.2 ci)
def avd(aO:iy L K r)(eK:(L.length:Int)<n):iy L (K+1) (OT (aM n) r fu gG):=by
 have hu:∀fu gG,iy L (K+1) (nw (aM n) r fu gG):=λfu gG=>avc aO eK;intro a v cA v' dc bad s h aQ bZ;unfold OT;refine D.bind (hu _ _ _ _ _ _ _ _ _ h aQ bZ) λz aP=>?_;obtain⟨k,a',j_,gI,v2⟩:=z;have g:=aP;obtain⟨c9,dU,dE⟩:=aP.d;dsimp only at c9 dU dE⊢
 have ts:∀ab:Int,0<=ab/\ab<=255->ab≠40->a'+1<=L.length->D (au (oX (aM n) r fu gG (nw (aM n) r fu gG) (re (aM n) r fu gG (nw (aM n) r fu gG)) ab k 6 L a' v2 j_ v' dc gI) λz=>I (z.1,z.2.1,z.2.2.1,z.2.2.2.1,z.2.2.2.2))
   (ho L a cA s):=λab hp dm b'=>
  D.bind (Mc (.inr (.inr (.inl ⟨rfl,rfl⟩))) ((hu _ _).mono (L8 (g_ _))) hp dm c9 dE U b' U dU U U) λy a9=>D.ret a9.1
 refine D.bind (kO dE) λc ax=>D.ar (λe=>?_) λ_=>D.ar (λe=>?_) λ_=>D.ar (λe=>?_) λ_=>D.ar (λe=>?_) λ_=>D.ar (λe=>?_) λ_=>D.ar (λe=>?_) λ_=>D.ret g
 all_goals
  subst e;exact ts _ ci ci (ax.2 ci)
def ave(aO:iy L K r)(eK:(L.length:Int)<n):iy L (K+1) (vt (aM n) r fu):=by
 have key:∀k:Nat,∀js:Int,js<=K+1->js<=k->iy L js (Kh (aM n) r fu k):=by
  intro k;induction k with
  |zero=>intro js _ h;exact iy.zero U
  |succ k bx=>intro js h1 h2 a v cA v' dc bad s h aQ bZ;have aC:=h.len;show D (OU (aM n) r fu (Kh (aM n) r fu k) L a v cA v' dc bad) _;unfold OU;refine D.bind (v7 h) λat_ _=>D.bind (kO h) λc ax=>D.ar (λe=>?_) λ_=>D.bind (avd aO eK _ _ _ _ _ _ _ h aQ U) λz aP=>D.ret aP;subst e;have b':=ax.2 ci;rw[h.lv];refine D.bind (bx (js- 1) U U _ _ _ _ _ _ _ (h.take (g_ _) b') U U) λz aP=>?_;obtain⟨bX,dV,dQ⟩:=aP.d;exact ho.fi dQ ((ko.one bX).af ci lp dg el) (by have:=bX.1;have:=bX.2;omega) U U U
 intro a v cA v' dc bad s h aQ bZ;have:=h.Z;exact key n (min (K+1) n) U U _ _ _ _ _ _ _ h aQ U
def avf(aO:iy L K r)(eK:(L.length:Int)<n):iy L (K+1) (vu (aM n) r):=by
 have hu:∀fu,iy L (K+1) (vt (aM n) r fu):=λfu=>ave aO eK;obtain⟨m,rfl⟩:∃m,n=m+1:=⟨n- 1,U⟩
 intro a v cA v' dc bad s h aQ bZ;show D (OV (aM (m+1)) r (OW (aM (m+1)) r m) L a v cA v' dc bad) _;unfold OV;refine D.bind (hu _ _ _ _ _ _ _ _ h aQ bZ) λz aP=>?_;unfold ad3;refine SC z aP λk a' j_ gI v2 g=>?_;obtain⟨c9,dU,dE⟩:=g;dsimp only at c9 dU dE;refine D.bind (kO dE) λc ax=>D.ar (λe=>?_) λ_=>D.bu (D.ret ⟨c9,dU,dE⟩);subst e;exact D.bind (Mc (.inr (.inl ⟨rfl,rfl⟩)) ((hu _).mono (L8 (g_ _))) ci ci c9 dE U (ax.2 ci) U dU U U) λy a9=>D.inl a9
def avg(aO:iy L K r)(eK:(L.length:Int)<n):iy L (K+1) (OX (aM n) r):=λa v cA v' dc bad s h aQ bZ=>by have hu:iy L (K+1) (vu (aM n) r):=avf aO eK;unfold OX;refine D.bind (hu _ _ _ _ _ _ _ h aQ bZ) λz aP=>?_;unfold ad4;refine SC z aP λk a' j_ gI v2 g=>?_;obtain⟨c9,dU,dE⟩:=g;dsimp only at c9 dU dE;refine D.bind (kO dE) λc ax=>D.ar (λe=>?_) λ_=>D.bu (D.ret ⟨c9,dU,dE⟩);subst e;exact D.bind (Mc (.inl ⟨rfl,rfl⟩) (hu.mono (L8 (g_ _))) ci ci c9 dE U (ax.2 ci) U dU U U) λy a9=>D.inl a9
def avh(eK:(L.length:Int)<n):∀k:Nat,iy L k (Ki (aM n) k):=by
 intro k;induction k with
 |zero=>exact iy.zero U
 |succ k bx=>
  intro a v cA v' dc bad s h aQ bZ;have aC:=h.len;show D (OY (aM n) (Ki (aM n) k) L a v cA v' dc bad) _;unfold OY;refine D.bind (v7 h) λat_ _=>D.bind (kO h) λc ax=>D.ar (λe=>?_) λ_=>D.ar (λe=>?_) λ_=>D.bind (avg bx eK _ _ _ _ _ _ _ h aQ U) λz aP=>D.ret aP
  ·subst e;have b':=ax.2 ci;rw[h.lv];refine D.bind (bx _ _ _ _ _ _ _ (h.take (g_ _) b') U U) λz aP=>?_;obtain⟨bX,dV,dQ⟩:=aP.d;refine D.bind (lS dQ _ ci) λy a9=>?_;refine D.bind (bx _ _ _ _ _ _ _ (dQ.g2 a9.1 a9.2) U U) λai qz=>?_;obtain⟨i1,i2,i3⟩:=qz.d;refine D.bind (lS i3 _ ci) λCp n0=>?_;refine D.bind (bx _ _ _ _ _ _ _ (i3.g2 n0.1 n0.2) U U) λaE ah4=>?_;obtain⟨xJ,BX,avi⟩:=ah4.d;exact ho.fi avi ((((ko.one bX).uN i1).uN xJ).af ci lp dg el) (by have:=bX.1;have:=bX.2;have:=i1.1;have:=i1.2;have:=xJ.1;have:=xJ.2;omega) U U U
  ·subst e;have b':=ax.2 ci;rw[h.lv];have h2:=h.take (g_ _) b';refine D.bind (Cq h2 1 ci) λw hw=>?_;obtain⟨⟨iK,ke⟩,rO⟩:=hw;have ay:=h2.g2 iK ke;refine D.bind (lS ay _ ci) λy a9=>?_;refine D.bind (bx _ _ _ _ _ _ _ (ay.g2 a9.1 a9.2) U U) λz aP=>?_;obtain⟨bX,dV,dQ⟩:=aP.d;refine D.bind (lS dQ _ ci) λCp n0=>?_;refine D.bind (bx _ _ _ _ _ _ _ (dQ.g2 n0.1 n0.2) U U) λai qz=>?_;obtain⟨i1,i2,i3⟩:=qz.d;exact ho.fi i3 (((ko.one bX).uN i1).af ci lp U el) (by have:=bX.1;have:=bX.2;have:=i1.1;have:=i1.2;omega) U U U
def Zl(eK:(L.length:Int)<n):iy L n (Bn (aM n)):=avh eK n
def avj:∀k:Nat,iy L k (Kl (aM n) k):=by
 intro k;induction k with
 |zero=>exact iy.zero U
 |succ k bx=>
  intro a v cA v' dc bad s h aQ bZ;have aC:=h.len;show D (O0 (aM n) (Kl (aM n) k) L a v cA v' dc bad) _;unfold O0;refine D.bind (v7 h) λat_ _=>D.bind (kO h) λc ax=>D.ar (λe=>?_) λ_=>D.bind (kO h) λhX BW=>D.ar (λe=>?_) λ_=>D.bind (kO h) λpE Md=>D.ar (λe=>?_) λ_=>?_
  ·subst e;rw[h.lv];exact ho.fi (h.take (g_ _) (ax.2 ci)) (uO ci ci dg el) (bL _) U U U
  ·subst e;rw[h.lv];exact ho.fi (h.take (g_ _) (BW.2 ci)) (uO ci ci dg el) (bL _) U U U
  ·subst e;have b':=Md.2 ci;rw[h.lv];refine D.bind (bx _ _ _ _ _ _ _ (h.take (g_ _) b') U U) λz aP=>?_;obtain⟨bX,dV,dQ⟩:=aP.d;refine D.bind (lS dQ _ ci) λy a9=>?_;have lj:=dQ.g2 a9.1 a9.2;refine D.bind (Cs lj) λx ak=>?_;have mI:=lj.g2 ak.1.1 ak.1.2;refine D.bind (lS mI _ ci) λCp n0=>?_;exact ho.fi (mI.g2 n0.1 n0.2) ((ko.one bX).af ci lp dg ak.2) (by have:=bX.1;have:=bX.2;omega) U U U
  ·refine D.bind (Cq h 1 ci) λw hw=>?_;exact ho.fi (h.g2 hw.1.1 hw.1.2) (uO ci ci U el) (bL _) hw.1.1 U U
def Zm:iy L n (Km (aM n)):=avj n
end
section
variable {n : Nat} {L : List e'} {a : Int} {cA : List bm} {s K : Int} {v v' : Nat} {dc : List Int} {bad : Bool}
def aiH(h:hK L a cA s)(aQ:s<=500):D (Kk (aM n) L a v cA v' dc bad) (ho L a cA s):=by
 unfold Kk;refine D.bind (v7 h) λat_ _=>D.bind (kO h) λc ax=>D.ar (λe=>?_) λ_=>?_
 ·subst e;rw[h.lv];have h2:=h.take (g_ _) (ax.2 ci);refine D.bind (Cs h2) λz aP=>?_;exact ho.fi (h2.g2 aP.1.1 aP.1.2) (uO ci ci dg (Zk _)) (bL _) U U U
 ·refine D.bind (Cs h) λz aP=>?_;exact ho.fi (h.g2 aP.1.1 aP.1.2) (uO ci ci dg (Zk _)) (bL _) U U U
def aiI(eK:(L.length:Int)<n)(h:hK L a cA s)(aQ:s<=480):D (Kn (aM n) L a v cA v' dc bad) λz=>z' L a cA (s+2) z.1 z.2.2.1 z.2.2.2.1:=by
 unfold Kn ad7;refine D.b1 (λq:List Int×Int×List bm×Bool×Nat×Nat=>z' L a cA s q.1 q.2.1 q.2.2.1) (λq=>((L.length:Int)-q.2.1).toNat) ?_ ⟨ko.nil,g_ _,h⟩;rintro⟨ks,a',j_,gI,v2,yR⟩ ⟨c9,dU,dE⟩;dsimp only at c9 dU dE;refine D.bind (v7 dE) λat_ _=>D.bind (Cq dE 1 ci) λw hw=>?_;obtain⟨⟨iK,ke⟩,rO⟩:=hw;have k3:=dE.g2 iK ke;refine D.bind (lS k3 _ ci) λy a9=>?_;have jY:=k3.g2 a9.1 a9.2;refine D.bind (Zm (n:=n) _ _ _ _ _ _ _ jY U (by have:=jY.Z;omega)) λz aP=>?_;obtain⟨bX,dV,dQ⟩:=aP.d;refine D.bind (L' dQ _) λx ak=>?_;obtain⟨rB,qI⟩:=ak;have mI:=dQ.put (x:=⟨34,w.1,0,[z.1],at_⟩) ((ko.one bX).af ci lp U el) U;rw[<-qI]at mI;have b5:=c9.2;have FW:=bX.1;have SB:=bX.2;have EK:=dQ.len;have w4:x.2.1.length=z.2.2.1.length+1:=by grind
 have pw:ko cA x.2.1 (ks++[x.1]):=c9.uN ⟨U,U⟩;refine D.ae (eX (by grind)) (D.bind (kO mI) λc ax=>D.dB (λ_=>D.bu (D.ret ⟨pw,?_,?_⟩)) λe=>?_)
 ·grind
 ·grind
 ·subst e;have b':=ax.2 ci;rw[dQ.lv];exact D.inl ⟨⟨pw,by grind,(mI.take (g_ _) b').mono U U⟩,by grind⟩
def avk(h:hK L a cA s)(c:ByteArray)(ax:c.size≠0):D (j3 c L a v cA v' dc bad) λz=>(a<=z.1/\z.1<=L.length)/\(bad=ad->z.2=ad):=by unfold j3;refine D.bind (kO h) λz aP=>D.dB (λ_=>D.ret ⟨⟨g_ _,h.an⟩,λ_=>rfl⟩) λe=>D.ret ?_;subst e;have:=aP.2 ax;rw[h.lv];grind
def Aa(L:List e')(a:Int)(s:Int)(z:Int×Int×List bm×Bool×Nat):Prop:=a<=z.2.1/\hK L z.2.1 z.2.2.1 s
def ho.SD{z:Int×Int×List bm×Bool×Nat}{s':Int}(h:ho L a cA s z)(e:s'=s+1):Aa L a s' z:=⟨h.2.1,e▸h.2.2⟩
def avl(eK:(L.length:Int)<n)(h:hK L a cA s)(aQ:s<=400){ab:Int}:D (OZ (aM n) ab L a v cA v' dc bad) λz=>Aa L a (s+1) z:=by
 have he:=Zl (n:=n) eK;unfold OZ;refine D.ae (z:=DD.getD []) rfl ?_;have hlen:(DD.getD []).length=9:=rfl;have avm:∀i:Nat,1<=i->i< 9->∀x,(DD.getD [])[i]? =I x->x.size≠0:=by
  intro i h1 h2 x ak;have ay:((DD.getD []).drop 1).all (λx=>decide (x.size≠0))=ad:=by kernel_rfl
  have bl:=List.all_eq_true.1 ay x (by refine cm (i:=i- 1) ?_;simp_all);simp_all
 unfold ad6;refine D.for 8 (λi (q:Int)=>(((i+1:Nat):Int),q)) (λi q=>0<=q/\q<=8/\(q≠0->a+1<=L.length)) (t0:=0) rfl ⟨by decide,by decide,λh=>absurd rfl h⟩ (λi q hi aB=>?_) λq aB=>?_
 ·refine D.ar (λ_=>D.bind (kO h) λc ax=>D.hA (by omega) λx ak=>D.ar (λe=>D.inl ⟨((i+1:Nat):Int),by rw[bw U],U,U,λ_=>ax.2 (by grind)⟩) λ_=>D.inl ⟨q,by rw[bw U],aB⟩) λh=>absurd (show((i+1:Nat):Int)<((DD.getD []).length:Int) by omega) h
 ·refine D.ar (λh=>absurd h (by omega)) λ_=>D.bu ?_;obtain⟨lu,aIS,avn⟩:=aB;have aB: -9223372036854775808<=q/\q<=9223372036854775807:=by omega
  unfold VF;refine D.ar (λ_=>D.ret ⟨g_ _,h.mono U U⟩) λfM=>?_;have b':=avn fM;rw[h.lv];have h2:=h.take (g_ _) b';refine D.ar (λ_=>?_) λ_=>?_
  ·have e:D _ (ho L a cA s):=ho.fi (v:=v) (v':=v') (dc:=dc) (bad:=bad) h2 (uO (k:=46) (at_:=ab) ci ci dg aB) (bL _) (show a<=a+1 by omega) U U;exact e.mono λz aP=>aP.SD rfl
  ·refine D.bind (he _ _ _ _ _ _ _ h2 U (by have:=h.Z;omega)) λz aP=>?_;obtain⟨bX,dV,dQ⟩:=aP.d;unfold ad5;have tail:∀(ks:List Int)(a':Int)(j_:List bm)(gI:Bool)(v2 yR:Nat),z' L (a+1) cA (s- 7) ks a' j_->D (Kj q ab L v' dc (a',j_,gI,v2,46,ks,yR)) (Aa L a (s+1)):=λks a' j_ gI v2 yR hp=>by
    obtain⟨c9,dU,dE⟩:=hp;have e:D (Kj q ab L v' dc (a',j_,gI,v2,46,ks,yR)) (ho L a cA s):=ho.fi dE (c9.af ci lp dg aB) (by have:=c9.2;omega) U U U;exact e.mono λz aP=>aP.SD rfl
   refine D.b1 (λq:Int×List bm×Bool×Nat×List Int×Nat=>z' L (a+1) cA (s- 7) q.2.2.2.2.1 q.1 q.2.1) (λq=>((L.length:Int)-q.1).toNat) ?_ ⟨ko.one bX,dV,dQ.mono U U⟩;rintro⟨a',j_,gI,v2,ks,yR⟩ g;have⟨c9,dU,dE⟩:=g;dsimp only at c9 dU dE;refine D.ar (λ_=>D.bind (kO dE) λc ax=>D.ar (λe=>?_) λ_=>D.bu (tail ks a' j_ gI v2 yR g)) λ_=>D.bu (tail ks a' j_ gI v2 yR g);subst e;have b':=ax.2 ci;rw[dE.lv];refine D.bind (he _ _ _ _ _ _ _ (dE.take (g_ _) b') U (by have:=dE.Z;omega)) λz aP=>?_;obtain⟨i1,i2,i3⟩:=aP.d;have aIT:=i3.len;have b5:=c9.2;have FW:=i1.1;have SB:=i1.2;exact D.ae (eX (by grind)) (D.inl ⟨⟨c9.uN i1,by omega,i3.mono U U⟩,by omega⟩)
variable {N an at_:Int}{hF:Bool}{ks:List Int}{ir:Int}{w:ByteArray×Int×Bool}{gO:Int×Int×List bm×Bool×Nat}
def SE(eK:(L.length:Int)<n)(ap:ko cA gO.2.2.1 ks)(h:hK L an gO.2.2.1 s)(aQ:s<=400)(a4:a<=an)(hw:w.1.size< 100000)(fz: -9223372036854775808<=N/\N<=9223372036854775807)(C2:s+2<=ir)(bh:ir<=1000):
  D (GI L gO v' dc (aM n) ks w at_ (an,hF,N)) (Aa L a ir):=by
 unfold GI;refine D.bind (lS h _ ci) λy a9=>?_;have h2:=h.g2 a9.1 a9.2;refine D.bind (Zl eK _ _ _ _ _ _ _ h2 U (by have:=h2.Z;omega)) λz aP=>?_;obtain⟨bX,dV,dQ⟩:=aP.d;have:=dQ.len;have:=bX.1;have:=bX.2;have:=ap.2;refine D.ae (eX (by grind)) ?_;have e:D _ (ho L a cA (ir- 1)):=ho.fi (v:=z.2.2.2.2) (v':=v') (dc:=dc) (bad:=z.2.2.2.1) dQ ((ap.uN bX).af (k:=42) (n:=N) (s:=w.1) (at_:=at_) ci lp U fz) U U U U;exact e.mono λz aP=>aP.SD U
def Zn(eK:(L.length:Int)<n)(ap:ko cA gO.2.2.1 ks)(h:hK L an gO.2.2.1 s)(aQ:s<=400)(a4:a<=an)(hw:w.1.size< 100000)(fz: -9223372036854775808<=N/\N<=9223372036854775807)(C2:s+2<=ir)(bh:ir<=1000):
  D (Ko L gO v' dc (aM n) ks w at_ (an,hF,N)) (Aa L a ir):=SE eK ap h aQ a4 hw fz C2 bh
def avo(eK:(L.length:Int)<n)(h:hK L a cA s)(aQ:s<=300):D (O2 (aM n) L a v cA v' dc bad) λz=>Aa L a s z/\(z.2.2.2.1=ad\/a+1<=z.2.1):=by
 have he:=Zl (n:=n) eK;have aC:=h.len;have zI:∀{m:Option (Int×Int×List bm×Bool×Nat)},D m (Aa L (a+1) s)->D m (λz=>Aa L a s z/\(z.2.2.2.1=ad\/a+1<=z.2.1)):=λh=>h.mono λz aP=>⟨⟨by have:=aP.1;omega,aP.2⟩,.inr aP.1⟩
 unfold O2;refine D.bind (kO h) λc ax=>D.bind (v7 h) λat_ _=>D.bind (Zj h) λk ap=>D.dB (λ_=>D.ret ⟨⟨g_ _,h⟩,.inl rfl⟩) λcR=>D.bK (λ_=>?_) λ_=>D.ret ⟨⟨g_ _,h⟩,.inl rfl⟩;have b':a+1<=L.length:=ap U;have h2:=h.take (g_ _) b';rw[h.lv];refine D.ar (λ_=>zI (D.bind (avl eK h2 U) λz aP=>D.ret ⟨aP.1,aP.2.mono U U⟩)) λ_=>zI (D.bind (Cq h2 1 ci) λw hw=>?_);obtain⟨⟨iK,ke⟩,rO⟩:=hw;have ay:=h2.g2 iK ke;have fi:∀{x:bm}{b:Int}{j_:List bm}{v2:Nat}{gI:Bool},hK L b j_ (s- 1)->EZ x j_.length->cA.length<=j_.length->a+1<=b->D (au (jf x L b v2 j_ v' dc gI) λz=>I (z.1,b,z.2.1,gI,z.2.2)) (Aa L (a+1) s):=λc9 dU dE k3=>(ho.fi c9 dU dE k3 (g_ _) U).mono λz aP=>aP.SD U;refine D.ar (λ_=>?_) λ_=>D.ar (λ_=>?_) λ_=>D.ar (λ_=>?_) λ_=>D.ar (λ_=>?_) λ_=>D.ar (λ_=>?_) λ_=>D.ar (λ_=>?_) λ_=>?_
 ·refine D.bind (lS ay _ ci) λy a9=>?_;refine D.bind (aiH (ay.g2 a9.1 a9.2) U) λz aP=>?_;obtain⟨bX,dV,dQ⟩:=aP.d;refine D.bind (lS dQ _ ci) λCp n0=>?_;refine D.bind (aiH (dQ.g2 n0.1 n0.2) U) λai qz=>?_;obtain⟨i1,i2,i3⟩:=qz.d;exact fi (i3.mono U U) (((ko.one bX).uN i1).af ci (λ_=>bL _) U el) (by have:=bX.1;have:=bX.2;have:=i1.1;have:=i1.2;omega) U
 ·refine D.bind (lS ay _ ci) λy a9=>?_;have bl:=ay.g2 a9.1 a9.2;refine D.bind (lS bl _ ci) λCp n0=>?_;refine D.bind (aiI eK (bl.g2 n0.1 n0.2) U) λz aP=>?_;obtain⟨bX,dV,dQ⟩:=aP;refine D.bind (lS dQ _ ci) λMe yF=>?_;exact fi ((dQ.g2 yF.1 yF.2).mono U U) (bX.af ci lp U el) (by have:=bX.2;omega) U
 ·refine D.bind (lS ay _ ci) λy a9=>?_;have bl:=ay.g2 a9.1 a9.2;refine D.bind (kO bl) λhX BW=>D.dB (λ_=>?_) λ_=>?_
  ·refine D.bind (aiI eK bl U) λz aP=>?_;obtain⟨bX,dV,dQ⟩:=aP;refine D.bind (lS dQ _ ci) λMe yF=>?_;have lj:=dQ.g2 yF.1 yF.2;refine D.bind (lS lj _ ci) λavp Mf=>?_;have mI:=lj.g2 Mf.1 Mf.2;refine D.bind (Zm (n:=n) _ _ _ _ _ _ _ mI U (by have:=mI.Z;omega)) λx ak=>?_;obtain⟨i1,i2,i3⟩:=ak.d;have:=i3.len;have:=i1.1;have:=i1.2;have:=bX.2;have kG:=bX.uN i1;refine D.ae (eX (by grind)) (D.bind (kO i3) λpE Md=>D.ar (λe=>?_) λ_=>SE eK kG i3 U U rO el U U);subst e;have b':=Md.2 ci;rw[i3.lv];have i4:=i3.take (g_ _) b';refine D.bind (kO i4) λoS avq=>D.ar (λ_=>?_) λ_=>?_
   ·exact D.bind (Cs i4) λq aB=>SE eK kG (i4.g2 aB.1.1 aB.1.2) U U rO aB.2 U U
   ·exact D.bind (Cs i4) λq aB=>SE eK kG (i4.g2 aB.1.1 aB.1.2) U U rO aB.2 U U
  ·refine D.bind (lS bl _ ci) λMe yF=>?_;have lj:=bl.g2 yF.1 yF.2;refine D.bind (lS lj _ ci) λavp Mf=>?_;have mI:=lj.g2 Mf.1 Mf.2;refine D.bind (Zm (n:=n) _ _ _ _ _ _ _ mI U (by have:=mI.Z;omega)) λx ak=>?_;obtain⟨i1,i2,i3⟩:=ak.d;have kG:=ko.one i1;refine D.ae (eX cW) (D.bind (kO i3) λpE Md=>D.ar (λe=>?_) λ_=>Zn eK kG i3 U U rO el U U);subst e;have b':=Md.2 ci;rw[i3.lv];have i4:=i3.take (g_ _) b';refine D.bind (kO i4) λoS avq=>D.ar (λ_=>?_) λ_=>?_
   ·exact D.bind (Cs i4) λq aB=>Zn eK kG (i4.g2 aB.1.1 aB.1.2) U U rO aB.2 U U
   ·exact D.bind (Cs i4) λq aB=>Zn eK kG (i4.g2 aB.1.1 aB.1.2) U U rO aB.2 U U
 ·refine D.bind (lS ay _ ci) λy a9=>?_;have bl:=ay.g2 a9.1 a9.2;refine D.bind (he _ _ _ _ _ _ _ bl U (by have:=bl.Z;omega)) λz aP=>?_;obtain⟨bX,dV,dQ⟩:=aP.d;exact fi (dQ.mono U U) ((ko.one bX).af ci lp U el) (by have:=bX.1;have:=bX.2;omega) U
 ·refine D.bind (lS ay _ ci) λy a9=>?_;have bl:=ay.g2 a9.1 a9.2;refine D.bind (he _ _ _ _ _ _ _ bl U (by have:=bl.Z;omega)) λz aP=>?_;obtain⟨bX,dV,dQ⟩:=aP.d;exact fi (dQ.mono U U) ((ko.one bX).af ci lp U el) (by have:=bX.1;have:=bX.2;omega) U
 ·exact fi (ay.mono U U) (uO ci ci U el) (bL _) iK
 simp_all
theorem avr(eK:(L.length:Int)<n)(aC:L9 L):D (O3 (aM n) L 0 0 [] 0 [] aS) λz=>(0<=z.1/\z.1<=L.length)/\xl z.2.1/\z.2.1.length<=10000:=by
 unfold O3 ad9;refine D.b1 (λq:Int×List bm×List Int×Bool×Nat×Nat=>hK L q.1 q.2.1 0/\(q.2.2.1.length:Int)<=q.1+(if q.2.2.2.1=ad then 1 else 0)) (λq=>(2*((L.length:Int)-q.1)).toNat+(if q.2.2.2.1=ad then 0 else 1)) ?_ ⟨⟨g_ _,U,xl.nil,by simp,by decide,aC⟩,by simp⟩;rintro⟨a,cA,dc,bad,v,v'⟩ ⟨h,hi⟩;dsimp only at h hi;refine D.bK (λaF=>D.ar (λb'=>?_) λ_=>D.bu (D.ret ⟨⟨h.Z,h.an⟩,h.ok,h.len⟩)) λ_=>D.bu (D.ret ⟨⟨h.Z,h.an⟩,h.ok,h.len⟩);have aF:bad=aS:=by simp_all
 subst aF;refine D.bind (avo eK h ci) λz aP=>?_;obtain⟨⟨aa,ai⟩,aE⟩:=aP;refine D.bind (avk ai _ ci) λy a9=>?_;obtain⟨⟨If,Cp⟩,Me⟩:=a9;have:=aC.1;have:=h.Z;simp only[if_neg (show ¬(aS=ad) by decide)]at hi;refine D.ae (eX (by grind)) (D.inl ⟨⟨ai.g2 If Cp,?_⟩,?_⟩)
 ·grind
 grind
end
section
variable {n : Nat} {s : ByteArray}
variable {dc:List Int}{cA:List bm}
def xl.bs(h:xl cA)(h1:cA.length<=800)(h2:dc.length<=60):cH ⟨cA,dc⟩:=by refine⟨h1,by dsimp only;omega,λx ak=>?_⟩;obtain⟨i,hi⟩:=List.getElem?_of_mem ak;have c4:i<cA.length:=(cz.1 hi).1;have k:=h i x hi;have:=k.len;have:=k.text;exact⟨U,U,k.n.1,k.n.2,k.kind.1,k.kind.2⟩
def avs(h:xl cA){i:Nat}(hi:i<cA.length):∃b,nb ⟨cA,dc⟩ (i:Int)=I b:=by
 have ak:cA[i]? =I cA[i]:=List.getElem?_eq_getElem hi;have k:=h i _ ak;have key:D (nb ⟨cA,dc⟩ (i:Int)) λ_=>True:=by unfold nb;refine D.aH ak (D.ar (λdm=>?_) λ_=>D.ar (λ_=>D.ret trivial) λ_=>D.ar (λ_=>D.ret trivial) λ_=>D.ar (λ_=>D.ret trivial) λ_=>D.ar (λ_=>D.ret trivial) λ_=>D.ar (λ_=>D.ret trivial) λ_=>D.ret trivial);have h2:=k.ts dm;refine D.hA (i:=0) U λa a4=>?_;have py:=k.a8 a (cm a4);refine D.x8 py.1 (by dsimp only;omega) λrB h1=>D.hA (i:=1) U λb aF=>?_;have mF:=k.a8 b (cm aF);exact D.x8 mF.1 (by dsimp only;omega) λqI ay=>D.ret trivial
 obtain⟨b,aF,_⟩:=key;exact⟨b,aF⟩
def Mg(aQ:s.size< 100000)(a6:1000<=n):D (Kq (aM n) s) λz=>z.2.2=0->cH z.1:=by
 unfold Kq;refine D.bind (auZ aQ) λt aj=>D.dB (λh=>D.ret λe=>absurd e h) λ_=>?_;have eK:=aj.1;refine D.bind (avr (n:=n) U aj) λz aP=>?_;obtain⟨a,cA,dc,bad,v,v'⟩:=z;obtain⟨⟨Z,an⟩,kQ,hlen⟩:=aP;dsimp only at Z an kQ hlen⊢;refine D.bK (λaF=>?_) λ_=>D.bK (λ_=>D.ret dF) λ_=>D.bK (λ_=>D.ret dF) λHT=>?_
 ·simp only[Bool.and_eq_true,decide_eq_true_eq]at aF;exact D.x8 Z aF.2 λ_ _=>D.ret λe=>by cases e
 ·simp only[jy,decide_eq_false_iff_not]at HT;have aj:=kQ.bs (dc:=dc) U U;obtain⟨d,_,aG⟩:=RQ (n:=n) aj λi x ak=>(kQ i x ak).a8;refine D.ae aG (D.ar (λ_=>D.ret dF) λ_=>?_);unfold aea;refine D.for cA.length (λi (_:Unit)=>(i:Int)) (λ_ _=>True) (t0:=()) rfl trivial (λi _ hi _=>?_) λ_ _=>D.ar (λh=>absurd h (Int.lt_irrefl _)) λ_=>D.bu (D.ret λ_=>aj);obtain⟨b,aF⟩:=avs (dc:=dc) kQ hi;refine D.ar (λ_=>D.ae aF (D.bK (λ_=>D.hA hi λx _=>D.bu (D.ret dF)) λ_=>D.inl ⟨(),bw U,trivial⟩)) λh=>absurd (Int.ofNat_lt.2 hi) h
end
end Go.Proofs.YtjfgooffdmnnkaaGreatDoor

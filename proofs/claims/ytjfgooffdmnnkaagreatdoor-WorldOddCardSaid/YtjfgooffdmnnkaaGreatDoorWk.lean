/- Lemmas. -/
import Derived.Test.YtjfgooffdmnnkaaGreatDoorWj
set_option linter.all false
set_option maxRecDepth 100000
set_option maxHeartbeats 1000000
namespace Go.Proofs.YtjfgooffdmnnkaaGreatDoor
open Go Go.Mi Go.RowKit Go.Dp
open Int.ofNat renaming inj->fC
open List renaming mem_of_getElem?->cm
open Option renaming bind_some->bE,some->I
structure c2(n:Nat)(t:aZ)(O:Nat->ByteArray):Prop extends EU n t O where
 EY:BI (aM n) t=I 0
 LO:BF (aM n) t=I (⟨c_ t⟩,0,0)
 pf:yk (aM n) t=I (⟨c_ t⟩,0,0)
 auR:zC (aM n) t=I (⟨fQ t O t.nodes.length⟩,0,0)
 p5:wS (aM n) t=I (⟨fQ t O t.nodes.length⟩,0,0)
def v6{n:Nat}{t:aZ}(aj:cH t)(a6:10000000<=n):∃e,BI (aM n) t=I e/\pR (aM n) t=I e/\(e=0->∃O,c2 n t O):=by
 obtain⟨e,r,h1,h2,ay,bl,bO,cX⟩:=atk (n:=n) aj a6;refine⟨e,h1,h2,λhe=>?_⟩;subst he;rcases bO with⟨k,im,he,rfl,_⟩|⟨aR,aY,LO,pf,O,M,P,bH,c5,dz,z5,rfl⟩
 ·simp_all
 ·exact⟨O,⟨⟨aj,aR,aY,bH,a6,M,P,c5,dz,z5⟩,h1,LO,pf,ay,bl⟩⟩
section
variable {n : Nat} {t : aZ} {O : Nat -> ByteArray} {w : List Int}
def auS(a3:Nat->Int):sz t O a3 [] [] []:=⟨λd l h=>(by cases h),λs c h=>(by cases h),λm sp h=>(by cases h)⟩
theorem auT(aK:c2 n t O):Qu (aM n) t=I (.inr (0,t.nodes,t.aD,0,0,0,c_ t,fQ t O t.nodes.length,[],[],[],[])):=by refine D.br ?_;unfold Qu;exact D.ae aK.EY (D.dB (λh=>absurd rfl h) λ_=>D.ae aK.LO (D.ae aK.auR (D.ret rfl)))
variable {a i:Nat}
def auU(aK:c2 n t O)(hi:t.aD[a]? =I (i:Int))(Ir:w.length<=1000000){ks:List Int}(kG:ks=[]\/∃c,ks=[c]/\(af t i).kind=c):
  (jX t w (a+1)=false/\Ht (aM n) t (a:Int) w ks=I (.inl 3))\/(jX t w (a+1)=true/\∃eJ,Iq t w (a+1) eJ/\Ht (aM n) t (a:Int) w ks=I (.inr (0,t.nodes,t.aD,0,0,0,c_ t,fQ t O t.nodes.length,eJ,[],[],[]))):=by
 have aI:=aK.wf.dI;have hd:a<t.aD.length:=(List.getElem?_eq_some_iff.1 hi).1;obtain⟨jH,e,_,n3⟩:=aI.ht.fw _ (cm hi);have e:i=jH:=fC e;subst e;obtain⟨⟨b,eJ⟩,aP,h1,h2⟩:=auQ (n:=n) (p:=a+1) (ci:=c_ t) (kN:=fQ t O t.nodes.length) (L:=[]) (W:=[]) (S:=[]) aK.ok aK.wf U Ir (q:=(a:Int)) U;have gM:Eg (aM n) (a:Int) w (0,t.nodes,t.aD,0,0,0,c_ t,fQ t O t.nodes.length,[],[],[],[]) false=if b=true then I (.inr (0,t.nodes,t.aD,0,0,0,c_ t,fQ t O t.nodes.length,eJ,[],[],[]))else I (.inl 3):=by unfold Eg;rw[if_neg ci];dsimp only;rw[aP,bE];cases b<;>rfl
 have CO:Ht (aM n) t (a:Int) w ks=Eg (aM n) (a:Int) w (0,t.nodes,t.aD,0,0,0,c_ t,fQ t O t.nodes.length,[],[],[],[]) false:=by
  unfold Ht;rw[auT aK,bE];simp only[Sum.elim_inr];rw[if_neg ci,if_neg dZ];rcases kG with rfl|⟨c,rfl,ax⟩
  ·rfl
  ·rw[if_pos cW,e7 hi,bE,b8 n3,bE,ag9 cW,bE,show decide ((af t i).kind∈[c])=true by simp[ax]];rfl
 grind
variable {eJ:sy}{p:Nat}
def auV(aI:dD t)(hi:t.aD[a]? =I (i:Int))(uG:a<=p)(h:Iq t w p eJ):∀d:Nat,(af t d).kind=40->d<i->(eE eJ (d:Int)).getD 0=k' t w d:=by
 intro d ap aG;have c4:i<t.nodes.length:=by obtain⟨jH,e,_,n3⟩:=aI.ht.fw _ (cm hi);omega
 have hm:=B4 aI (show d<t.nodes.length by omega) (by rw[ap];rfl);obtain⟨b,aF⟩:=List.getElem?_of_mem hm;have:=(B1 aI.ht.r8 aF hi).1 U;rw[h d ap (cm (i:=b) dZ)];rfl
def auW(aK:c2 n t O)(hi:t.aD[a]? =I (i:Int))(uG:a<p)(i_:Iq t w p eJ){st op bi:Int}{L:ix}{W:ph}{S:bS}(cS:az st=st)(bh:0<=op)(h1:op<=bi)(h2:op<=100000)(fG:sz t O (k' t w) L W S):
  D (Q5 (aM n) (i:Int) t.nodes t.aD st op bi (c_ t) (fQ t O t.nodes.length) eJ L W S) λz=>z.1=kM t O (k' t w) i/\z.2.1=az (st+((rC t O (k' t w) i).1:Int))/\z.2.2.1=op/\z.2.2.2.1=max bi (op+((rC t O (k' t w) i).2:Int))/\sz t O (k' t w) z.2.2.2.2.1 z.2.2.2.2.2.1 z.2.2.2.2.2.2:=by
 have aj:=aK.ok;have aR:=aK.wf;have aY:=aK.mw;have bH:=aK.oD;have aI:=aR.dI;have bZ:=aK.toEU;obtain⟨jH,e,_,n3⟩:=aI.ht.fw _ (cm hi);have e:i=jH:=fC e;subst e;have j7:=aj.af n3;have gL:=dJ n3;have sW:max bi (op+((0:Nat):Int))=bi:=by omega
 unfold Q5;refine D.ae (b8 n3) (D.ar (λdm=>?_) λdm=>?_)
 ·have b5:eE eJ (i:Int)=I (k' t w i):=i_ i dm (cm (i:=a) dq);have Zi:rC t O (k' t w) i=(0,0):=by unfold rC;rw[if_neg (show ¬xk (af t i).kind by omega)]
  simp_all[D.ae,uJ,D.ret,kM,if_pos,az,Int.add_zero]
 ·by_cases nf:xk (af t i).kind
  ·have aiE:Hu (af t i).kind=I true:=by
    unfold Hu;grind
   have Zi:rC t O (k' t w) i=(((n5 t O (k' t w) (bn t i)).map (·.2.1)).sum,ng ((n5 t O (k' t w) (bn t i)).map (·.2.2))):=by unfold rC;rw[if_pos nf]
   have auX:kM t O (k' t w) i=(hV t O (k' t w) (λ_=>[]) (-1) 0 (bn t i)).1:=by unfold kM hV;rw[if_neg dm,if_pos nf];dsimp only;rw[List.flatMap_def,List.map_map];rfl
   rw[Zi,auX];have R4:∀q∈(af t i).a8,∃m:Nat,q=m/\qr t O i 9999999 i (λ_=>[]) (-1) 0 [] m:=by
    intro q aB;rw[<-gL]at aB;obtain⟨m,rfl,hm,hC,ak,aO,dH,mX,_⟩:=Y' (a3:=k' t w) aj aR aY bH n3 nf aB;have nM:(d' t m).1=[]:=by
     rw[l_ aI U (ny aI n3 aB),sn n3 ((vQ aI n3).2 (cm hi))];unfold xk at nf;have:hl t i m=[]:=by unfold hl;rw[if_neg (show ¬(af t i).kind=20 by omega),if_neg (show ¬(af t i).kind=42 by omega)];split<;>rfl
     simp_all
    exact⟨m,rfl,hm,hC,.inl ak,hC.ed aj aR aY,dH,λd aG=>dq,U,λd aG=>dq⟩
   refine D.ae aiE (D.bK (λ_=>D.ae (show KT=I (-1,0,[])from rfl) (D.bind (auP bZ (auV aI hi (Nat.le_of_lt uG) i_) (af t i).a8 i (λ_=>[]) (-1) 0 st op bi L W S [] R4 j7 cS fG bh h1 U) λz aP=>D.ret ⟨?_,?_,aP.Sw,?_,aP.EW⟩)) dF)
   ·rw[gL];exact aP.val
   ·rw[gL];exact aP.Sv
   ·rw[gL];exact aP.qs
  ·have aiE:Hu (af t i).kind=I false:=by
    simp_all[Hu,Bool.or_eq_false_iff,decide_eq_false_iff_not,xk]
   have Zi:rC t O (k' t w) i=(0,0):=by unfold rC;rw[if_neg nf]
   simp_all[D.ae,D.bK,D.ret,kM,if_neg,az,Int.add_zero]
def auY(aK:c2 n t O)(a3:Nat->Int)(hi:i<t.nodes.length)(ap:(af t i).kind=44):∃v,(kM t O a3 i)[0]? =I v:=by
 have aj:=aK.ok;have aR:=aK.wf;have aY:=aK.mw;have bH:=aK.oD;have aI:=aR.dI;have aC:=n2 aI hi U;obtain⟨r,h1,h2⟩:=o7 aI hi U;have aO:r=[]:=by simp_all[congrArg,List.length,dJ,List.length_cons,List.eq_nil_of_length_eq_zero]
 have nf:xk (af t i).kind:=by omega
 obtain⟨m,e,hm,hC,ak,_,dH,_,_⟩:=Y' (a3:=a3) aj aR aY bH hi nf (show(eL t i:Int)∈bn t i by simp_all);have e:eL t i=m:=fC e;obtain⟨bv,_,_,dE,k3,jY,_⟩:=oz aj aR aY bH (show m<t.nodes.length by omega) (.inl ak);have bp:=EN (a3:=a3) aj aR aY bH _ m _ _ _ (Nat.lt_succ_self _) hC (.inl ak) dH;refine⟨ij (bB t O a3 m (λ_=>[]) (-1) 0).1,?_⟩;unfold kM;rw[if_neg U,if_pos nf,h1,aO];simp only[List.map_cons,List.map_nil,List.flatten_cons,List.flatten_nil,List.append_nil,Int.toNat_natCast];rw[e];exact(bp.aG U).2
def L7(aK:c2 n t O)(hi:t.aD[a]? =I (i:Int))(Ir:w.length<=1000000)(ap:(af t i).kind=44):
  (jX t w (a+1)=false/\qx (aM n) t (a:Int) w=I (false,3))\/(jX t w (a+1)=true/\∃b,qx (aM n) t (a:Int) w=I (b,0)/\yy (aM n) t (a:Int) w=I b):=by
 have aI:=aK.wf.dI;obtain⟨jH,e,_,n3⟩:=aI.ht.fw _ (cm hi);have e:i=jH:=fC e;subst e;rcases auU aK hi Ir (.inr ⟨44,rfl,ap⟩)with⟨bg,aQ⟩|⟨bg,eJ,i_,aQ⟩
 ·simp_all[qx,bE]
 ·obtain⟨z,aP,h1,_⟩:=auW aK hi (Nat.lt_succ_self a) i_ (st:=0) (op:=0) (bi:=0) rfl (Int.le_refl _) (Int.le_refl _) U (auS _);obtain⟨v,bp⟩:=auY aK (k' t w) n3 ap;refine .inr ⟨bg,_,?_,auo aK.ok aK.wf aK.mw aK.oD aK.p_ aK.pf aK.p5 hi bg bp⟩;unfold qx;rw[aQ,bE];simp only[Sum.elim_inr];rw[if_neg ci,e7 hi,bE,aP,bE,h1,show(0:Int)=((0:Nat):Int)from rfl,e7 bp];rfl
end
end Go.Proofs.YtjfgooffdmnnkaaGreatDoor

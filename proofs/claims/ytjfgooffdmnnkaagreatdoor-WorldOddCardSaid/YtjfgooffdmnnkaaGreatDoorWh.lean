/- Lemmas. -/
import Derived.Test.YtjfgooffdmnnkaaGreatDoorWg
set_option linter.all false
set_option maxRecDepth 100000
set_option maxHeartbeats 1000000
namespace Go.Proofs.YtjfgooffdmnnkaaGreatDoor
open Go Go.Mi Go.RowKit Go.Dp
open Int renaming toNat_natCast->dA
open Int.ofNat renaming inj->fC
open List renaming getElem?_eq_getElem->bN,mem_of_getElem?->cm,getElem?_map->gQ,mem_of_mem_tail->Y5,eq_nil_of_length_eq_zero->pr,mem_of_find?_eq_some->zL,getElem?_of_mem->hf,pairwise_cons->Cb,length_take->fF,length_cons->oa,mem_append->h3,length_map->hI,append_nil->iZ,sum_cons->z8,map_cons->hH,sum_nil->z9,map_nil->qp,length->sI
open Nat renaming le_refl->bL,mul_comm->oR,zero_le->fR
open Option renaming some->I,bind->au
open Option.some renaming inj->rS
def Y6{k:Int}{a b:b6}(a4:jc a)(aF:jc b):jc (EL k a b):=by
 unfold EL
 repeat' split
 all_goals simp_all[YX,YT]
section
variable {t : aZ} {O : Nat -> ByteArray} {a3 : Nat -> Int}
variable (aj : cH t) (aR : fZ t) (aY : ∀ i, i < t.nodes.length -> gS t i = 0) (bH : mv t O t.nodes.length)
include aj aR aY bH
theorem p6{j i:Nat}(ag:j<t.nodes.length)(hi:i<(af t j).a8.length):(bz t j i:Int)∈bn t j/\(bn t j)[i]? =I (bz t j i:Int):=by have gL:=dJ ag;have aB:(bn t j)[i]? =I ((bn t j)[i]'dq):=bN _;obtain⟨m,e,_⟩:=jz aR.dI ag (cm aB);grind[bz,Ij,cm]
theorem sw{j i:Nat}(ag:j<t.nodes.length)(hi:i<(af t j).a8.length):(ec t O j)[i]? =I (O (bz t j i)):=by grind[ec,p6]
theorem EN:∀(k j:Nat)(fr:hr)(f:Int)(e:Nat),ed t e j<k->hZ t f e j->md t j->iH t O fr j->kL (bB t O a3 j fr f e).1 (gv t (O j)):=by
 have aI:=aR.dI;intro k;induction k with
 |zero=>omega
 |succ k bx=>
  intro j fr f e pu hC eg dH;have ag:=hC.1;have gL:=dJ ag;have tA:(af t j).kind≠20->(af t j).kind≠42->∀q∈bn t j,kL (bB t O a3 q.toNat fr f e).1 (gv t (O q.toNat)):=by intro nz c7 q aB;obtain⟨m,rfl,_,h1,h2⟩:=hC.lQ aj aR aY aB;exact bx m fr f e U h1 (tz aj aR aY ag eg aB) (dH.lQ aj aR aY ag aB ⟨nz,c7⟩)
  have xf:(af t j).kind≠20->(af t j).kind≠42->∀i,i<(af t j).a8.length->kL (bB t O a3 (bz t j i) fr f e).1 (gv t (O (bz t j i))):=λnz c7 i hi=>tA nz c7 (bz t j i:Int) (p6 aj aR aY bH ag hi).1;rw[yO aj aR aY hC eg];unfold mz;rcases Or.symm eg with Lw|eg
  ·rw[if_neg U,if_neg U,if_neg U,if_neg U];dsimp only;rw[if_neg (show ¬(af t j).kind=4 by omega),if_neg (show ¬(af t j).kind=5 by omega),if_neg (show ¬(6<=(af t j).kind/\(af t j).kind<=16) by omega),if_neg (show ¬(af t j).kind=21 by omega),if_neg (show ¬(af t j).kind=22 by omega),if_neg (show ¬(af t j).kind=23 by omega)];have:=Cg aj aR aY bH (tA U U);have aC:ec t O j=[O (eL t j)]:=by
    obtain⟨r,h1,_⟩:=o7 aI ag (by simp_all[n2]);have aO:r=[]:=by have h2:=congrArg sI h1;grind[n2,pr,oa]
    unfold ec;grind
   rw[aC]at this;rw[bH.put j ag Lw];simp_all
  ·have aO:=bH.EG j ag eg;have sO:(ec t O j).length=(af t j).a8.length:=vX ag;cases aO with
   |num h dg=>rw[if_pos (.inl h),dg,EM];grind[kL.one,Ig,Y4]
   |bool h dg=>rw[if_pos (.inr h),dg,yP];grind[kL.one,Ig,Y4]
   |zS h d aG ap dg=>simp_all[if_neg,if_pos,EM,dA,uK,kL.one,ahV]
   |zT h d aG ap dg=>rw[if_neg U,if_pos h,aG,dA];unfold uK;rw[if_neg U,if_neg U];have gu:=Sk aj aR aY ag h aG (.inr ap);have ay:=(dH d gu).2 ap;grind[ag5,fC,tx,w_]
   |zU h d aG ap lt dg=>
    rw[if_neg U,if_pos h,aG,dA];unfold uK;rw[if_neg U];rcases ap with ap|ap
    ·rw[if_pos ap,dg];obtain⟨db,uL,gu⟩:=zR aj aI ag (aY j ag) (by rw[h];rfl);have a2:d=db:=fC (aG.symm.trans uL);subst a2;obtain⟨h1,_,h2,ay⟩:=Si aj aR aY gu.lt ap;have UU:=Y0 aj aR aY hC (gu.kk aI U).2 ap;refine bx _ _ _ _ U h1 (.inl ay) (iH.kk aj aR gu.lt (by rw[ap];rfl) U ?_ _);obtain⟨r,bl,_⟩:=o7 aI gu.lt (by rw[n2 aI gu.lt U];omega);simp_all
    ·rw[if_neg U,dg];exact(dH d (Sk aj aR aY ag h aG (.inl ap))).1 ap
   |lt h x ap=>
    rw[if_neg U,if_neg U,if_pos h];have aC:=w7 aI ag h;have bh:=p6 aj aR aY bH ag (i:=0) U;have h1:=p6 aj aR aY bH ag (i:=1) U;have fW:=sw aj aR aY bH ag (i:=1) U;rw[ap]at fW;have a2:O (bz t j 1)=O j:=(rS fW).symm;obtain⟨y9,lu,_,fS,xj⟩:=hC.lQ aj aR aY bh.1;have lu:bz t j 0=y9:=fC lu;obtain⟨nG,ea,_,fe,v4⟩:=hC.lQ aj aR aY h1.1;have ea:bz t j 1=nG:=fC ea;rw[<-lu]at fS xj;rw[<-ea]at fe v4;have uy:eL t j=bz t j 0:=by obtain⟨r,bl,_⟩:=o7 aI ag U;grind
    have v0:=bx (bz t j 0) fr f e U fS (tz aj aR aY ag (.inl eg) bh.1) (dH.LS aj aR aY ag h);rw[<-a2];exact bx _ _ _ _ U fe (tz aj aR aY ag (.inl eg) h1.1) (dH.LU aj aR aY ag h dq)
   |bK h ap=>
    rw[if_neg U,if_neg U,if_neg U,if_pos (.inr (.inr h))];have aC:(af t j).a8.length=3:=by simp_all
    have v0:=xf U U 0 U;have v1:=xf U U 1 U;have v2:=xf U U 2 U;have fW:=sw aj aR aY bH ag (i:=1) U;have jj:=sw aj aR aY bH ag (i:=2) U;grind[bz,rS,kL.Y1,xh]
   |zW h ap dg=>
    have hw:gv t (O j)=1:=by rw[dg,yP]
    have aF:=(LK fx (ec t O j)).1 ap;by_cases bO:(af t j).kind=5
    ·rw[if_neg U,if_neg U,if_neg U,if_neg U];dsimp only;rw[if_neg U,if_pos bO,hw];exact kL.one (YT (xh (Cg aj aR aY bH (tA U U))))
    ·rw[if_neg U,if_neg U,if_neg U,if_pos U];have aC:=z0 aI ag U;have v0:=xf U U 0 U;have v1:=xf U U 1 U;have fW:=sw aj aR aY bH ag (i:=1) U;rw[aF _ (cm fW),yP]at v1;rw[hw];dsimp only;split
     ·exact kL.Y1 (xh v0) _
     ·split
      ·exact v1
      ·rw[if_neg U];exact kL.one (YQ _)
   |zV h ap dg=>
    have hw:gv t (O j)=1:=by rw[dg,EM]
    rw[if_neg U,if_neg U,if_neg U,if_neg U];have bp:=Cg aj aR aY bH (tA U U);have uH:jc (ij (((bn t j).map λq=>bB t O a3 q.toNat fr f e).flatMap (·.1)).tail):=by refine xh (w:=_) ⟨rfl,λv z7=>bp.2 v (Y5 z7)⟩
    dsimp only;rw[hw];by_cases bl:(af t j).kind=4
    ·rw[if_pos bl];exact kL.one (YT (xh bp))
    ·rw[if_neg bl,if_neg U,if_pos U];exact kL.one (Y6 (xh bp) uH)
   |br h ap dg=>
    have hw:gv t (O j)=1:=by rw[dg,yP]
    rw[if_neg U,if_neg U,if_neg U,if_neg U];have bp:=Cg aj aR aY bH (tA U U);have uH:jc (ij (((bn t j).map λq=>bB t O a3 q.toNat fr f e).flatMap (·.1)).tail):=by refine xh (w:=_) ⟨rfl,λv z7=>bp.2 v (Y5 z7)⟩
    dsimp only;rw[hw,if_neg U,if_neg U,if_pos U];exact kL.one (Y6 (xh bp) uH)
   |zX h ap dg=>
    have hw:gv t (O j)=1:=by rw[dg,yP]
    rw[if_neg U,if_neg U,if_neg U,if_neg U];have bp:=Cg aj aR aY bH (tA U U);have uH:jc (ij (((bn t j).map λq=>bB t O a3 q.toNat fr f e).flatMap (·.1)).tail):=by refine xh (w:=_) ⟨rfl,λv z7=>bp.2 v (Y5 z7)⟩
    dsimp only;rw[hw,if_neg U,if_neg U,if_pos U];exact kL.one (Y6 (xh bp) uH)
   |call h d aG c7 ap dg=>
    rw[if_neg U,if_neg U,if_neg U,if_neg U];dsimp only;rw[if_neg U,if_neg U,if_neg U,if_pos h,aG,dA];obtain⟨db,uL,fh,_,ax⟩:=hC.call aj aR aY h;have a2:d=db:=fC (aG.symm.trans uL);subst a2;by_cases dL:(af t d).n<(hD t j f e:Int)
    ·simp_all[if_pos,kL.Y1,Se]
    ·rw[if_neg dL];obtain⟨fe,v4,_⟩:=ax dL;have aF:=(rx aj aI fh c7).2.2;rw[dg,<-bH.fn d fh c7];refine bx _ _ _ _ U fe (.inl aF) (iH.call aj aR fh c7 λa m a4=>?_);have JB:(ec t O j)[a]? =I (e9 t m).b9:=by simp_all[vU,gQ]
     have hd:a<(af t j).a8.length:=by grind
     obtain⟨ea,fN⟩:=p6 aj aR aY bH ag hd;have jZ:=sw aj aR aY bH ag hd;rw[JB]at jZ;have v:=xf U U a hd;rw[<-rS jZ]at v;obtain⟨q,bc,_,j8,_⟩:=xa aj aI fh c7 a4;have bc:m=q:=fC bc;subst bc;have hO:m<t.nodes.length:=by omega
     grind[tx,w_,bB,bz]
   |field h s r ap aO q aB dg=>
    rw[if_neg U,if_neg U,if_neg U,if_neg U];dsimp only;rw[if_neg U,if_neg U,if_neg U,if_neg U,if_pos h];have aC:=n2 aI ag (.inr (.inr (.inl h)));have h0:=sw aj aR aY bH ag (i:=0) U;rw[ap]at h0;have es:O (bz t j 0)=s:=(rS h0).symm;rw[es,aO];dsimp only;rw[aB];dsimp only;have bp:=Cg aj aR aY bH (tA U U);rw[ap]at bp;have k0:=p6 aj aR aY bH ag (i:=0) U;obtain⟨bv,h1,h2,ay,bl,bO,cX⟩:=oz aj aR aY bH (j:=bz t j 0) (by grind[jz,bz,fC]) (tz aj aR aY ag (.inl eg) k0.1);rw[es]at h1 ay;have iG:bv=.ik s:=by
     obtain⟨gR,_,gG,og⟩:=qD aI aO;have i_:gP s:=by grind[EA,EB]
     exact ft.inj h2 (show(ft.ik s).ok from i_) h1.symm
    subst iG;have HQ:=Y3 aj aR aY bH cX aO;have sP:=Y2 aj aR aY bH (af t j).text (bn t r) 0 q aB;have hw:gv t (O j)=gC t (e9 t q.toNat):=by obtain⟨gR,_,gG,_⟩:=qD aI aO;obtain⟨m,rfl,hm,j8⟩:=vV aj aI gR gG (zL aB);rw[dg,dA,tx (w_ aj aR U j8).1]
    rw[hw];have JE:=bp.1;simp only[hH,qp,z8,z9]at JE;rw[ay,HQ]at JE;refine⟨?_,λv z7=>bp.2 v (List.mem_of_mem_drop (List.mem_of_mem_take z7))⟩;grind
   |index h cd cV ap dg=>
    rw[if_neg U,if_neg U,if_neg U,if_neg U];dsimp only;rw[if_neg U,if_neg U,if_neg U,if_neg U,if_neg U,if_pos h];have aC:=z0 aI ag (.inr (.inr h));have v0:=xf U U 0 U;have v1:=xf U U 1 U;have h0:=sw aj aR aY bH ag (i:=0) U;rw[ap]at h0;have es:O (bz t j 0)=(ft.hn cd cV).b9:=(rS h0).symm;have k0:=p6 aj aR aY bH ag (i:=0) U;obtain⟨bv,h1,h2,ay,bl,bO,cX⟩:=oz aj aR aY bH (j:=bz t j 0) (by grind[jz,bz,fC]) (tz aj aR aY ag (.inl eg) k0.1);rw[es]at h1 ay;obtain⟨EO,dV,rfl⟩:=(ft.bh h2).1 (by rw[<-h1];exact sq _ _);have cR:cd.b9=EO.b9:=(Lp h1).1;obtain⟨c',ea,fN,jZ⟩:=H_ (d:=2*t.nodes.length+1) cX;have wz:=Cf ea U;have hw:gv t (O j)=gC t EO:=by rw[dg,cR,tx h2.1]
    rw[es,ay,jZ,<-wz,oR]at v0;rw[hw];exact⟨atx v0.1,aty v0.2 (xh v1)⟩
   |zY h r aG aO a6 ap dg=>
    rw[if_neg U,if_neg U,if_neg U,if_neg U];dsimp only;rw[if_neg U,if_neg U,if_neg U,if_neg U,if_neg U,if_neg U];have bp:=Cg aj aR aY bH (tA U U);obtain⟨bv,h1,h2,ay,bl,bO,cX⟩:=oz aj aR aY bH ag (.inl eg);have i_:=EA aI ag (EB _ U);have iG:bv=.ik (af t j).text:=ft.inj h2 (show(ft.ik (af t j).text).ok from i_) (by rw[<-h1,dg];rfl);subst iG;have HQ:=Y3 aj aR aY bH cX aO;obtain⟨gR,_,gG,_⟩:=qD aI aO;have hm:(ec t O j).map (gv t)=(bn t r).map λq=>gC t (e9 t q.toNat):=by grind[o9,List.map_map,List.map_congr_left,vV,tx,w_]
    simp_all
   |hn h x ap dg=>
    rw[if_neg U,if_neg U,if_neg U,if_neg U];dsimp only;rw[if_neg U,if_neg U,if_neg U,if_neg U,if_neg U,if_neg U];have bp:=Cg aj aR aY bH (tA U U);obtain⟨bv,h1,h2,ay,bl,bO,cX⟩:=oz aj aR aY bH ag (.inl eg);rw[dg]at h1;obtain⟨EO,dV,rfl⟩:=(ft.bh h2).1 (by rw[<-h1];exact sq _ _);obtain⟨cR,go⟩:=Lp h1;have aIz:=aho aR ag h;have gN:(bn t j).length=dV:=X' dq h2.2 go;obtain⟨c',ea,fN,jZ⟩:=H_ (d:=2*t.nodes.length+1) cX;have wz:=Cf ea U;have ak:gv t x=gC t EO:=by rw[cR,tx h2.1]
    rw[atI aj aR aY bH ap,ak]at bp;rw[ay,jZ,<-wz];refine⟨?_,bp.2⟩;rw[bp.1,List.sum_replicate_nat,vX ag,<-gL,gN]
end
theorem tB(a b:Int):az (az a+b)=az (a+b):=by grind[az,IntKind.wrap,IntKind.signed,IntKind.bits]
def tC:List Int->List (List b6)->Int->List b6->List b6
 |d::ds,c::cs,x,acc=>tC ds cs x (if d=x then c else acc)
 |_,_,_,acc=>acc
theorem aib:∀{ds:List Int}{cs:List (List b6)}{p x:Int}{l acc:List b6},ds.length=cs.length->tC (ds++[p]) (cs++[l]) x acc=if p=x then l else tC ds cs x acc:=by
 intro ds;induction ds with
 |nil=>
  intro cs p x l acc h;cases cs with
  |nil=>rfl
  |cons c cs=>cases h
 |cons d ds bx=>
  intro cs p x l acc h;cases cs with
  |nil=>cases h
  |cons c cs=>exact bx dZ
def atJ:∀{ds:List Int}{cs:List (List b6)}{i:Nat}{x d:Int}{c acc:List b6},ds[i]? =I d->cs[i]? =I c->ds.length=cs.length->tC (ds.take (i+1)) (cs.take (i+1)) x acc=if d=x then c else tC (ds.take i) (cs.take i) x acc:=by simp_all[da,aib]
noncomputable def kM(t:aZ)(O:Nat->ByteArray)(a3:Nat->Int)(i:Nat):List b6:=
 if(af t i).kind=40 then [n4 (a3 i)]else if(af t i).kind=43\/(af t i).kind=44\/(af t i).kind=46 then((bn t i).map λq=>(bB t O a3 q.toNat (λ_=>[]) (-1) 0).1).flatten else []
def tD(t:aZ)(O:Nat->ByteArray)(a3:Nat->Int)(dc:List (List b6))(R:Nat):Prop:=
 dc.length<=t.aD.length/\∀(i q:Nat),t.aD[i]? =I (q:Int)->(i<dc.length->dc[i]? =I (kM t O a3 q))/\(q<R->i<dc.length)
structure p7(t:aZ)(F:nT)(fr:hr)(j:Nat):Prop where
 len:F.kS.length=F.cells.length
 jW:F.kS.length+j<=2000
 ae:∀d:Nat,(d:Int)∈(d' t j).1->(af t d).kind=20\/(af t d).kind=34->tC F.kS F.cells d []=fr d
section
variable {n : Nat} {t : aZ} {O : Nat -> ByteArray} {a3 : Nat -> Int}
variable {F:nT}
def atK(aC:F.kS.length=F.cells.length)(h2:F.kS.length<=100000)(x:Int):Q' (aM n) F x=I (tC F.kS F.cells x []):=by
 refine D.br ?_;unfold Q' af9;refine D.for F.kS.length (λi (o:List b6)=>(o,(i:Int))) (λi o=>o=tC (F.kS.take i) (F.cells.take i) x []) (t0:=[]) rfl rfl (λi o hi a7=>?_) λo a7=>?_
 ·subst a7;obtain⟨d,aG⟩:∃d,F.kS[i]? =I d:=⟨_,bN hi⟩
  obtain⟨c,ax⟩:∃c,F.cells[i]? =I c:=⟨_,bN U⟩
  have b5:=atJ (x:=x) (acc:=[]) aG ax aC;refine D.ar (λ_=>D.aH aG (D.ar (λe=>D.aH ax (D.inl ⟨_,by rw[bw U],?_⟩)) λe=>D.inl ⟨_,by rw[bw U],?_⟩)) d_
  ·rw[b5,if_pos e]
  simp_all
 simp_all[D.ar,absurd,D.inr,List.take_of_length_le,bL]
def aic(h1:F.kS.length<=100000)(h2:F.cells.length<=100000)(p:Int)(l:List b6):La F p l=I ⟨F.kS++[p],F.cells++[l]⟩:=by refine D.br ?_;unfold La;grind[D.ae,eX,D.ret]
variable (aj : cH t) (aR : fZ t) (aY : ∀ i, i < t.nodes.length -> gS t i = 0)
include aj aR aY
theorem atL{d:Nat}(aG:d<t.nodes.length)(ap:(af t d).kind=43):kM t O a3 d=(bB t O a3 (eL t d) (λ_=>[]) (-1) 0).1:=by
 have aI:=aR.dI;have aC:=n2 aI aG U;obtain⟨r,h1,_⟩:=o7 aI aG U;have aO:r=[]:=by simp_all[congrArg,sI,dJ,oa,pr]
 simp_all[kM,if_neg,if_pos]
theorem atM{dc:List (List b6)}{F:nT}{fr:hr}{j:Nat}{f:Int}{e:Nat}(hC:hZ t f e j)(ap:(af t j).kind=3)(ml:tD t O a3 dc (d' t j).2)(mX:p7 t F fr j){cI:List ByteArray}{wd oA:List Int}{lR:Nat}{a b c:Int}:
  Ra (aM n) (j:Int) F t.nodes t.aD (c_ t) cI wd oA lR dc a b c=I (uK t a3 (bB t O a3) fr (fE t j).toNat):=by
 have aI:=aR.dI;have ey:=aj.aD;have ag:=hC.1;obtain⟨d,aG,gu⟩:=zR aj aI ag (aY j ag) (by rw[ap];rfl);have aQ:=gu.EE;unfold l9 at aQ;rw[ap]at aQ;simp only[decide_true,if_true,Bool.or_eq_true,decide_eq_true_eq]at aQ;have p4:aH (c_ t) (j:Int)=I (d:Int):=by rw[zZ ag,aG]
 rw[aG,dA];refine D.br ?_;unfold Ra;refine D.ae p4 ?_;unfold aga;by_cases aIA:(af t d).kind=40\/(af t d).kind=43
 ·obtain⟨n3,b'⟩:=gu.kk aI U;obtain⟨Z,aid⟩:=hf n3;have aO:=(Et aI j ag).2.2.1;obtain⟨c9,dU⟩:=ml.2 Z d aid;have hd:=dU U;have jh:kM t O a3 d=uK t a3 (bB t O a3) fr d:=by
   unfold uK;by_cases dm:(af t d).kind=40
   ·rw[if_pos dm];unfold kM;rw[if_pos dm]
   ·rw[if_neg dm,if_pos U];grind[atL]
  refine D.for dc.length (λi (_:Unit)=>(i:Int)) (λi _=>i<=Z) (t0:=()) rfl (fR _) (λi _ hi a7=>?_) λ_ a7=>?_
  ·have c4:i<t.aD.length:=by grind
   obtain⟨q,aB⟩:∃q,t.aD[i]? =I q:=⟨_,bN c4⟩
   refine D.ar (λ_=>D.aH aB (D.ar (λe=>?_) λe=>D.inl ⟨(),by rw[bw U],?_⟩)) d_
   ·have:i=Z:=by
     rw[e]at aB;have h1:=B1 aI.ht.r8 aB aid;omega
    simp_all[D.aH,D.inr]
   grind
  ·omega
 ·have atN:=Sk aj aR aY ag ap aG U;have C9:(d:Int) ∉ t.aD:=λh=>by
   have:=Lu aI gu.lt h;rcases(show(af t d).kind=20\/(af t d).kind=34 by omega)with q|q<;>(rw[q]at this;cases this)
  refine D.for dc.length (λi (_:Unit)=>(i:Int)) (λ_ _=>True) (t0:=()) rfl trivial (λi _ hi _=>?_) λ_ _=>?_
  ·have c4:i<t.aD.length:=by have:=ml.1;omega
   obtain⟨q,aB⟩:∃q,t.aD[i]? =I q:=⟨_,bN c4⟩
   refine D.ar (λ_=>D.aH aB (D.ar (λe=>absurd (e▸cm aB) C9) λe=>D.inl ⟨(),by rw[bw U],trivial⟩)) d_
  ·refine D.ar bt λ_=>D.bu (D.ae (atK mX.len (by have:=mX.jW;omega) _) (D.ret ?_));unfold uK;rw[if_neg U,if_neg U];exact mX.ae d atN U
theorem atO(a6:1000000<=n){s qn:ByteArray}{r:Nat}{q:Int}(aO:j9 t s=I r)(aB:(bn t r).find? (λq=>decide ((af t q.toNat).text=qn))=I q)
  (ax:∃c,hP t t.nodes.length (2*t.nodes.length+2) (.ik s)=I c/\c<=8):Re (aM n) t s qn=I (((nh t qn (bn t r) 0:Nat):Int),((gC t (e9 t q.toNat):Nat):Int)):=by
 have aI:=aR.dI;have fz:=aj.nodes;obtain⟨gR,_,gG,_⟩:=qD aI aO;have j7:=aj.af gR;have gL:=dJ gR;obtain⟨c,ax,_⟩:=ax;obtain⟨i,cs,h1,_,h2,ay,_⟩:=H9 (d:=2*t.nodes.length+1) ax;rw[aO]at h1;cases h1;have dy:∀x∈bn t r,∃m:Nat,x=m/\(e9 t m).ok/\(e9 t m).b9.size<=5000/\gC t (e9 t m)<=8/\hP t t.nodes.length (2*t.nodes.length+1) (e9 t m)=I (gC t (e9 t m)):=by
  intro x ak;obtain⟨m,rfl,hm,j8⟩:=vV aj aI gR gG ak;have B8:=w_ aj aR (j:=m) U j8;have:hP t t.nodes.length (2*t.nodes.length+1) (e9 t ((m:Int)).toNat)∈cs.map I:=by grind
  obtain⟨y,a9,atP⟩:=List.mem_map.1 this;grind[dA,Cf]
 refine D.br ?_;unfold Re;refine D.ae (R3 aj aR U s) ?_;rw[aO];dsimp only;unfold agc;have aC:(bn t r).length<=800:=by simp_all
 have key:∀(jj:List Int)(fW:List Int)(a:Nat),bn t r=fW++jj->a<=8*fW.length->jj.find? (λq=>decide ((af t q.toNat).text=qn))=I q->
   D (fv (λ(s:Int×Int)=>if(decide (s.2<((o8 t r).length:Int)))=true then(aH (o9 t r) s.2).bind λai=>au (Kw (aM n) t ai) λaE=>au (aH (o8 t r) s.2) λaW=>if(decide (aW=qn))=true then(I (s.1,aE)).map .inr else I (.inl ((az (s.1+aE)),(az (s.2+1))))else(I ((0:Int),(0:Int))).map .inr) ((a:Int),(fW.length:Int))) (· =(((nh t qn jj a:Nat):Int),((gC t (e9 t q.toNat):Nat):Int))):=by
  intro jj;induction jj with
  |nil=>simp
  |cons x jj bx=>
   intro fW a q' a4 vS;have hlen:fW.length<(bn t r).length:=by grind
   have ak:(bn t r)[fW.length]? =I x:=by grind
   obtain⟨m,rfl,al,am,ao,ah⟩:=dy x (cm ak);have a2:aH (o9 t r) (fW.length:Int)=I (e9 t m).b9:=e7 (by simp_all[o9,gQ]);have bc:aH (o8 t r) (fW.length:Int)=I (af t m).text:=e7 (by simp_all[o8,gQ]);have cR:=Yl (n:=n) aj aR a6 _ n _ _ _ ah U al U;have q_:(o8 t r).length=(bn t r).length:=by unfold o8;rw[hI]
   rw[List.find?_cons]at vS;refine D.step (D.ar (λ_=>D.ae a2 (D.ae cR (D.ae bc (D.ar (λe=>D.inr ?_) λe=>D.inl ?_)))) d_)
   ·rw[dA,decide_eq_true e]at vS;cases vS;unfold nh;rw[dA,if_pos e]
   ·rw[dA,decide_eq_false e]at vS;unfold nh;rw[dA,if_neg e];have:=bx (fW++[(m:Int)]) (a+gC t (e9 t m)) dq dZ vS;rw[List.length_append]at this;have gN:az ((a:Int)+((gC t (e9 t m):Nat):Int))=((a+gC t (e9 t m):Nat):Int):=by grind[b3]
    have ki:az ((fW.length:Int)+1)=((fW.length+[(m:Int)].length:Nat):Int):=by rw[bw U];rfl
    simp_all
 exact key (bn t r) [] 0 rfl (fR _) aB
end
theorem aie(a b:Int):gX a b=max a b:=by unfold gX;split<;>omega
def atQ:∀{ds:List Int}{cs:List (List b6)}{x:Int}{acc:List b6},x ∉ ds->tC ds cs x acc=acc:=by
 intro ds;induction ds with
 |nil=>simp_all[tC]
 |cons d ds bx=>
  intro cs x acc h;cases cs with
  |nil=>rfl
  |cons c cs=>show tC ds cs x (if d=x then c else acc)=acc;rw[if_neg (λ(e:d=x)=>h (e▸List.mem_cons_self)),bx λh2=>h (List.mem_cons_of_mem _ h2)]
theorem atS:∀{ps:List Int}{ls:List (List b6)}{a:Nat}{x:Int}{l acc:List b6},ps.Pairwise (· < ·)->ps[a]? =I x->ls[a]? =I l->tC ps ls x acc=l:=by
 intro ps;induction ps with
 |nil=>simp
 |cons p ps bx=>
  intro ls a x l acc hp hm aC;cases ls with
  |nil=>simp at aC
  |cons y ls=>
   show tC ps ls x (if p=x then y else acc)=l;have XI:=Cb.1 hp;cases a with
   |zero=>simp at hm aC;subst hm;subst aC;rw[if_pos rfl];exact atQ λh=>Int.lt_irrefl _ (XI.1 _ h)
   |succ a=>grind
def tD.mono{t:aZ}{O:Nat->ByteArray}{a3:Nat->Int}{dc:List (List b6)}{R lw:Nat}(h:tD t O a3 dc R)(aO:lw<=R):tD t O a3 dc lw:=
 ⟨h.1,λi q aB=>⟨(h.2 i q aB).1,λaC=>(h.2 i q aB).2 U⟩⟩
section
variable {n : Nat} {t : aZ} {O : Nat -> ByteArray} {a3 : Nat -> Int}
variable (aj : cH t) (aR : fZ t) (aY : ∀ i, i < t.nodes.length -> gS t i = 0)
include aj aR aY
variable {F:nT}{fr:hr}{j:Nat}
theorem p7.lQ {m:Nat}(ag:j<t.nodes.length)(hm:(m:Int)∈bn t j)(ap:(af t j).kind≠20/\(af t j).kind≠42)(h:p7 t F fr j):p7 t F fr m:=by have aI:=aR.dI;obtain⟨m',e,hO⟩:=jz aI ag hm;have e:m=m':=fC e;subst e;refine⟨h.len,by have:=h.jW;omega,λd aG=>?_⟩;rw[l_ aI U (ny aI ag hm)]at aG;refine h.ae d ?_;simp_all[hl,if_neg]
theorem p7.LS(ag:j<t.nodes.length)(ap:(af t j).kind=20)(h:p7 t F fr j):p7 t F fr (bz t j 0):=by
 have aI:=aR.dI;have aC:=w7 aI ag ap;have gL:=dJ ag;obtain⟨r,h1,h2⟩:=o7 aI ag U;obtain⟨y,a9⟩:=Lz (l:=r) dZ;subst a9;have bh:bz t j 0=eL t j:=Ij dZ;have xi:=zO aI ag;rw[<-gL,h1]at xi;have b':=(Cb.1 xi).1 y cW;refine⟨h.len,by have:=h.jW;omega,λd aG=>?_⟩;rw[bh,l_ aI U (ny aI ag dZ)]at aG;refine h.ae d ?_;have:hl t j (eL t j)=[]:=by unfold hl;rw[h1,if_neg];grind
 simp_all
theorem p7.LU{l:List b6}(ag:j<t.nodes.length)(ap:(af t j).kind=20)(h:p7 t F fr j):p7 t ⟨F.kS++[(j:Int)],F.cells++[l]⟩ (xe fr j l) (bz t j 1):=by
 have aI:=aR.dI;have hlen:=w7 aI ag ap;have gL:=dJ ag;obtain⟨a,b,LV⟩:=Ly (l:=bn t j) dq;obtain⟨m,e,hO⟩:=jz aI ag (show b∈bn t j by grind);subst e;have h1:bz t j 1=m:=Ij dZ;have u_:(m:Int)∈bn t j:=by grind
 have hle:=h.jW;have sO:=h.len;refine⟨dZ,dZ,λd aG pZ=>?_⟩;rw[h1,l_ aI U (ny aI ag u_)]at aG;show tC (F.kS++[(j:Int)]) (F.cells++[l]) d []=_;rw[aib sO];unfold xe;by_cases e:d=j
 ·subst e;rw[if_pos rfl,if_pos rfl]
 ·rw[if_neg e,if_neg U];refine h.ae d ?_ pZ;rcases h3.1 aG with aG|aG
  ·unfold hl at aG;grind
  ·exact aG
omit aY in
theorem p7.call{d:Nat}{ls:List (List b6)}(aG:d<t.nodes.length)(c7:(af t d).kind=42)(B9:(eY t d).length=ls.length):p7 t ⟨eY t d,ls⟩ (k_ (eY t d) ls) (fD t d):=by
 have aI:=aR.dI;have fz:=aj.nodes;obtain⟨lq,ku,q1⟩:=rx aj aI aG c7;have hm:(fD t d:Int)∈bn t d:=cm lq;have j7:=aj.af aG;have xi:(eY t d).Pairwise (· < ·):=by grind[zO,eY,dJ,List.Pairwise.sublist,List.take_sublist]
 refine⟨B9,?_,λx ak ap=>?_⟩
 ·grind[eY,fF,dJ]
 rw[l_ aI U (ny aI aG hm),sn aG ((vQ aI aG).2 (LM aI aG c7)),iZ]at ak;unfold hl at ak;rw[if_neg (show ¬(af t d).kind=20 by omega),if_pos c7]at ak;split at ak
 ·rcases h3.1 ak with ak|ak
  ·obtain⟨a,a4⟩:=hf (show(x:Int)∈eY t d from ak);have hd:a<(eY t d).length:=(List.getElem?_eq_some_iff.1 a4).1;obtain⟨l,aC⟩:∃l,ls[a]? =I l:=⟨_,bN U⟩
   grind[Sj,atS]
  grind
 ·cases ak
end
def atT{k:Int}(h:6<=k/\k<=16):∃c b,Xl k=I (c,b)/\Cd c/\c≠15/\c≠16/\∀x y,EL k x y=if b=true then tw 6 (my c x y)else my c x y:=by
 have:k=6\/k=7\/k=8\/k=9\/k=10\/k=11\/k=12\/k=13\/k=14\/k=15\/k=16:=by omega
 rcases this with h|h|h|h|h|h|h|h|h|h|h<;>subst h
 all_goals refine⟨_,_,rfl,?_,by decide,by decide,λx y=>rfl⟩
 all_goals (unfold Cd;decide)
theorem kL.LW{l:List b6}(h:kL l 1):l=[ij l]:=by
 match l,h.1 with
 |[a],_=>rfl
structure atU(t:aZ)(O:Nat->ByteArray)(a3:Nat->Int)(j:Nat)(fr:hr)(f:Int)(e:Nat)(i:Nat)(m:Nat):Prop where
 fw:(m:Int)∈bn t j
 at_:(bn t j)[i]? =I (m:Int)
 rA:aH (af t j).a8 (i:Int)=I (m:Int)
 lt:m<j
 pg:hZ t f e m
 qF:md t m
 ed:Proofs.YtjfgooffdmnnkaaGreatDoor.ed t e m<Proofs.YtjfgooffdmnnkaaGreatDoor.ed t e j
 tE:iH t O fr m
 p8:kL (bB t O a3 m fr f e).1 (gv t (O m))
section
variable {t : aZ} {O : Nat -> ByteArray} {a3 : Nat -> Int}
variable (aj : cH t) (aR : fZ t) (aY : ∀ i, i < t.nodes.length -> gS t i = 0) (bH : mv t O t.nodes.length)
include aj aR aY bH
variable {e:Nat}{f:Int}{fr:hr}{j:Nat}
theorem oB(hC:hZ t f e j)(eg:md t j)(dH:iH t O fr j)(ap:(af t j).kind≠20){i:Nat}(hi:i<(af t j).a8.length):atU t O a3 j fr f e i (bz t j i):=by
 have aI:=aR.dI;have ag:=hC.1;have c7:(af t j).kind≠42:=by
  intro h;rcases eg with h2|h2
  ·rw[h]at h2;cases h2
  ·omega
 obtain⟨h1,h2⟩:=p6 aj aR aY bH ag hi;obtain⟨m,a2,ay,bl,bO⟩:=hC.lQ aj aR aY h1;have a2:bz t j i=m:=fC a2;rw[<-a2]at ay bl bO;have cX:=tz aj aR aY ag eg h1;have hq:=dH.lQ aj aR aY ag h1 ⟨ap,c7⟩;exact⟨h1,h2,e7 (by rw[<-dJ ag];exact h2),ay,bl,cX,bO,hq,EN aj aR aY bH _ _ _ _ _ (Nat.lt_succ_self _) bl cX hq⟩
theorem LX(ag:j<t.nodes.length)(h:(af t j).a8.length=2):bn t j=[(bz t j 0:Int),(bz t j 1:Int)]:=by obtain⟨a,b,LV⟩:=Ly (l:=bn t j) (by rw[dJ ag];exact h);have bh:=(p6 aj aR aY bH ag (i:=0) U).2;have h1:=(p6 aj aR aY bH ag (i:=1) U).2;rw[LV]at bh h1⊢;rw[rS bh,rS h1]
theorem Il(ag:j<t.nodes.length)(h:4<=(af t j).kind/\(af t j).kind<=18):eV (af t j).kind=true/\gv t (O j)=1/\∀i,i<(af t j).a8.length->gv t (O (bz t j i))=1:=by
 have ak:eV (af t j).kind=true:=by
  have:(af t j).kind=4\/(af t j).kind=5\/(af t j).kind=6\/(af t j).kind=7\/(af t j).kind=8\/(af t j).kind=9\/(af t j).kind=10\/(af t j).kind=11\/(af t j).kind=12\/(af t j).kind=13\/(af t j).kind=14\/(af t j).kind=15\/(af t j).kind=16\/(af t j).kind=17\/(af t j).kind=18:=by omega
  rcases this with h|h|h|h|h|h|h|h|h|h|h|h|h|h|h<;>(rw[h];rfl)
 refine⟨ak,?_⟩;have key:∀{x:ByteArray},gv t x=1->jg x (ec t O j)=true->∀i,i<(af t j).a8.length->gv t (O (bz t j i))=1:=by intro x ak aF i hi;have fW:=sw aj aR aY bH ag hi;rw[(LK x (ec t O j)).1 aF _ (cm fW),ak]
 have aO:=bH.EG j ag ak;cases aO with
 |zV h ap dg=>grind[EM]
 |zW h ap dg=>grind[yP]
 |br h ap dg=>grind[yP,EM]
 |zX h ap dg=>grind[yP,EM]
 |num h dg=>omega
 |bool h dg=>omega
 |zS h=>omega
 |zT h=>omega
 |zU h=>omega
 |bK h ap=>omega
 |lt h=>omega
 |call h=>omega
 |field h=>omega
 |index h=>omega
 |zY h=>omega
 |hn h=>omega
theorem aif(ag:j<t.nodes.length)(h:(af t j).kind=19):(af t j).a8.length=3/\O (bz t j 0)=fx/\O (bz t j 1)=O j/\O (bz t j 2)=O j:=by
 have sO:(ec t O j).length=(af t j).a8.length:=vX ag;have aO:=bH.EG j ag (by rw[h];rfl);cases aO with
 |bK h ap=>
  have aC:(af t j).a8.length=3:=by simp_all
  have h0:=sw aj aR aY bH ag (i:=0) U;have fW:=sw aj aR aY bH ag (i:=1) U;have jj:=sw aj aR aY bH ag (i:=2) U;simp_all
 |zV h _ dg=>omega
 |zW h _ dg=>omega
 |br h _ dg=>omega
 |zX h _ dg=>omega
 |num h dg=>omega
 |bool h dg=>omega
 |zS h=>omega
 |zT h=>omega
 |zU h=>omega
 |lt h=>omega
 |call h=>omega
 |field h=>omega
 |index h=>omega
 |zY h=>omega
 |hn h=>omega
theorem aig(hC:hZ t f e j)(eg:md t j)(dH:iH t O fr j)(h:(af t j).kind=21){d:Nat}(aG:fE t j=d):
  iH t O (k_ (eY t d) (((bn t j).map λq=>bB t O a3 q.toNat fr f e).map (·.1))) (fD t d)/\(eY t d).length=(af t j).a8.length/\(af t j).a8.length+2=(af t d).a8.length/\O (fD t d)=O j/\d<t.nodes.length/\(af t d).kind=42:=by
 have aI:=aR.dI;have ag:=hC.1;have sO:(ec t O j).length=(af t j).a8.length:=vX ag;have aO:=bH.EG j ag (by rw[h];rfl);cases aO with
 |call h d2 zK c7 ap dg=>
  have bc:d=d2:=fC (aG.symm.trans zK);subst bc;obtain⟨db,uL,fh,_,ax⟩:=hC.call aj aR aY h;have a2:d=db:=fC (aG.symm.trans uL);subst a2;have sP:(eY t d).length=(af t j).a8.length:=by rw[<-sO,ap];unfold vU;rw[hI]
  have Dg:(eY t d).length=(bn t d).length- 2:=by grind[eY,fF]
  have kR:=to aI fh c7;rw[dJ fh]at Dg;refine⟨iH.call aj aR fh c7 λa m a4=>?_,sP,U,by rw[dg,bH.fn d fh c7],fh,c7⟩;have JB:(ec t O j)[a]? =I (e9 t m).b9:=by simp_all[vU,gQ]
  have hd:a<(af t j).a8.length:=by grind
  have jZ:=sw aj aR aY bH ag hd;rw[JB]at jZ;have bp:=oB (a3:=a3) aj aR aY bH hC eg dH U hd;have v:=bp.p8;rw[<-rS jZ]at v;obtain⟨q,bc,_,j8,_⟩:=xa aj aI fh c7 a4;have bc:m=q:=fC bc;subst bc;have hO:m<t.nodes.length:=by omega
  rw[tx (w_ aj aR hO j8).1]at v;refine⟨(bB t O a3 (bz t j a) fr f e).1,?_,v⟩;rw[gQ,gQ,bp.at_];rfl
 |bK h _=>omega
 |zV h _ dg=>omega
 |zW h _ dg=>omega
 |br h _ dg=>omega
 |zX h _ dg=>omega
 |num h dg=>omega
 |bool h dg=>omega
 |zS h=>omega
 |zT h=>omega
 |zU h=>omega
 |lt h=>omega
 |field h=>omega
 |index h=>omega
 |zY h=>omega
 |hn h=>omega
theorem Y7(ag:j<t.nodes.length)(h:(af t j).kind=22):∃(r c:Nat)(q:Int),j9 t (O (bz t j 0))=I r/\(bn t r).find? (λq=>decide ((af t q.toNat).text=(af t j).text))=I q/\
  gv t (O j)=gC t (e9 t q.toNat)/\gv t (O (bz t j 0))=c/\nh t (af t j).text (bn t r) 0+gC t (e9 t q.toNat)<=c/\c<=8/\hP t t.nodes.length (2*t.nodes.length+2) (.ik (O (bz t j 0)))=I c/\(af t j).a8.length=1:=by
 have aI:=aR.dI;have aO:=bH.EG j ag (by rw[h];rfl);cases aO with
 |field h s r ap aO q aB dg=>
  have aC:=n2 aI ag (.inr (.inr (.inl h)));have h0:=sw aj aR aY bH ag (i:=0) U;rw[ap]at h0;have es:O (bz t j 0)=s:=(rS h0).symm;have k0:=p6 aj aR aY bH ag (i:=0) U;obtain⟨bv,h1,h2,ay,bl,bO,cX⟩:=oz aj aR aY bH (j:=bz t j 0) (by grind[jz,bz,fC]) (tz aj aR aY ag (.inl (by rw[h];rfl)) k0.1);rw[es]at h1 ay;have iG:bv=.ik s:=by
   obtain⟨gR,_,gG,og⟩:=qD aI aO;have i_:gP s:=by grind[EA,EB]
   exact ft.inj h2 (show(ft.ik s).ok from i_) h1.symm
  subst iG;have HQ:=Y3 aj aR aY bH cX aO;have sP:=Y2 aj aR aY bH (af t j).text (bn t r) 0 q aB;have hw:gv t (O j)=gC t (e9 t q.toNat):=by obtain⟨gR,_,gG,_⟩:=qD aI aO;obtain⟨m,rfl,hm,j8⟩:=vV aj aI gR gG (zL aB);rw[dg,dA,tx (w_ aj aR U j8).1]
  grind
 |bK h _=>omega
 |zV h _ dg=>omega
 |zW h _ dg=>omega
 |br h _ dg=>omega
 |zX h _ dg=>omega
 |num h dg=>omega
 |bool h dg=>omega
 |zS h=>omega
 |zT h=>omega
 |zU h=>omega
 |lt h=>omega
 |call h=>omega
 |index h=>omega
 |zY h=>omega
 |hn h=>omega
theorem aih(ag:j<t.nodes.length)(h:(af t j).kind=23):∃k:Nat,gv t (O (bz t j 0))=gv t (O j)*k/\gv t (O j)*k<=8/\1<=gv t (O j)/\(1<=k/\k<=6)/\gv t (O (bz t j 1))=1/\(af t j).a8.length=2:=by
 have aI:=aR.dI;have aO:=bH.EG j ag (by rw[h];rfl);cases aO with
 |index h cd cV ap dg=>
  have aC:=z0 aI ag (.inr (.inr h));have h0:=sw aj aR aY bH ag (i:=0) U;have fW:=sw aj aR aY bH ag (i:=1) U;rw[ap]at h0 fW;have es:O (bz t j 0)=(ft.hn cd cV).b9:=(rS h0).symm;have atV:O (bz t j 1)=fP:=(rS fW).symm;have k0:=p6 aj aR aY bH ag (i:=0) U;obtain⟨bv,h1,h2,ay,bl,bO,cX⟩:=oz aj aR aY bH (j:=bz t j 0) (by grind[jz,bz,fC]) (tz aj aR aY ag (.inl (by rw[h];rfl)) k0.1);rw[es]at h1 ay;obtain⟨EO,dV,rfl⟩:=(ft.bh h2).1 (by rw[<-h1];exact sq _ _);have cR:cd.b9=EO.b9:=(Lp h1).1;obtain⟨c',ea,fN,jZ⟩:=H_ (d:=2*t.nodes.length+1) cX;have wz:=Cf ea U;have hw:gv t (O j)=gC t EO:=by rw[dg,cR,tx h2.1]
  have atW:=oz aj aR aY bH ag (.inl (by rw[h];rfl));obtain⟨aIB,_,_,dE,k3,jY,_⟩:=atW;refine⟨dV,?_,?_,U,h2.2,by rw[atV,EM],aC⟩
  ·rw[es,ay,jZ,hw,wz,oR]
  grind
 |bK h _=>omega
 |zV h _ dg=>omega
 |zW h _ dg=>omega
 |br h _ dg=>omega
 |zX h _ dg=>omega
 |num h dg=>omega
 |bool h dg=>omega
 |zS h=>omega
 |zT h=>omega
 |zU h=>omega
 |lt h=>omega
 |call h=>omega
 |field h=>omega
 |zY h=>omega
 |hn h=>omega
end
def hz(r:v3)(st op bi:Int):List b6×Int×Int×Int:=(r.1,az (st+(r.2.1:Int)),op,max bi (op+(r.2.2:Int)))
def Sl:∀(l:List Nat)(x:Nat),ng (l++[x])=max (ng l) x
 |[],x=>by show max x 0=max 0 x;omega
 |a::l,x=>by show max a (ng (l++[x]))=max (max a (ng l)) x;rw[Sl l x];omega
theorem Ch(a b c:Int):az (az (az a+b)+c)=az (a+(b+c)):=by rw[tB (az a+b),Int.add_assoc,tB]
def atX{v:b6}(h1:v.cU=0)(h2:v.n=0):v=⟨0,0⟩:=by
 cases v with
 |mk f n=>have h1:f=0:=h1;have h2:n=0:=h2;rw[h1,h2]
abbrev AX:=Int->nT->Int->Int->List bm->List Int->List Int->List ByteArray->List Int->List Int->Nat->List (List b6)->Int->Int->Int->Option (List b6×Int×Int×Int)
def EP(t:aZ)(O:Nat->ByteArray)(a3:Nat->Int)(kN:List ByteArray)(nj oA:List Int)(lR:Nat)(dc:List (List b6))(r:AX)(K:Nat):Prop:=
 ∀(m:Nat)(fr:hr)(F:nT)(f:Int)(e:Nat)(st op bi:Int),hZ t f e m->md t m->ed t e m<K->iH t O fr m->p7 t F fr m->tD t O a3 dc (d' t m).2->0<=op->op<=bi->op+ed t e m<=1000000000000->
  r m F f e t.nodes t.aD (c_ t) kN nj oA lR dc st op bi=I (hz (bB t O a3 m fr f e) st op bi)
section
variable {n : Nat} {t : aZ} {O : Nat -> ByteArray} {a3 : Nat -> Int} {kN : List ByteArray} {nj oA : List Int} {lR : Nat} {dc : List (List b6)} {K : Nat}
variable (aj : cH t) (aR : fZ t) (aY : ∀ i, i < t.nodes.length -> gS t i = 0) (bH : mv t O t.nodes.length) (a6 : 1000000 <= n)
variable (sx : ∀ j, j < t.nodes.length -> eV (af t j).kind = true -> kN[j]? = I (O j)) (qG : ∀ j, j < t.nodes.length -> eV (af t j).kind = true -> nj[j]? = I (gv t (O j) : Int))
include aj aR aY bH a6 sx qG
variable {F:nT}{e:Nat}{f:Int}{fr:hr}{j:Nat}{bi op st:Int}
theorem atY{r:AX}(aO:EP t O a3 kN nj oA lR dc r K)(hC:hZ t f e j)(eg:md t j)(pu:ed t e j<=K)(dH:iH t O fr j)(mX:p7 t F fr j)(ml:tD t O a3 dc (d' t j).2)(bh:0<=op)(h1:op<=bi)(h2:op+ed t e j<=1000000000000)(ap:6<=(af t j).kind/\(af t j).kind<=18):
  Rc (aM n) r (af t j) F f e t.nodes t.aD (c_ t) kN nj oA lR dc (az (st+1)) op bi=I (ij (bB t O a3 j fr f e).1,(hz (bB t O a3 j fr f e) st op bi).2):=by
 have aI:=aR.dI;have ag:=hC.1;have aC:=z0 aI ag (.inl ap);obtain⟨_,hw,nf⟩:=Il aj aR aY bH ag U;have k0:=oB (a3:=a3) aj aR aY bH hC eg dH U (i:=0) U;have bX:=oB (a3:=a3) aj aR aY bH hC eg dH U (i:=1) U;have v0:=k0.p8;have v1:=bX.p8;rw[nf 0 U]at v0;rw[nf 1 U]at v1;have w3:∀m:Nat,(m:Int)∈bn t j->(d' t m).2=(d' t j).2:=λm hm=>vY aI ag hm;have c7:(af t j).kind≠42:=by omega
 have Y8:=k0.ed;have aii:=bX.ed;have pJ:=aO _ fr F f e (az (st+1)) op bi k0.pg k0.qF U k0.tE (mX.lQ aj aR aY ag k0.fw ⟨U,c7⟩) (by rw[w3 _ k0.fw];omega) bh h1 U;have gR:=λst bi (h1:op<=bi)=>aO _ fr F f e st op bi bX.pg bX.qF U bX.tE (mX.lQ aj aR aY ag bX.fw ⟨U,c7⟩) (by rw[w3 _ bX.fw];omega) bh h1 U;have Y9:=LX aj aR aY bH ag aC;have r4:=yO (O:=O) (a3:=a3) (fr:=fr) aj aR aY hC eg;have yQ:=(v0.aG (bL _)).1;have LY:=(v1.aG (bL _)).1;have JS:=yQ.gF;have i0:aH (bB t O a3 (bz t j 0) fr f e).1 0=I (ij (bB t O a3 (bz t j 0) fr f e).1):=e7 (i:=0) (v0.aG (bL _)).2;have i1:aH (bB t O a3 (bz t j 1) fr f e).1 0=I (ij (bB t O a3 (bz t j 1) fr f e).1):=e7 (i:=0) (v1.aG (bL _)).2;have rR:op<=max bi (op+((bB t O a3 (bz t j 0) fr f e).2.2:Int)):=by omega
 refine D.br ?_;unfold Rc;by_cases aIC:(af t j).kind<=16
 ·obtain⟨c,b,ax,hX,ah6,atZ,iL⟩:=atT (show 6<=(af t j).kind/\(af t j).kind<=16 by omega);have cS:bB t O a3 j fr f e=([EL (af t j).kind (ij (bB t O a3 (bz t j 0) fr f e).1) (ij (bB t O a3 (bz t j 1) fr f e).1)],1+((bB t O a3 (bz t j 0) fr f e).2.1+(bB t O a3 (bz t j 1) fr f e).2.1),max (bB t O a3 (bz t j 0) fr f e).2.2 (bB t O a3 (bz t j 1) fr f e).2.2):=by
   rw[r4];unfold mz;rw[if_neg U,if_neg U,if_neg U,if_neg U];dsimp only;rw[if_neg U,if_neg U,if_pos U,Y9];simp only[hH,qp,List.flatMap_cons,List.flatMap_nil,iZ,z8,z9,dA,ng,Nat.add_zero,Nat.max_zero];rw[v0.LW];rfl
  rw[cS];refine D.ae ax (D.ae k0.rA (D.ae pJ (D.ae i0 (D.ar (λh=>absurd h ah6) λ_=>D.ar (λh=>absurd h atZ) λ_=>?_))));unfold BR;refine D.ae bX.rA (D.ae (gR _ _ rR) (D.ae i1 (D.ae (ats hX yQ LY) ?_)));have a2:az (az (az (st+1)+((bB t O a3 (bz t j 0) fr f e).2.1:Int))+((bB t O a3 (bz t j 1) fr f e).2.1:Int))=az (st+((1+((bB t O a3 (bz t j 0) fr f e).2.1+(bB t O a3 (bz t j 1) fr f e).2.1):Nat):Int)):=by rw[Ch];grind
  have bc:max (max bi (op+((bB t O a3 (bz t j 0) fr f e).2.2:Int))) (op+((bB t O a3 (bz t j 1) fr f e).2.2:Int))=max bi (op+((max (bB t O a3 (bz t j 0) fr f e).2.2 (bB t O a3 (bz t j 1) fr f e).2.2:Nat):Int)):=by omega
  unfold hz;dsimp only;rw[a2,bc,iL];cases b with
  |true=>exact D.ae (YS (.inr rfl) (YX yQ LY)) (D.ret rfl)
  |false=>exact D.ret rfl
 ·have cS:=r4;unfold mz at cS;rw[if_neg U,if_neg U,if_neg U,if_pos U]at cS;dsimp only at cS;rw[cS];have iK:gv t (O j)=1:=hw;rw[iK];have a2:∀s:Int,az (az (st+1)+s)=az (st+(1+s)):=λs=>by rw[tB];grind
  have cR:∀s s':Int,az (az (az (st+1)+s)+s')=az (st+(1+s+s')):=λs s'=>by rw[Ch];grind
  have nG:=v1.LW;by_cases yN:(af t j).kind=17
  ·refine D.ae (z:=((15:Int),false)) (by rw[yN];rfl) (D.ae k0.rA (D.ae pJ (D.ae i0 (D.ar (λ_=>?_) λh=>absurd rfl h))));refine D.ar (λbg=>D.ae (z:=ij (bB t O a3 (bz t j 0) fr f e).1) (by unfold rm;rw[if_pos (decide_eq_true bg)]) (D.ret ?_)) λbg=>D.ar (λaP=>D.ae (z:=ij (bB t O a3 (bz t j 0) fr f e).1) (by unfold rm;rw[if_neg dZ,if_pos dZ]) (D.ret ?_)) λaP=>D.ar lp λ_=>?_
   ·rw[if_pos U];unfold hz;dsimp only;rw[a2];show(_,_,_,_)=(_,_,_,_)
    rfl
   ·rw[if_neg U,if_neg U,if_neg U];have:ij (bB t O a3 (bz t j 0) fr f e).1=nK (decide ((ij (bB t O a3 (bz t j 0) fr f e).1).n≠0)):=by
     rw[decide_eq_false U];exact atX U aP
    unfold hz;dsimp only;rw[a2];exact congrArg (λv=>(v,_)) this
   ·rw[if_neg U,if_pos U];unfold BR;refine D.ae bX.rA (D.ae (gR _ _ rR) (D.ae i1 (D.ae (z:=ij (bB t O a3 (bz t j 1) fr f e).1) (by unfold rm;rw[if_neg dZ,if_neg dZ,if_neg cW,if_pos ci]) (D.ret ?_))));unfold hz;dsimp only;rw[cR];have bc:max (max bi (op+((bB t O a3 (bz t j 0) fr f e).2.2:Int))) (op+((bB t O a3 (bz t j 1) fr f e).2.2:Int))=max bi (op+((max (bB t O a3 (bz t j 0) fr f e).2.2 (bB t O a3 (bz t j 1) fr f e).2.2:Nat):Int)):=by omega
    rw[bc];rfl
  ·have at0:(af t j).kind=18:=by omega
   refine D.ae (z:=((16:Int),false)) (by rw[at0];rfl) (D.ae k0.rA (D.ae pJ (D.ae i0 (D.ar lp λ_=>D.ar (λ_=>?_) λh=>absurd rfl h))));refine D.ar (λbg=>D.ae (z:=ij (bB t O a3 (bz t j 0) fr f e).1) (by unfold rm;rw[if_pos (decide_eq_true bg)]) (D.ret ?_)) λbg=>D.dB (λaP=>D.ae (z:=num 1) (by unfold rm;rw[if_neg dZ,if_neg cW,if_pos dZ];rfl) (D.ret ?_)) λaP=>?_
   ·rw[if_pos U];unfold hz;dsimp only;rw[a2];rfl
   ·rw[if_neg U,if_neg U,if_neg U];unfold hz;dsimp only;rw[a2,decide_eq_true aP];rfl
   ·rw[if_neg U,if_pos U];unfold BR;refine D.ae bX.rA (D.ae (gR _ _ rR) (D.ae i1 (D.ae (z:=ij (bB t O a3 (bz t j 1) fr f e).1) (by unfold rm;rw[if_neg dZ,if_neg cW,if_neg dZ,if_pos ci]) (D.ret ?_))));unfold hz;dsimp only;rw[cR];have bc:max (max bi (op+((bB t O a3 (bz t j 0) fr f e).2.2:Int))) (op+((bB t O a3 (bz t j 1) fr f e).2.2:Int))=max bi (op+((max (bB t O a3 (bz t j 0) fr f e).2.2 (bB t O a3 (bz t j 1) fr f e).2.2:Nat):Int)):=by omega
    rw[bc];rfl
theorem at1{r:AX}(aO:EP t O a3 kN nj oA lR dc r K)(hC:hZ t f e j)(eg:md t j)(pu:ed t e j<=K)(dH:iH t O fr j)(mX:p7 t F fr j)(ml:tD t O a3 dc (d' t j).2)(bh:0<=op)(h1:op<=bi)(h2:op+ed t e j<=1000000000000)(ap:(af t j).kind=19):
  Rd (aM n) r (af t j) (gv t (O j):Int) F f e t.nodes t.aD (c_ t) kN nj oA lR dc (az (st+1)) op bi=I (hz (bB t O a3 j fr f e) st op bi):=by
 have aI:=aR.dI;have ag:=hC.1;obtain⟨aC,fK,_,_⟩:=aif aj aR aY bH ag ap;obtain⟨bv,_,_,dE,_,jY,_⟩:=oz aj aR aY bH ag eg;have k0:=oB (a3:=a3) aj aR aY bH hC eg dH U (i:=0) U;have bX:=oB (a3:=a3) aj aR aY bH hC eg dH U (i:=1) U;have dV:=oB (a3:=a3) aj aR aY bH hC eg dH U (i:=2) U;have v0:=k0.p8;rw[fK,yP]at v0;have w3:∀m:Nat,(m:Int)∈bn t j->(d' t m).2=(d' t j).2:=λm hm=>vY aI ag hm;have Y8:=k0.ed;have aii:=bX.ed;have aID:=dV.ed;have pJ:=aO _ fr F f e (az (st+1)) op bi k0.pg k0.qF U k0.tE (mX.lQ aj aR aY ag k0.fw ⟨U,U⟩) (by rw[w3 _ k0.fw];omega) bh h1 U;have gR:=λst bi (h1:op<=bi)=>aO _ fr F f e st op bi bX.pg bX.qF U bX.tE (mX.lQ aj aR aY ag bX.fw ⟨U,U⟩) (by rw[w3 _ bX.fw];omega) bh h1 U;have fu:=λst bi (h1:op<=bi)=>aO _ fr F f e st op bi dV.pg dV.qF U dV.tE (mX.lQ aj aR aY ag dV.fw ⟨U,U⟩) (by rw[w3 _ dV.fw];omega) bh h1 U;have cS:=yO (O:=O) (a3:=a3) (fr:=fr) aj aR aY hC eg;unfold mz at cS;rw[if_neg U,if_neg U,if_neg U,if_pos U]at cS;dsimp only at cS;have yQ:=(v0.aG (bL _)).1;have JS:=yQ.gF;have i0:aH (bB t O a3 (bz t j 0) fr f e).1 0=I (ij (bB t O a3 (bz t j 0) fr f e).1):=e7 (i:=0) (v0.aG (bL _)).2;have rR:op<=max bi (op+((bB t O a3 (bz t j 0) fr f e).2.2:Int)):=by omega
 have a2:∀s:Int,az (az (st+1)+s)=az (st+(1+s)):=λs=>by rw[tB];grind
 have cR:∀s s':Int,az (az (az (st+1)+s)+s')=az (st+(1+s+s')):=λs s'=>by rw[Ch];grind
 have bc:∀a b:Nat,max (max bi (op+(a:Int))) (op+(b:Int))=max bi (op+((max a b:Nat):Int)):=λa b=>by omega
 refine D.br ?_;unfold Rd;rw[cS];refine D.ae k0.rA (D.ae pJ (D.ae i0 (D.ar (λbg=>?_) λbg=>D.ar (λaP=>?_) λaP=>?_)))
 ·rw[if_pos U];refine D.ae (Ih _ U) (D.ret ?_);simp_all[hz]
 ·rw[if_neg U,if_neg U,if_pos U];refine D.ae dV.rA (D.ae (fu _ _ rR) (D.ret ?_));simp_all[hz]
 ·rw[if_neg U,if_pos U];refine D.ae bX.rA (D.ae (gR _ _ rR) (D.ret ?_));simp_all[hz]
end
end Go.Proofs.YtjfgooffdmnnkaaGreatDoor

/- Code beside a function that may fail: rules for slices that are written to in place. -/
import Derived.Test.YtgfggdcbhjhegaaGreatDoorC
import Derived.LoopNIn
import Derived.Test.YtgfggdcbhjhegaaGreatDoorD
import Derived.ProofKit
import Derived.Deep.Slices
import Derived.Deep.Strs
import Derived.Lib.SmallJoins
import Derived.Carry
set_option linter.all false
namespace Go.Dp
open Go Go.Mi Go.RowKit
open _root_.Array renaming getElem?_eq_some_iff->nY,getElem?_append->Xc
open Bool renaming and_eq_true->ea,true->ah,false->aQ,not_eq_true'->mZ,or_eq_true->hk
open Go renaming World->bb,TypeId->b3,Program->cj,Operand->bM,Value->a4,Deferred->lE,Code->dS,Exit->cN,Oper->bU,FuncId->gh,LoopState->oU,IntKind->hv,Act->cO,MemPlace->IX,MapEntry->IY,Ending->sO,Edge->ie,LeavesInM->Pq,grownCap->Xd,DataW->IZ
open Go.Call renaming operands->iZ
open Go.DataW renaming trod->w_
open Go.Instr renaming findAsking->BF,mapUpdate->Pr,sameNow->Ps,keyThatStays->Xe,checkKey->Xf,findNow->BE,lookup->Xg,yield->Xh,build->wP,fill->mm
open Go.Lib renaming bytesWorld_size->Xi,bytesWorld->Xj
open Go.MapKept renaming run_getObj_map->s8,run_setObj_map->xa
open Go.Op renaming operands->c_,maxDepth->s9,equal->l2,equalIn->kG,intBits->Pt
open Go.Result renaming andThen->ce
open Go.Sem renaming run_bind->ck,run_pure->it
open Go.World renaming cell?->p8,cells?_some->Xk
open List renaming getElem?_eq_some_iff->cz,getElem?_eq_getElem->cq,getElem?_map->fv,map_cons->gI,getElem?_append_right->ud,getElem?_append_left->sP,all_eq_true->kj,map_map->kk,length_map->h6,getElem?_eq_none->n1,set_set->I0,nodup_append->Pu,eq_nil_of_length_eq_zero->nl,nodup_nil->Pv,map_set->zd,getElem?_set_self->A5,mem_append_right->Xl,mem_append_left->xb,length_eraseIdx->Xm,size_toArray->Xn,ext_getElem?->mr,map_append->lk,append_nil->j3,mem_map->lH
open List.cons renaming injEq->BM
open Nat renaming le_refl->b5,beq_refl->jp,ble->ev,mul_comm->ze,add_assoc->sS,blt->fV,beq->d',le_of_ble_eq_true->lI,eq_of_beq_eq_true->kz,mul_le_mul_left->Xo,div_add_mod->Xp,zero_add->hD,sub_zero->Xq,add_comm->qX,mul_one->q4,mod_lt->Xr,ble_eq->Bf
open Option renaming some->D,none->aF,map_some->lV,bind_some->cl,bind_none->Pw,bind->aw
open Option.some renaming injEq->hX
section
variable {Y : gj} {Q : cN -> cO -> bb -> Prop} {l : bY} {H : List aG} {R : Type} {m : Option R} {T : R -> Prop} {ops : Array bU} {os rest : List bU} {acc : List (List Nat × List Nat)} {t : Nat} {ty : b3} {pos : String} {cx : Array ie} {eF : Option (Nat × Bool)} {dst : Option Tmp}
theorem bI.mk{α:Type}{b1 bA bytes:Nat}{mx:a4}{x:bM}{K:hv}{n:Int}{f:List α->Option R}(i:Nat)(c:α->P)(er:α)(ai:Y.X.P.underlying b1=D (.slice bA))(fJ:(Y.X.P.info? bA).map (λi=>(i.zero,i.size,i.bytes))=D (D mx,1,bytes))(bj:mx.cells=#[mx])(ar:bO l x=D (.p (.v (.int K n))))(aB:ev bytes 128=ah)(bw:∀E w,hL E w (c er) mx)(ao:H[i]? =D .bW)(az:fV t Y.X.N=ah)(k:∀z:List α,bI Y ops Q rest ((t,.dX i 0 z.length z.length)::l) (H.set i (.bu bA (z.map c))) (f z) T):bI Y ops Q ({dst:=D t,op:=.makeSlice b1 x x,type:=ty,pos:=pos,after:=cx,guard:=aF}::rest) l H ((Go.Dp.mk n er).bind f) T:=λc9=>by
 obtain⟨z,h1,h2⟩:=c9.bind
 skip
 exact eo.aC (dst:=D t) (WK (i:=i) ai fJ bj ar aB h1 bw) (da ao) az (k _ h2)
end
abbrev EZ(v:a4):V:=.p (.v v)
theorem cU.Xs{g:b_}{w:bb}{H:List aG}:∀{xs vs:List a4},cU g w H (xs.map EZ) vs->vs=xs
 |[],_,.nil=>rfl
 |_::_,_,.cons h aV=>by rw[h.g4,cU.Xs aV]
theorem cD.Xt{g:b_}{w:bb}{H:List aG}{xs:List a4}{v:a4}(h:cD g w H (.agg (xs.map EZ)) v):v=.agg xs.toArray:=by
 generalize az:V.agg (xs.map EZ)=d at h;cases h with
 |agg h=>cases az;rw[h.Xs]
 |_=>cases az
section
variable {av : cj} {ty : b3} {ρ : bM -> Option V} {T b1 : b3} {x y : bM} {xs cX : List a4} {r : Bool}
theorem ag5(aS:∀w,(l2 T (.agg xs.toArray) (.agg cX.toArray)).run av w=.ok r w)(iD:av.eqGuardType av.depth T=aQ)(ar:ρ x=D (.agg (xs.map EZ)))(bh:ρ y=D (.agg (cX.map EZ))):bE av (.binOp .neq T x y b1) ty ρ [] [] (bs (!r)):=.pure λg w H e o a1 _ _ a8=>by
 have a5:=(a8 x (by simp[c_]) _ ar).Xt;have bk:=(a8 y (by simp[c_]) _ bh).Xt;have h1:∀a b,(eqGuard .neq T a b (.agg xs.toArray) (.agg cX.toArray)).run av w=.ok () w:=λa b=>by unfold eqGuard;simp[ck,iD,ce]
 have aJ:binOp .neq T (.agg xs.toArray) (.agg cX.toArray)=(do pure (.bool (!(<-l2 T (.agg xs.toArray) (.agg cX.toArray)))):Sem a4):=rfl;exact⟨.bool (!r),by unfold execOp;rw[a1];simp only[a5,bk,ck,h1,aJ,aS,ce,it],.v _⟩
theorem ag6{a b:Bool}(cc:∀w,(underlying T).run av w=.ok .bool w)(ar:ρ x=D (bs a))(bh:ρ y=D (bs b)):bE av (.binOp .eql T x y b1) ty ρ [] [] (bs (a==b)):=
 kS ar bh λw'=>by unfold binOp l2;rw[show s9=9999+1 from rfl];unfold kG;cases a<;>cases b<;>simp[ck,eqGuard,ce,cc]
theorem I1{a b:Bool}(cc:∀w,(underlying T).run av w=.ok .bool w)(ar:ρ x=D (bs a))(bh:ρ y=D (bs b)):bE av (.binOp .neq T x y b1) ty ρ [] [] (bs (!(a==b))):=
 kS ar bh λw'=>by unfold binOp l2;rw[show s9=9999+1 from rfl];unfold kG;cases a<;>cases b<;>simp[ck,eqGuard,ce,cc]
end
def E0(F:Fence)(n:Nat)(P:cj)(c:dS)(Q:cN->cO->bb->Prop)(a:cO)(w:bb):Prop:=
 ∀(b:Frame)(k:List Item)(cs:List Frame),b.roundOf=F.round->F.fn b.fn->F.room (cs.length+1+n)->
  ∃e gy w',Q e gy w'/\ArrivesIn (Machine.fenced P F) P (lone (b.atR a (.code c:: .inLoop c::k)) cs w) b k cs e gy w'
theorem E0.aY{F:Fence}{n:Nat}{P:cj}{c:dS}{Q:cN->cO->bb->Prop}{a:cO}{w:bb}(h:c.wpIn F n P (Exit.then (E0 F n P c Q) Q) a w):E0 F n P c Q a w:=by
 intro b k cs rQ aB aM;obtain⟨e,E1,E2,aE,xc⟩:=h b (.inLoop c::k) cs rQ aB aM;cases e with
 |normal=>obtain⟨ag7,ag8,xd,ag9,aha⟩:=aE b k cs rQ aB aM;exact⟨ag7,ag8,xd,ag9,.of_steps (StepsIn.trans xc (.one (fenced_calm aB aM rfl) stepR_inLoop)) aha⟩
 |exit id=>exact⟨_,E1,E2,aE,.pass (x:=.inLoop c) rfl (λ_ _=>.inl (by simp)) xc⟩
 |goto l=>exact⟨_,E1,E2,aE,.pass (x:=.inLoop c) rfl (λ_ _=>.inl (by simp)) xc⟩
 |ret=>exact⟨_,E1,E2,aE,.pass (x:=.inLoop c) rfl (λ_ _=>.inl (by simp)) xc⟩
 |panic afg=>exact⟨_,E1,E2,aE,.pass (x:=.inLoop c) rfl (λ_ _=>.inl (by simp)) xc⟩
 |outgrown=>exact⟨_,E1,E2,aE,.pass (x:=.inLoop c) rfl (λ_ _=>.inl (by simp)) xc⟩
theorem E0.loop{F:Fence}{n:Nat}{P:cj}{c:dS}{Q:cN->cO->bb->Prop}{a:cO}{w:bb}(h:E0 F n P c Q a w):(Code.loop c).wpIn F n P Q a w:=by intro b k cs rQ aB aM;obtain⟨e,gy,w',aE,xc⟩:=h b k cs rQ aB aM;exact⟨e,gy,w',aE,.of_steps (.one (fenced_calm aB aM rfl) stepR_loop) xc⟩
section
variable {Y : gj} {Q : cN -> cO -> bb -> Prop} {l : bY} {H : List aG} {R : Type} {m : Option R} {T : R -> Prop}
end
section
variable {Y : gj} {Q : cN -> cO -> bb -> Prop} {l : bY} {H : List aG} {R : Type} {m : Option R} {T : R -> Prop} {ops : Array bU} {os rest : List bU} {acc : List (List Nat × List Nat)} {t : Nat} {ty : b3} {pos : String} {cx : Array ie} {eF : Option (Nat × Bool)} {dst : Option Tmp}
variable {α:Type}{H2 mA:α->List aG}{Hc:List aG}{args:List bM}{dd:α->V}{ds:List V}{g:gh}{rr:α->V}{x:Option α}{y:bM}
theorem bI.eY{tys:Array b3}{f:α->Option R}(aU fr:List Nat)(bh:bO l y=D (.p (.v (.func (.func g) #[] #[]))))(aP:∀z,x=D z->pI Y.X.P g ds Hc (rr z) (mA z) aU fr H (dd z) (H2 z))(a8:∀args w,(callFunc g args).run Y.X.P w=.ok (.enter g args) w)
  (i5:l1 (bO l) args (gb (bQ aU) ds)) (jX:fq H (ek (bQ aU) aU Hc++fr.map λj=>(j,.bW))) (az:kT Y.X.N dst=ah) (k:∀z,bI Y ops Q rest (gn dst (dd z) l) (H2 z) (f z) T):
  bI Y ops Q ({dst:=dst,op:=.call {callee:=.value y,args:=args.toArray,argTypes:=tys},type:=ty,pos:=pos,after:=cx,guard:=aF}::rest) l H (x.bind f) T:=λc9=>by
 obtain⟨z,h1,h2⟩:=c9.bind;obtain⟨eQ,jb,ll,lL⟩:=aP z h1;refine eo.aC (bE.II eQ a8 bh i5 jb) jX az ?_;rw[ll,lL];exact k z h2
theorem j0.eY{tys:Array b3}{f:α->Option R}(aU fr:List Nat)(bh:bO l y=D (.p (.v (.func (.func g) #[] #[]))))(aP:∀z,x=D z->pI Y.X.P g ds Hc (rr z) (mA z) aU fr H (dd z) (H2 z))(a8:∀args w,(callFunc g args).run Y.X.P w=.ok (.enter g args) w)
  (i5:l1 (bO l) args (gb (bQ aU) ds)) (jX:fq H (ek (bQ aU) aU Hc++fr.map λj=>(j,.bW))) (hw:∀z,(ek (bQ (aU++fr)) (aU++fr) (mA z)).map (·.1)=aU++fr) (b2:iY os l eF) (k:∀z,j0 Y Q os rest (gn dst (dd z) l) (H2 z) (acc++[((ek (bQ aU) aU Hc++fr.map λj=>(j,aG.bW)).map (·.1),aU++fr)]) (f z) T):
  j0 Y Q os ({dst:=dst,op:=.call {callee:=.value y,args:=args.toArray,argTypes:=tys},type:=ty,pos:=pos,after:=cx,guard:=eF}::rest) l H acc (x.bind f) T:=λc9=>by
 obtain⟨z,h1,h2⟩:=c9.bind;obtain⟨eQ,jb,ll,lL⟩:=aP z h1;refine iv.mw (bE.II eQ a8 bh i5 jb) jX b2 ?_;rw[ll,lL,hw z];exact k z h2
end
section
variable {Y : gj} {Q : cN -> cO -> bb -> Prop} {l : bY} {H : List aG} {R : Type} {m m' : Option R} {T : R -> Prop} {ops : Array bU} {os rest : List bU} {acc : List (List Nat × List Nat)} {t : Nat} {op : Op} {ty : b3} {pos : String} {cx : Array ie} {eF : Option (Nat × Bool)} {dst : Option Tmp} {d : V} {cV cE : List (Nat × aG)}
theorem j0.q(h:bE Y.X.P op ty (bO l) [] [] d)(b2:iY os l eF)(k:j0 Y Q os rest ((t,d)::l) H (acc++[([],[])]) m T):j0 Y Q os ({dst:=D t,op:=op,type:=ty,pos:=pos,after:=cx,guard:=eF}::rest) l H acc m T:=λc9=>iv.mw (dst:=D t) h e6 b2 (k c9)
theorem j0.aC(h:bE Y.X.P op ty (bO l) cV cE d)(dY:fq H cV)(b2:iY os l eF)(k:j0 Y Q os rest (gn dst d l) (dT H cE) (acc++[(cV.map (·.1),cE.map (·.1))]) m T):j0 Y Q os ({dst:=dst,op:=op,type:=ty,pos:=pos,after:=cx,guard:=eF}::rest) l H acc m T:=λc9=>iv.mw h dY b2 (k c9)
theorem bZ.as{e:cN}(h:m=m')(k:bZ Y Q e l H m' T):bZ Y Q e l H m T:=h▸k
theorem bI.as(h:m=m')(k:bI Y ops Q rest l H m' T):bI Y ops Q rest l H m T:=h▸k
theorem eo.ahb{ρ:bM->Option V}(h:bE Y.X.P op ty ρ [] [] d)(az:fV t Y.X.N=ah)(k:eo Y ops Q rest ((t,d)::l) H){g:b_}{w:bb}{a:cO}(aM:b' Y.cn Y.b0 Y.bS g w H)(a9:hM Y.X g w H l a)(oP:∀x u,ρ x=D u->cD g w H u (a.eval x)):
  jQ Y.X ops Q ({dst:=D t,op:=op,type:=ty,pos:=pos,after:=cx,guard:=aF}::rest) a w:=by
 simp only[jQ,Region.wanted,if_true,Oper.wpIn];refine⟨λ_ _=>trivial,?_⟩
 have fin:∀v w' g',b' w g H g' w' (dT H [])->cD g' w' (dT H []) d v->jQ Y.X ops Q rest (a.put (D t) v) w':=λv w' g' h1 h2=>
  k g' w' _ (aM.then h1) ((a9.a' h1.a').put (dst:=D t) az h2)
 rcases h g w H a.eval {dst:=D t,op:=op,type:=ty,pos:=pos,after:=cx,guard:=aF} rfl rfl aM.iR e6 (λx _ u hu=>oP x u hu)with⟨v,w',h1,g',h2,aJ⟩|⟨w',h1,g',h2,aJ⟩|⟨n,h1,h2⟩
 ·rw[qY h1 (by intro d h;cases h)];exact fin v w' g' h2 aJ
 ·rw[qY h1 (by intro d h;cases h)];exact fin undef w' g' h2 aJ
 ·rw[qY h1 h2.yQ];exact h2.H5 λv w' ⟨g',aJ,bp⟩=>fin v w' g' aJ bp
theorem bI.ahc{α:Type}{b1 W E k s:Nat}{e:α->List P}{xs:List α}(cc:∀w,(underlying b1).run Y.X.P w=.ok (.slice E) w)(aV:cR l s=D (bT k e xs))(az:fV t Y.X.N=ah)(nu:bI Y ops Q rest ((t,bs aQ)::l) H m T)(kt:xs=[]->bI Y ops Q rest ((t,bs ah)::l) H m T):
  bI Y ops Q ({dst:=D t,op:=.binOp .eql b1 (.tmp s) (.const (.slice aF 0 0)) W,type:=ty,pos:=pos,after:=cx,guard:=aF}::rest) l H m T:=λc9 g w a aM a9=>by
 obtain⟨v,h1,h2⟩:=a9.2.2 s _ aV;have pK:a.eval (.tmp s)=v:=by simp[Act.eval,h1]
 have key:∀(b:Bool),(∀w',(do eqGuard .eql b1 (.tmp s) (.const (.slice aF 0 0)) v (.slice aF 0 0);binOp .eql b1 v (.slice aF 0 0):Sem a4).run Y.X.P w'=.ok (.bool b) w')->eo Y ops Q rest ((t,bs b)::l) H->
   jQ Y.X ops Q ({dst:=D t,op:=.binOp .eql b1 (.tmp s) (.const (.slice aF 0 0)) W,type:=ty,pos:=pos,after:=cx,guard:=aF}::rest) a w:=λb aB au=>by
  refine eo.ahb (ρ:=λ| .tmp s'=>cond (d' s s') (D (.p (.v v))) aF| .const c=>D (.p (.v c))|_=>aF) (kS (vx:=v) (vy:=.slice aF 0 0) (by simp) rfl aB) az au aM a9 λx u hu=>?_;cases x with
  |tmp s'=>
   simp only at hu;cases aB:d' s s' with
   |true=>rw[aB]at hu;have:=kz aB;subst this;simp at hu;subst hu;rw[pK];exact .v _
   |false=>rw[aB]at hu;cases hu
  |const c=>simp only[hX]at hu;subst hu;exact .v _
  |global q=>cases hu
  |func f=>cases hu
 cases h2 with
 |p h2=>
  rcases h2.rR with⟨⟨oH,rfl⟩,a_,_⟩|⟨b,aY,cap,us,rfl,_⟩
  rotate_left
  ·refine key aQ (λw'=>?_) (nu c9);unfold binOp l2;rw[show s9=9999+1 from rfl];unfold kG;simp[eqGuard,ck,ce,cc]
  cases oH with
  |some a=>refine key aQ (λw'=>?_) (nu c9);unfold binOp l2;rw[show s9=9999+1 from rfl];unfold kG;simp[eqGuard,ck,ce,cc]
  |none=>refine key ah (λw'=>?_) (kt (nl a_) c9);unfold binOp l2;rw[show s9=9999+1 from rfl];unfold kG;simp[eqGuard,ck,ce,cc]
end
section
variable {Y : gj} {Q : cN -> cO -> bb -> Prop} {l : bY} {H : List aG} {R : Type} {m : Option R} {T : R -> Prop} {ops : Array bU} {rest : List bU} {t : Nat} {op : Op} {ty : b3} {pos : String} {cx : Array ie}
theorem hM.at{X:hY}{g g':b_}{w:bb}{H H':List aG}{a:cO}{d cQ:V}(a9:hM X g w H l a)(hm:hx g w H g' w H')(ai:cR l t=D d)(h:∀v,cD g w H d v->cD g' w H' cQ v):hM X g' w H' ((t,cQ)::l) a:=by
 have n6:=a9.a' hm;refine⟨n6.1,n6.2.1,λs x ar=>?_⟩;simp only[cR]at ar;by_cases q:t=s
 ·subst q;rw[show d' t t=ah from jp t]at ar;simp only[cond_true,hX]at ar;subst ar;obtain⟨v,h1,h2⟩:=a9.2.2 t _ ai;exact⟨v,h1,h v h2⟩
 ·rw[p' q]at ar;exact n6.2.2 s x ar
theorem b'.ahd{g:b_}{w:bb}{H:List aG}{i T k:Nat}(n:Nat)(h:gm g w H)(ao:H[i]? =D .bW):b' w g H ⟨g.β,g.E,dD g.h i (.slice aF 0 0)⟩ w (H.set i (.bl T k n)):=by
 have dN:=(cz.1 ao).1;have df:∀b,¬own g H i b:=λb a1=>by unfold own at a1;rw[ao]at a1;exact a1
 refine b'.one h dN rfl rfl rfl (b5 _) (λb _ _=>⟨rfl,rfl⟩) (λb _ a1=>absurd a1 (df b)) (λb a1=>absurd a1 (df b)) (λj ae=>⟨rfl,ki ae⟩) (λaK=>by rw[ao]at aK;exact aK.elim)
  (λm hm=>by rw[ao]at hm;cases hm) (λb a1=>?_) (λdO=>?_)
 ·have e:(dD g.h i (.slice aF 0 0) i).ownBlock=D b:=a1;rw[fB]at e;cases e
 ·refine⟨0,[],?_,λb aB=>?_⟩
  ·show World.ownsRow _ 0 T k (dD g.h i _ i) 0 [];rw[fB];exact⟨by simp,.inl ⟨rfl,rfl⟩⟩
  ·have e:(dD g.h i (.slice aF 0 0) i).ownBlock=D b:=aB;rw[fB]at e;cases e
section
variable {α : Type} {b1 at7 E i n : Nat} {x : bM} {xs : List α} {c : α -> P} {f : List α -> Option R}
end
end
section
variable {Y : gj} {Q : cN -> cO -> bb -> Prop} {l : bY} {H : List aG} {R : Type} {m : Option R} {T : R -> Prop}
theorem b'.xe{α:Type}{g:b_}{w:bb}{H:List aG}{e:α->List P}{b1 k i j n dF:Nat}{cs:List V}(h:gm g w H)(ao:H[i]? =D (.cells dF cs))(ae:cs[j]? =D (.p (.v (.slice aF 0 0))))(a_:H[n]? =D .bW):
  ∃g',b' w g H g' w ((H.set n (.bl b1 k 0)).set i (.cells dF (cs.set j (cT k e [] n 0)))):=by
 have zf:n≠i:=λe=>by subst e;rw[ao]at a_;cases a_
 have dN:=(cz.1 ao).1;have s1:=b'.ahd (T:=b1) (k:=k) 0 h a_;have h1:=s1.iR;have s_:(H.set n (.bl b1 k 0))[i]? =D (.cells dF cs):=by rw[jG (λe=>zf e.symm)];exact ao
 obtain⟨us,dw,kD,aS⟩:=h1.ec i _ s_;have ej:∀b,own ⟨g.β,g.E,dD g.h n (.slice aF 0 0)⟩ (H.set n (.bl b1 k 0)) i b↔b=g.β i:=λb=>by unfold own;rw[s_];exact Iff.rfl
 refine⟨_,s1.then (b'.one h1 (by simpa using dN) rfl rfl rfl (b5 _) (λb _ _=>⟨rfl,rfl⟩) (λb o _ _=>rfl) (λb _=>b5 _) (λj _=>⟨rfl,rfl⟩) (λ_=>⟨trivial,rfl⟩) (λm hm=>by rw[s_]at hm;cases hm) (λb a1=>.inl ((ej b).2 a1)) λdO=>?_)⟩;obtain⟨u,hu,aM⟩:=kD.aq ae;have Io:=aM.g4;subst Io;have E3:=(cz.1 a_).1;have y_:=(kD.a' dO).set (i:=j) (d:=cT k e [] n 0) (v:=.slice aF 0 0) (.cT .nil ⟨0,by unfold eL;rw[jG zf,jH E3];rfl,b5 _,λ_=>(fB _ _ _).symm⟩);have xf:us.set j (.slice aF 0 0)=us:=by
  apply mr;intro q;rw[List.getElem?_set];split
  ·rename_i e;subst e;split
   ·exact hu.symm
   ·rename_i aE;rw[n1 (Nat.le_of_not_lt aE)]
  ·rfl
 rw[xf]at y_;exact⟨us,dw,y_,aS⟩
theorem co.xe{c:dS}{α:Type}(e:α->List P)(b1 k i j n:Nat){dF:Nat}{cs:List V}(ao:H[i]? =D (.cells dF cs))(ae:cs[j]? =D (.p (.v (.slice aF 0 0))))(a_:H[n]? =D .bW)(h:co Y c Q l ((H.set n (.bl b1 k 0)).set i (.cells dF (cs.set j (cT k e [] n 0)))) m T):co Y c Q l H m T:=λc9 g w a aM a9=>by obtain⟨g',h1⟩:=b'.xe (e:=e) (b1:=b1) (k:=k) aM.iR ao ae a_;exact h c9 g' w a (aM.then h1) (a9.a' h1.a')
end
section
variable {av : cj} {ty : b3} {ρ : bM -> Option V}
end
variable {av:cj}
theorem ahe{T n E s:b3}{z:a4}{e':List a4}{pl:List (Nat×Nat)}(bj:∀w,(zeroValue T).run av w=.ok z w)(hu:∀w,(underlying T).run av w=.ok (.array n E) w)(aV:∀w,(sizeOf E).run av w=.ok s w)(hp:pl=(List.range n).map λi=>(i*s,s))(OV:z.cells=e'.toArray)(c:Array a4)(ps:List (Nat×a4))(w:bb)
  (h:mm (λi=>pl[i]?) e'.toArray ps=D c):(wP T ps.toArray).run av w=.ok (.agg c) w:=by
 have dp:mm (λi=>D (i*s,s)) z.cells ps=D c:=by rw[OV];refine WU (pl:=pl) (λi x ar=>?_) ps _ c h;subst hp;rw[fv,Option.map_eq_some_iff]at ar;obtain⟨j,ae,rfl⟩:=ar;have:=(cz.1 ae).2;rw[List.getElem_range]at this;rw[this]
 unfold wP;simp only[ck,bj,hu,aV,ce,dp,it]
structure vz(av:cj)(d:V)(kW:List V)(r:V):Prop where
 aY:∃(g:gh)(cI en:List V),(d=.fn (.func g) cI en\/(d=.p (.v (.func (.func g) #[] #[]))/\cI=[]/\en=[]))/\(∀args w,(callFunc g args).run av w=.ok (.enter g args) w)/\y5 av g (cI++kW++en) r/\cI++kW++en=gb (bQ []) (cI++kW++en)/\le 0 (cI++kW++en)=ah/\r.dc (bQ [])=r
variable {kW:List V}{g:gh}{r:V}
theorem vz.eY(aP:y5 av g kW r)(a8:∀args w,(callFunc g args).run av w=.ok (.enter g args) w)(h1:kW=gb (bQ []) kW)(h2:le 0 kW=ah)(aJ:r.dc (bQ [])=r):vz av (.p (.v (.func (.func g) #[] #[]))) kW r:=
 ⟨g,[],[],.inr ⟨rfl,rfl,rfl⟩,a8,by simpa using aP,by simpa using h1,by simpa using h2,aJ⟩
theorem vz.q7 {cI en:List V}(aP:y5 av g (cI++kW++en) r)(a8:∀args w,(callFunc g args).run av w=.ok (.enter g args) w)(h1:cI++kW++en=gb (bQ []) (cI++kW++en))(h2:le 0 (cI++kW++en)=ah)(aJ:r.dc (bQ [])=r):vz av (.fn (.func g) cI en) kW r:=
 ⟨g,cI,en,.inl rfl,a8,aP,h1,h2,aJ⟩
section
variable {av : cj} {ty : b3} {ρ : bM -> Option V} {T b1 : b3} {x y : bM} {a c : V} {u : TypeDesc} {r : Bool}
theorem ahf(cc:∀w,(underlying T).run av w=.ok u w)(h:BH u a c=ah){g:b_}{w:bb}{H:List aG}{jw ql:a4}(a9:cD g w H a jw)(aP:cD g w H c ql)(x y:bM):(eqGuard .eql T x y jw ql).run av w=.ok () w/\(eqGuard .neq T x y jw ql).run av w=.ok () w/\(binOp .eql T jw ql).run av w=.ok (.bool aQ) w/\(binOp .neq T jw ql).run av w=.ok (.bool ah) w:=by obtain⟨a5,bk,_⟩:=agC cc h a9 aP x y;have a_:=agD h a9;obtain⟨c0,gA⟩:=agE a_.1 a_.2.1 a_.2.2.1 a_.2.2.2 bk;exact⟨(a5 .eql (.inl rfl)).1,(a5 .neq (.inr rfl)).1,c0,gA⟩
theorem ahg(cc:∀w,(underlying T).run av w=.ok u w)(ar:ρ x=D a)(bh:ρ y=D c)(h:BH u a c=ah):bE av (.binOp .eql T x y b1) ty ρ [] [] (bs aQ):=.pure λg w H e o a1 _ _ a8=>⟨.bool aQ,by obtain⟨a5,_,c0,_⟩:=ahf cc h (a8 x (by simp[c_]) _ ar) (a8 y (by simp[c_]) _ bh) x y;unfold execOp;rw[a1];simp only[ck,a5,c0,ce,it],.v _⟩
theorem Xu{ps jV:Array b3}{ahh:Bool}(cc:∀w,(underlying T).run av w=.ok (.func ps jV ahh) w)(ar:ρ x=D a)(bh:ρ y=D (.p (.v .nilFunc)))(h:(r=ah/\a=.p (.v .nilFunc))\/(r=aQ/\a.BG=ah)):bE av (.binOp .eql T x y b1) ty ρ [] [] (bs r):=by
 rcases h with⟨rfl,rfl⟩|⟨rfl,h⟩
 ·exact kS ar bh λw=>by unfold binOp l2;rw[show s9=9999+1 from rfl];unfold kG;simp[eqGuard,ck,ce,cc]
 ·exact ahg cc ar bh (by cases a<;>first|exact h|(cases h))
end
theorem bE.Bm{av:cj}{ty:b3}{ρ:bM->Option V}{x:bM}{args:List bM}{tys:Array b3}{d r:V}{kW:List V}(aP:vz av d kW r)(oP:ρ x=D d)(i5:l1 ρ args kW):bE av (.call {callee:=.value x,args:=args.toArray,argTypes:=tys}) ty ρ [] [] r:=by
 obtain⟨g,cI,en,az,a8,h1,h2,aJ,bp⟩:=aP;rcases az with rfl|⟨rfl,rfl,rfl⟩
 ·have:=bE.WG (tys:=tys) (ty:=ty) (aU:=[]) (fr:=[]) h1 a8 oP i5 h2 ⟨rfl,aJ,rfl,Pv,b5 _,b5 _⟩;simp only[j3,bp]at this;exact this
 ·have:=bE.II (tys:=tys) (ty:=ty) (aU:=[]) (fr:=[]) (by simpa using h1) a8 oP (show l1 ρ args (gb (bQ []) kW)from(show kW=gb (bQ []) kW by simpa using h2)▸i5) ⟨rfl,by simpa using aJ,rfl,Pv,b5 _,b5 _⟩;simp only[j3,bp]at this;exact this
section
variable {Y : gj} {Q : cN -> cO -> bb -> Prop} {l : bY} {H : List aG} {R : Type} {m : Option R} {T : R -> Prop} {ops : Array bU} {os rest : List bU} {acc : List (List Nat × List Nat)} {t : Nat} {ty : b3} {pos : String} {cx : Array ie} {eF : Option (Nat × Bool)}
theorem bI.iT{α:Type}{y:bM}{args:List bM}{tys:Array b3}{d:V}{kW:List V}{dd:α->V}{x:Option α}{f:α->Option R}(bh:bO l y=D d)(aP:∀z,x=D z->vz Y.X.P d kW (dd z))(i5:l1 (bO l) args kW)(az:fV t Y.X.N=ah)(k:∀z,bI Y ops Q rest ((t,dd z)::l) H (f z) T):
  bI Y ops Q ({dst:=D t,op:=.call {callee:=.value y,args:=args.toArray,argTypes:=tys},type:=ty,pos:=pos,after:=cx,guard:=aF}::rest) l H (x.bind f) T:=λc9=>by
 obtain⟨z,h1,h2⟩:=c9.bind;exact eo.aC (dst:=D t) (bE.Bm (aP z h1) bh i5) e6 az (k z h2)
end
section
variable {bX R : Type} {body : bX -> Option (bX ⊕ R)} {r : R}
end
section
variable {R : Type} {body : Int -> Option (Int ⊕ R)} {at8 at9 : R}
end
section
variable {α : Type} {xs cX : List α}
theorem jj(h:xs.length+cX.length<=1099511627776):eR xs cX=D (xs++cX):=by unfold eR;rw[if_pos h]
theorem r4(h:cX.length<=1099511627776):eR [] cX=D cX:=by rw[jj (by simpa using h)];rfl
theorem Xv(i:Nat):aL xs (i:Int)=xs[i]? :=by unfold aL;rw[if_pos (by omega)];simp
theorem e3{i:Nat}{x:α}(h:xs[i]? =D x):aL xs (i:Int)=D x:=by rw[Xv,h]
theorem Xw{i:Nat}(h:i<xs.length):aL xs (i:Int)=D xs[i]:=by rw[Xv,cq h]
theorem Xx{j:Int}(bw:0<=j)(h:j.toNat<xs.length):aL xs j=D xs[j.toNat]:=by unfold aL;rw[if_pos bw,cq h]
end
theorem E4{n:Nat}(h:n< 9223372036854775808):aH (n:Int)=n:=c8 (by omega) (by omega)
def l3(w:bb)(b:Nat):Nat:=match w.heap[b]? with|some (.cells c _ _)=>c.size|_=>0
def b0(w:bb):b_:=⟨λ_=>0,l3 w,λ_=>.bool aQ⟩
variable {v:a4}{w:bb}
theorem I2{b o:Nat}(h:w.cell? ⟨b,o,aF⟩=D v):o<l3 w b/\b<w.heap.size:=by
 unfold p8 at h;unfold l3;simp only at h⊢;cases aB:w.heap[b]? with
 |none=>rw[aB]at h;cases h
 |some x=>
  rw[aB]at h;refine⟨?_,(nY.1 aB).1⟩;cases x<;>simp at h⊢
  obtain⟨h1,_⟩:=nY.1 h;exact h1
theorem ahi(h:t_ (b0 w) w):gm (b0 w) w []:=⟨h,λi o a1=>by simp at a1,λi j b a1=>by simp[own,tZ]at a1⟩
variable {E:Nat->Nat}
theorem ahj(vs:List a4):e_ E w (vs.map .v) vs:=by refine⟨by simp,λj c u h1 h2=>?_⟩;rw[fv,h2]at h1;simp at h1;subst h1;exact .v
theorem I3:e_ E w [] []:=⟨rfl,λj c u h _=>by simp at h⟩
theorem r5{p:P}{ps:List P}{vs:List a4}(h:hL E w p v)(k:e_ E w ps vs):e_ E w (p::ps) (v::vs):=by
 refine⟨by simp[k.1],λj c u h1 h2=>?_⟩;cases j with
 |zero=>simp at h1 h2;subst h1;subst h2;exact h
 |succ j=>simp at h1 h2;exact k.2 j c u h1 h2
theorem Px{g:b_}{w:bb}{H:List aG}:∀{ps:List P}{vs:List a4},e_ g.E w ps vs->cU g w H (ps.map .p) vs
 |[],[],_=>.nil
 |[],_::_,h=>by have:=h.1;simp at this
 |_::_,[],h=>by have:=h.1;simp at this
 |p::ps,v::vs,h=>.cons (.p (h.2 0 p v rfl rfl)) (Px ⟨by have:=h.1;simpa using this,λj c u h1 h2=>h.2 (j+1) c u (by simpa using h1) (by simpa using h2)⟩)
section
variable {H : Type} {enc : b3 × a4 -> H} {av : cj} {w : bb} {base fg : Nat} {spare : Nat -> Bool} {held : Bool} {r : Reach}
theorem Xy{α:Type}{p:Nat->α->Prop}:∀m:Nat,(∀i,i<m->∃x,p i x)->∃xs:List α,xs.length=m/\∀i x,xs[i]? =D x->p i x
 |0,_=>⟨[],rfl,λi x h=>by simp at h⟩
 |m+1,h=>by
  obtain⟨xs,aK,ar⟩:=Xy m λi ao=>h i (Nat.lt_succ_of_lt ao);obtain⟨y,bh⟩:=h m (Nat.lt_succ_self m);refine⟨xs++[y],by simp[aK],λi x q8=>?_⟩;by_cases ao:i<m
  ·rw[sP (by omega)]at q8;exact ar i x q8
  ·have cf:i<(xs++[y]).length:=(cz.1 q8).1;have vk:i=m:=by simp[aK]at cf;omega
   subst vk;rw[ud (by omega)]at q8;simp[aK]at q8;exact q8▸bh
variable {e:b3}{α:Type}{gz:α->List P}{k n:Nat}{t:b3}{v:a4}
theorem Xz{x:IZ H×List IX}(ai:av.underlying t=D (.slice e))(au:av.cellsOf e=k)(aK:∀y,(gz y).length=k)(hp:0<k)
  (xg:∀n cs x,w_ enc av w base spare held n e cs=D x->∃y:α,e_ (l3 w) w (gz y) cs)
  (qn:∀a l c,v=.slice (D a) l c->a.spot=aF) (ff:∀a c,v=.slice (D a) 0 c->a.block<w.heap.size/\a.off<=l3 w a.block) (h:w_ enc av w base spare held n t [v]=D x):∃xs,hL (l3 w) w (dI k gz xs) v:=by
 subst au;rcases Go.Deep.open_slice ai h with⟨e9,_⟩|⟨a,len,cap,m,kC,qa,ahk,e9,_,hle,_,hm,_,ar⟩
 ·simp only[BM,and_true]at e9;subst e9;exact⟨[],.nil⟩
 ·simp only[BM,and_true]at e9;subst e9;have XA:a.spot=aF:=qn _ _ _ rfl;obtain⟨vA,q9,aua⟩:=a;simp only at XA;subst XA;obtain⟨xs,I4,NU⟩:=Xy (p:=λi y=>∃cs',w.cells? base (Addr.add ⟨vA,q9,aF⟩ (i*av.cellsOf e)) (av.cellsOf e)=D cs'/\e_ (l3 w) w (gz y) cs') len λi ao=>by
   obtain⟨cs',h1,h2⟩:=ar i (by subst hm;split<;>omega);obtain⟨y,bh⟩:=xg _ _ _ h2;exact⟨y,cs',h1,bh⟩
  have cell:∀i q,i<len->q<av.cellsOf e->∃y v,xs[i]? =D y/\w.cell? ⟨vA,q9+(i*av.cellsOf e+q),aF⟩=D v/\∀c,(gz y)[q]? =D c->hL (l3 w) w c v:=λi q ao aE=>by
   obtain⟨y,bh⟩:∃y,xs[i]? =D y:=⟨_,cq (by omega)⟩
   obtain⟨cs',h1,h2⟩:=NU i y bh;obtain⟨_,hlen,Py⟩:=Xk h1;have XB:q<cs'.length:=by omega
   have:=Py q aE;rw[Go.WideShapes.add_plain,Go.WideShapes.add_plain]at this;refine⟨y,cs'[q],bh,?_,λc aP=>h2.2 q c _ aP (cq XB)⟩;rw[<-sS];rw[cq XB]at this;simpa using this
  refine⟨xs,?_⟩;unfold dI;rw[I4];by_cases bw:len=0
  ·subst bw;have mY:xs=[]:=nl I4;subst mY;have aB:=ff ⟨vA,q9,aF⟩ cap rfl;exact .dI (λ_=>undef) (by simp) (Nat.zero_le _) (by simpa using aB.2) aB.1 (λj ae=>by simp at ae) (λj c ae=>by simp at ae)
  ·have oT:(xs.flatMap gz).length=len*av.cellsOf e:=by rw[OZ aK,I4]
   have split:∀j,j<len*av.cellsOf e->j/av.cellsOf e<len/\j%av.cellsOf e<av.cellsOf e/\j/av.cellsOf e*av.cellsOf e+j%av.cellsOf e=j:=λj ae=>
    ⟨Nat.div_lt_of_lt_mul (by rw[ze];exact ae),Xr _ hp,by rw[ze];exact Xp j _⟩
   have aS:∀j,j<len*av.cellsOf e->q9+j<l3 w vA/\vA<w.heap.size:=λj ae=>by obtain⟨s1,s2,s6⟩:=split j ae;obtain⟨y,v,_,bg,_⟩:=cell _ _ s1 s2;rw[s6]at bg;exact I2 bg
   have ob:0<len*av.cellsOf e:=Nat.mul_pos (by omega) hp;refine .dI (λj=>(w.cell? ⟨vA,q9+j,aF⟩).getD undef) oT hle ?_ (aS 0 ob).2 (λj ae=>?_) (λj c ae=>?_)
   ·have:=(aS (len*av.cellsOf e- 1) (by omega)).1;omega
   ·obtain⟨s1,s2,s6⟩:=split j ae;obtain⟨y,v,_,bg,_⟩:=cell _ _ s1 s2;rw[s6]at bg;rw[bg];rfl
   ·have jq:j<len*av.cellsOf e:=by rw[<-oT];exact(cz.1 ae).1
    obtain⟨s1,s2,s6⟩:=split j jq;obtain⟨y,v,bh,bg,aM⟩:=cell _ _ s1 s2;rw[s6]at bg;rw[bg];refine aM c ?_;have:=OR aK bh;rw[<-this,List.getElem?_take,if_pos s2,List.getElem?_drop,s6];exact ae
theorem E5{x:IZ H×List IX}(ai:av.underlying t=D (.slice e))(au:av.cellsOf e=k)(aK:∀y,(gz y).length=k)(hp:0<k)
  (xg:∀n cs x,w_ enc av w base spare held n e cs=D x->∃y:α,e_ (l3 w) w (gz y) cs)
  (aP:Cell.okWide av w r fg t v) (ff:∀a c,v=.slice (D a) 0 c->a.block<w.heap.size/\a.off<=l3 w a.block) (h:w_ enc av w base spare held n t [v]=D x):∃xs,hL (l3 w) w (dI k gz xs) v:=
 Xz ai au aK hp xg (λa l c e=>by subst e;simp only[Cell.okWide,ai,Cell.ok]at aP;exact aP.2.2.2.1) ff h
theorem ahl{a:Addr}(h:w.cell? a=D v):a.spot=aF/\a.off<l3 w a.block/\a.block<w.heap.size:=by
 obtain⟨b,o,s⟩:=a;cases s with
 |none=>exact⟨rfl,I2 h⟩
 |some s=>exfalso;unfold p8 at h;simp only at h;split at h<;>simp at h
theorem ahm{x:IZ H×List IX}(ahn:∀b,spare b=ah)(ai:av.underlying t=D (.slice e))(au:av.cellsOf e=k)(aK:∀y,(gz y).length=k)(hp:0<k)
  (xg:∀n cs x,w_ enc av w base spare held n e cs=D x->∃y:α,e_ (l3 w) w (gz y) cs) (h:w_ enc av w base spare held n t [v]=D x):∃xs,hL (l3 w) w (dI k gz xs) v:=by
 rcases Go.Deep.open_slice ai h with⟨e9,_⟩|⟨a,len,cap,m,kC,qa,ahk,e9,_,hle,_,hm,_,ar⟩
 ·simp only[BM,and_true]at e9;subst e9;exact⟨[],.nil⟩
 ·simp only[BM,and_true]at e9;subst e9;rw[ahn,if_pos rfl]at hm;subst hm;by_cases bw:m=0
  ·subst bw;obtain rfl:len=0:=by omega
   exact⟨[],.vh⟩
  ·obtain⟨cs',h1,_⟩:=ar 0 (by omega);obtain⟨_,hlen,Py⟩:=Xk h1;have h2:=Py 0 (by omega);have aE:0<cs'.length:=by omega
   rw[cq aE]at h2;rw[show(a.add (0*av.cellsOf e)).add 0=a by simp[Addr.add]]at h2;have aJ:=ahl h2;exact Xz ai au aK hp xg (λgy l c e=>by cases e;exact aJ.1) (λgy c e=>by cases e;exact⟨aJ.2.2,by omega⟩) h
theorem m0{vo:Array Field}{xs:List (IZ H×List IX)}{cs:List a4}(hlen:xs.length=vo.size)(a8:∀(i:Nat)(f:Field),vo[i]? =D f->w_ enc av w base spare held n f.type ((cs.drop f.offset).take (av.cellsOf f.type))=xs[i]?)(i ty off k:Nat)(ao:(vo[i]?).map (λf=>(f.type,f.offset))=D (ty,off))(au:av.cellsOf ty=k):
  ∃y,w_ enc av w base spare held n ty ((cs.drop off).take k)=D y:=by
 cases ar:vo[i]? with
 |none=>rw[ar]at ao;cases ao
 |some f=>
  rw[ar]at ao;simp only[lV,hX,Prod.mk.injEq]at ao;obtain⟨rfl,rfl⟩:=ao;have cf:i<xs.length:=by rw[hlen];exact(nY.1 ar).1
  subst au;exact⟨xs[i],by rw[a8 i f ar,cq cf]⟩
theorem aho{h7:b3->Bool}{d:Nat} {count off:Nat}(h:rowAt av h7 d e count off n=ah):off<=count*av.cellsOf e:=by
 cases d with
 |zero=>simp[rowAt]at h
 |succ d=>
  simp only[rowAt]at h;split at h
  ·cases h
  rename_i aV;have az:=Xp off (av.cellsOf e);have hm:=Xr off (Nat.pos_of_ne_zero aV);rw[hk]at h;rcases h with h|h
  ·simp only[ea,beq_iff_eq,decide_eq_true_eq]at h;have:av.cellsOf e*(off/av.cellsOf e)<=av.cellsOf e*count:=Xo _ (by omega);rw[ze count];omega
  ·rw[ea,decide_eq_true_eq]at h;have:av.cellsOf e*(off/av.cellsOf e+1)<=av.cellsOf e*count:=Xo _ (by omega);rw[Nat.mul_add,q4]at this;rw[ze count];omega
theorem XC:∀{d:Nat}{e:b3}{count off:Nat}{u:b3}{n:Nat},liesAt av d e count off u n=ah->off<=count*av.cellsOf e
 |0,_,_,_,_,_,h=>by simp[liesAt]at h
 |d+1,e,count,off,u,n,h=>by
  simp only[liesAt,hk]at h;rcases h with h|h
  ·exact aho h
  ·split at h
   ·exact XC h
   ·cases h
theorem E6(ai:av.underlying t=D (.slice e))(aP:Cell.okWide av w r fg t v):∀a c,v=.slice (D a) k c->a.block<w.heap.size/\a.off<=l3 w a.block:=λa c he=>by
 subst he;simp only[Cell.okWide,ai,Cell.ok,World.has]at aP;obtain⟨_,_,_,_,rR,cells,BN,E7⟩:=aP;have hle:=Nat.le_trans (XC E7) (Nat.div_mul_le_self _ _);unfold World.shape? at BN;unfold l3;cases aB:w.heap[a.block]? with
 |none=>rw[aB]at BN;cases BN
 |some x=>
  refine⟨(nY.1 aB).1,?_⟩;rw[aB]at BN;cases x<;>simp at BN⊢
  obtain⟨_,rfl⟩:=BN;exact hle
end
section
variable {Y : gj} {Q : cN -> cO -> bb -> Prop} {l : bY} {H : List aG} {R : Type} {m : Option R} {T : R -> Prop} {ops : Array bU} {os rest : List bU} {acc : List (List Nat × List Nat)} {t : Nat} {ty : b3} {pos : String} {cx : Array ie} {eF : Option (Nat × Bool)} {dst : Option Tmp}
end
open Go.MapKept
def eJ(dj:Bool)(cs:List P):V:=if dj=ah then .agg (cs.map .p)else match cs with|[x]=>.p x|_=>.p (.v undef)
section
variable {K X : Type} [DecidableEq K]
def ho:List K->K->Option Nat
 |[],_=>aF
 |a::r,k=>if a=k then D 0 else(ho r k).map (· +1)
def dP:List (K×X)->K->Option X
 |[],_=>aF
 |(a,x)::r,k=>if a=k then D x else dP r k
def d_:List (K×X)->K->X->List (K×X)
 |[],k,x=>[(k,x)]
 |(a,y)::r,k,x=>if a=k then(k,x)::r else(a,y)::d_ r k x
def mB:List (K×X)->K->List (K×X)
 |[],_=>[]
 |(a,y)::r,k=>if a=k then r else(a,y)::mB r k
theorem BO:∀{kv:List (K×X)}{k:K}{j:Nat},ho (kv.map (·.1)) k=D j->∃x,kv[j]? =D (k,x)/\dP kv k=D x
 |[],k,j,h=>by cases h
 |(a,y)::r,k,j,h=>by
  simp only[gI,ho]at h;by_cases e:a=k
  ·rw[if_pos e]at h;cases h;exact⟨y,by simp[e],by simp[dP,e]⟩
  ·rw[if_neg e]at h;cases h2:ho (r.map (·.1)) k with
   |none=>rw[h2]at h;cases h
   |some i=>rw[h2]at h;cases h;obtain⟨x,aJ,bp⟩:=BO h2;exact⟨x,by simpa using aJ,by simp[dP,e,bp]⟩
theorem Pz:∀{kv:List (K×X)}{k:K},ho (kv.map (·.1)) k=aF->dP kv k=aF
 |[],k,h=>rfl
 |(a,y)::r,k,h=>by
  simp only[gI,ho]at h;by_cases e:a=k
  ·rw[if_pos e]at h;cases h
  ·rw[if_neg e]at h;have h2:ho (r.map (·.1)) k=aF:=by
    cases h2:ho (r.map (·.1)) k with
    |none=>rfl
    |some i=>rw[h2]at h;cases h
   simp[dP,e,Pz h2]
theorem BP:∀{kv:List (K×X)}{k:K}{j:Nat}{x:X},ho (kv.map (·.1)) k=D j->d_ kv k x=kv.set j (k,x)
 |[],k,j,x,h=>by cases h
 |(a,y)::r,k,j,x,h=>by
  simp only[gI,ho]at h;by_cases e:a=k
  ·rw[if_pos e]at h;cases h;simp[d_,e]
  ·rw[if_neg e]at h;cases h2:ho (r.map (·.1)) k with
   |none=>rw[h2]at h;cases h
   |some i=>rw[h2]at h;cases h;simp[d_,e,BP h2]
theorem BQ:∀{kv:List (K×X)}{k:K}{x:X},ho (kv.map (·.1)) k=aF->d_ kv k x=kv++[(k,x)]
 |[],k,x,h=>rfl
 |(a,y)::r,k,x,h=>by
  simp only[gI,ho]at h;by_cases e:a=k
  ·rw[if_pos e]at h;cases h
  ·rw[if_neg e]at h;have h2:ho (r.map (·.1)) k=aF:=by
    cases h2:ho (r.map (·.1)) k with
    |none=>rfl
    |some i=>rw[h2]at h;cases h
   simp[d_,e,BQ h2]
theorem E8:∀{kv:List (K×X)}{k:K}{j:Nat},ho (kv.map (·.1)) k=D j->mB kv k=kv.eraseIdx j
 |[],k,j,h=>by cases h
 |(a,y)::r,k,j,h=>by
  simp only[gI,ho]at h;by_cases e:a=k
  ·rw[if_pos e]at h;cases h;simp[mB,e]
  ·rw[if_neg e]at h;cases h2:ho (r.map (·.1)) k with
   |none=>rw[h2]at h;cases h
   |some i=>rw[h2]at h;cases h;simp[mB,e,E8 h2]
theorem E9:∀{kv:List (K×X)}{k:K},ho (kv.map (·.1)) k=aF->mB kv k=kv
 |[],k,h=>rfl
 |(a,y)::r,k,h=>by
  simp only[gI,ho]at h;by_cases e:a=k
  ·rw[if_pos e]at h;cases h
  ·rw[if_neg e]at h;have h2:ho (r.map (·.1)) k=aF:=by
    cases h2:ho (r.map (·.1)) k with
    |none=>rfl
    |some i=>rw[h2]at h;cases h
   simp[mB,e,E9 h2]
def h8(av:cj)(T jT:b3)(cu:K->a4):Prop:=∃kt,av.underlying T=D (.map kt jT)/\(∀e k w,(Xf e 10000 kt (cu k)).run av w=.ok () w)/\
 (∀(k:K)(es:List IY)(ks:List K)(w:bb),es.map (·.key)=ks.map cu->(Instr.findKey kt (cu k) es).run av w=.ok (aw (ho ks k) λj=>(es[j]?).map λe=>(j,e.val)) w)/\∀k w,(Xe (cu k) (cu k)).run av w=.ok (cu k) w
end
variable {K:Type}{av:cj}{T jT:b3}{cu:K->a4}{kt:b3}
theorem h8.aY [DecidableEq K]{d:TypeDesc}(hm:av.underlying T=D (.map kt jT))(az:av.underlying kt=D d)(au:∀k,IsKey d (cu k))(he:∀a k,Ps d (cu k) (cu a)=D (decide (a=k))):h8 av T jT cu:=by
 refine⟨kt,hm,λe k w=>run_checkKey az (au k) e 9999,λk es ks w yU=>?_,λk w=>run_keyThatStays (au k)⟩;have key:∀(es:List IY)(ks:List K)(i:Nat),es.map (·.key)=ks.map cu->BE d (cu k) es i=D (aw (ho ks k) λj=>(es[j]?).map λe=>(i+j,e.val)):=by
  intro es;induction es with
  |nil=>intro ks i h;cases ks with
   |nil=>rfl
   |cons _ _=>cases h
  |cons x es bB=>
   intro ks i h;cases ks with
   |nil=>cases h
   |cons a ks=>
    simp only[gI,BM]at h;unfold BE;rw[h.1,he];by_cases e:a=k
    ·simp[e,ho]
    ·simp only[e,decide_false,ho,if_false];rw[bB ks (i+1) h.2];cases ho ks k with
     |none=>rfl
     |some j=>simp[sS,qX 1 j]
 have:=run_findKey (w:=w) az (key es ks 0 yU);rw[this];simp
theorem h8.int{av:cj}{T jT kt:b3}{XD:hv}(hm:av.underlying T=D (.map kt jT))(az:av.underlying kt=D (.int XD)):h8 av T jT (λn:Int=>.int XD n):=
 .aY hm az (λ_=>rfl) λa k=>by simp[Ps,Bool.beq_eq_decide_eq,eq_comm]
theorem h8.str(hm:av.underlying T=D (.map kt jT))(az:av.underlying kt=D .string):h8 av T jT (λs:ByteArray=>.string s):=
 .aY hm az (λ_=>trivial) λa k=>by simp only[Ps,hX];rw[Bool.eq_iff_iff,bytes_beq,decide_eq_true_iff];exact eq_comm
theorem h8.ahp [DecidableEq K](hm:av.underlying T=D (.map kt jT))(az:(av.underlying kt).map Pa=D ah)(aP:∀e k w,(Xf e 10000 kt (cu k)).run av w=.ok () w)(he:∀a k w,(l2 kt (cu k) (cu a)).run av w=.ok (decide (k=a)) w)(aV:∀k,Instr.sameBits 10000 (cu k) (cu k)=ah):h8 av T jT cu:=by
 obtain⟨u,hu,zg⟩:∃u,av.underlying kt=D u/\Pa u=ah:=by
  cases h:av.underlying kt with
  |none=>rw[h]at az;cases az
  |some u=>rw[h]at az;exact⟨u,rfl,by simpa using az⟩
 refine⟨kt,hm,aP,λk es ks w yU=>agG hu zg ?_,λk w=>by simp[Xe,aV]⟩;have key:∀(es:List IY)(ks:List K)(i:Nat),es.map (·.key)=ks.map cu->(BF kt (cu k) es i).run av w=.ok (aw (ho ks k) λj=>(es[j]?).map λe=>(i+j,e.val)) w:=by
  intro es;induction es with
  |nil=>intro ks i h;cases ks with
   |nil=>simp[BF,ho]
   |cons _ _=>cases h
  |cons x es bB=>
   intro ks i h;cases ks with
   |nil=>cases h
   |cons a ks=>
    simp only[gI,BM]at h;simp only[BF,h.1,ck,he,ce];by_cases e:k=a
    ·subst e;simp[ho]
    ·have bk:¬a=k:=λq=>e q.symm;simp only[e,bk,decide_false,ho,if_false,Bool.false_eq_true];rw[bB ks (i+1) h.2];cases ho ks k with
     |none=>rfl
     |some j=>simp[sS,qX 1 j]
 have:=key es ks 0 yU;simpa using this
abbrev kX{K X:Type}(dj:Bool)(cu:K->a4)(eg:X->List P)(kv:List (K×X)):aG:=.mP dj (kv.map λq=>(cu q.1,eg q.2))
theorem PA:∀{bH:List Nat}{ks us:List a4},bH.length=ks.length->us.length=ks.length->(fp bH ks us).map (·.key)=ks
 |[],[],[],_,_=>rfl
 |b::bH,k::ks,u::us,h1,h2=>by simp only[fp,gI];rw[PA (by simpa using h1) (by simpa using h2)]
 |[],_::_,_,h,_=>by cases h
 |_::_,[],_,h,_=>by cases h
 |[],[],_::_,_,h=>by cases h
 |_::_,_::_,[],_,h=>by cases h
variable {H:List aG}{dj:Bool}{cs:List P}{g:b_}{u:a4}{w:bb}
theorem mS.rv(h:mS g.E w dj cs u):cD g w H (eJ dj cs) u:=by
 unfold mS at h;unfold eJ;cases dj with
 |true=>obtain⟨us,rfl,h2⟩:=h;exact .agg h2.Bg
 |false=>obtain⟨x,rfl,h2⟩:=h;exact .p h2
theorem mS.aY(h:cD g w H (eJ dj cs) u)(h1:dj=ah\/∃x,cs=[x]):mS g.E w dj cs u:=by
 unfold mS;unfold eJ at h;cases dj with
 |true=>cases h with|agg h=>exact⟨_,rfl,Ew h⟩
 |false=>
  rcases h1 with h1|⟨x,rfl⟩
  ·cases h1
  ·cases h with|p h=>exact⟨x,rfl,h⟩
variable {bH:List Nat}{c:Nat}
theorem n3.push(h:n3 c bH):n3 (c+1) (bH++[c]):=
 ⟨Pu.2 ⟨h.1,by simp,λa a9 b aB e=>by simp at aB;subst aB;subst e;exact Nat.lt_irrefl _ (h.2 _ a9)⟩,λb aB=>by
  rcases List.mem_append.1 aB with aB|aB
  ·have:=h.2 b aB;omega
  ·simp at aB;omega⟩
theorem n3.ahq(h:n3 c bH)(j:Nat):n3 c (bH.eraseIdx j):=⟨h.1.sublist (List.eraseIdx_sublist ..),λb aB=>h.2 b (List.mem_of_mem_eraseIdx aB)⟩
theorem b'.I5{i c':Nat}{bs':List Nat}{kv kv':List (a4×List P)}{us:List a4}(cB:n3 c' bs')(h:gm g w H)(ao:H[i]? =D (.mP dj kv))(aK:bs'.length=kv'.length)(hu:us.length=kv'.length)(az:∀(j:Nat)(q:a4×List P)(u:a4),kv'[j]? =D q->us[j]? =D u->mS g.E w dj q.2 u):
  b' w g H g {w with heap:=w.heap.setIfInBounds (g.β i) (.map (fp bs' (kv'.map (·.1)) us).toArray c')} (H.set i (.mP dj kv')):=by
 have dN:=(cz.1 ao).1;have ej:∀b,own g H i b↔b=g.β i:=λb=>by unfold own;rw[ao];exact Iff.rfl
 obtain⟨eY,aub,IN,_,h1,h2,aJ,bp⟩:=h.ec i _ ao;have aV:=heap_set (o':=.map (fp bs' (kv'.map (·.1)) us).toArray c') h1
 refine b'.one h dN rfl rfl rfl (by simp) (λb aK a_=>⟨aV.2 b λe=>a_ ((ej b).2 e),rfl⟩) (λb o a1 cf=>?_) (λb _=>b5 _) (λj _=>⟨rfl,rfl⟩) (λ_=>⟨trivial,rfl⟩)
  (λm hm=>by rw[ao]at hm;cases hm) (λb a1=>.inl ((ej b).2 a1)) (λdO=>⟨c',bs',us,cB,aV.1,aK,hu,λj q u aE hu=>(az j q u aE hu).a' dO.size dO.E dO.cell⟩)
 have:=(ej b).1 a1;subst this;simp[p8,aV.1,h1]
section
variable {av : cj} {ty : b3} {ρ : bM -> Option V} {K X : Type} [DecidableEq K] {cu : K -> a4} {eg : X -> List P} {T jT : b3} {i : Nat} {dj : Bool} {kv : List (K × X)} {k : K}
theorem xh:bE av (.makeMap T aF) ty ρ [(i,.bW)] [(i,kX dj cu eg ([]:List (K×X)))] (.map i):=λg w H bo o hE _ aM dY h=>by
 have az:=dY.one;have b2:=b'.Pk (o:=.mP dj []) (ec:=.map #[] 0) aM az (λg b h=>h) λg' e dO=>⟨0,[],[],⟨Pv,λb aB=>by cases aB⟩,by rw[e];exact(heap_alloc w _).1,rfl,rfl,λj q u h=>by simp at h⟩
 refine .inl ⟨.map (D w.heap.size),_,?_,_,b2,?_⟩
 ·unfold execOp;rw[hE];simp[Instr.makeMap,ck,ce]
 ·have:=cD.map (g:=⟨dD g.β i w.heap.size,dD g.E w.heap.size 0,g.h⟩) (w:=w.alloc (.map #[] 0)) (H:=dT H [(i,.mP dj [])]) (i:=i) (by unfold ct;show tY (H.set i _)[i]?;rw[jH (cz.1 az).1];trivial);simp only[fB]at this;exact this
theorem I6{g:b_}{w:bb}{H:List aG}(aM:gm g w H)(ao:H[i]? =D (kX dj cu eg kv)):∃c bH us,n3 c bH/\w.heap[g.β i]? =D (.map (fp bH (kv.map λq=>cu q.1) us).toArray c)/\bH.length=kv.length/\us.length=kv.length/\(fp bH (kv.map λq=>cu q.1) us).map (·.key)=(kv.map (·.1)).map cu/\
  ∀(j:Nat)(q:K×X),kv[j]? =D q->∃b u,bH[j]? =D b/\us[j]? =D u/\(fp bH (kv.map λq=>cu q.1) us)[j]? =D {key:=cu q.1,val:=u,born:=b}/\mS g.E w dj (eg q.2) u:=by
 obtain⟨c,bH,us,bw,h1,h2,aJ,bp⟩:=aM.ec i _ ao;simp only[kk,h6]at h1 h2 aJ;have e:((λx:a4×List P=>x.1)∘λq:K×X=>(cu q.1,eg q.2))=λq=>cu q.1:=rfl;rw[e]at h1;refine⟨c,bH,us,bw,h1,h2,aJ,?_,λj q aE=>?_⟩
 ·rw[PA (by simp[h2]) (by simp[aJ])];simp
 ·have aK:=(cz.1 aE).1;obtain⟨u,hu⟩:∃u,us[j]? =D u:=⟨_,cq (by omega)⟩
  obtain⟨b,aB⟩:∃b,bH[j]? =D b:=⟨_,cq (by omega)⟩
  exact⟨b,u,aB,hu,Pf aB (by rw[fv,aE];rfl) hu,bp j (cu q.1,eg q.2) u (by rw[fv,aE];rfl) hu⟩
variable {gr:V}{x:bM}
theorem xi {y:bM}{ok:Bool}{er:X}{z:a4}(bV:h8 av T jT cu)(ar:ρ x=D (.map i))(bh:ρ y=D gr)(au:gr.val=D (cu k))(bj:∀w,(zeroValue jT).run av w=.ok z w)(uA:∀g w H,cD g w H (eJ dj (eg er)) z):
  bE av (.lookup T x y ok) ty ρ [(i,kX dj cu eg kv)] [] (cond ok (.cg [eJ dj (eg ((dP kv k).getD er)),bs (dP kv k).isSome]) (eJ dj (eg ((dP kv k).getD er)))):=.Em λg w H e o a1 _ aM ao a8=>by
 obtain⟨kt,hm,aP,j4,_⟩:=bV;obtain⟨c,bH,us,bw,h1,h2,aJ,bp,cy⟩:=I6 aM ao;have aj:=(a8 x (by simp[c_]) _ ar).BK;have a6:=(a8 y (by simp[c_]) _ bh).val au;have j4:=λw=>j4 k _ _ w bp;cases ae:ho (kv.map (·.1)) k with
 |none=>have de:=Pz ae;simp only[ae,Pw]at j4;rw[de];refine⟨_,?_,WZ (c:=aQ) (uA g w H)⟩;unfold execOp;rw[a1];simp[Xg,aj,a6,run_underlying hm,s8 h1,aP,j4,bj,ck,ce]
 |some j=>obtain⟨a,a5,bk⟩:=BO ae;obtain⟨b,u,_,cY,gX,gO⟩:=cy j _ a5;simp only[ae,cl,gX,lV]at j4;rw[bk];refine⟨_,?_,WZ (c:=ah) gO.rv⟩;unfold execOp;rw[a1];simp[Xg,aj,a6,run_underlying hm,s8 h1,aP,j4,ck,ce]
variable {d:V}{key m:bM}
theorem XE{op:Op}{a:X}(hE:op.operands=#[m,key,x])(hex:∀(e:bM->a4)(o:bU) w w',o.op=op->(Pr T (e m) (e key) (e x)).run av w=.ok () w'->(execOp e o).run av w=.ok .skip w')
  (bV:h8 av T jT cu) (ar:ρ m=D (.map i)) (bh:ρ key=D gr) (au:gr.val=D (cu k)) (az:ρ x=D d) (hw:fY d (eJ dj (eg a))) (h1:dj=ah\/∃y,eg a=[y]):
  bE av op ty ρ [(i,kX dj cu eg kv)] [(i,kX dj cu eg (d_ kv k a))] (.p (.v undef)):=λg w H e o a1 _ aM dY a8=>by
 have ao:=dY.one;obtain⟨kt,hm,aP,j4,cB⟩:=bV;obtain⟨c,bH,us,b0,ef,eM,gS,kY,iV⟩:=I6 aM ao;have aj:=(a8 m (by simp[hE]) _ ar).BK;have a6:=(a8 key (by simp[hE]) _ bh).val au;have dg:=mS.aY (hw _ _ _ _ (a8 x (by simp[hE]) _ az)) h1;have j4:=λw=>j4 k _ _ w kY;have BR:∀(j:Nat)(q:a4×List P)(u:a4),(kv.map λq=>(cu q.1,eg q.2))[j]? =D q->us[j]? =D u->mS g.E w dj q.2 u:=λj q u aE hu=>by
  rw[fv]at aE;cases zh:kv[j]? with
  |none=>rw[zh]at aE;cases aE
  |some p=>rw[zh]at aE;cases aE;obtain⟨_,oM,_,fD,_,iF⟩:=iV j p zh;rw[fD]at hu;cases hu;exact iF
 cases ae:ho (kv.map (·.1)) k with
 |none=>
  simp only[ae,Pw]at j4;have aO:=b'.I5 (c':=c+1) (bs':=bH++[c]) (us:=us++[e x]) (kv':=(d_ kv k a).map λq=>(cu q.1,eg q.2)) b0.push aM ao (by rw[BQ ae];simp[eM]) (by rw[BQ ae];simp[gS]) λj q u aE hu=>by
   rw[BQ ae,lk]at aE;by_cases cf:j<kv.length
   ·rw[sP (by simp;omega)]at aE;rw[sP (by omega)]at hu;exact BR j q u aE hu
   ·rw[ud (by simp;omega)]at aE;rw[ud (by omega)]at hu;simp only[h6,gS]at aE hu;cases XF:j-kv.length with
    |zero=>rw[XF]at aE hu;simp at aE hu;subst aE hu;exact dg
    |succ n=>rw[XF]at aE;simp at aE
  refine .inr (.inl ⟨_,?_,g,aO,.v _⟩);apply hex _ _ _ _ a1;have hp:((fp bH (kv.map λq=>cu q.1) us).toArray.push ({key:=cu k,val:=e x,born:=c}:IY))=(fp (bH++[c]) (((d_ kv k a).map λq=>(cu q.1,eg q.2)).map (·.1)) (us++[e x])).toArray:=by rw[BQ ae];simp only[lk,kk,gI,List.map_nil];rw[show((λx:a4×List P=>x.1)∘λq:K×X=>(cu q.1,eg q.2))=λq=>cu q.1 from rfl,<-Ph c (cu k) (e x) bH _ us (by simp[eM]) (by simp[gS])];simp
  simp only[Pr,aj,a6,ck,run_underlying hm,s8 ef,aP,j4,xa _ ef,ce,hp]
 |some j=>
  obtain⟨er,a5,bk⟩:=BO ae;obtain⟨b,u,aB,cY,gX,gO⟩:=iV j _ a5;simp only[ae,cl,gX,lV]at j4;have jW:=(cz.1 a5).1;have aO:=b'.I5 (c':=c) (bs':=bH) (us:=us.set j (e x)) (kv':=(d_ kv k a).map λq=>(cu q.1,eg q.2)) b0 aM ao (by rw[BP ae];simp[eM]) (by rw[BP ae];simp[gS]) λn q u aE hu=>by
   rw[BP ae,zd]at aE;by_cases a_:j=n
   ·subst a_;rw[A5 (by simp;omega)]at aE;rw[A5 (by omega)]at hu;cases aE;cases hu;exact dg
   ·rw[List.getElem?_set_ne a_]at aE hu;exact BR n q u aE hu
  refine .inr (.inl ⟨_,?_,g,aO,.v _⟩);apply hex _ _ _ _ a1;have vB:(kv.map λq=>cu q.1)[j]? =D (cu k):=by rw[fv,a5];rfl
  have hp:((fp bH (kv.map λq=>cu q.1) us).toArray.modify j λgz=>{gz with key:=cu k,val:=e x})=(fp bH (((d_ kv k a).map λq=>(cu q.1,eg q.2)).map (·.1)) (us.set j (e x))).toArray:=by rw[BP ae,zd,zd,kk];rw[show((λx:a4×List P=>x.1)∘λq:K×X=>(cu q.1,eg q.2))=λq=>cu q.1 from rfl,Pl vB,<-WW (e x) bH _ us j (cu k) vB];simp
  have q_:(fp bH (kv.map λq=>cu q.1) us).toArray[j]? =D {key:=cu k,val:=u,born:=b}:=by simpa using gX
  simp only[Pr,aj,a6,ck,run_underlying hm,s8 ef,aP,j4,q_,lV,Option.getD_some,cB,xa _ ef,ce,hp]
theorem BS{a:X}(bV:h8 av T jT cu)(ar:ρ m=D (.map i))(bh:ρ key=D gr)(au:gr.val=D (cu k))(az:ρ x=D d)(hw:fY d (eJ dj (eg a)))(h1:dj=ah\/∃y,eg a=[y]):
  bE av (.mapUpdate T m key x) ty ρ [(i,kX dj cu eg kv)] [(i,kX dj cu eg (d_ kv k a))] (.p (.v undef)):=
 XE rfl (λe o w w' a1 aM=>by unfold execOp;rw[a1];simp only[ck,aM,ce,it]) bV ar bh au az hw h1
theorem XG{a:X}(bV:h8 av T jT cu)(ar:ρ m=D (.map i))(bh:ρ key=D gr)(au:gr.val=D (cu k))(az:ρ x=D d)(hw:fY d (eJ dj (eg a)))(h1:dj=ah\/∃y,eg a=[y]):
  bE av (.insert T m key x) ty ρ [(i,kX dj cu eg kv)] [(i,kX dj cu eg (d_ kv k a))] (.p (.v undef)):=
 XE rfl (λe o w w' a1 aM=>by unfold execOp;rw[a1];simp only[ck,aM,ce,it]) bV ar bh au az hw h1
theorem ahr(bV:h8 av T jT cu)(ar:ρ x=D (.map i)):bE av (.call {callee:=.builtin .len,args:=#[x],argTypes:=#[T]}) ty ρ [(i,kX dj cu eg kv)] [] (aI kv.length):=.Em λg w H e o a1 _ aM ao a8=>by
 obtain⟨kt,hm,_,_,_⟩:=bV;obtain⟨c,bH,us,_,h1,h2,aJ,_,_⟩:=I6 aM ao;have aj:=(a8 x (by simp[c_,iZ]) _ ar).BK;have aK:(fp bH (kv.map λq=>cu q.1) us).length=kv.length:=by rw[WY _ _ _ (by simp[h2]) (by simp[aJ])];simp
 refine⟨_,?_,.v (.int .i64 kv.length)⟩;unfold execOp;rw[a1];simp[resolve,invoke,builtin,Builtin.len_,aj,run_underlying hm,s8 h1,goInt,ck,ce,aK]
theorem ahs{b1:b3}(bV:h8 av T jT cu)(ar:ρ m=D (.map i))(bh:ρ key=D gr)(au:gr.val=D (cu k)):
  bE av (.call {callee:=.builtin .delete,args:=#[m,key],argTypes:=#[T,b1]}) ty ρ [(i,kX dj cu eg kv)] [(i,kX dj cu eg (mB kv k))] (.p (.v undef)):=λg w H e o a1 _ aM dY a8=>by
 have ao:=dY.one;obtain⟨kt,hm,aP,j4,cB⟩:=bV;obtain⟨c,bH,us,b0,ef,eM,gS,kY,iV⟩:=I6 aM ao;have aj:=(a8 m (by simp[c_,iZ]) _ ar).BK;have a6:=(a8 key (by simp[c_,iZ]) _ bh).val au;have j4:=λw=>j4 k _ _ w kY;have BR:∀(j:Nat)(q:a4×List P)(u:a4),(kv.map λq=>(cu q.1,eg q.2))[j]? =D q->us[j]? =D u->mS g.E w dj q.2 u:=λj q u aE hu=>by
  rw[fv]at aE;cases zh:kv[j]? with
  |none=>rw[zh]at aE;cases aE
  |some p=>rw[zh]at aE;cases aE;obtain⟨_,oM,_,fD,_,iF⟩:=iV j p zh;rw[fD]at hu;cases hu;exact iF
 cases ae:ho (kv.map (·.1)) k with
 |none=>
  simp only[ae,Pw]at j4;have aO:=b'.I5 (c':=c) (bs':=bH) (us:=us) (kv':=(mB kv k).map λq=>(cu q.1,eg q.2)) b0 aM ao (by rw[E9 ae];simp[eM]) (by rw[E9 ae];simp[gS]) λj q u aE hu=>by rw[E9 ae]at aE;exact BR j q u aE hu
  refine .inl ⟨.tuple #[],_,?_,g,aO,.v _⟩;have c0:((mB kv k).map λq=>(cu q.1,eg q.2)).map (·.1)=kv.map λq=>cu q.1:=by rw[E9 ae,kk];rfl
  rw[c0];unfold execOp;rw[a1];simp[resolve,invoke,builtin,Builtin.delete_,aj,a6,run_underlying hm,s8 ef,aP,j4,xa _ ef,ck,ce]
 |some j=>
  obtain⟨er,a5,bk⟩:=BO ae;obtain⟨b,u,aB,cY,gX,gO⟩:=iV j _ a5;simp only[ae,cl,gX,lV]at j4;have jW:=(cz.1 a5).1;have aO:=b'.I5 (c':=c) (bs':=bH.eraseIdx j) (us:=us.eraseIdx j) (kv':=(mB kv k).map λq=>(cu q.1,eg q.2)) (b0.ahq j) aM ao (by rw[E8 ae];simp[Xm,eM]) (by rw[E8 ae];simp[Xm,gS]) λn q u aE hu=>by
   rw[E8 ae,IP]at aE;rw[List.getElem?_eraseIdx]at aE hu;split at aE
   ·rename_i cf;rw[if_pos cf]at hu;exact BR _ q u aE hu
   ·rename_i cf;rw[if_neg cf]at hu;exact BR _ q u aE hu
  refine .inl ⟨.tuple #[],_,?_,g,aO,.v _⟩;have yU:∀(bH:List Nat)(ks us:List a4)(j:Nat),bH.length=ks.length->us.length=ks.length->(fp bH ks us).eraseIdx j=fp (bH.eraseIdx j) (ks.eraseIdx j) (us.eraseIdx j):=by
   intro bH;induction bH with
   |nil=>intro ks us j h1 h2;cases ks<;>cases us<;>first|rfl|cases h1|cases h2
   |cons b bH bB=>
    intro ks us j h1 h2;cases ks with
    |nil=>cases h1
    |cons q ks=>
     cases us with
     |nil=>cases h2
     |cons u us=>
      cases j with
      |zero=>rfl
      |succ j=>simp only[fp,List.eraseIdx_cons_succ];rw[bB ks us j (by simpa using h1) (by simpa using h2)]
  have c0:fp (bH.eraseIdx j) (((mB kv k).map λq=>(cu q.1,eg q.2)).map (·.1)) (us.eraseIdx j)=(fp bH (kv.map λq=>cu q.1) us).eraseIdx j:=by rw[yU _ _ _ _ (by simp[eM]) (by simp[gS]),E8 ae,IP,IP,kk];rfl
  rw[c0];unfold execOp;rw[a1];simp[resolve,invoke,builtin,Builtin.delete_,aj,a6,run_underlying hm,s8 ef,aP,j4,xa _ ef,ck,ce]
end
def gP:dS->dS
 |.seq a _=>a
 |.cond _ a _=>a
 |.block _ a=>a
 |.loop a=>a
 |.rangeFunc _ _ a _=>a
 |c=>c
def e1:dS->dS
 |.seq _ b=>b
 |.cond _ _ b=>b
 |.rangeFunc _ _ _ b=>b
 |c=>c
def nv(f:Func):dS:=f.body.getD .skip
variable {H:List aG}{Q:cN->cO->bb->Prop}{Y:gj}{l:bY}
theorem co.br{c:dS}{R:Type}{T:R->Prop}:co Y c Q l H aF T:=λ⟨_,e,_⟩=>by cases e
theorem bI.XH{ops:Array bU}{rest:List bU}{R:Type}{T:R->Prop}:bI Y ops Q rest l H aF T:=λ⟨_,e,_⟩=>by cases e
def I7(av:cj)(i:Nat)(ds:List V)(H:List aG)(post:V->List aG->Prop):Prop:=
 ∀(g:b_)(w:bb)(vs:List a4),gm g w H->cU g w H ds vs->ct H i/\∃f tmps mp eD,(Xh (g.β i) vs.toArray).run av w=.ok (.round (g.β i) f tmps mp eD) w/\
  RoundIn (hK aF) 0 av (g.β i) f tmps mp eD w λgz w'=>∃v g' r H',gz=.returned v/\post r H'/\b' w g H g' w' H'/\cD g' w' H' r v
abbrev xj(av:cj)(i:Nat)(ds:List V)(H:List aG)(r:V)(H':List aG):Prop:=I7 av i ds H (λgJ H2=>gJ=r/\H2=H')
variable {i:Nat}
theorem cD.aht{g:b_}{w:bb}{v:a4}(h:cD g w H (.fW i) v):v=.func (.yield (g.β i)) #[] #[]:=by cases h;rfl
variable {av:cj}{ds:List V}
theorem bE.fW{ty:b3}{ρ:bM->Option V}{x:bM}{args:List bM}{tys:Array b3}{Hc dZ:List aG}{aU fr:List Nat}{r:V}(aP:xj av i ds Hc r dZ)(oP:ρ x=D (.fW (bQ aU i)))(i5:l1 ρ args (gb (bQ aU) ds))(eE:pE Hc dZ ds aU fr):
  bE av (.call {callee:=.value x,args:=args.toArray,argTypes:=tys}) ty ρ (ek (bQ aU) aU Hc++fr.map λj=>(j,.bW)) (ek (bQ (aU++fr)) (aU++fr) dZ) (r.dc (bQ (aU++fr))):=λg w H e o a1 ai aM dY a8=>by
 have vC:fq H (ek (bQ aU) aU Hc):=λq aE=>dY q (xb _ aE);have aV:=Ij eE.len vC;have ar:=(a8 x (by simp[c_,iZ]) _ oP).aht;have bg:cU g w H (gb (bQ aU) ds) (args.map e):=i5.rv λy bh=>a8 y (by simp[c_,iZ,bh]);have Iw:=aM.aU aV (Pu.1 eE.af).1 eE.lo;obtain⟨_,ahu,tmps,mp,eD,bh,ahv⟩:=aP _ w _ Iw (rX aV.yW ds _ eE.lt bg);have mv:(execOp e o).run av w=.ok (.round ((g.dc (bQ aU)).β i) ahu tmps mp eD) w:=by unfold execOp;rw[a1];simp[resolve,ar,Deferred.ofValue,invoke,ck,ce];have:(Xh (g.β (bQ aU i)) (args.map e).toArray).run av w=_:=bh;simpa using this
 refine .inr (.inr ⟨_,mv,.inr ⟨_,_,_,_,_,rfl,RoundIn.mono ahv ?_⟩⟩);rintro gz w' ⟨v,g',gJ,H',rfl,⟨rfl,rfl⟩,dA,e7⟩;obtain⟨eM,gN,r0⟩:=Ot aM aV eE.af (λj ae=>dY (j,.bW) (Xl _ (lH.2 ⟨j,ae,rfl⟩))) eE.iE eE.OA dA;exact⟨v,rfl,eM,gN,r0 _ _ e7⟩
def PB(av:cj)(A:Nat)(eD:dS)(R:sO->bb->Prop):cN->cO->bb->Prop:=Exit.then (λa w=>∃lb,(Instr.beginRound A).run av w=.ok () lb/\eD.wpIn (hK (D A)) 0 av (roundPost av A R) a lb) (λ_ _ _=>False)
def I8:List Nat->List V->bY->bY
 |p::ps,x::xs,l=>I8 ps xs ((p,x)::l)
 |_,_,l=>l
theorem XI{g:b_}{w:bb}{H:List aG}{N:Nat}:∀{ps:List Nat}{xs:List V}{vs:List a4}{l:bY}{tm:Array a4},ps.length=xs.length->cU g w H xs vs->(∀p∈ps,p<N)->tm.size=N->wL g w H l tm->
  wL g w H (I8 ps xs l) ((ps.zip vs).foldl (λtm q=>tm.setIfInBounds q.1 q.2) tm)/\((ps.zip vs).foldl (λtm q=>tm.setIfInBounds q.1 q.2) tm).size=N
 |[],[],_,l,tm,_,bg,_,aV,a8=>by cases bg;exact⟨a8,aV⟩
 |[],_::_,_,_,_,h,_,_,_,_=>by simp at h
 |_::_,[],_,_,_,h,_,_,_,_=>by simp at h
 |p::ps,x::xs,_,l,tm,aK,.cons (v:=v) (vs:=vs) h aV,hp,bj,a8=>by
  have zi:=hp p (by simp);refine XI (ps:=ps) (xs:=xs) (l:=(p,x)::l) (tm:=tm.setIfInBounds p v) (by simpa using aK) aV (λq aE=>hp q (by simp[aE])) (by simp[bj]) λt d ai=>?_;simp only[cR]at ai;by_cases e:p=t
  ·subst e;rw[show d' p p=ah from jp p]at ai;simp only[cond_true,hX]at ai;subst ai;exact⟨v,by simp[bj,zi],h⟩
  ·rw[p' e]at ai;obtain⟨u,h1,h2⟩:=a8 t d ai;exact⟨u,by simp[e,h1],h2⟩
variable {R:Type}
theorem I7.qh {f N j:Nat}{dJ:Option dS}{fr:bY}{ps:Array Nat}{as eD:dS}{m:Option R}{r:R}{P:R->V->List aG->Prop}(hm:m=D r)(ao:H[i]? =D (.loop .ready dJ f N fr ps as eD j))(ta:(d' ps.toList.length ds.length&&ps.toList.all (λp=>fV p N))=ah)
  (h:∀w g,co ⟨⟨D (g.β i),av,N,[]⟩,w,g,H⟩ as (PB av (g.β i) eD (i6 w g H (P r))) (I8 ps.toList ds fr) H m (λq=>q=r)):I7 av i ds H (P r):=λg w vs aM bg=>by
 have I9:ct H i:=by unfold ct;rw[ao];trivial
 obtain⟨f0,tm,dA,e7,gN,r0⟩:=aM.ec i _ ao;simp only[ea]at ta;have aK:=kz ta.1;have hp:∀p∈ps.toList,p<N:=λp hp=>by have:=kj.1 ta.2 p hp;simpa[Nat.blt_eq]using this
 have E_:=bg.len;have ff:vs.toArray.size=ps.size:=by simp;rw[<-E_,<-aK];simp
 obtain⟨ag,ak⟩:=XI (l:=fr) aK bg hp e7 r0;refine⟨I9,f0,_,as,eD,run_yield dA ff,roundIn_of_wpIn trivial ?_⟩;have XJ:((ps.zip vs.toArray).foldl (λtmps (x:Tmp×a4)=>tmps.setIfInBounds x.1 x.2) tm)=(ps.toList.zip vs).foldl (λtm q=>tm.setIfInBounds q.1 q.2) tm:=by rw[<-Array.foldl_toList,Array.toList_zip]
 refine h w g ⟨r,hm,rfl⟩ g w _ aM.jV ⟨rfl,?_,λt d ai=>?_⟩
 ·show Array.size _=N;rw[XJ];exact ak
 ·show ∃v,(Array.foldl _ _ _)[t]? =D v/\_;rw[XJ];exact ag t d ai
section
variable {av : cj} {N i : Nat} {fM : List lE} {cn : bb} {b0 : b_} {bS l : _} {H el : List aG} {R : Type} {m : Option R} {r q : R} {P : R -> V -> List aG -> Prop} {aU : List Nat} {eD : dS} {rr : Option Nat}
variable {hO:Nat}{hP hQ:dS}{fx:Nat}{fZ:bY}{e8:Nat}{dJ:Option dS}{hR:Array Nat}
theorem bZ.XK{T:R->Prop}{fN:sO->bb->Prop}(ju:ct bS i)(ao:H[i]? =D (.loop .ready dJ fx hO fZ hR hP hQ e8))
  (k:co ⟨⟨D (b0.β i),av,N,[]⟩,cn,b0,bS⟩ eD (roundPost av (b0.β i) fN) l (H.set i (.loop .busy dJ fx hO fZ hR hP hQ e8)) m T):bZ ⟨⟨D (b0.β i),av,N,[]⟩,cn,b0,bS⟩ (PB av (b0.β i) eD fN) .normal l H m T:=λe g w a aM a9=>by
 have aB:=(aM.a'.ct i ju).2;obtain⟨ahw,ahx,ep,fD,iF,tb⟩:=aM.ec i _ ao;have s1:=b'.Pp (st':=.busy) (EX:=dJ) aM.iR ao ep;exact⟨_,by rw[<-aB];exact run_beginRound ep rfl,k e g _ a (aM.then s1) (a9.a' s1.a')⟩
theorem PC{st:oU}{g:b_}{w:bb}{post:V->List aG->Prop}(ju:ct bS i)(ao:H[i]? =D (.loop st dJ fx hO fZ hR hP hQ e8))(aM:b' cn b0 bS g w H)(jump:Option dS)
  (au:np bS (H.set i (.loop (if jump.isNone then .ready else .done) jump fx hO fZ hR hP hQ e8)) el aU) (hp:post (bs jump.isNone) el):∃v w',(Instr.endRound (b0.β i) jump).run av w=.ok v w'/\i6 cn b0 bS post (.returned v) w':=by
 have aB:=(aM.a'.ct i ju).2;obtain⟨ahw,ahx,ep,fD,iF,tb⟩:=aM.ec i _ ao;have s1:=b'.Pp (st':=if jump.isNone then .ready else .done) (EX:=jump) aM.iR ao ep;exact⟨_,_,by rw[<-aB];exact run_endRound jump ep,Et (r:=bs jump.isNone) au rfl hp (aM.then s1) (.v _)⟩
section
variable {fx hO e8 : Nat} {fZ : bY} {hR : Array Nat} {hP hQ : dS} {st : oU} {dJ : Option dS}
variable {X:hY}
theorem bZ.ahy(hp:P q (bs ah) el)(ju:ct bS i)(ao:H[i]? =D (.loop st dJ fx hO fZ hR hP hQ e8))(au:np bS (H.set i (.loop .ready aF fx hO fZ hR hP hQ e8)) el aU):
  bZ ⟨X,cn,b0,bS⟩ (roundPost av (b0.β i) (i6 cn b0 bS (P r))) .normal l H (D q) (λq=>q=r):=λe g w a aM a9=>by
 have:=e.some;subst this;exact PC ju ao aM aF au hp
theorem bZ.ahz(hp:P q (bs aQ) el)(ju:ct bS i)(ao:H[i]? =D (.loop st dJ fx hO fZ hR hP hQ e8))(au:np bS (H.set i (.loop .done (D .ret) fx hO fZ hR hP hQ e8)) el aU):
  bZ ⟨X,cn,b0,bS⟩ (roundPost av (b0.β i) (i6 cn b0 bS (P r))) .ret l H (D q) (λq=>q=r):=λe g w a aM a9=>by
 have:=e.some;subst this;exact PC ju ao aM (D .ret) au hp
theorem bZ.ahA{id:Nat}(hp:P q (bs aQ) el)(ju:ct bS i)(ao:H[i]? =D (.loop st dJ fx hO fZ hR hP hQ e8))(au:np bS (H.set i (.loop .done (D (.exit id)) fx hO fZ hR hP hQ e8)) el aU):
  bZ ⟨X,cn,b0,bS⟩ (roundPost av (b0.β i) (i6 cn b0 bS (P r))) (.exit id) l H (D q) (λq=>q=r):=λe g w a aM a9=>by
 have:=e.some;subst this;exact PC ju ao aM (D (.exit id)) au hp
end
end
theorem b'.PD{g:b_}{w:bb}{H:List aG}{q:Nat}{o:aG}(h:gm g w H)(aE:H[q]? =D .bW)(a1:∀b,¬tZ g q b (D o))(rQ:hx g w H g w (H.set q o)->jU g w (H.set q o) q o):b' w g H g w (H.set q o):=
 b'.one h (cz.1 aE).1 rfl rfl rfl (b5 _) (λ_ _ _=>⟨rfl,rfl⟩) (λ_ _ _ _=>rfl) (λ_ _=>b5 _) (λ_ _=>⟨rfl,rfl⟩) (λaK=>by rw[aE]at aK;exact aK.elim)
  (λm hm=>by rw[aE]at hm;cases hm) (λb aB=>(a1 b aB).elim) rQ
def E':Option dS->Option cN
 |none=>D .normal
 |some .ret=>D .ret
 |some (.exit id)=>D (.exit id)
 |_=>aF
abbrev mark(A:Nat):lE:={target:=.collected A,args:=#[]}
abbrev kl(N:Nat)(fr:bY)(ps:Array Nat)(as eD:dS)(j:Nat):aG:=.loop .ready aF 0 N fr ps as eD j
section
variable {av : cj} {N : Nat} {fM : List lE} {cn : bb} {b0 : b_} {bS : List aG} {Q : cN -> cO -> bb -> Prop} {l fr : bY} {H : List aG} {x : bM} {ps : Array Nat} {as eD : dS} {iT : V} {f : gh} {cI en ds : List V} {Hc : List aG} {aU nw : List Nat} {rr : Option Nat}
variable {H2 dZ:List aG}{hO:Nat}{hP hQ:dS}{d:V}{e:cN}{fx:Nat}{fZ:bY}{i j e8:Nat}{dJ:Option dS}{hR:Array Nat}{r:V}{st:oU}
theorem XL {H1:List aG} {f0:Nat}{ef:b_}{jg:bb}{a:cO}{mk:List lE}(ao:H1[i]? =D .bW)(ae:ct H1 j)(r6:j≠i)
  (a8:∀args w,(callFunc f args).run av w=.ok (.enter f args) w) (nx:s7 f iT cI en) (li:cI++[V.fW i]++en=gb (bQ aU) ds) (aP:pI av f ds Hc r dZ aU nw (H1.set i (kl N fr ps as eD j)) d H2) (jX:fq (H1.set i (kl N fr ps as eD j)) (ek (bQ aU) aU Hc++nw.map λj=>(j,.bW)))
  (ny:H2[i]? =D (.loop st dJ fx hO fZ hR hP hQ e8)) (cB:st≠ .busy) (hex:E' dJ=D e) (aM:b' cn b0 bS ef jg H1) (ar:cD ef jg H1 iT (a.eval x)) (ff:a.tmps.size=N) (c1:wL ef jg H1 fr a.tmps)
  (k:∀g' w',b' cn b0 bS g' w' (H2.set i (.loop .exhausted dJ fx hO fZ hR hP hQ e8))->hx ef jg H1 g' w' (H2.set i (.loop .exhausted dJ fx hO fZ hR hP hQ e8))->Q e {a with defers:=mk++a.defers} w'):
  ∃(xd:bb)(d:lE)(args:Array a4),xd=jg.alloc (.loop {state:=.ready,pending:=aF,fn:=f0,tmps:=a.tmps,params:=ps,assign:=as,body:=eD,defers:=ef.β j})/\
   (resolve a.eval (rangeCall x jg.heap.size) 0).run av xd=.ok d xd/\(invoke d.target d.args).run av xd=.ok (.enter f args) xd/\CallsIn (hK rr) 0 av f args xd (rangePost (hK rr) 0 av jg.heap.size Q {a with defers:=mk++a.defers}):=by
 have dN:=(cz.1 ao).1
 have hp:=b'.Pk (o:=kl N fr ps as eD j) (ec:=.loop {state:=.ready,pending:=aF,fn:=f0,tmps:=a.tmps,params:=ps,assign:=as,body:=eD,defers:=ef.β j}) aM.iR ao (λg b h=>h) λg' e dO=>
  ⟨f0,a.tmps,by rw[e,(dO.ct j ae).2];exact(heap_alloc jg _).1,ff,(dO.ct j ae).1,c1.a' dO⟩
 generalize ahB:(⟨dD ef.β i jg.heap.size,dD ef.E jg.heap.size 0,ef.h⟩:b_)=eM at hp;have aB:eM.β i=jg.heap.size:=by rw[<-ahB];simp[fB]
 obtain⟨us,vs,dA,e7,gN⟩:=nx.rv (ar.a' hp.a');generalize wU:H1.set i (kl N fr ps as eD j)=mA at hp aP jX e7 gN;have I9:ct mA i:=by rw[<-wU];unfold ct;rw[jH dN];trivial
 refine⟨_,{target:=.fn (.func f) vs.toArray,args:=(us++[Value.func (.yield jg.heap.size) #[] #[]]).toArray},(us++[Value.func (.yield jg.heap.size) #[] #[]]++vs).toArray,rfl,?_,?_,?_⟩
 ·simp only[resolve,dA];simp[go_sem,Act.eval,Deferred.ofValue,ck,ce]
 ·simp[invoke];have:=a8 (us++Value.func (.yield jg.heap.size) #[] #[]::vs).toArray (jg.alloc (.loop {state:=.ready,pending:=aF,fn:=f0,tmps:=a.tmps,params:=ps,assign:=as,body:=eD,defers:=ef.β j}));simpa using this
 ·generalize auc:jg.alloc (.loop {state:=.ready,pending:=aF,fn:=f0,tmps:=a.tmps,params:=ps,assign:=as,body:=eD,defers:=ef.β j})=XM at hp e7 gN⊢;have i5:cU eM XM mA (gb (bQ aU) ds) (us++[Value.func (.yield jg.heap.size) #[] #[]]++vs):=by
   rw[<-li];exact(e7.append (.cons (by rw[<-aB];exact .fW I9) .nil)).append gN
  obtain⟨eQ,eE,ll,lL⟩:=aP;refine Vi (n:=0) (Calls.mono (V5 eQ hp.iR (λq aE=>jX q (xb _ aE)) (λj ae=>jX (j,.bW) (Xl _ (lH.2 ⟨j,ae,rfl⟩))) (λgJ H' hp=>by obtain⟨rfl,rfl⟩:=hp;exact eE) ⟨eE.len,eE.lt,eE.lo,(Pu.1 eE.af).1⟩ i5) ?_);rintro gz Ed ⟨v,rfl,gJ,H',gS,⟨rfl,rfl⟩,r0,_⟩;rw[lL]at r0;have Ev:=(aM.then hp).then r0;have Fa:gS.β i=jg.heap.size:=(r0.a'.ct i I9).2.trans aB;obtain⟨f1,tm,t1,t2,t3,t4⟩:=Ev.ec _ _ ny;have s:=b'.Pp (st':=.exhausted) (EX:=dJ) Ev.iR ny t1;have aE:=k gS _ (Ev.then s) ((hp.a'.trans r0.a').trans s.a');rw[Fa]at t1;refine⟨dJ,_,run_endLoop t1 cB,?_⟩;rw[Fa]at aE;cases dJ with
  |none=>cases hex;exact aE
  |some c=>
   cases c with
   |ret=>cases hex;exact wpIn_ret aE
   |exit id=>cases hex;exact wpIn_exit aE
   |_=>cases hex
theorem XN(ny:H2[i]? =D (.loop st dJ fx hO fZ hR hP hQ e8))(df:H2.all (aG.br i)=ah):(H2.set i (.loop .exhausted dJ fx hO fZ hR hP hQ e8)).all (aG.br i)=ah:=by
 rw[kj];intro o a1;rcases List.mem_or_eq_of_mem_set a1 with h|rfl
 ·exact kj.1 df o h
 ·have:=kj.1 df _ (List.mem_of_getElem? ny);exact this
theorem dL.range(i j q:Nat)(e5:(!Nat.beq i j&& !Nat.beq i q&& !Nat.beq j q&&ev bS.length i)=ah)(ao:H[i]? =D .bW)(ae:H[j]? =D .bW)(ar:bO l x=D iT)(nz:dM l fr)
  (a8:∀args w,(callFunc f args).run av w=.ok (.enter f args) w) (nx:s7 f iT cI en) (li:cI++[V.fW i]++en=gb (bQ aU) ds) (aP:pI av f ds Hc r dZ aU nw ((H.set j (.cr ah)).set i (kl N fr ps as eD j)) d H2) (jX:fq ((H.set j (.cr ah)).set i (kl N fr ps as eD j)) (ek (bQ aU) aU Hc++nw.map λj=>(j,.bW)))
  (ny:H2[i]? =D (.loop st dJ fx hO fZ hR hP hQ e8)) (cB:st≠ .busy) (hex:E' dJ=D e) (aE:H2[q]? =D .bW) (hm:H2[j]? =D (.cr ah)) (df:H2.all (aG.br i)=ah) (E3:l.all (λp=>p.2.br i)=ah)
  (k:∀A,eU ⟨⟨aF,av,N,mark A::fM⟩,cn,b0,bS⟩ Q e l ((H2.set i .bW).set q (.kg j A))):dL ⟨⟨aF,av,N,fM⟩,cn,b0,bS⟩ (.rangeFunc x ps as eD) Q l H:=λg w a aM a9=>by
 simp only[ea,mZ,Bf]at e5;obtain⟨⟨⟨xk,hF⟩,PE⟩,PF⟩:=e5;have xk:i≠j:=λe=>by subst e;rw[jp]at xk;cases xk
 have hF:i≠q:=λe=>by subst e;rw[jp]at hF;cases hF
 have PE:j≠q:=λe=>by subst e;rw[jp]at PE;cases PE
 refine wpIn_rangeFunc λf0 _=>?_;have jW:=(cz.1 ae).1;have hp:=b'.Pk (o:=.cr ah) (ec:=.deferred (D [])) aM.iR ae (λg b h=>h) λg' e dO=>by show(w.alloc _).heap[g'.β j]? =_;rw[e];exact(heap_alloc w _).1
 generalize ahC:(⟨dD g.β j w.heap.size,dD g.E w.heap.size 0,g.h⟩:b_)=ef at hp;have aB:ef.β j=w.heap.size:=by rw[<-ahC];simp[fB]
 have mV:ct (H.set j (.cr ah)) j:=by unfold ct;rw[jH jW];trivial
 obtain⟨lb,d,args,a5,bk,c0,gA⟩:=XL (rr:=aF) (f0:=f0) (x:=x) (mk:=[mark w.heap.size]) (a:=a) (by rw[jG xk];exact ao) mV (Ne.symm xk) a8 nx li aP jX ny cB hex (aM.then hp) ((a9.bo ar).a' hp.a') a9.2.1 (λt d ai=>by obtain⟨v,ep,fD⟩:=(a9.sub nz).2.2 t d ai;exact⟨v,ep,fD.a' hp.a'⟩) (Q:=Q) λg' w' dA e7=>by
  have gN:=dA.jK PF (XN ny df);rw[I0]at gN;have r1:=((a9.a' hp.a').a' e7).jK (i:=i) E3;rw[I0]at r1;have ahD:=e7.ct j mV;have s:=b'.PD (q:=q) (o:=.kg j w.heap.size) gN.iR (by rw[jG (Ne.symm hF)];exact aE) (λb h=>h) λdO=>⟨(dO.ct j (by unfold ct;rw[jG (Ne.symm xk),hm];trivial)).1,ahD.2.trans aB⟩
  have XO:=r1.a' s.a';exact k w.heap.size g' w' _ (gN.then s) ⟨by show [mark w.heap.size]++a.defers=_;rw[a9.1];rfl,XO.2.1,XO.2.2⟩
 have aV:(w.alloc (.deferred (D []))).heap.size=w.heap.size+1:=by simp
 rw[aV]at bk gA;refine⟨w.heap.size+1,_,lb,d,lb,f,args,lb,?_,bk,(λ_ _=>trivial),c0,(λh=>by cases h),gA⟩;rw[a5,aB];exact run_enterLoop_outer _ _ _ _ _
theorem dL.PG {PH:oU} {PI:Option dS} {PJ PK:Nat} {PL:bY} {PM:Array Nat} {PN PO:dS}(i p:Nat)(e5:(!Nat.beq i p&& !Nat.beq j i&&ev bS.length i)=ah)(zi:ct bS p)(hp:H[p]? =D (.loop PH PI PJ PK PL PM PN PO j))(ao:H[i]? =D .bW)(ar:bO l x=D iT)(nz:dM l fr)
  (a8:∀args w,(callFunc f args).run av w=.ok (.enter f args) w) (nx:s7 f iT cI en) (li:cI++[V.fW i]++en=gb (bQ aU) ds) (aP:pI av f ds Hc r dZ aU nw (H.set i (kl N fr ps as eD j)) d H2) (jX:fq (H.set i (kl N fr ps as eD j)) (ek (bQ aU) aU Hc++nw.map λj=>(j,.bW)))
  (ny:H2[i]? =D (.loop st dJ fx hO fZ hR hP hQ e8)) (cB:st≠ .busy) (hex:E' dJ=D e) (df:H2.all (aG.br i)=ah) (E3:l.all (λp=>p.2.br i)=ah)
  (k:eU ⟨⟨D (b0.β p),av,N,fM⟩,cn,b0,bS⟩ Q e l (H2.set i .bW)):dL ⟨⟨D (b0.β p),av,N,fM⟩,cn,b0,bS⟩ (.rangeFunc x ps as eD) Q l H:=λg w a aM a9=>by
 simp only[ea,mZ,Bf]at e5;obtain⟨⟨xk,hF⟩,PF⟩:=e5;have hF:j≠i:=λe=>by subst e;rw[jp]at hF;cases hF
 refine wpIn_rangeFunc λf0 _=>?_;obtain⟨f1,tm,t1,t2,t3,t4⟩:=aM.ec _ _ hp;have aB:=(aM.a'.ct p zi).2;obtain⟨lb,d,args,a5,bk,c0,gA⟩:=XL (rr:=D (b0.β p)) (f0:=f0) (x:=x) (mk:=[]) (a:=a) ao t3 hF a8 nx li aP jX ny cB hex aM (a9.bo ar) a9.2.1 (a9.sub nz).2.2 (Q:=Q) λg' w' dA e7=>by have gN:=dA.jK PF (XN ny df);rw[I0]at gN;have r1:=(a9.a' e7).jK (i:=i) E3;rw[I0]at r1;exact k g' w' _ gN ⟨a9.1,r1.2.1,r1.2.2⟩
 refine⟨w.heap.size,[],lb,d,lb,f,args,lb,?_,bk,(λ_ _=>trivial),c0,(λh=>by cases h),gA⟩;rw[aB]at t1;rw[a5];exact run_enterLoop_inner t1 _ _ _ _ _
end
variable {H bS:List aG}{N:Nat}{av:cj}{fN:sO->bb->Prop}{e:cN}{fn:Func}{l:bY}{cn:bb}
theorem eU.mC {A j q:Nat}{fM:List lE}{b0:b_}(aS:Exit.kf e=ah)(aE:H[q]? =D (.kg j A))(ae:H[j]? =D (.cr ah))
  (k:eU ⟨⟨aF,av,N,fM⟩,cn,b0,bS⟩ (bodyPostM (hK aF) 0 av fn fN) e l (H.set j (.cr aQ))):eU ⟨⟨aF,av,N,mark A::fM⟩,cn,b0,bS⟩ (bodyPostM (hK aF) 0 av fn fN) e l H:=λg w a aM a9=>by
 obtain⟨h1,h2⟩:=aM.ec q _ aE;have s:=b'.ag0 aM.iR ae;have aJ:=k g _ {a with defers:=fM} (aM.then s) ⟨rfl,(a9.a' s.a').2.1,(a9.a' s.a').2.2⟩;have az:a.defers=mark A::fM:=a9.1;have bp:Pq (hK aF) 0 av fn a.tmps fN fM .returning (w.putObj (g.β j) (.deferred aF))->Pq (hK aF) 0 av fn a.tmps fN a.defers .returning w:=λh=>by rw[az];exact⟨(by intro e;cases e),.inl ⟨A,_,rfl,by rw[<-h2];exact run_takeDeferred (aM.ec j _ ae),by rw[<-h2]at*;exact h⟩⟩
 cases e<;>first|exact bp aJ|(simp[Exit.kf]at aS)
theorem eU.kZ{b0:b_}(aS:Exit.kf e=ah)
  (k:eU ⟨⟨aF,av,N,[]⟩,cn,b0,bS⟩ (bodyPost av fn fN) e l H):eU ⟨⟨aF,av,N,[]⟩,cn,b0,bS⟩ (bodyPostM (hK aF) 0 av fn fN) e l H:=λg w a aM a9=>by
 have h:=k g w a aM a9;have az:a.defers=[]:=a9.1;have bp:(∃v,(results fn a.tmps).run av w=.ok v w/\fN (.returned v) w)->Pq (hK aF) 0 av fn a.tmps fN a.defers .returning w:=λh=>by rw[az];exact h
 cases e<;>first|exact bp h.2|(simp[Exit.kf]at aS)
theorem q1.ahE{R:Type}{f:gh}{c:dS}{ds:List V}{m:Option R}{r:R}{P:R->V->List aG->Prop}(hm:m=D r)(a8:av.funcs[f]? =D fn)(aB:fn.body=D c)(e0:fn.ntmps=N)(hle:ev ds.length N=ah)
  (h:∀w g,co ⟨⟨aF,av,N,[]⟩,w,g,H⟩ c (bodyPostM (hK aF) 0 av fn (i6 w g H (P r))) (sW 0 ds) H m (λq=>q=r)):q1 av f ds H (P r):=λg w vs aM bg=>by
 refine(callsIn_wide (n:=0)).1 (callsIn_of_wp_marks a8 aB trivial ?_);have aK:=bg.len;refine h w g ⟨r,hm,rfl⟩ g w _ aM.jV ⟨rfl,?_,λt d ai=>?_⟩
 ·have:ds.length<=N:=lI hle;simp[e0];omega
 ·obtain⟨_,h2⟩:=Im ds 0 t d ai;simp only[Xq]at h2;obtain⟨v,aJ,bp⟩:=bg.aq h2;have cf:t<vs.length:=(cz.1 aJ).1;refine⟨v,?_,bp⟩;simp only[Xc,Xn,cf,if_true];simpa using aJ
theorem bZ.mC{av:cj}{N A j:Nat}{fM:List lE}{cn:bb}{b0:b_}{bS:List aG}{l:bY}{H:List aG}{fn:Func}{fN:sO->bb->Prop}{e:cN}{R:Type}{m:Option R}{T:R->Prop}(q:Nat)(aS:Exit.kf e=ah)(aE:H[q]? =D (.kg j A))(ae:H[j]? =D (.cr ah))
  (k:bZ ⟨⟨aF,av,N,fM⟩,cn,b0,bS⟩ (bodyPostM (hK aF) 0 av fn fN) e l (H.set j (.cr aQ)) m T):bZ ⟨⟨aF,av,N,mark A::fM⟩,cn,b0,bS⟩ (bodyPostM (hK aF) 0 av fn fN) e l H m T:=λh=>eU.mC aS aE ae (k h)
theorem bZ.kZ{av:cj}{N:Nat}{cn:bb}{b0:b_}{bS:List aG}{l:bY}{H:List aG}{fn:Func}{fN:sO->bb->Prop}{e:cN}{R:Type}{m:Option R}{T:R->Prop}(aS:Exit.kf e=ah)
  (k:bZ ⟨⟨aF,av,N,[]⟩,cn,b0,bS⟩ (bodyPost av fn fN) e l H m T):bZ ⟨⟨aF,av,N,[]⟩,cn,b0,bS⟩ (bodyPostM (hK aF) 0 av fn fN) e l H m T:=λh=>eU.kZ aS (k h)
section
variable {Y : gj} {Q : cN -> cO -> bb -> Prop} {l : bY} {H : List aG} {R : Type} {m : Option R} {T : R -> Prop} {ops : Array bU} {rest : List bU} {ty : b3} {pos : String} {cx : Array ie} {dst : Option Tmp}
structure aud(av:cj)(i:Nat)(ds:List V)(Hc:List aG)(r:V)(dZ:List aG)(aU fr:List Nat)(H:List aG)(d:V)(H2:List aG):Prop where
 aP:xj av i ds Hc r dZ
 eE:pE Hc dZ ds aU fr
 aM:r.dc (bQ (aU++fr))=d
 jZ:dT H (ek (bQ (aU++fr)) (aU++fr) dZ)=H2
end
section
variable {av : cj} {N : Nat} {fM : List lE} {cn : bb} {b0 : b_} {bS : List aG} {Q : cN -> cO -> bb -> Prop} {l fr : bY} {H : List aG} {y : bM} {ps : Array Nat} {as eD : dS} {iT : V} {g : gh} {cI en ds : List V} {Hc : List aG} {R : Type} {T : R -> Prop}
def tc(i:Nat)(e:cN)(H2:List aG):Prop:=∃st dJ fx hO fZ hR hP hQ e8,H2[i]? =D (.loop st dJ fx hO fZ hR hP hQ e8)/\st≠ .busy/\E' dJ=D e
variable {e:cN}
theorem tc.mk{i:Nat}{H2:List aG}{st:oU}{dJ:Option dS}{fx hO e8:Nat}{fZ:bY}{hR:Array Nat}{hP hQ:dS}(h:H2[i]? =D (.loop st dJ fx hO fZ hR hP hQ e8))(aV:st≠ .busy)(he:E' dJ=D e):tc i e H2:=⟨_,_,_,_,_,_,_,_,_,h,aV,he⟩
theorem co.range{α:Type}{rr dd:α->V}{mA H2:α->List aG}{f:α->Option R}{e:cN}{x:Option (α)}(i j q:Nat)(aU nw:List Nat)(e5:(!Nat.beq i j&& !Nat.beq i q&& !Nat.beq j q&&ev bS.length i)=ah)(ao:H[i]? =D .bW)(ae:H[j]? =D .bW)(ar:bO l y=D iT)(nz:dM l fr)(a8:∀args w,(callFunc g args).run av w=.ok (.enter g args) w)(nx:s7 g iT cI en)(li:cI++[V.fW i]++en=gb (bQ aU) ds)(aP:∀z,x=D z->pI av g ds Hc (rr z) (mA z) aU nw ((H.set j (.cr ah)).set i (kl N fr ps as eD j)) (dd z) (H2 z))(jX:fq ((H.set j (.cr ah)).set i (kl N fr ps as eD j)) (ek (bQ aU) aU Hc++nw.map λj=>(j,.bW)))(ny:∀z,tc i e (H2 z))(aE:∀z,(H2 z)[q]? =D .bW)(hm:∀z,(H2 z)[j]? =D (.cr ah))(aV:∀z,((H2 z).all (aG.br i)&&l.all (λp=>p.2.br i))=ah)(k:∀z A,bZ ⟨⟨aF,av,N,mark A::fM⟩,cn,b0,bS⟩ Q e l (((H2 z).set i .bW).set q (.kg j A)) (f z) T):
  co ⟨⟨aF,av,N,fM⟩,cn,b0,bS⟩ (.rangeFunc y ps as eD) Q l H (x.bind (f)) T:=λc9=>by
 obtain⟨z,h1,h2⟩:=c9.bind;obtain⟨st,dJ,fx,hO,fZ,hR,hP,hQ,e8,aJ,bp,cy⟩:=ny z;have cY:=aV z;simp only[ea]at cY;exact dL.range i j q e5 ao ae ar nz a8 nx li (aP z h1) jX aJ bp cy (aE z) (hm z) cY.1 cY.2 λA=>k z A h2
variable {α:Type}{H2:α->List aG}{β:Type}{lM:β->List aG}{mA:α->List aG}{PP:β->List aG}{dd:α->V}{pL:β->V}{hd:cN}{rr:α->V}{PQ:β->V}
theorem co.XP{f:α->Option R}{fx:β->Option R}{x:Option (α ⊕ β)}(i j q:Nat)(aU nw xl:List Nat)(e5:(!Nat.beq i j&& !Nat.beq i q&& !Nat.beq j q&&ev bS.length i)=ah)(ao:H[i]? =D .bW)(ae:H[j]? =D .bW)(ar:bO l y=D iT)(nz:dM l fr)(a8:∀args w,(callFunc g args).run av w=.ok (.enter g args) w)(nx:s7 g iT cI en)(li:cI++[V.fW i]++en=gb (bQ aU) ds)(aP:∀z,x=D (.inl z)->pI av g ds Hc (rr z) (mA z) aU nw ((H.set j (.cr ah)).set i (kl N fr ps as eD j)) (dd z) (H2 z))(pM:∀z,x=D (.inr z)->pI av g ds Hc (PQ z) (PP z) aU xl ((H.set j (.cr ah)).set i (kl N fr ps as eD j)) (pL z) (lM z))(jX:fq ((H.set j (.cr ah)).set i (kl N fr ps as eD j)) (ek (bQ aU) aU Hc++nw.map λj=>(j,.bW)))(Fb:fq ((H.set j (.cr ah)).set i (kl N fr ps as eD j)) (ek (bQ aU) aU Hc++xl.map λj=>(j,.bW)))(ny:∀z,tc i e (H2 z))(Fc:∀z,tc i hd (lM z))(aE:∀z,(H2 z)[q]? =D .bW)(hm:∀z,(H2 z)[j]? =D (.cr ah))(aV:∀z,((H2 z).all (aG.br i)&&l.all (λp=>p.2.br i))=ah)(n_:∀z,(lM z)[q]? =D .bW)(td:∀z,(lM z)[j]? =D (.cr ah))(BT:∀z,((lM z).all (aG.br i)&&l.all (λp=>p.2.br i))=ah)(k:∀z A,bZ ⟨⟨aF,av,N,mark A::fM⟩,cn,b0,bS⟩ Q e l (((H2 z).set i .bW).set q (.kg j A)) (f z) T)(cA:∀z A,bZ ⟨⟨aF,av,N,mark A::fM⟩,cn,b0,bS⟩ Q hd l (((lM z).set i .bW).set q (.kg j A)) (fx z) T):
  co ⟨⟨aF,av,N,fM⟩,cn,b0,bS⟩ (.rangeFunc y ps as eD) Q l H (x.bind (Sum.elim f fx)) T:=λc9=>by
 obtain⟨z,h1,h2⟩:=c9.bind;rcases z with z|z
 ·obtain⟨st,dJ,fx,hO,fZ,hR,hP,hQ,e8,aJ,bp,cy⟩:=ny z;have cY:=aV z;simp only[ea]at cY;exact dL.range i j q e5 ao ae ar nz a8 nx li (aP z h1) jX aJ bp cy (aE z) (hm z) cY.1 cY.2 λA=>k z A h2
 ·obtain⟨st,dJ,fx,hO,fZ,hR,hP,hQ,e8,aJ,bp,cy⟩:=Fc z;have cY:=BT z;simp only[ea]at cY;exact dL.range i j q e5 ao ae ar nz a8 nx li (pM z h1) Fb aJ bp cy (n_ z) (td z) cY.1 cY.2 λA=>cA z A h2
variable {lj:Type}{qp XQ:lj->List aG}{XR:lj->V}{I_:cN}{XS:lj->V}{x:Option (α ⊕ (β ⊕ lj))}
theorem co.PR{f:α->Option R}{fx:β->Option R}{Fe:lj->Option R}(i j q:Nat)(aU nw xl Ff:List Nat)(e5:(!Nat.beq i j&& !Nat.beq i q&& !Nat.beq j q&&ev bS.length i)=ah)(ao:H[i]? =D .bW)(ae:H[j]? =D .bW)(ar:bO l y=D iT)(nz:dM l fr)(a8:∀args w,(callFunc g args).run av w=.ok (.enter g args) w)(nx:s7 g iT cI en)(li:cI++[V.fW i]++en=gb (bQ aU) ds)(aP:∀z,x=D (.inl z)->pI av g ds Hc (rr z) (mA z) aU nw ((H.set j (.cr ah)).set i (kl N fr ps as eD j)) (dd z) (H2 z))(pM:∀z,x=D (.inr (.inl z))->pI av g ds Hc (PQ z) (PP z) aU xl ((H.set j (.cr ah)).set i (kl N fr ps as eD j)) (pL z) (lM z))(PS:∀z,x=D (.inr (.inr z))->pI av g ds Hc (XS z) (XQ z) aU Ff ((H.set j (.cr ah)).set i (kl N fr ps as eD j)) (XR z) (qp z))(jX:fq ((H.set j (.cr ah)).set i (kl N fr ps as eD j)) (ek (bQ aU) aU Hc++nw.map λj=>(j,.bW)))(Fb:fq ((H.set j (.cr ah)).set i (kl N fr ps as eD j)) (ek (bQ aU) aU Hc++xl.map λj=>(j,.bW)))(PT:fq ((H.set j (.cr ah)).set i (kl N fr ps as eD j)) (ek (bQ aU) aU Hc++Ff.map λj=>(j,.bW)))(ny:∀z,tc i e (H2 z))(Fc:∀z,tc i hd (lM z))(PU:∀z,tc i I_ (qp z))(aE:∀z,(H2 z)[q]? =D .bW)(hm:∀z,(H2 z)[j]? =D (.cr ah))(aV:∀z,((H2 z).all (aG.br i)&&l.all (λp=>p.2.br i))=ah)(n_:∀z,(lM z)[q]? =D .bW)(td:∀z,(lM z)[j]? =D (.cr ah))(BT:∀z,((lM z).all (aG.br i)&&l.all (λp=>p.2.br i))=ah)(ahF:∀z,(qp z)[q]? =D .bW)(ahG:∀z,(qp z)[j]? =D (.cr ah))(PV:∀z,((qp z).all (aG.br i)&&l.all (λp=>p.2.br i))=ah)(k:∀z A,bZ ⟨⟨aF,av,N,mark A::fM⟩,cn,b0,bS⟩ Q e l (((H2 z).set i .bW).set q (.kg j A)) (f z) T)(cA:∀z A,bZ ⟨⟨aF,av,N,mark A::fM⟩,cn,b0,bS⟩ Q hd l (((lM z).set i .bW).set q (.kg j A)) (fx z) T)(PW:∀z A,bZ ⟨⟨aF,av,N,mark A::fM⟩,cn,b0,bS⟩ Q I_ l (((qp z).set i .bW).set q (.kg j A)) (Fe z) T):
  co ⟨⟨aF,av,N,fM⟩,cn,b0,bS⟩ (.rangeFunc y ps as eD) Q l H (x.bind (Sum.elim f (Sum.elim fx Fe))) T:=λc9=>by
 obtain⟨z,h1,h2⟩:=c9.bind;rcases z with z|z|z
 ·obtain⟨st,dJ,fx,hO,fZ,hR,hP,hQ,e8,aJ,bp,cy⟩:=ny z;have cY:=aV z;simp only[ea]at cY;exact dL.range i j q e5 ao ae ar nz a8 nx li (aP z h1) jX aJ bp cy (aE z) (hm z) cY.1 cY.2 λA=>k z A h2
 ·obtain⟨st,dJ,fx,hO,fZ,hR,hP,hQ,e8,aJ,bp,cy⟩:=Fc z;have cY:=BT z;simp only[ea]at cY;exact dL.range i j q e5 ao ae ar nz a8 nx li (pM z h1) Fb aJ bp cy (n_ z) (td z) cY.1 cY.2 λA=>cA z A h2
 ·obtain⟨st,dJ,fx,hO,fZ,hR,hP,hQ,e8,aJ,bp,cy⟩:=PU z;have cY:=PV z;simp only[ea]at cY;exact dL.range i j q e5 ao ae ar nz a8 nx li (PS z h1) PT aJ bp cy (ahF z) (ahG z) cY.1 cY.2 λA=>PW z A h2
theorem co.ahH{f:α->Option R}{fx:β->Option R}{Fe:lj->Option R}{PH:oU}{PI:Option dS}{PJ PK j:Nat}{PL:bY}{PM:Array Nat}{PN PO:dS}(i p:Nat)(aU nw xl Ff:List Nat)(e5:(!Nat.beq i p&& !Nat.beq j i&&ev bS.length i)=ah)(zi:ct bS p)(hp:H[p]? =D (.loop PH PI PJ PK PL PM PN PO j))(ao:H[i]? =D .bW)(ar:bO l y=D iT)(nz:dM l fr)(a8:∀args w,(callFunc g args).run av w=.ok (.enter g args) w)(nx:s7 g iT cI en)(li:cI++[V.fW i]++en=gb (bQ aU) ds)(aP:∀z,x=D (.inl z)->pI av g ds Hc (rr z) (mA z) aU nw (H.set i (kl N fr ps as eD j)) (dd z) (H2 z))(pM:∀z,x=D (.inr (.inl z))->pI av g ds Hc (PQ z) (PP z) aU xl (H.set i (kl N fr ps as eD j)) (pL z) (lM z))(PS:∀z,x=D (.inr (.inr z))->pI av g ds Hc (XS z) (XQ z) aU Ff (H.set i (kl N fr ps as eD j)) (XR z) (qp z))(jX:fq (H.set i (kl N fr ps as eD j)) (ek (bQ aU) aU Hc++nw.map λj=>(j,.bW)))(Fb:fq (H.set i (kl N fr ps as eD j)) (ek (bQ aU) aU Hc++xl.map λj=>(j,.bW)))(PT:fq (H.set i (kl N fr ps as eD j)) (ek (bQ aU) aU Hc++Ff.map λj=>(j,.bW)))(ny:∀z,tc i e (H2 z))(Fc:∀z,tc i hd (lM z))(PU:∀z,tc i I_ (qp z))(aV:∀z,((H2 z).all (aG.br i)&&l.all (λp=>p.2.br i))=ah)(BT:∀z,((lM z).all (aG.br i)&&l.all (λp=>p.2.br i))=ah)(PV:∀z,((qp z).all (aG.br i)&&l.all (λp=>p.2.br i))=ah)(k:∀z,bZ ⟨⟨D (b0.β p),av,N,fM⟩,cn,b0,bS⟩ Q e l ((H2 z).set i .bW) (f z) T)(cA:∀z,bZ ⟨⟨D (b0.β p),av,N,fM⟩,cn,b0,bS⟩ Q hd l ((lM z).set i .bW) (fx z) T)(PW:∀z,bZ ⟨⟨D (b0.β p),av,N,fM⟩,cn,b0,bS⟩ Q I_ l ((qp z).set i .bW) (Fe z) T):
  co ⟨⟨D (b0.β p),av,N,fM⟩,cn,b0,bS⟩ (.rangeFunc y ps as eD) Q l H (x.bind (Sum.elim f (Sum.elim fx Fe))) T:=λc9=>by
 obtain⟨z,h1,h2⟩:=c9.bind;rcases z with z|z|z
 ·obtain⟨st,dJ,fx,hO,fZ,hR,hP,hQ,e8,aJ,bp,cy⟩:=ny z;have cY:=aV z;simp only[ea]at cY;exact dL.PG i p e5 zi hp ao ar nz a8 nx li (aP z h1) jX aJ bp cy cY.1 cY.2 (k z h2)
 ·obtain⟨st,dJ,fx,hO,fZ,hR,hP,hQ,e8,aJ,bp,cy⟩:=Fc z;have cY:=BT z;simp only[ea]at cY;exact dL.PG i p e5 zi hp ao ar nz a8 nx li (pM z h1) Fb aJ bp cy cY.1 cY.2 (cA z h2)
 ·obtain⟨st,dJ,fx,hO,fZ,hR,hP,hQ,e8,aJ,bp,cy⟩:=PU z;have cY:=PV z;simp only[ea]at cY;exact dL.PG i p e5 zi hp ao ar nz a8 nx li (PS z h1) PT aJ bp cy cY.1 cY.2 (PW z h2)
end
def Fg(av:cj)(f:gh)(args:List V)(H:List aG)(post:V->List aG->Prop):Prop:=
 ∀(g:b_)(w:bb)(vs:List a4)(u:FrameMode),gm g w H->cU g w H args vs->CallsDIn (hK aF) 0 av f vs.toArray u w λe oM w'=>oM=u/\i6 w g H post e w'
abbrev ahI(av:cj)(f:gh)(ds:List V)(H:List aG)(r:V)(H':List aG):Prop:=Fg av f ds H (λgJ H2=>gJ=r/\H2=H')
theorem Fg.qh{R:Type}{av:cj}{f:gh}{fn:Func}{c:dS}{N:Nat}{ds:List V}{H:List aG}{m:Option R}{r:R}{P:R->V->List aG->Prop}(hm:m=D r)(a8:av.funcs[f]? =D fn)(aB:fn.body=D c)(e0:fn.ntmps=N)(hle:ev ds.length N=ah)
  (h:∀w g,co ⟨⟨aF,av,N,[]⟩,w,g,H⟩ c (bodyPost av fn (i6 w g H (P r))) (sW 0 ds) H m (λq=>q=r)):Fg av f ds H (P r):=λg w vs u aM bg=>by
 have aK:=bg.len;have:=(h w g ⟨r,hm,rfl⟩ g w {tmps:=vs.toArray++Array.replicate (fn.ntmps-vs.toArray.size) undef,defers:=[]} aM.jV ⟨rfl,?_,λt d ai=>?_⟩)
 ·exact callsDIn_of_wp a8 aB trivial this
 ·have:ds.length<=N:=lI hle;simp[e0];omega
 ·obtain⟨_,h2⟩:=Im ds 0 t d ai;simp only[Xq]at h2;obtain⟨v,aJ,bp⟩:=bg.aq h2;have cf:t<vs.length:=(cz.1 aJ).1;refine⟨v,?_,bp⟩;simp only[Xc,Xn,cf,if_true];simpa using aJ
abbrev Fh(f:gh)(vs:List a4):lE:={target:=.fn (.func f) vs.toArray,args:=#[]}
theorem PX{r:Option Nat}{P:cj}{N:Nat}{ds:List lE}(pH:List lE){ops:Array bU}{Q:cN->cO->bb->Prop}:∀(rest:List bU),jQ ⟨r,P,N,ds⟩ ops Q rest=jQ ⟨r,P,N,pH⟩ ops Q rest
 |[]=>rfl
 |o::rest=>by have h:=PX (r:=r) (P:=P) (N:=N) (ds:=ds) pH (ops:=ops) (Q:=Q) rest;funext a w;simp only[jQ,h]
theorem eo.defer{av:cj}{N:Nat}{fM:List lE}{cn:bb}{b0:b_}{bS:List aG}{Q:cN->cO->bb->Prop}{l:bY}{H:List aG}{ops:Array bU}{rest:List bU}{dst:Option Tmp}{ty:b3}{pos:String}{cx:Array ie}{x:bM}{tys:Array b3}{f:gh}{en:List V}(q:Nat)(aE:H[q]? =D .bW)(ar:bO l x=D (.fn (.func f) [] en))(az:kT N dst=ah)
  (k:∀vs,eo ⟨⟨aF,av,N,Fh f vs::fM⟩,cn,b0,bS⟩ ops Q rest (gn dst (.p (.v undef)) l) (H.set q (.mq en vs))):
  eo ⟨⟨aF,av,N,fM⟩,cn,b0,bS⟩ ops Q ({dst:=dst,op:=.defer {callee:=.value x,args:=#[],argTypes:=tys},type:=ty,pos:=pos,after:=cx,guard:=aF}::rest) l H:=λg w a aM a9=>by
 simp only[jQ,Region.wanted,if_true,Oper.wpIn];refine⟨λ_ _=>trivial,?_⟩;have bg:=a9.bo ar;generalize he:a.eval x=v at bg;cases bg with
 |fn h1 h2=>
  rename_i us vs;cases h1;have e:(({dst:=dst,op:=.defer {callee:=.value x,args:=#[],argTypes:=tys},type:=ty,pos:=pos,after:=cx,guard:=aF}:bU).semAt aF a.eval).run av w=.ok (.defer {target:=.fn (.func f) vs.toArray,args:=#[]}) w:=by rw[Oper.semAt_none];unfold execOp;simp[resolve,he,Deferred.ofValue,ck,ce]
  rw[e];show jQ ⟨aF,av,N,fM⟩ ops Q rest (({a with defers:={target:=.fn (.func f) vs.toArray,args:=#[]}::a.defers}:cO).put dst undef) w;have s:=b'.PD (q:=q) (o:=.mq en vs) aM.iR aE (λb h=>h) λdO=>cU.a' dO h2;have r7:=(a9.a' s.a').put az (.v undef);rw[PX (Fh f vs::fM)];refine k vs g w _ (aM.then s) ⟨?_,?_,?_⟩
  ·cases dst<;>(show _::a.defers=_;rw[a9.1])
  ·have:=r7.2.1;cases dst<;>exact this
  ·have:=r7.2.2;cases dst<;>exact this
theorem bI.defer{av:cj}{N:Nat}{fM:List lE}{cn:bb}{b0:b_}{bS:List aG}{Q:cN->cO->bb->Prop}{l:bY}{H:List aG}{R:Type}{m:Option R}{T:R->Prop}{ops:Array bU}{rest:List bU}{dst:Option Tmp}{ty:b3}{pos:String}{cx:Array ie}{x:bM}{tys:Array b3}{f:gh}{en:List V}(q:Nat)(aE:H[q]? =D .bW)(ar:bO l x=D (.fn (.func f) [] en))(az:kT N dst=ah)
  (k:∀vs,bI ⟨⟨aF,av,N,Fh f vs::fM⟩,cn,b0,bS⟩ ops Q rest (gn dst (.p (.v undef)) l) (H.set q (.mq en vs)) m T):
  bI ⟨⟨aF,av,N,fM⟩,cn,b0,bS⟩ ops Q ({dst:=dst,op:=.defer {callee:=.value x,args:=#[],argTypes:=tys},type:=ty,pos:=pos,after:=cx,guard:=aF}::rest) l H m T:=λh=>eo.defer q aE ar az λvs=>k vs h
structure ahJ(av:cj)(g:gh)(ds:List V)(Hc:List aG)(r:V)(dZ:List aG)(aU fr:List Nat)(H:List aG)(H2:List aG):Prop where
 aP:Fg av g ds Hc (λgJ H'=>gJ=r/\H'=dZ)
 eE:pE Hc dZ ds aU fr
 jZ:dT H (ek (bQ (aU++fr)) (aU++fr) dZ)=H2
section
variable {Y : gj} {Q : cN -> cO -> bb -> Prop} {l : bY} {H : List aG} {R : Type} {m : Option R} {T : R -> Prop} {os rest : List bU} {acc : List (List Nat × List Nat)}
end
section
variable {av : cj} {ty : b3} {ρ : bM -> Option V} {T b1 : b3} {x y : bM} {k cA : hv} {a b : Int}
def q'(k:hv)(a b:Int):Int:=k.wrap ((a%2^k.bits).toNat &&& (b%2^k.bits).toNat:Nat)
def I'(k:hv)(a b:Int):Int:=k.wrap ((a%2^k.bits).toNat ||| (b%2^k.bits).toNat:Nat)
def zj(k:hv)(a b:Int):Int:=k.wrap ((a%2^k.bits).toNat^^^(b%2^k.bits).toNat:Nat)
def shr(k:hv)(a b:Int):Int:=a.fdiv (2^(min b.toNat k.bits))
theorem ahK(ar:ρ x=D (.p (.v (.int k a))))(bh:ρ y=D (.p (.v (.int k b)))):bE av (.binOp .and T x y b1) ty ρ [] [] (.p (.v (.int k (q' k a b)))):=
 kS ar bh λw'=>by simp[ck,pq,ce,binOp,Pt,q']
theorem ahL(ar:ρ x=D (.p (.v (.int k a))))(bh:ρ y=D (.p (.v (.int k b)))):bE av (.binOp .or T x y b1) ty ρ [] [] (.p (.v (.int k (I' k a b)))):=
 kS ar bh λw'=>by simp[ck,pq,ce,binOp,Pt,I']
theorem ahM(ar:ρ x=D (.p (.v (.int k a))))(bh:ρ y=D (.p (.v (.int k b)))):bE av (.binOp .xor T x y b1) ty ρ [] [] (.p (.v (.int k (zj k a b)))):=
 kS ar bh λw'=>by simp[ck,pq,ce,binOp,Pt,zj]
theorem zk(ar:ρ x=D (.p (.v (.int k a))))(bh:ρ y=D (.p (.v (.int cA b))))(h:0<=b):bE av (.binOp .shr T x y b1) ty ρ [] [] (.p (.v (.int k (shr k a b)))):=
 kS ar bh λw'=>by
  have:¬b< 0:=by omega
  simp[ck,pq,ce,binOp,Op.shift,shr,this]
theorem ahN{ms:_}(cc:∀w,(underlying T).run av w=.ok (.interface ms) w)(ar:ρ x=D (.p (.v .nilIface)))(bh:ρ (.const .nilIface)=D (.p (.v .nilIface))):bE av (.binOp .eql T x (.const .nilIface) b1) ty ρ [] [] (bs ah):=kS ar bh λw=>by unfold binOp l2;rw[show s9=9999+1 from rfl];unfold kG;simp[eqGuard,ck,ce,cc]
theorem ahO{ms:_}(cc:∀w,(underlying T).run av w=.ok (.interface ms) w)(ar:ρ x=D (.p (.v .nilIface)))(bh:ρ (.const .nilIface)=D (.p (.v .nilIface))):bE av (.binOp .neq T x (.const .nilIface) b1) ty ρ [] [] (bs aQ):=kS ar bh λw=>by unfold binOp l2;rw[show s9=9999+1 from rfl];unfold kG;simp[eqGuard,ck,ce,cc]
def Fi(xs:List Int):ByteArray:=⟨(xs.map λn=>UInt8.ofNat n.toNat).toArray⟩
theorem XT:∀(xs:List Int)(s:ByteArray),xs.foldl (λb a=>b.push (UInt8.ofNat a.toNat)) s=⟨(s.data.toList++(xs.map λn=>UInt8.ofNat n.toNat)).toArray⟩
 |[],s=>by simp
 |n::xs,s=>by simp only[List.foldl_cons,gI];rw[XT xs];simp[ByteArray.push]
theorem PY:∀xs:List Int,xs.flatMap jJ=xs.map a2
 |[]=>rfl
 |n::xs=>by simp[List.flatMap_cons,jJ,PY xs]
theorem hL.ahP{E:Nat->Nat}{w:bb}{x v:a4}(h:hL E w (.v x) v):v=x:=by cases h;rfl
theorem ahQ{S qa e:b3}{d:V}{xs:List Int}(eT:∀w,(underlying S).run av w=.ok (.slice e) w)(lm:∀w,(underlying qa).run av w=.ok .string w)(he:∀w,(underlying e).run av w=.ok (.int .u8) w)(ar:ρ x=D d)(az:V.lZ 1 jJ d xs):bE av (.convert S qa x) ty ρ [] [] (cG (Fi xs)):=.pure λg w H bo o aE _ _ a8=>by
 have a5:=(a8 x (by simp[c_]) _ ar).pB az;refine⟨_,?_,.v _⟩;unfold execOp;rw[aE];rcases a5.rR with⟨⟨oH,h1⟩,h2,aJ⟩|⟨b,o,cap,us,h1,h2,aJ,bp,cy,cY,gX⟩
 ·have:xs=[]:=List.length_eq_zero_iff.1 h2;subst this;cases oH<;>simp[h1,convert,eT,lm,he,Conv.bytesToString,ck,ce,Fi,loadCells,loadCellsFrom]<;>rfl
 ·have e9:=PY xs;rw[e9]at cY cy;have xf:us=xs.map λn=>Value.int .u8 n:=by
   apply mr;intro j;by_cases ae:j<xs.length
   ·have aK:j<us.length:=by rw[<-cY.1];simpa using ae
    have:=cY.2 j (a2 xs[j]) us[j] (by rw[fv,cq ae];rfl) (cq aK);rw[cq aK,fv,cq ae];rw[this.ahP];rfl
   ·rw[n1 (by rw[<-cY.1];simpa using ae),n1 (by simpa using ae)]
  have ahR:=Go.Mi.NX (P:=av) (w:=w) (b:=b) (o:=o) xs.length 0 #[] us (λj ae=>by
   have aK:j<us.length:=by rw[<-cY.1];simpa using ae
   rw[hD,gX j us[j] (cq aK),cq aK]) (by rw[xf];simp)
  simp only[h1,convert,eT,lm,he,Conv.bytesToString,ck,ce,loadCells,ahR,it];rw[xf];simp;rw[XT];simp[Fi]
def zl(s:ByteArray):List Int:=s.data.toList.map λb=>(b.toNat:Int)
theorem ahS{A B e:b3}{s:ByteArray}(ii:av.underlying A=D .string)(dw:av.underlying B=D (.slice e))(he:av.underlying e=D (.int .u8))(ar:ρ x=D (cG s)):bE av (.convert A B x) ty ρ [] [] (bT 1 jJ (zl s)):=λg w H bo o a1 _ aM dY a8=>by
 have a5:=(a8 x (by simp[c_]) _ ar).g4;have mv:=Go.Lib.run_convert_string_bytes w A B e s ii dw he;have ahT:Below w.heap.size w (Xj w e s):=⟨rfl,rfl,rfl,by rw[Xi];omega,λj ae=>Go.Lib.bytesWorld_at_old w e s j ae⟩
 have b2:=b'.Eh (E:=dD g.E w.heap.size s.size) aM ahT (λb aB=>ki (by omega));have Ee:s.size<=Xd w s.size 0 e:=by have:=grownCap_ge w s.size 0 e;omega
 have aK:(zl s).length=s.size:=by unfold zl;rw[h6,Array.length_toList];rfl
 refine .inl ⟨.slice (D ⟨w.heap.size,0,aF⟩) s.size (Xd w s.size 0 e),Xj w e s,?_,_,b2,.p ?_⟩
 ·unfold execOp;rw[a1];simp only[a5,ck,mv,ce,it]
 ·unfold dI;rw[aK,PY];refine .dI (λj=>.int .u8 (s.data.toList.getD j 0).toNat) (by rw[h6,aK,q4]) Ee (by show 0+s.size*1<=dD g.E w.heap.size s.size w.heap.size;rw[fB];omega) (by rw[Xi];omega) (λj ae=>?_) λj c aP=>?_
  ·rw[hD];exact Go.Lib.bytesWorld_cell w e s j (by omega)
  ·unfold zl at aP;rw[fv,fv]at aP;cases aE:s.data.toList[j]? with
   |none=>rw[aE]at aP;cases aP
   |some q=>rw[aE]at aP;cases aP;rw[List.getD_eq_getElem?_getD,aE];exact .v
theorem ahU(cc:∀w,(underlying T).run av w=.ok (.slice b1) w)(ar:ρ x=D (.p (.v (.slice aF 0 0)))):bE av (.call {callee:=.builtin .len,args:=#[x],argTypes:=#[T]}) ty ρ [] [] (aI 0):=.plain λw e o a1 _ a8=>by have a5:=a8 x (by simp[c_,iZ]) _ ar;unfold execOp;rw[a1];simp[resolve,a5,invoke,builtin,Builtin.len_,cc,ck,ce,goInt]
theorem ahV{S qa:b3}{K:hv}{n:Int}(eT:∀w,(underlying S).run av w=.ok (.int K) w)(lm:∀w,(underlying qa).run av w=.ok .string w)(ar:ρ x=D (.p (.v (.int K n)))):bE av (.convert S qa x) ty ρ [] [] (cG (Utf8.encode n)):=.plain λw e o a1 _ a8=>by have a5:=a8 x (by simp[c_]) _ ar;unfold execOp;rw[a1];simp[a5,convert,eT,lm,ck,ce,Conv.intToString]
end
end Go.Dp

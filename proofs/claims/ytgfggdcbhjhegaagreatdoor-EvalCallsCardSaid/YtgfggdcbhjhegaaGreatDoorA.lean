/- The step rules that all walks of these texts use: frames as lists of known slots, one rule for each form of code and for each kind of operation. Plain lemmas over any program; nothing of one program stands here. -/
import Derived.CallsIn
import Derived.OrdersIn
import Derived.RangeFuncLeaves
import Derived.RangeFuncOwn
import Derived.Deep.Quiet
import Derived.WalkKit
import Derived.RangeFuncNested
import GoSem.Core.Value
import Derived.Maps.AppendAt
set_option linter.all false
namespace Go.Mi
open Go Go.RowKit
open _root_.Array renaming getElem?_eq_some_iff->nY,getD_eq_getD_getElem?->nZ,length_toList->HP,range->NL
open Bool renaming true->ah,false->aQ,false_eq_true->fe
open Go renaming Value->a4,World->bb,Program->cj,TypeId->b3,Oper->bU,Operand->bM,Exit->cN,Act->cO,FuncId->gh,Addr->sN,ResultVar->p7,Ending->sO,Deferred->lE,Code->dS,Calls->A4,IntKind->hv,store->NM
open Go.Instr renaming fill->mm,buildSlice->NN
open Go.Op renaming operands->c_,intCmp->yG
open Go.Region renaming binds->qV,wanted->n0
open Go.Result renaming andThen->ce
open Go.Sem renaming run_bind->ck,run_pure->it,run->vg
open Go.World renaming cell?_of_block->D4,cell?->p8,setCell->NO,ownsRow->NP
open List renaming getElem?_eq_some_iff->cz,getElem?_eq_getElem->cq,length_cons->pn,getD_eq_getElem?_getD->p9,getElem?_take->kx,length_append->ky,getElem?_append_left->sP,getElem?_set_ne->HQ,getElem?_drop->sQ,flatMap_cons->iX,length_drop->qW,eq_nil_of_length_eq_zero->nl,take_of_length_le->fz,getElem?_set_self->A5,getElem?_eq_none->n1,getElem?_append->NQ,getElem_range->A6,getElem?_map->fv,append_assoc->tW,zipIdx_cons->NR,length_take->jf,drop->HR,foldl_cons->NS,drop_drop->NT,length->p_,range->mn,getD->yH
open Nat renaming lt_of_lt_of_le->sR,le_refl->b5,le_trans->jC,mul_le_mul_right->oE,add_mul->jD,beq->d',le_of_not_lt->HS,add_assoc->sS,zero_add->hD,le_of_eq->HT,beq_refl->jp,eq_of_beq_eq_true->kz,blt->fV,add_zero->mO,add_comm->qX,zero_le->gx,blt_eq->iu,ble->ev
open Option renaming some->D,none->aF,map_eq_some_iff->A7,map_some->lV
open Option.some renaming injEq->hX
theorem dd:(∀(p:Prop)[Decidable p],(decide p=ah)=p)/\(∀(p:Prop)[Decidable p],(decide p=aQ)=¬p)/\(∀b:Bool,((!b)=ah)=(b=aQ))/\(∀b:Bool,((!b)=aQ)=(b=ah))/\
  (∀a b:Bool,((a||b)=ah)=(a=ah\/b=ah))/\(∀a b:Bool,((a&&b)=ah)=(a=ah/\b=ah))/\(∀a b:Bool,((a||b)=aQ)=(a=aQ/\b=aQ))/\(∀a b:Bool,((a&&b)=aQ)=(a=ah->b=aQ))/\
  (∀a b:Int,(¬a<b)=(b<=a))/\(∀a b:Int,(¬a<=b)=(b<a)):=
 ⟨λ_ _=>decide_eq_true_eq,λ_ _=>by simp,λ_=>by simp,λ_=>by simp,λ_ _=>by simp,λ_ _=>by simp,λ_ _=>by simp,λ_ _=>by simp,λ_ _=>by simp,λ_ _=>by simp⟩
abbrev g3:=List (Nat×a4)
def lF:g3->Nat->Option a4
 |[],_=>aF
 |(d,v)::l,t=>cond (d' d t) (D v) (lF l t)
def bo(l:g3):bM->Option a4
 |.tmp t=>lF l t
 |.const v=>D v
 |.global g=>D (.pointer (D ⟨g,0,aF⟩))
 |.func f=>D (.func (.func f) #[] #[])
def lW(l:g3):List bM->Option (List a4)
 |[]=>D []
 |x::xs=>match bo l x,lW l xs with
  |some v,D vs=>D (v::vs)
  |_,_=>aF
abbrev hK(r:Option Nat):Fence:={fn:=λ_=>True,depth:=aF,alive:=aQ,round:=r}
structure hY where
 r:Option Nat
 P:cj
 N:Nat
 ds:List lE
def I(X:hY)(l:g3)(a:cO):Prop:=a.defers=X.ds/\a.tmps.size=X.N/\∀t v,lF l t=D v->a.tmps[t]? =D v
theorem I.bo{X:hY}{l:g3}{a:cO}(h:I X l a){x:bM}{v:a4}(bg:bo l x=D v):a.eval x=v:=by
 cases x with
 |tmp t=>have:=h.2.2 t v bg;simp[Act.eval,nZ,this]
 |const u=>simpa[Mi.bo,Act.eval]using bg
 |global g=>simpa[Mi.bo,Act.eval]using bg
 |func f=>simpa[Mi.bo,Act.eval]using bg
theorem I.lW{X:hY}{l:g3}{a:cO}(h:I X l a):∀{xs:List bM}{vs:List a4},lW l xs=D vs->xs.map a.eval=vs:=by
 intro xs;induction xs with
 |nil=>intro vs bg;simp[Mi.lW]at bg;simp[<-bg]
 |cons x xs bB=>
  intro vs bg;simp only[Mi.lW]at bg;split at bg
  ·rename_i v us ar NU;cases bg;simp[h.bo ar,bB NU]
  ·cases bg
theorem I.put{X:hY}{l:g3}{a:cO}(h:I X l a){d:Nat}(az:fV d X.N=ah)(v:a4):I X ((d,v)::l) (a.put (D d) v):=by
 refine⟨h.1,by simp[Act.put,h.2.1],λt u ai=>?_⟩;have po:d<X.N:=by simpa[iu]using az
 simp only[lF]at ai;simp only[Act.put,Array.getElem?_setIfInBounds,h.2.1];by_cases e:d=t
 ·subst e;have:d' d d=ah:=jp d;rw[this]at ai;simp only[cond_true,hX]at ai;simp[po,ai]
 ·have:d' d t=aQ:=by
   cases aB:d' d t with
   |false=>rfl
   |true=>exact absurd (kz aB) e
  rw[this]at ai;simp only[cond_false]at ai;simp[e,h.2.2 t u ai]
theorem p'{d t:Nat}(e:¬d=t):d' d t=aQ:=by
 cases aB:d' d t with
 |false=>rfl
 |true=>exact absurd (kz aB) e
def yI(l l':g3):Prop:=∀t v,lF l' t=D v->lF l t=D v
theorem yI.nil{l:g3}:yI l []:=λt v h=>by simp[lF]at h
theorem yI.cons{l l':g3}{t:Nat}{v:a4}(h:lF l t=D v)(aV:yI l l'):yI l ((t,v)::l'):=λs u hu=>by
 simp only[lF]at hu;by_cases e:t=s
 ·subst e;rw[show d' t t=ah from jp t]at hu;simp only[cond_true,hX]at hu;rw[<-hu];exact h
 ·rw[p' e]at hu;exact aV s u hu
def W(X:hY)(c:dS)(Q:cN->cO->bb->Prop)(l:g3)(w:bb):Prop:=∀a,I X l a->c.wpIn (hK X.r) 0 X.P Q a w
def qa(X:hY)(Q:cN->cO->bb->Prop)(e:cN)(l:g3)(w:bb):Prop:=∀a,I X l a->Q e a w
section
variable {X : hY} {Q : cN -> cO -> bb -> Prop} {l : g3} {w : bb}
def pp(X:hY)(y:dS)(Q:cN->cO->bb->Prop):cN->cO->bb->Prop:=Exit.then (λa w=>y.wpIn (hK X.r) 0 X.P Q a w) Q
variable {x y:dS}
theorem aew(h:W X x (pp X y Q) l w):W X (.seq x y) Q l w:=λa a9=>wpIn_seq (h a a9)
variable {id:Nat}
theorem aex{c:dS}(h:W X c (Exit.inBlock id Q) l w):W X (.block id c) Q l w:=λa a9=>wpIn_block (h a a9)
theorem aey{c:bM}(aP:bo l c=D (.bool ah))(ai:W X x Q l w):W X (.cond c x y) Q l w:=
 λa a9=>wpIn_cond_true (a9.bo aP) (ai a a9)
theorem aez(h:W X y Q l w):qa X (pp X y Q) .normal l w:=h
theorem aeA(h:qa X Q .normal l w):qa X (Exit.inBlock id Q) .normal l w:=h
theorem ke{p:Nat->Prop}(h:∃n,p n):∃n,p n/\∀m,p m->n<=m:=by
 obtain⟨n,a_⟩:=h;induction n using Nat.strongRecOn with
 |_ n bB=>
  by_cases hm:∃m,m<n/\p m
  ·obtain⟨m,cf,hp⟩:=hm;exact bB m cf hp
  ·exact⟨n,a_,λm hp=>HS λcf=>hm ⟨m,cf,hp⟩⟩
end
def jQ(X:hY)(ops:Array bU)(Q:cN->cO->bb->Prop):List bU->cO->bb->Prop
 |[],a,w=>Q .normal a w
 |o::rest,a,w=>if n0 o (yielded ops a.tmps)then o.wpIn (hK X.r) 0 X.P a w (jQ X ops Q rest) Q else jQ X ops Q rest (a.put o.dst undef) w
theorem HU{X:hY}{ops:Array bU}{Q:cN->cO->bb->Prop}:∀(rest:List bU)(k:Nat)(a:cO)(w:bb),(∀j,rest[j]? =ops[k+j]?)->
  jQ X ops Q rest a w->wpOpsIn (hK X.r) 0 X.P ops Q (List.range' k rest.length) a w
 |[],k,a,w,_,h=>h
 |o::rest,k,a,w,aM,h=>by
  have bw:ops[k]? =D o:=by simpa using(aM 0).symm
  have Vb:∀j,rest[j]? =ops[k+1+j]? :=λj=>by have:=aM (j+1);simpa[sS,qX 1 j]using this
  simp only[pn,List.range'_succ,wpOpsIn,bw];simp only[jQ]at h;split
  ·rename_i hw;simp only[hw,if_true]at h;exact Oper.wpIn_mono (λgy w' dp=>HU rest (k+1) gy w' Vb dp) h
  ·rename_i hw;simp only[hw]at h;exact⟨λ_ _=>trivial,HU rest (k+1) _ w Vb h⟩
def A8(X:hY)(ops:Array bU)(Q:cN->cO->bb->Prop)(rest:List bU)(l:g3)(w:bb):Prop:=∀a,I X l a->jQ X ops Q rest a w
section
variable {X : hY} {Q : cN -> cO -> bb -> Prop} {l : g3} {w w' : bb} {ops : Array bU} {rest : List bU}
theorem Vc{id:Nat}{os:List bU}(h:A8 X os.toArray Q os l w):W X (.region id os.toArray aQ) Q l w:=λa a9=>by refine wpIn_region ?_;have:=HU (X:=X) (ops:=os.toArray) (Q:=Q) os 0 a w (λj=>by simp) (h a a9);simpa[List.range_eq_range']using this
theorem Vd(h:qa X Q .normal l w):A8 X ops Q [] l w:=h
def jE(P:cj)(op:Op)(ty:b3)(l:g3)(w:bb)(v:a4)(w':bb):Prop:=
 ∀(X:hY)(a:cO)(o:bU),X.P=P->I X l a->o.op=op->o.type=ty->(execOp a.eval o).run P w=.ok (.value v) w'
def NV(P:cj)(op:Op)(ty:b3)(l:g3)(w:bb)(v:a4):Prop:=∀w',Below w.heap.size w w'->jE P op ty l w' v w'
variable {n:Next}{o:bU}{ρ:bM->a4}
theorem aeB{P:cj}{w w':bb}(h:(execOp ρ o).run P w=.ok n w')(a_:∀d,n≠ .defer d):∀c,o.op≠ .defer c:=by
 intro c aP;unfold execOp at h;rw[aP]at h;simp only[ck]at h;cases aM:(resolve ρ c o.type).run P w with
 |ok d jg=>rw[aM]at h;simp only[ce,it]at h;cases h;exact a_ d rfl
 |halt x jg=>rw[aM]at h;simp only[ce]at h;cases h
theorem qY{P:cj}{w w':bb}{r:Option Nat}(h:(execOp ρ o).run P w=.ok n w')(a_:∀d,n≠ .defer d):(o.semAt r ρ).run P w=.ok n w':=by rw[Oper.semAt_eq r ρ o (aeB h a_)];exact h
variable {d:Nat}{op:Op}{ty:b3}
theorem aeC{pos:String}{cx:Array Edge}{v:a4}(h:jE X.P op ty l w v w')(az:fV d X.N=ah)(k:A8 X ops Q rest ((d,v)::l) w'):
  A8 X ops Q ({dst:=D d,op:=op,type:=ty,pos:=pos,after:=cx,guard:=aF}::rest) l w:=λa a9=>by
 simp only[jQ,n0,if_true,Oper.wpIn];refine⟨λ_ _=>trivial,?_⟩;rw[qY (h X a _ rfl a9 rfl rfl) (by intro d h;cases h)];exact k _ (a9.put az v)
theorem Ve{pos:String}{cx:Array Edge}{v:a4}(h:NV X.P op ty l w v)(az:fV d X.N=ah)(k:A8 X ops Q rest ((d,v)::l) w):
  A8 X ops Q ({dst:=D d,op:=op,type:=ty,pos:=pos,after:=cx,guard:=aF}::rest) l w:=aeC (h w (Below.refl _ _)) az k
end
section
variable {P : cj} {l : g3} {w : bb} {ty : b3}
variable {x:bM}
theorem aeD{v:a4}(h:bo l x=D v):NV P (.assign x) ty l w v:=λw' _ X a o _ a9 a1 _=>by unfold execOp;rw[a1];simp only[a9.bo h];rfl
variable {T:b3}{op:BinOp}{y:bM}
theorem aeE {b1:b3}{vx vy v:a4}(ar:bo l x=D vx)(bh:bo l y=D vy)
  (h:∀w',Below w.heap.size w w'->(do eqGuard op T x y vx vy;binOp op T vx vy:Sem a4).run P w'=.ok v w'):NV P (.binOp op T x y b1) ty l w v:=λw' aB X a o _ a9 a1 _=>by
 unfold execOp;rw[a1];simp only[a9.bo ar,a9.bo bh,ck,h w' aB,ce,it]
theorem pq{k cA:hv}{a b:Int}(w:bb):(eqGuard op T x y (.int k a) (.int cA b)).run P w=.ok () w:=by unfold eqGuard;cases op<;>simp[it]
theorem NW{a b:ByteArray}(w:bb):(eqGuard op T x y (.string a) (.string b)).run P w=.ok () w:=by unfold eqGuard;cases op<;>simp[it]
section
variable {T b1 : b3} {x y : bM} {k : hv} {a b : Int}
end
end
theorem Vf{w:bb}{p:sN}{v:a4}(h:w.cell? p=D v):p.block<w.heap.size:=by
 unfold p8 at h;split at h
 ·rename_i aB;exact(nY.1 aB).1
 ·cases h
def qZ(w:bb)(b o:Nat)(vs:List a4):Prop:=∀i,i<vs.length->w.cell? ⟨b,o+i,aF⟩=vs[i]?
theorem qZ.lt{w:bb}{b o:Nat}{vs:List a4}(h:qZ w b o vs)(a_:0<vs.length):b<w.heap.size:=by have:=h 0 a_;rw[cq a_]at this;exact Vf this
theorem qb(b o n:Nat):(⟨b,o,aF⟩:sN).add n=⟨b,o+n,aF⟩:=by
 unfold Addr.add;split
 ·rename_i h;subst h;rfl
 ·rfl
section
variable {P : cj} {l : g3} {w : bb} {ty : b3}
theorem D5{T:b3}{p:sN}{v:a4}(cc:∀w,(isAgg T).run P w=.ok aQ w)(aP:w.cell? p=D v):(loadVar T p).run P w=.ok v w:=by unfold loadVar;simp[ck,cc,ce,Go.load,vg,aP]
theorem NX{b o:Nat}:∀(n i:Nat)(acc:Array a4)(vs:List a4),(∀j,j<n->w.cell? ⟨b,o+(i+j),aF⟩=vs[j]?)->vs.length=n->
  (loadCellsFrom ⟨b,o,aF⟩ i n acc).run P w=.ok (acc++vs.toArray) w
 |0,i,acc,vs,_,aK=>by have:vs=[]:=List.length_eq_zero_iff.1 aK;subst this;simp[loadCellsFrom]
 |n+1,i,acc,vs,aP,aK=>by
  match vs,aK with
  |v::vs,aK=>have bw:=aP 0 (by omega);have aM:=NX n (i+1) (acc.push v) vs (λj ae=>by have:=aP (j+1) (by omega);simpa[sS,qX 1 j]using this) (by simpa using aK);unfold loadCellsFrom;simp only[ck,Go.load,qb];simp only[mO,List.getElem?_cons_zero]at bw;simp only[vg,bw,ce,aM];simp
theorem HV{T n:Nat}{b o:Nat}{vs:List a4}(cc:∀w,(isAgg T).run P w=.ok ah w)(a_:∀w,(sizeOf T).run P w=.ok n w)(aP:qZ w b o vs)(aK:vs.length=n):
  (loadVar T ⟨b,o,aF⟩).run P w=.ok (.agg vs.toArray) w:=by
 unfold loadVar;have:=NX (P:=P) (w:=w) (b:=b) (o:=o) n 0 #[] vs (λj ae=>by simpa using aP j (by omega)) aK;simp[ck,cc,a_,ce,loadCells,this]
end
def oF:a4->Nat| .slice (D a) _ _=>a.block|_=>0
def NY:a4->Nat| .slice (D a) _ _=>a.off|_=>0
def Vg:a4->Nat| .slice _ _ c=>c|_=>0
structure D6{α:Type}(w:bb)(v:a4)(k:Nat)(enc:α->List a4)(xs:List α):Prop where
 shape:(v=.slice aF 0 0/\xs=[])\/(v=.slice (D ⟨oF v,NY v,aF⟩) xs.length (Vg v)/\xs.length<=Vg v)
 cells:∀i x,xs[i]? =D x->qZ w (oF v) (NY v+i*k) (enc x)
 pos:∀x,0<(enc x).length
section
variable {α : Type} {w w' : bb} {v : a4} {k : Nat} {enc : α -> List a4} {xs : List α}
theorem D6.nil(hp:∀x,0<(enc x).length):D6 w (.slice aF 0 0) k enc []:=⟨.inl ⟨rfl,rfl⟩,λi x ao=>by simp at ao,hp⟩
theorem D6.lt(h:D6 w v k enc xs)(a_:0<xs.length):oF v<w.heap.size:=
 (h.cells 0 _ (cq a_)).lt (h.pos _)
variable {P : cj} {l : g3} {ty : b3}
end
structure mo(S:Nat->Prop)(w w':bb):Prop where
 os:w'.os=w.os
 tape:w'.tape=w.tape
 output:w'.output=w.output
 size:w.heap.size<=w'.heap.size
 block:∀k,k<w.heap.size->¬S k->w'.heap[k]? =w.heap[k]?
theorem mo.refl(S:Nat->Prop)(w:bb):mo S w w:=⟨rfl,rfl,rfl,b5 _,λ_ _ _=>rfl⟩
theorem mo.trans{S:Nat->Prop}{a b c:bb}(h:mo S a b)(k:mo S b c):mo S a c:=
 ⟨k.os.trans h.os,k.tape.trans h.tape,k.output.trans h.output,jC h.size k.size,λi ao eT=>(k.block i (sR ao h.size) eT).trans (h.block i ao eT)⟩
variable {w:bb}
theorem mo.mono{S T:Nat->Prop} {w':bb}(h:mo S w w')(aeF:∀k,k<w.heap.size->S k->T k):mo T w w':=
 ⟨h.os,h.tape,h.output,h.size,λk au cc=>h.block k au λeT=>cc (aeF k au eT)⟩
theorem mo.cell{S:Nat->Prop}{w w':bb}(h:mo S w w'){p:sN}{v:a4}(aP:w.cell? p=D v)(a_:¬S p.block):w'.cell? p=D v:=by rw[<-aP];exact D4 (w:=w) (h.block p.block (Vf aP) a_)
def kA(w:bb)(b:Nat)(cs:List a4)(T:b3):Prop:=w.heap[b]? =D (.cells cs.toArray T (0,0))
variable {T:b3}{b:Nat}{cs:List a4}
theorem kA.lt(h:kA w b cs T):b<w.heap.size:=(nY.1 h).1
theorem kA.cell{w:bb}{b o:Nat}{cs:List a4}{T:b3}(h:kA w b cs T):w.cell? ⟨b,o,aF⟩=cs[o]? :=by unfold p8;rw[h];simp
theorem kA.cells {o:Nat} {vs:List a4}(h:kA w b cs T)(bg:(cs.drop o).take vs.length=vs):qZ w b o vs:=λi ao=>by rw[h.cell,<-bg];have:i<vs.length:=ao;simp[kx,this,sQ]
section
variable {P : cj} {l : g3} {w : bb} {ty : b3}
end
theorem yJ(w:bb)(o:Obj):Below w.heap.size w (w.alloc o):=(Below.refl _ _).alloc (b5 _) _
theorem yK(w:bb)(cs:List a4)(T:b3):kA (w.alloc (.cells cs.toArray T)) w.heap.size cs T:=by show(w.heap.push _)[w.heap.size]? =_;simp
def Vh(P:cj)(f:gh)(args:Array a4)(w:bb)(v:a4):Prop:=A4 P f args w λe w'=>e=.returned v/\Below w.heap.size w w'
def Fn(P:cj)(f:gh)(args:Array a4)(w:bb)(R:a4->bb->Prop):Prop:=A4 P f args w λe w'=>∃v,e=.returned v/\Below w.heap.size w w'/\R v w'
theorem Fn.mono{P:cj}{f:gh}{args:Array a4}{w:bb}{R jR:a4->bb->Prop}(h:Fn P f args w R)(aM:∀v w',Below w.heap.size w w'->R v w'->jR v w'):Fn P f args w jR:=
 Calls.mono h λe w' ⟨v,he,aB,bv⟩=>⟨v,he,aB,aM v w' aB bv⟩
theorem Vi{P:cj}{r:Option Nat}{n:Nat}{f:gh}{args:Array a4}{w:bb}{R:sO->bb->Prop}(h:A4 P f args w R):CallsIn (hK r) n P f args w R:=
 (callsIn_wide (n:=n)).2 h
section
variable {X : hY} {Q : cN -> cO -> bb -> Prop} {l : g3} {w w' : bb} {ops : Array bU} {rest : List bU}
end
section
variable {P : cj} {N : Nat} {l : g3} {w : bb} {fn : Func} {R : sO -> bb -> Prop} {e : cN}
def Exit.kf:cN->Bool| .normal=>ah| .ret=>ah|_=>aQ
end
section
variable {X : hY} {Q : cN -> cO -> bb -> Prop} {l : g3} {w w' : bb} {ops : Array bU} {rest : List bU}
variable {K : cO -> Prop}
end
theorem Vh.fn{P:cj}{f:gh}{args:Array a4}{w:bb}{v:a4}(h:Vh P f args w v):Fn P f args w (λu _=>u=v):=Calls.mono h λe w' ⟨he,aB⟩=>⟨v,he,aB,rfl⟩
section
variable {X : hY} {Q : cN -> cO -> bb -> Prop} {l : g3} {w w' : bb} {ops : Array bU} {rest : List bU}
theorem aeG(w:bb)(p:sN)(v:a4):mo (· =p.block) w (w.setCell p v):=
 ⟨rfl,rfl,rfl,by simp[NO],λk _ au=>Below.heap_setCell _ _ _ _ au⟩
def n2:a4->Bool
 |.agg _| .tuple _=>aQ
 |_=>ah
def oG:List a4->Nat->List a4->List a4
 |cs,_,[]=>cs
 |cs,o,v::vs=>oG (cs.set o v) (o+1) vs
theorem kA.setCell{w:bb}{b o:Nat}{cs:List a4}{T:b3}{v:a4}(h:kA w b cs T):kA (w.setCell ⟨b,o,aF⟩ v) b (cs.set o v) T:=by unfold kA at*;simp only[NO,Array.getElem?_modify,if_true,h,lV];simp
theorem kA.frozen{w:bb}{b o:Nat}{cs:List a4}{T:b3}(h:kA w b cs T):w.frozen? ⟨b,o,aF⟩=aQ:=by unfold World.frozen?;rw[h];simp
theorem D7{P:cj}{b:Nat}{T:b3}{o:Nat}:∀(vs:List a4)(i:Nat)(cs:List a4)(w:bb),kA w b cs T->(∀v∈vs,n2 v=ah)->o+i+vs.length<=cs.length->
  ∃w',(storeCells ⟨b,o,aF⟩ vs i).run P w=.ok () w'/\mo (· =b) w w'/\kA w' b (oG cs (o+i) vs) T
 |[],i,cs,w,dw,_,_=>⟨w,by simp[storeCells],mo.refl _ _,dw⟩
 |v::vs,i,cs,w,dw,pr,hle=>by
  simp only[pn]at hle;have bg:=pr v (by simp);have aP:w.cell? ⟨b,o+i,aF⟩=D cs[o+i]:=by rw[dw.cell];exact cq (by omega)
  obtain⟨w',h1,h2,aJ⟩:=D7 (P:=P) (o:=o) vs (i+1) (cs.set (o+i) v) (w.setCell ⟨b,o+i,aF⟩ v) dw.setCell (λu hu=>pr u (by simp[hu])) (by simp;omega);refine⟨w',?_,(aeG w ⟨b,o+i,aF⟩ v).trans h2,aJ⟩;have cB:(NM ⟨b,o+i,aF⟩ v).run P w=.ok () (w.setCell ⟨b,o+i,aF⟩ v):=by cases v<;>simp[n2]at bg<;>simp[NM,vg,aP,dw.frozen]
  unfold storeCells;simp only[ck,qb,cB,ce,h1]
end
section
variable {X : hY} {Q : cN -> cO -> bb -> Prop} {l : g3} {w w' : bb} {ops : Array bU} {rest : List bU}
end
theorem qZ.cell{w:bb}{b o:Nat}{vs:List a4}{v:a4}(h:qZ w b o vs)(i:Nat)(bg:vs[i]? =D v):w.cell? ⟨b,o+i,aF⟩=D v:=by rw[h i (cz.1 bg).1,bg]
theorem qZ.drop{w:bb}{b o:Nat}{vs:List a4}(h:qZ w b o vs)(n:Nat):qZ w b (o+n) (vs.drop n):=λi ao=>by simp only[qW]at ao;rw[sS,h (n+i) (by omega),sQ]
section
variable {α : Type} {X : hY} {Q : cN -> cO -> bb -> Prop} {l : g3} {w w' : bb} {ops : Array bU} {rest : List bU} {v : a4} {k : Nat} {enc : α -> List a4} {xs : List α} {K : cO -> Prop}
variable {P : cj} {ty : b3}
theorem NZ{v:a4}(h:n2 v=ah):v.cells=#[v]:=by cases v<;>simp[n2]at h<;>rfl
end
section
variable {P : cj} {N : Nat} {l : g3} {w : bb} {fn : Func} {R : sO -> bb -> Prop} {e : cN}
inductive cD (P:cj) (l:g3) (w:bb):p7->a4->Prop
 |tmp {t:Nat} {v:a4} (h:lF l t=D v):cD P l w (.tmp t) v
 |load {t T:Nat} {p:sN} {v:a4} (h:lF l t=D (.pointer (D p))) (aK:(loadVar T p).run P w=.ok v w):cD P l w (.cell t T) v
theorem cD.cell{t T dF b o:Nat}{cs:List a4}{v:a4}(h:lF l t=D (.pointer (D ⟨b,o,aF⟩)))(dw:kA w b cs dF)(cc:∀w,(isAgg T).run P w=.ok aQ w)(bg:cs[o]? =D v):cD P l w (.cell t T) v:=
 .load h (D5 cc (dw.cell.trans bg))
theorem cD.yL{t T dF b o n:Nat}{cs vs:List a4}(h:lF l t=D (.pointer (D ⟨b,o,aF⟩)))(dw:kA w b cs dF)(cc:∀w,(isAgg T).run P w=.ok ah w)(a_:∀w,(sizeOf T).run P w=.ok n w)
  (bg:(cs.drop o).take n=vs) (aK:vs.length=n):cD P l w (.cell t T) (.agg vs.toArray):=
 .load h (HV cc a_ (dw.cells (by rw[aK];exact bg)) aK)
def wG(a:cO):p7->Sem a4
 |.tmp t=>pure (a.tmps.getD t undef)
 |.cell c t=>do loadVar t (<-asAddr (a.tmps.getD c undef))
theorem cD.run{r:p7}{v:a4}{a:cO}{X:hY}(h:cD P l w r v)(a9:I X l a):(wG a r).run P w=.ok v w:=by
 cases h with
 |tmp h=>simp[wG,nZ,a9.2.2 _ _ h]
 |load h aK=>simp[wG,nZ,a9.2.2 _ _ h,asAddr,ck,ce,aK]
theorem N0(fn:Func)(a:cO):results fn a.tmps=(do let vs<-fn.results.mapM (wG a);pure (if h:vs.size=1 then vs[0]else .tuple vs):Sem a4):=by unfold results;congr 1
end
structure D8 where
 fr:Bool
 atI:List Nat
 R:a4->bb->Nat->Nat->Prop
def Vj(P:cj)(o:bU)(l:g3)(w:bb)(pt:a4->bb->Prop):Prop:=
 ∀(X:hY)(a:cO),X.P=P->I X l a->(∃v w',(execOp a.eval o).run P w=.ok (.value v) w'/\Below w.heap.size w w'/\pt v w')\/(∃f vs,(execOp a.eval o).run P w=.ok (.enter f vs) w/\Fn P f vs w pt)
def D9(P:cj)(os:List bU)(aV:List D8)(w:bb)(o:bU)(R:a4->bb->Nat->Nat->Prop):List Nat->g3->Prop
 |[],l=>Vj P o l w (λv w'=>R v w' w.heap.size w'.heap.size)
 |e::es,l=>match aV[e]?,(os[e]?).bind (·.dst)with
  |some h,D d=>∀v lo ao,ao<=w.heap.size->h.R v w lo ao->D9 P os aV w o R es ((d,v)::l)
  |_,_=>False
def aeH(o:bU)(j:Nat):Bool:=o.after.any λe=>qV .any e&&d' e.on j
def HW(o:bU)(i:Nat):Bool:=o.after.all λe=> !Region.binds .any e||fV e.on i
section
variable {X : hY} {Q : cN -> cO -> bb -> Prop} {l : g3} {w w' : bb}
variable {i:Nat}{o:bU}
theorem aeI(h:HW o i=ah):∀e∈o.after,qV .any e=ah->e.on<i:=λe he aB=>by unfold HW at h;rw[Array.all_eq_true_iff_forall_mem]at h;have:=h e he;simpa[aB,iu]using this
theorem Vk:∀(L:List Bool)(i:Nat),L[i]? =D aQ->(L.set i ah).count aQ+1=L.count aQ
 |[],i,h=>by simp at h
 |b::L,0,h=>by simp at h;subst h;simp
 |b::L,i+1,h=>by have:=Vk L i (by simpa using h);simp only[List.set_cons_succ,List.count_cons];omega
variable {listed:Array Bool}
theorem aeJ(h:listed.getD i ah=aQ):listed.toList[i]? =D aQ:=by
 rw[nZ]at h;rw[Array.getElem?_toList];cases ar:listed[i]? with
 |none=>rw[ar]at h;simp at h
 |some b=>rw[ar]at h;simp at h;rw[h]
def HX(acc:List Nat)(o:bU):Nat:=o.after.toList.foldl (λs e=>if qV .any e then s ||| (1<<<e.on) ||| acc.getD e.on 0 else s) 0
def pu:List bU->List Nat->List Nat
 |[],acc=>acc
 |o::os,acc=>pu os (acc++[HX acc o])
def wH(os:List bU)(listed:Array Bool):Prop:=∀i o,listed.getD i aQ=ah->os[i]? =D o->∀e∈o.after,qV .any e=ah->listed.getD e.on aQ=ah
variable {j:Nat}
theorem aeK{acc:List Nat}(h:(HX acc o).testBit j=ah):∃e∈o.after,qV .any e=ah/\(e.on=j\/(acc.getD e.on 0).testBit j=ah):=by
 unfold HX at h
 have key:∀(l:List Edge)(s:Nat),(l.foldl (λs e=>if qV .any e then s ||| (1<<<e.on) ||| acc.getD e.on 0 else s) s).testBit j=ah->
   s.testBit j=ah\/∃e∈l,qV .any e=ah/\(e.on=j\/(acc.getD e.on 0).testBit j=ah):=by
  intro l;induction l with
  |nil=>intro s h;exact .inl h
  |cons e l bB=>
   intro s h;simp only[NS]at h;rcases bB _ h with dp|⟨hd,D_,aB⟩
   ·by_cases aB:qV .any e=ah
    ·simp only[aB,if_true,Nat.testBit_or,Bool.or_eq_true]at dp;rcases dp with(dp|dp)|dp
     ·exact .inl dp
     ·refine .inr ⟨e,by simp,aB,.inl ?_⟩;rw[Nat.one_shiftLeft,Nat.testBit_two_pow]at dp;simpa using dp
     ·exact .inr ⟨e,by simp,aB,.inr dp⟩
    ·simp only[aB,fe,if_false]at dp;exact .inl dp
   ·exact .inr ⟨hd,by simp[D_],aB⟩
 rcases key _ _ h with h|⟨e,he,aB⟩
 ·simp at h
 ·exact⟨e,Array.mem_toList_iff.1 he,aB⟩
theorem Vl{os:List bU}{listed:Array Bool}(aP:wH os listed):∀(rest:List bU)(acc:List Nat),os.drop acc.length=rest->
  (∀k o,k<acc.length->os[k]? =D o->(∀e∈o.after,qV .any e=ah->listed.getD e.on aQ=ah)->∀j,(acc.getD k 0).testBit j=ah->listed.getD j aQ=ah)->
  ∀k o,os[k]? =D o->(∀e∈o.after,qV .any e=ah->listed.getD e.on aQ=ah)->∀j,((pu rest acc).getD k 0).testBit j=ah->listed.getD j aQ=ah
 |[],acc,aM,HY=>λk o a1 az j ae=>by
  simp only[pu]at ae;by_cases au:k<acc.length
  ·exact HY k o au a1 az j ae
  ·simp[p9,n1 (HS au)]at ae
 |x::rest,acc,aM,HY=>λk o a1 az j ae=>by
  simp only[pu]at ae;refine Vl aP rest (acc++[HX acc x]) (by rw[ky,<-NT,aM];rfl) (λk o au a1 az j ae=>?_) k o a1 az j ae;simp only[ky,pn,List.length_nil]at au;by_cases yM:k<acc.length
  ·rw[p9,sP yM,<-p9]at ae;exact HY k o yM a1 az j ae
  ·have aeL:k=acc.length:=by omega
   subst aeL;have ar:os[acc.length]? =D x:=by have:=congrArg (·[0]?) aM;simpa using this
   rw[ar]at a1;cases a1;simp[p9]at ae;obtain⟨e,he,aB,jq⟩:=aeK ae;have aK:=az e he aB;rcases jq with rfl|jq
   ·exact aK
   ·by_cases Vm:e.on<acc.length
    ·obtain⟨HZ,Vn⟩:∃HZ,os[e.on]? =D HZ:=by
      have h1:os.length=acc.length+(x::rest).length:=by have:=congrArg p_ aM;simp only[qW]at this;have:acc.length<os.length:=(cz.1 ar).1;simp only[pn]at*;omega
      exact⟨_,cq (by omega)⟩
     exact HY e.on HZ Vm Vn (λhd D_ lG=>aP e.on HZ aK Vn hd D_ lG) j jq
    ·rw[p9,n1 (HS Vm)]at jq;simp at jq
def A9(os:List bU)(k j:Nat):Bool:=((pu os []).getD k 0).testBit j
variable {os:List bU}
theorem N1 {k:Nat}(aP:wH os listed)(a1:os[k]? =D o)(az:∀e∈o.after,qV .any e=ah->listed.getD e.on aQ=ah)(h:A9 os k j=ah):listed.getD j aQ=ah:=
 Vl aP os [] rfl (λk o au=>by simp at au) k o a1 az j h
theorem wH.set(aP:wH os listed)(a1:os[i]? =D o)(az:∀e∈o.after,qV .any e=ah->listed.getD e.on aQ=ah):wH os (listed.setIfInBounds i ah):=λk x au ar e he aB=>by
 by_cases D':i=k
 ·subst D';rw[a1]at ar;cases ar;exact getD_set_true (az e he aB)
 ·rw[getD_set_ne aQ D']at au;exact getD_set_true (aP k x au ar e he aB)
structure atJ(X:hY)(os:List bU)(aV:List D8)(n:Nat)(jr:g3)(cn:bb)(listed:Array Bool)(a:cO)(w:bb)(val:Nat->a4)(lo ao:Nat->Nat):Prop where
 ok:I X jr a
 below:Below cn.heap.size cn w
 atK:∀(i:Nat)(h:D8)(d:Nat),listed.getD i aQ=ah->aV[i]? =D h->(os[i]?).bind (·.dst)=D d->a.tmps[d]? =D (val i)/\h.R (val i) w (lo i) (ao i)/\cn.heap.size<=lo i/\lo i<=ao i/\ao i<=w.heap.size
 yN:∀i j,listed.getD i aQ=ah->listed.getD j aQ=ah->i≠j->ao i<=lo j\/ao j<=lo i
 atL:∀i,listed.getD i aQ=ah->ao i<=w.heap.size
 atM:wH os listed
def iY(os:List bU)(aV:List D8)(n:Nat)(o:bU):Prop:=∃j want h d,o.guard=D (j,want)/\aV[j]? =D h/\(os[j]?).bind (·.dst)=D d/\aeH o j=ah/\∀u w lo ao,h.R u w lo ao->u=.bool want
theorem D9.run{os:List bU}{aV:List D8}{w:bb}{o:bU}{R:a4->bb->Nat->Nat->Prop}{a:cO}{val:Nat->a4}{lo ao:Nat->Nat}:∀{ds:List Nat}{l:g3},D9 X.P os aV w o R ds l->I X l a->
  (∀e∈ds,∀h d,aV[e]? =D h->(os[e]?).bind (·.dst)=D d->a.tmps[d]? =D (val e)/\h.R (val e) w (lo e) (ao e)/\ao e<=w.heap.size)->
  ∃l',I X l' a/\Vj X.P o l' w (λv w'=>R v w' w.heap.size w'.heap.size)
 |[],l,h,jh,_=>⟨l,jh,h⟩
 |e::ds,l,h,jh,az=>by
  simp only[D9]at h;split at h
  ·rename_i g d b2 aeM;obtain⟨h1,h2,aJ⟩:=az e (by simp) g d b2 aeM;refine D9.run (h (val e) (lo e) (ao e) aJ h2) ⟨jh.1,jh.2.1,λt v ai=>?_⟩ (λhd D_=>az hd (by simp[D_]));simp only[lF]at ai;by_cases q:d=t
   ·subst q;rw[show d' d d=ah from jp d]at ai;simp only[cond_true,hX]at ai;rw[<-ai];exact h1
   ·rw[p' q]at ai;exact jh.2.2 t v ai
  ·exact h.elim
end
section
variable {P : cj} {X : hY} {Q : cN -> cO -> bb -> Prop} {l : g3} {w w' : bb} {ops : Array bU} {rest : List bU} {ty : b3}
end
structure atN(lo ao:Nat)(w w':bb):Prop where
 size:w.heap.size<=w'.heap.size
 block:∀k,lo<=k->k<ao->w'.heap[k]? =w.heap[k]?
section
variable {P : cj} {l : g3} {w : bb} {ty : b3}
end
theorem aeN(v:a4):n2 v=v.oneCell':=by cases v<;>rfl
theorem Vo{α:Type}{enc:α->List a4}{k:Nat}(au:∀x,(enc x).length=k):∀(xs:List α)(i j:Nat)(x:α),xs[i]? =D x->j<k->(xs.flatMap enc)[i*k+j]? =(enc x)[j]?
 |[],i,j,x,h,_=>by simp at h
 |y::cX,0,j,x,h,ae=>by simp at h;subst h;simp only[Nat.zero_mul,hD,iX];rw[sP (by rw[au];exact ae)]
 |y::cX,i+1,j,x,h,ae=>by have:=Vo au cX i j x (by simpa using h) ae;simp only[iX];rw[List.getElem?_append_right (by rw[au,jD];omega),au,<-this];congr 1;rw[jD];omega
structure A_{α:Type}(w:bb)(v:a4)(E k:Nat)(enc:α->List a4)(xs:List α)(lo:Nat):Prop where
 own:w.ownsRow lo E k v xs.length (xs.flatMap enc)
 len:∀x,(enc x).length=k
 pos:0<k
section
variable {α : Type} {w w' : bb} {v : a4} {E k lo : Nat} {enc : α -> List a4} {xs : List α}
theorem A_.nil(aK:∀x,(enc x).length=k)(hp:0<k):A_ w (.slice aF 0 0) E k enc ([]:List α) lo:=⟨by simpa using World.ownsRow_nil w lo E k,aK,hp⟩
theorem A_.dI(h:A_ w v E k enc xs lo):D6 w v k enc xs:=by
 obtain⟨hlen,rO⟩:=h.own;refine⟨?_,?_,λx=>by rw[h.len];exact h.pos⟩
 ·rcases rO with⟨e,a_⟩|⟨g,cap,eL,e,_,_,aP,_⟩
  ·exact .inl ⟨e,nl a_⟩
  ·exact .inr ⟨by rw[e];rfl,by rw[e];exact aP⟩
 ·intro i x ar j ae;rw[h.len]at ae;have ao:=(cz.1 ar).1;rcases rO with⟨e,a_⟩|⟨g,cap,eL,e,_,b2,aP,_,ff,wI⟩
  ·omega
  ·have h1:=Vo h.len xs i j x ar ae;have cf:i*k+j<xs.length*k:=by
    have:(i+1)*k<=xs.length*k:=oE k ao;rw[jD]at this;omega
   rw[e];simp only[oF,NY,hD];rw[<-h1,<-wI,kx,if_pos cf];unfold p8;rw[b2];simp
theorem A_.lt(h:A_ w v E k enc xs lo){b:Nat}(aB:v.ownBlock=D b):lo<=b/\b<w.heap.size:=h.own.lt b aB
variable {P : cj}
end
section
variable {α : Type} {X : hY} {Q : cN -> cO -> bb -> Prop} {l : g3} {w w' : bb} {ops : Array bU} {rest : List bU} {v u : a4} {k lo : Nat} {enc : α -> List a4} {xs cX : List α}
theorem Vp:∀(cs:List a4)(A:Array a4)(off jF:Nat),off+jF+cs.length<=A.size->
  ((cs.zipIdx jF).foldl (λa (p:a4×Nat)=>a.setIfInBounds (off+p.2) p.1) A).toList=A.toList.take (off+jF)++cs++A.toList.drop (off+jF+cs.length)
 |[],A,off,jF,_=>by simp
 |c::cs,A,off,jF,h=>by
  simp only[pn]at h;simp only[NR,NS];rw[Vp cs _ off (jF+1) (by simp;omega)];simp only[Array.toList_setIfInBounds];have cf:off+jF<A.toList.length:=by simp;omega
  apply List.ext_getElem?;intro i;simp only[NQ,kx,sQ,ky,jf,List.length_set,pn,HP];have a5:min (off+(jF+1)) A.size=off+jF+1:=by omega
  have bk:min (off+jF) A.size=off+jF:=by omega
  rw[a5,bk];rcases Nat.lt_trichotomy i (off+jF)with ao|ao|ao
  ·rw[if_pos (by omega),if_pos (by omega),if_pos (by omega),if_pos (by omega),if_pos (by omega),if_pos (by omega),HQ (by omega)]
  ·subst ao;rw[if_pos (by omega),if_pos (by omega),if_pos (by omega),if_pos (by omega),if_neg (by omega),A5 cf];simp
  ·by_cases wJ:i<off+jF+1+cs.length
   ·rw[if_pos (by omega),if_neg (by omega),if_pos (by omega),if_neg (by omega)];have:i-(off+jF)=(i-(off+jF+1))+1:=by omega
    rw[this];simp
   ·rw[if_neg (by omega),if_neg (by omega)];rw[HQ (by omega)];congr 1;omega
theorem Vq{k:Nat}:∀(vs:List a4)(i:Nat)(A:Array a4),(∀v∈vs,v.cells.size=k)->(i+vs.length)*k<=A.size->
  ∃B:Array a4,mm (λj=>D (j*k,k)) A ((vs.zipIdx i).map λp=>(p.2,p.1))=D B/\B.toList=A.toList.take (i*k)++vs.flatMap (λv=>v.cells.toList)++A.toList.drop ((i+vs.length)*k)
 |[],i,A,_,_=>⟨A,by simp[mm],by simp⟩
 |v::vs,i,A,au,h=>by
  have bg:=au v (by simp);simp only[pn]at h;have aeO:i*k+k<=A.size:=by have:(i+1)*k<=(i+(vs.length+1))*k:=oE _ (by omega);rw[jD]at this;omega
  have aB:=Vp v.cells.toList A (i*k) 0 (by simp[bg];omega);simp only[mO,HP,bg]at aB;let Ea:Array a4:=(v.cells.toList.zipIdx 0).foldl (λa (p:a4×Nat)=>a.setIfInBounds (i*k+p.2) p.1) A
  have Vr:Ea.toList=A.toList.take (i*k)++v.cells.toList++A.toList.drop (i*k+k):=aB;have ff:Ea.size=A.size:=by have:=congrArg p_ Vr;simp only[HP,ky,jf,qW,bg]at this;omega
  obtain⟨B,dw,aeP⟩:=Vq vs (i+1) Ea (λu hu=>au u (by simp[hu])) (by rw[ff,show i+1+vs.length=i+(vs.length+1) by omega];exact h);refine⟨B,?_,?_⟩
  ·simp only[NR,List.map_cons,mm,bg];have eQ:(k≠k||decide (i*k+k>A.size))=aQ:=by simp;omega
   simp only[ne_eq,not_true_eq_false,decide_false,Bool.false_or,decide_eq_true_eq,show ¬(i*k+k>A.size) by omega,if_false];rw[<-dw];have de:Array.foldl (λcs (x:a4×Nat)=>cs.setIfInBounds (i*k+x.snd) x.fst) A v.cells.zipIdx=Ea:=by rw[<-Array.foldl_toList];simp only[Ea,Array.toList_zipIdx]
   simp only[fe,if_false];rw[de]
  ·rw[aeP,Vr];have a5:(i+1)*k=i*k+k:=by rw[jD];omega
   have bk:(i+1+vs.length)*k=(i+(vs.length+1))*k:=by congr 1;omega
   have c0:(i+(vs.length+1))*k=i*k+k+vs.length*k:=by rw[jD,jD];omega
   have gG:(A.toList.take (i*k)++v.cells.toList).length=i*k+k:=by simp[bg];omega
   rw[a5,List.take_append_of_le_length (by omega),fz (by omega)];simp only[iX,tW,pn];rw[bk,c0];rw[show HR (i*k+k+vs.length*k) (List.take (i*k) A.toList++(v.cells.toList++HR (i*k+k) A.toList))=HR (i*k+k+vs.length*k) A.toList from ?_];rw[<-tW,List.drop_append,gG];rw[List.drop_of_length_le (by rw[gG];omega),List.nil_append,NT];congr 1;omega
theorem aeQ{P:cj}{t e k n:Nat}{z:a4}{vs:List a4}(ai:∀w,(underlying t).run P w=.ok (.slice e) w)(au:∀w,(sizeOf e).run P w=.ok k w)(bj:∀w,(zeroValue e).run P w=.ok z w)
  (a_:vs.length=n) (e9:∀v∈vs,v.cells.size=k) (hle:n*k<=16777216) (w:bb):
  (NN t n (vs.zipIdx.map λp=>(p.2,p.1)).toArray).run P w=.ok (.slice (D ⟨w.heap.size,0,aF⟩) n n) (w.alloc (.cells (vs.flatMap (λv=>v.cells.toList)).toArray e)):=by
 unfold NN;have la:¬(n*k>2^24):=by
  have:(2:Nat)^24=16777216:=by decide
  omega
 have key:∀(Eb:Array a4),∃B:Array a4,mm (λj=>D (j*k,k)) ((NL (n*k)).map (Eb[· %Eb.size]!)) (vs.zipIdx.map λp=>(p.2,p.1))=D B/\B=(vs.flatMap (λv=>v.cells.toList)).toArray:=λEb=>by obtain⟨B,h1,h2⟩:=Vq (k:=k) vs 0 ((NL (n*k)).map (Eb[· %Eb.size]!)) e9 (by simp[a_]);refine⟨B,h1,?_⟩;apply Array.toList_inj.1;rw[h2];simp[a_]
 have df:¬(0>2^24):=by omega
 by_cases bw:n*k=0
 ·obtain⟨B,h1,h2⟩:=key #[];rw[bw]at h1;simp only[ck,ai,au,ce,bw,df,if_false,if_true,it,h1];simp only[newRow,newObj,ck,vg,ce,h2,it];rfl
 ·obtain⟨B,h1,h2⟩:=key z.cells;simp only[ck,ai,au,bj,ce,la,bw,if_false,it,h1];simp only[newRow,newObj,ck,vg,ce,h2,it];rfl
inductive yO {α:Type} (val:α->a4):List a4->List α->Prop
 |nil:yO val [] []
 |cons {x:α} {vs:List a4} {xs:List α} (h:yO val vs xs):yO val (val x::vs) (x::xs)
theorem yO.length{val:α->a4}{vs:List a4}{xs:List α}(h:yO val vs xs):vs.length=xs.length:=by
 induction h with
 |nil=>rfl
 |cons h bB=>simp[bB]
theorem yO.size{val:α->a4}(iP:∀x,(val x).cells=(enc x).toArray)(aK:∀x,(enc x).length=k){vs:List a4}{xs:List α}(h:yO val vs xs):∀v∈vs,v.cells.size=k:=by
 induction h with
 |nil=>simp
 |cons h bB=>
  intro v bg;simp at bg;rcases bg with rfl|bg;· rw[iP];simp[aK]
  ·exact bB v bg
end
structure atO where
 f:Int
 n:Int
deriving DecidableEq
structure atP where
 name:ByteArray
 lo:Int
 ao:Int
deriving DecidableEq
structure Vs where
 code:Int
 a:Int
 b:Int
 c:Int
 n:Int
deriving DecidableEq
structure N2(n:Nat)(x:Vs):Prop where
 U:0<=x.a
 aj:x.a<n
 fg:0<=x.b
 jS:x.b<n
 eY:0<=x.c
 eQ:x.c<n
 f:x.code=2->1<=x.n/\x.n<=4
structure atQ where
 eR:Bool
 st:Int
 atS:Vs
structure Vt(w:bb)(ms:List Nat):Prop where
 atT:∀qa∈ms,w.heap[qa]? =D (.deferred (D []))
 atU:ms.Nodup
theorem Vt.nil(w:bb):Vt w []:=⟨λ_ h=>by simp at h,List.nodup_nil⟩
section
variable {P : cj} {N : Nat} {l : g3} {w : bb} {fn : Func} {R : sO -> bb -> Prop} {e : cN}
end
section
variable {X : hY} {Q : cN -> cO -> bb -> Prop} {l : g3} {w : bb} {α : Type} {r : Option Nat} {P : cj} {N : Nat} {atV atW : List lE} {dG : α -> g3} {ds : α -> List lE} {dL : α -> bb -> Prop} {pv : α -> Nat} {m : Nat}
end
def kB{α bX:Type}(dL:List α->bX->bb->Prop)(Vu:dS->List α->bX->bb->Prop)(M:bX->Nat->Prop)(pre:List α)(x:α)(s:bX)(lb:bb):cN->cO->bb->Prop
 |.normal,_,w'=>∃s',dL (pre++[x]) s' w'/\mo (M s) lb w'/\∀k,k<lb.heap.size->M s' k->M s k
 |.ret,_,w'=>∃s',Vu .ret (pre++[x]) s' w'/\mo (M s) lb w'/\∀k,k<lb.heap.size->M s' k->M s k
 |.exit id,_,w'=>∃s',Vu (.exit id) (pre++[x]) s' w'/\mo (M s) lb w'/\∀k,k<lb.heap.size->M s' k->M s k
 |_,_,_=>False
section
variable {α : Type} {P : cj} {l : g3} {w : bb} {k B : Nat} {enc : α -> List a4} {xs : List α} {ds : List Nat}
end
def Vv{K V:Type}(w:bb)(r:Nat)(key:K->a4)(val:V->a4)(kv:List (K×V)):Prop:=
 ∃(es:Array MapEntry)(clock:Nat),w.heap[r]? =D (.map es clock)/\es.toList.map (λe=>(e.key,e.val))=kv.map λp=>(key p.1,val p.2)
section
variable {K V : Type} [DecidableEq K] {w w' : bb} {r : Nat} {key : K -> a4} {val : V -> a4} {kv : List (K × V)}
theorem Vv.lt(h:Vv w r key val kv):r<w.heap.size:=by obtain⟨es,c,h,_⟩:=h;exact(nY.1 h).1
variable {P : cj} {T kt jT : b3}
variable {l : g3} {ty : b3}
end
section
variable {P : cj} {l : g3} {w : bb} {ty : b3}
end
section
variable {K : Type} [DecidableEq K] {w : bb} {r : Nat} {key : K -> a4} {kv : List (K × Int)} {P : cj} {T kt jT : b3} {l : g3} {ty : b3}
end
end Go.Mi
namespace Go.Dp
open _root_.Array renaming getElem?_eq_some_iff->nY,getD_eq_getD_getElem?->nZ,length_toList->HP,range->NL
open Bool renaming true->ah,false->aQ,false_eq_true->fe
open Go renaming Value->a4,World->bb,Program->cj,TypeId->b3,Oper->bU,Operand->bM,Exit->cN,Act->cO,FuncId->gh,Addr->sN,ResultVar->p7,Ending->sO,Deferred->lE,Code->dS,Calls->A4,IntKind->hv,store->NM
open Go.Instr renaming fill->mm,buildSlice->NN
open Go.Op renaming operands->c_,intCmp->yG
open Go.Region renaming binds->qV,wanted->n0
open Go.Result renaming andThen->ce
open Go.Sem renaming run_bind->ck,run_pure->it,run->vg
open Go.World renaming cell?_of_block->D4,cell?->p8,setCell->NO,ownsRow->NP
open List renaming getElem?_eq_some_iff->cz,getElem?_eq_getElem->cq,length_cons->pn,getD_eq_getElem?_getD->p9,getElem?_take->kx,length_append->ky,getElem?_append_left->sP,getElem?_set_ne->HQ,getElem?_drop->sQ,flatMap_cons->iX,length_drop->qW,eq_nil_of_length_eq_zero->nl,take_of_length_le->fz,getElem?_set_self->A5,getElem?_eq_none->n1,getElem?_append->NQ,getElem_range->A6,getElem?_map->fv,append_assoc->tW,zipIdx_cons->NR,length_take->jf,drop->HR,foldl_cons->NS,drop_drop->NT,length->p_,range->mn,getD->yH
open Nat renaming lt_of_lt_of_le->sR,le_refl->b5,le_trans->jC,mul_le_mul_right->oE,add_mul->jD,beq->d',le_of_not_lt->HS,add_assoc->sS,zero_add->hD,le_of_eq->HT,beq_refl->jp,eq_of_beq_eq_true->kz,blt->fV,add_zero->mO,add_comm->qX,zero_le->gx,blt_eq->iu,ble->ev
open Option renaming some->D,none->aF,map_eq_some_iff->A7,map_some->lV
open Option.some renaming injEq->hX
def yP:List (Nat×List a4):=[(0,(mn 256).map λi=>.int .u8 (cond (d' i 32||(ev 9 i&&ev i 13)) 1 0))]
open Go Go.Mi Go.RowKit
section
inductive P where
 |v (x:a4)
 |dI (k n:Nat) (cs:List P)
inductive V where
 |p (x:P)
 |cT (k n:Nat) (cs:List P) (t m:Nat)
 |aR (i off:Nat)
 |bA (cs:List P)
 |dX (i off n cap:Nat)
 |map (i:Nat)
 |fn (f:Go.Fn) (cI en:List V)
 |agg (cs:List V)
 |cg (cs:List V)
 |fW (i:Nat)
 |z
 |gs (k n t m off:Nat)
 |js (t m off:Nat)
inductive aG where
 |bW
 |cells (T:Nat) (cs:List V)
 |bu (T:Nat) (cs:List P)
 |bl (T k m:Nat)
 |hf (T k m:Nat) (cs:List P)
 |gH (T:Nat) (cs:List P)
 |nn (c:Nat) (bH:List Nat) (kv:List (a4×V))
 |loop (st:LoopState) (dJ:Option dS) (f N:Nat) (fr:List (Nat×V)) (ps:Array Nat) (mp eD:dS) (j:Nat)
 |cr (op:Bool)
 |pw (j:Nat)
 |mP (dj:Bool) (kv:List (a4×List P))
 |kg (j A:Nat)
 |mq (ds:List V) (vs:List a4)
abbrev bY:=List (Nat×V)
def cR:bY->Nat->Option V
 |[],_=>aF
 |(d,v)::l,t=>cond (d' d t) (D v) (cR l t)
structure b_ where
 β:Nat->Nat
 E:Nat->Nat
 h:Nat->a4
def tX:Option aG->Option Nat
 |some (.bl _ _ m)=>D m
 |some (.hf _ _ m _)=>D m
 |_=>aF
def eL(H:List aG)(t:Nat):Option Nat:=tX H[t]?
def tY:Option aG->Prop
 |some (.gH _ _)=>True
 |some (.cells _ _)=>True
 |some (.bu _ _)=>True
 |some (.nn ..)=>True
 |some (.loop ..)=>True
 |some (.cr _)=>True
 |some (.pw _)=>True
 |some (.mP ..)=>True
 |_=>False
def ct(H:List aG)(i:Nat):Prop:=tY H[i]?
def tZ(g:b_)(i b:Nat):Option aG->Prop
 |some (.gH _ _)=>b=g.β i
 |some (.cells _ _)=>b=g.β i
 |some (.bu _ _)=>b=g.β i
 |some (.nn ..)=>b=g.β i
 |some (.loop ..)=>b=g.β i
 |some (.cr _)=>b=g.β i
 |some (.pw _)=>b=g.β i
 |some (.mP ..)=>b=g.β i
 |some (.bl _ _ _)=>(g.h i).ownBlock=D b
 |some (.hf _ _ _ _)=>(g.h i).ownBlock=D b
 |_=>False
def own(g:b_)(H:List aG)(i b:Nat):Prop:=tZ g i b H[i]?
inductive hL (E:Nat->Nat) (w:bb):P->a4->Prop
 |v {x:a4}:hL E w (.v x) x
 |nil {k:Nat}:hL E w (.dI k 0 []) (.slice aF 0 0)
 |vh {k:Nat} {a:sN}:hL E w (.dI k 0 []) (.slice (D a) 0 0)
 |dI {k n:Nat} {cs:List P} {b o cap:Nat} (u:Nat->a4) (aK:cs.length=n*k) (aP:n<=cap) (aS:o+n*k<=E b) (aB:b<w.heap.size)
   (hu:∀j,j<n*k->w.cell? ⟨b,o+j,aF⟩=D (u j)) (h:∀j c,cs[j]? =D c->hL E w c (u j)):hL E w (.dI k n cs) (.slice (D ⟨b,o,aF⟩) n cap)
def A'(g:b_)(H:List aG)(t m:Nat)(v:a4):Prop:=∃m',eL H t=D m'/\m<=m'/\(m=m'->v=g.h t)
def Ba(g:b_)(H:List aG)(t m k n off:Nat)(v:a4):Prop:=∃m',eL H t=D m'/\m<=m'/\(m=m'->∃b fX jt mQ cap,g.h t=.slice (D ⟨b,0,aF⟩) fX jt/\v=.slice (D ⟨b,mQ,aF⟩) n cap/\off+n*k<=fX*k/\n<=cap/\(n=0\/mQ=off)/\(off=0->cap=jt/\mQ=0))
def Ec(g:b_)(H:List aG)(t m off:Nat)(v:a4):Prop:=∃m',eL H t=D m'/\m<=m'/\(m=m'->∃b fX jt,g.h t=.slice (D ⟨b,0,aF⟩) fX jt/\v=.pointer (D ⟨b,off,aF⟩))
mutual
inductive cD (g:b_) (w:bb) (H:List aG):V->a4->Prop
 |p {x:P} {v:a4} (h:hL g.E w x v):cD g w H (.p x) v
 |cT {k n:Nat} {cs:List P} {t m:Nat} {v:a4} (h:hL g.E w (.dI k n cs) v) (ai:A' g H t m v):cD g w H (.cT k n cs t m) v
 |aR {i off:Nat} (aK:ct H i):cD g w H (.aR i off) (.pointer (D ⟨g.β i,off,aF⟩))
 |bA {cs:List P} {b o:Nat} (u:Nat->a4) (aS:o+cs.length<=g.E b) (aB:b<w.heap.size) (hu:∀j,j<cs.length->w.cell? ⟨b,o+j,aF⟩=D (u j))
   (h:∀j c,cs[j]? =D c->hL g.E w c (u j)):cD g w H (.bA cs) (.pointer (D ⟨b,o,aF⟩))
 |dX {i off n cap:Nat} (aK:ct H i):cD g w H (.dX i off n cap) (.slice (D ⟨g.β i,off,aF⟩) n cap)
 |map {i:Nat} (aK:ct H i):cD g w H (.map i) (.map (D (g.β i)))
 |fn {f:Go.Fn} {cI en:List V} {us vs:List a4} (h1:cU g w H cI us) (h2:cU g w H en vs):cD g w H (.fn f cI en) (.func f us.toArray vs.toArray)
 |agg {cs:List V} {vs:List a4} (h:cU g w H cs vs):cD g w H (.agg cs) (.agg vs.toArray)
 |cg {cs:List V} {vs:List a4} (h:cU g w H cs vs):cD g w H (.cg cs) (.tuple vs.toArray)
 |fW {i:Nat} (aK:ct H i):cD g w H (.fW i) (.func (.yield (g.β i)) #[] #[])
 |z {a:sN}:cD g w H .z (.slice (D a) 0 0)
 |gs {k n t m off:Nat} {v:a4} (h1:n2 v=ah) (h:Ba g H t m k n off v):cD g w H (.gs k n t m off) v
 |js {t m off:Nat} {v:a4} (h1:n2 v=ah) (h:Ec g H t m off v):cD g w H (.js t m off) v
inductive cU (g:b_) (w:bb) (H:List aG):List V->List a4->Prop
 |nil:cU g w H [] []
 |cons {d:V} {ds:List V} {v:a4} {vs:List a4} (h:cD g w H d v) (aV:cU g w H ds vs):cU g w H (d::ds) (v::vs)
end
structure hx(g:b_)(w:bb)(H:List aG)(g':b_)(w':bb)(H':List aG):Prop where
 size:w.heap.size<=w'.heap.size
 E:∀b,b<w.heap.size->g.E b<=g'.E b
 cell:∀b o,b<w.heap.size->o<g.E b->w'.cell? ⟨b,o,aF⟩=w.cell? ⟨b,o,aF⟩
 ct:∀i,ct H i->ct H' i/\g'.β i=g.β i
 bl:∀t m,eL H t=D m->∃m',eL H' t=D m'/\m<=m'/\(m=m'->g'.h t=g.h t)
theorem hx.refl(g:b_)(w:bb)(H:List aG):hx g w H g w H:=⟨b5 _,λ_ _=>b5 _,λ_ _ _ _=>rfl,λ_ h=>⟨h,rfl⟩,λ_ m h=>⟨m,h,b5 _,λ_=>rfl⟩⟩
theorem hx.trans{ef eM gS:b_}{jg lb Ed:bb}{H1 H2 Vw:List aG}(h:hx ef jg H1 eM lb H2)(k:hx eM lb H2 gS Ed Vw):hx ef jg H1 gS Ed Vw where
 size:=jC h.size k.size
 E b aB:=jC (h.E b aB) (k.E b (sR aB h.size))
 cell b o aB a1:=(k.cell b o (sR aB h.size) (sR a1 (h.E b aB))).trans (h.cell b o aB a1)
 ct i ao:=by obtain⟨a,b⟩:=h.ct i ao;obtain⟨c,d⟩:=k.ct i a;exact⟨c,d.trans b⟩
 bl t m ai:=by
  obtain⟨m',a,b,c⟩:=h.bl t m ai;obtain⟨Vx,gy,gi,c'⟩:=k.bl t m' a;exact⟨Vx,gy,jC b gi,λe=>by
   have:m=m':=by omega
   have:m'=Vx:=by omega
   rw[c' this,c (by omega)]⟩
theorem hL.a'{E rP:Nat->Nat}{w w':bb}(aV:w.heap.size<=w'.heap.size)(aS:∀b,b<w.heap.size->E b<=rP b)(aP:∀b o,b<w.heap.size->o<E b->w'.cell? ⟨b,o,aF⟩=w.cell? ⟨b,o,aF⟩){x:P}{v:a4}(h:hL E w x v):hL rP w' x v:=by
 induction h with
 |v=>exact .v
 |nil=>exact .nil
 |vh=>exact .vh
 |dI u aK Ee wK aB hu _ bB=>exact .dI u aK Ee (jC wK (aS _ aB)) (sR aB aV) (λj ae=>by rw[aP _ _ aB (by omega)];exact hu j ae) bB
section
variable {g g' : b_} {w w' : bb} {H H' : List aG}
theorem A'.a'(m:hx g w H g' w' H'){t n:Nat}{v:a4}(h:A' g H t n v):A' g' H' t n v:=by obtain⟨mR,a,b,c⟩:=h;obtain⟨m2,gy,gi,c'⟩:=m.bl t mR a;exact⟨m2,gy,jC b gi,λe=>by rw[c' (by omega)];exact c (by omega)⟩
theorem Ba.a'(m:hx g w H g' w' H'){t n k l o:Nat}{v:a4}(h:Ba g H t n k l o v):Ba g' H' t n k l o v:=by obtain⟨mR,a,b,c⟩:=h;obtain⟨m2,gy,gi,c'⟩:=m.bl t mR a;exact⟨m2,gy,jC b gi,λe=>by rw[c' (by omega)];exact c (by omega)⟩
theorem Ec.a'(m:hx g w H g' w' H'){t n o:Nat}{v:a4}(h:Ec g H t n o v):Ec g' H' t n o v:=by obtain⟨mR,a,b,c⟩:=h;obtain⟨m2,gy,gi,c'⟩:=m.bl t mR a;exact⟨m2,gy,jC b gi,λe=>by rw[c' (by omega)];exact c (by omega)⟩
theorem hx.N3(m:hx g w H g' w' H'){x:P}{v:a4}(h:hL g.E w x v):hL g'.E w' x v:=h.a' m.size m.E m.cell
mutual
theorem cD.a'(m:hx g w H g' w' H'):∀{d:V}{v:a4},cD g w H d v->cD g' w' H' d v
 |_,_,.p h=>.p (m.N3 h)
 |_,_,.cT h ai=>.cT (m.N3 h) (ai.a' m)
 |_,_,.aR (i:=i) aK=>by have:=(m.ct i aK).2;rw[<-this];exact .aR (m.ct i aK).1
 |_,_,.bA u aS aB hu h=>.bA u (jC aS (m.E _ aB)) (sR aB m.size) (λj ae=>by rw[m.cell _ _ aB (by omega)];exact hu j ae) (λj c ae=>m.N3 (h j c ae))
 |_,_,.dX (i:=i) aK=>by have:=(m.ct i aK).2;rw[<-this];exact .dX (m.ct i aK).1
 |_,_,.map (i:=i) aK=>by have:=(m.ct i aK).2;rw[<-this];exact .map (m.ct i aK).1
 |_,_,.fn h1 h2=>.fn (cU.a' m h1) (cU.a' m h2)
 |_,_,.agg h=>.agg (cU.a' m h)
 |_,_,.cg h=>.cg (cU.a' m h)
 |_,_,.fW (i:=i) aK=>by have:=(m.ct i aK).2;rw[<-this];exact .fW (m.ct i aK).1
 |_,_,.z=>.z
 |_,_,.gs h1 h=>.gs h1 (h.a' m)
 |_,_,.js h1 h=>.js h1 (h.a' m)
theorem cU.a'(m:hx g w H g' w' H'):∀{ds:List V}{vs:List a4},cU g w H ds vs->cU g' w' H' ds vs
 |_,_,.nil=>.nil
 |_,_,.cons h aV=>.cons (cD.a' m h) (cU.a' m aV)
end
theorem cU.len:∀{ds:List V}{vs:List a4},cU g w H ds vs->ds.length=vs.length
 |_,_,.nil=>rfl
 |_,_,.cons _ aV=>by simp[cU.len aV]
theorem cU.aq:∀{ds:List V}{vs:List a4}{i:Nat}{d:V},cU g w H ds vs->ds[i]? =D d->∃v,vs[i]? =D v/\cD g w H d v
 |_,_,i,d,.nil,h=>by simp at h
 |_,_,0,d,.cons h aV,e=>by simp at e;subst e;exact⟨_,rfl,h⟩
 |_,_,i+1,d,.cons h aV,e=>by simp at e;obtain⟨v,a,b⟩:=cU.aq aV e;exact⟨v,by simpa using a,b⟩
theorem cU.set:∀{ds:List V}{vs:List a4}{i:Nat}{d:V}{v:a4},cU g w H ds vs->cD g w H d v->cU g w H (ds.set i d) (vs.set i v)
 |_,_,i,d,v,.nil,h=>by simp;exact .nil
 |_,_,0,d,v,.cons h aV,e=>.cons e aV
 |_,_,i+1,d,v,.cons h aV,e=>.cons h (cU.set aV e)
theorem cU.drop:∀{ds:List V}{vs:List a4}(i:Nat),cU g w H ds vs->cU g w H (ds.drop i) (vs.drop i)
 |_,_,0,h=>h
 |_,_,i+1,.nil=>.nil
 |_,_,i+1,.cons h aV=>cU.drop i aV
theorem cU.take:∀{ds:List V}{vs:List a4}(i:Nat),cU g w H ds vs->cU g w H (ds.take i) (vs.take i)
 |_,_,0,h=>.nil
 |_,_,i+1,.nil=>.nil
 |_,_,i+1,.cons h aV=>.cons h (cU.take i aV)
theorem cU.append:∀{ds es:List V}{vs us:List a4},cU g w H ds vs->cU g w H es us->cU g w H (ds++es) (vs++us)
 |_,_,_,_,.nil,h=>h
 |_,_,_,_,.cons h aV,k=>.cons h (cU.append aV k)
end
def e_(E:Nat->Nat)(w:bb)(cs:List P)(us:List a4):Prop:=cs.length=us.length/\∀(j:Nat)(c:P)(u:a4),cs[j]? =D c->us[j]? =D u->hL E w c u
theorem e_.a'{E rP:Nat->Nat}{w w':bb}{cs:List P}{us:List a4}(aV:w.heap.size<=w'.heap.size)(aS:∀b,b<w.heap.size->E b<=rP b)(aP:∀b o,b<w.heap.size->o<E b->w'.cell? ⟨b,o,aF⟩=w.cell? ⟨b,o,aF⟩)(h:e_ E w cs us):e_ rP w' cs us:=
 ⟨h.1,λj c u h1 h2=>(h.2 j c u h1 h2).a' aV aS aP⟩
def fp:List Nat->List a4->List a4->List MapEntry
 |b::bH,k::ks,u::us=>{key:=k,val:=u,born:=b}::fp bH ks us
 |_,_,_=>[]
def wL(g:b_)(w:bb)(H:List aG)(fr:bY)(tm:Array a4):Prop:=∀t d,cR fr t=D d->∃v,tm[t]? =D v/\cD g w H d v
theorem wL.a'{g g':b_}{w w':bb}{H H':List aG}(m:hx g w H g' w' H'){fr:bY}{tm:Array a4}(h:wL g w H fr tm):wL g' w' H' fr tm:=λt d az=>by obtain⟨v,a,b⟩:=h t d az;exact⟨v,a,b.a' m⟩
def mS(E:Nat->Nat)(w:bb)(dj:Bool)(cs:List P)(u:a4):Prop:=if dj=ah then ∃us:List a4,u=.agg us.toArray/\e_ E w cs us else ∃x,cs=[x]/\hL E w x u
theorem mS.a'{E rP:Nat->Nat}{w w':bb}{dj:Bool}{cs:List P}{u:a4}(aV:w.heap.size<=w'.heap.size)(aS:∀b,b<w.heap.size->E b<=rP b)(aP:∀b o,b<w.heap.size->o<E b->w'.cell? ⟨b,o,aF⟩=w.cell? ⟨b,o,aF⟩)(h:mS E w dj cs u):mS rP w' dj cs u:=by
 unfold mS at h⊢;cases dj with
 |true=>obtain⟨us,h1,h2⟩:=h;exact⟨us,h1,h2.a' aV aS aP⟩
 |false=>obtain⟨x,h1,h2⟩:=h;exact⟨x,h1,h2.a' aV aS aP⟩
def n3(c:Nat)(bH:List Nat):Prop:=bH.Nodup/\∀b∈bH,b<c
def jU(g:b_)(w:bb)(H:List aG)(i:Nat):aG->Prop
 |.bW=>True
 |.cells T cs=>∃us:List a4,kA w (g.β i) us T/\cU g w H cs us/\g.E (g.β i)=0
 |.bu T cs=>∃us:List a4,kA w (g.β i) us T/\e_ g.E w cs us/\g.E (g.β i)=0
 |.bl T k _=>∃n us,w.ownsRow 0 T k (g.h i) n us/\∀b,(g.h i).ownBlock=D b->g.E b=n*k
 |.gH T cs=>∃us:List a4,kA w (g.β i) us T/\e_ g.E w cs us/\g.E (g.β i)=cs.length
 |.hf T k _ cs=>∃n us,w.ownsRow 0 T k (g.h i) n us/\e_ g.E w cs us/\∀b,(g.h i).ownBlock=D b->g.E b=0
 |.nn c bH kv=>∃us,w.heap[g.β i]? =D (.map (fp bH (kv.map (·.1)) us).toArray c)/\bH.length=kv.length/\cU g w H (kv.map (·.2)) us
 |.loop st dJ f N fr ps mp eD j=>∃(f0:gh)(tm:Array a4),w.heap[g.β i]? =D (.loop {state:=st,pending:=dJ,fn:=f0,tmps:=tm,params:=ps,assign:=mp,body:=eD,defers:=g.β j})/\tm.size=N/\ct H j/\wL g w H fr tm
 |.cr b=>w.heap[g.β i]? =D (.deferred (if b then D []else aF))
 |.pw j=>∃since last,w.heap[g.β i]? =D (.mapIter (D (g.β j)) since #[] last)/\ct H j
 |.mP dj kv=>∃c bH us,n3 c bH/\w.heap[g.β i]? =D (.map (fp bH (kv.map (·.1)) us).toArray c)/\bH.length=kv.length/\us.length=kv.length/\∀(j:Nat)(q:a4×List P)(u:a4),kv[j]? =D q->us[j]? =D u->mS g.E w dj q.2 u
 |.kg j A=>ct H j/\g.β j=A
 |.mq ds vs=>cU g w H ds vs
def t_(g:b_)(w:bb):Prop:=∀q∈yP,q.1<w.heap.size/\q.2.length<=g.E q.1/\∀(j:Nat)(u:a4),q.2[j]? =D u->w.cell? ⟨q.1,j,aF⟩=D u
variable {w w':bb}
theorem t_.a'{g g':b_}{H H':List aG}(h:t_ g w)(m:hx g w H g' w' H'):t_ g' w':=λq aE=>by obtain⟨a,b,c⟩:=h q aE;refine⟨sR a m.size,jC b (m.E _ a),λj u ae=>?_⟩;rw[m.cell _ _ a (sR (cz.1 ae).1 b)];exact c j u ae
structure b'(cn:bb)(b0:b_)(bS:List aG)(g:b_)(w:bb)(H:List aG):Prop where
 os:w.os=cn.os
 tape:w.tape=cn.tape
 output:w.output=cn.output
 mT:t_ g w
 a':hx b0 cn bS g w H
 iQ:∀b,b<cn.heap.size->(∀i,¬own b0 bS i b)->w.heap[b]? =cn.heap[b]? /\g.E b=b0.E b
 ec:∀i o,H[i]? =D o->jU g w H i o
 kh:∀i j b,own g H i b->own g H j b->i=j
 px:∀i b,own g H i b->(∃j,own b0 bS j b)\/cn.heap.size<=b
theorem jU.a'{g g':b_}{w w':bb}{H H':List aG}(m:hx g w H g' w' H'){i:Nat}{o:aG}(ao:H[i]? =D o)(aB:∀b,own g H i b->w'.heap[b]? =w.heap[b]? /\g'.E b=g.E b)(fG:eL H i=eL H i->∀T k n,(o=.bl T k n\/∃cs,o=.hf T k n cs)->g'.h i=g.h i)(h:jU g w H i o):jU g' w' H' i o:=by
 have ej:∀b,own g H i b↔tZ g i b (D o):=λb=>by unfold own;rw[ao]
 cases o with
 |bW=>trivial
 |cells T cs=>
  obtain⟨us,h1,h2,aJ⟩:=h;have aK:=m.ct i (by unfold ct;rw[ao];trivial);have:=aB (g.β i) ((ej _).2 rfl);refine⟨us,?_,h2.a' m,?_⟩
  ·rw[aK.2];exact this.1.trans h1
  ·rw[aK.2,this.2,aJ]
 |bu T cs=>
  obtain⟨us,h1,h2,aJ⟩:=h;have aK:=m.ct i (by unfold ct;rw[ao];trivial);have:=aB (g.β i) ((ej _).2 rfl);refine⟨us,?_,h2.a' m.size m.E m.cell,?_⟩
  ·rw[aK.2];exact this.1.trans h1
  ·rw[aK.2,this.2,aJ]
 |gH T cs=>
  obtain⟨us,h1,h2,aJ⟩:=h;have aK:=m.ct i (by unfold ct;rw[ao];trivial);have:=aB (g.β i) ((ej _).2 rfl);refine⟨us,?_,h2.a' m.size m.E m.cell,?_⟩
  ·rw[aK.2];exact this.1.trans h1
  ·rw[aK.2,this.2,aJ]
 |bl T k n=>
  obtain⟨q,us,h1,h2⟩:=h;have he:=fG rfl T k n (.inl rfl);refine⟨q,us,?_,λb lG=>?_⟩
  ·rw[he];refine⟨h1.1,?_⟩;rcases h1.2 with h|⟨b,cap,h5,bg,bw,aP,r⟩
   ·exact .inl h
   ·refine .inr ⟨b,cap,h5,bg,bw,?_,r⟩;rw[(aB b ((ej _).2 (by show(g.h i).ownBlock=D b;rw[bg];rfl))).1];exact aP
  ·rw[he]at lG;rw[(aB b ((ej _).2 lG)).2];exact h2 b lG
 |hf T k n cs=>
  obtain⟨q,us,h1,aJ,h2⟩:=h;have he:=fG rfl T k n (.inr ⟨cs,rfl⟩);refine⟨q,us,?_,aJ.a' m.size m.E m.cell,λb lG=>?_⟩
  ·rw[he];refine⟨h1.1,?_⟩;rcases h1.2 with h|⟨b,cap,h5,bg,bw,aP,r⟩
   ·exact .inl h
   ·refine .inr ⟨b,cap,h5,bg,bw,?_,r⟩;rw[(aB b ((ej _).2 (by show(g.h i).ownBlock=D b;rw[bg];rfl))).1];exact aP
  ·rw[he]at lG;rw[(aB b ((ej _).2 lG)).2];exact h2 b lG
 |nn c bH kv=>obtain⟨us,h1,h2,aJ⟩:=h;have aK:=m.ct i (by unfold ct;rw[ao];trivial);have:=aB (g.β i) ((ej _).2 rfl);exact⟨us,by rw[aK.2,this.1];exact h1,h2,aJ.a' m⟩
 |loop st dJ f N fr ps mp eD j=>obtain⟨f0,tm,h1,h2,aJ,bp⟩:=h;have aK:=m.ct i (by unfold ct;rw[ao];trivial);have:=aB (g.β i) ((ej _).2 rfl);exact⟨f0,tm,by rw[aK.2,this.1,(m.ct j aJ).2];exact h1,h2,(m.ct j aJ).1,bp.a' m⟩
 |cr b=>have aK:=m.ct i (by unfold ct;rw[ao];trivial);have:=aB (g.β i) ((ej _).2 rfl);show w'.heap[g'.β i]? =_;rw[aK.2,this.1];exact h
 |pw j=>obtain⟨s,t,h1,aJ⟩:=h;have aK:=m.ct i (by unfold ct;rw[ao];trivial);have:=aB (g.β i) ((ej _).2 rfl);exact⟨s,t,by rw[aK.2,this.1,(m.ct j aJ).2];exact h1,(m.ct j aJ).1⟩
 |mP dj kv=>obtain⟨c,bH,us,bw,h1,h2,aJ,bp⟩:=h;have aK:=m.ct i (by unfold ct;rw[ao];trivial);have:=aB (g.β i) ((ej _).2 rfl);exact⟨c,bH,us,bw,by rw[aK.2,this.1];exact h1,h2,aJ,λj q u aE hu=>(bp j q u aE hu).a' m.size m.E m.cell⟩
 |kg j A=>exact⟨(m.ct j h.1).1,by rw[(m.ct j h.1).2];exact h.2⟩
 |mq ds vs=>exact cU.a' m h
variable {b i:Nat}{cn:bb}
theorem aeR{g:b_}{H:List aG}{b0:b_}{bS:List aG}(h:b' cn b0 bS g w H)(a1:own g H i b):b<w.heap.size:=by
 unfold own at a1;cases ao:H[i]? with
 |none=>rw[ao]at a1;exact a1.elim
 |some o=>
  rw[ao]at a1;have aM:=h.ec i o ao;cases o with
  |bW=>exact a1.elim
  |cells T cs=>obtain⟨us,h1,_⟩:=aM;have:b=g.β i:=a1;subst this;exact h1.lt
  |bu T cs=>obtain⟨us,h1,_⟩:=aM;have:b=g.β i:=a1;subst this;exact h1.lt
  |gH T cs=>obtain⟨us,h1,_⟩:=aM;have:b=g.β i:=a1;subst this;exact h1.lt
  |nn c bH kv=>obtain⟨us,h1,_⟩:=aM;have:b=g.β i:=a1;subst this;exact(nY.1 h1).1
  |loop st dJ f N fr ps mp eD j=>obtain⟨f0,tm,h1,_⟩:=aM;have:b=g.β i:=a1;subst this;exact(nY.1 h1).1
  |cr q=>have h1:w.heap[g.β i]? =_:=aM;have:b=g.β i:=a1;subst this;exact(nY.1 h1).1
  |pw j=>obtain⟨_,_,h1,_⟩:=aM;have:b=g.β i:=a1;subst this;exact(nY.1 h1).1
  |mP dj kv=>obtain⟨_,_,_,_,h1,_⟩:=aM;have:b=g.β i:=a1;subst this;exact(nY.1 h1).1
  |kg j A=>exact a1.elim
  |mq ds vs=>exact a1.elim
  |bl T k m=>
   obtain⟨n,us,h1,_⟩:=aM;have e:(g.h i).ownBlock=D b:=a1;rcases h1.2 with⟨bg,_⟩|⟨q,cap,h5,bg,_,aP,_⟩
   ·rw[bg]at e;cases e
   ·rw[bg]at e;cases e;exact(nY.1 aP).1
  |hf T k m cs=>
   obtain⟨n,us,h1,_,_⟩:=aM;have e:(g.h i).ownBlock=D b:=a1;rcases h1.2 with⟨bg,_⟩|⟨q,cap,h5,bg,_,aP,_⟩
   ·rw[bg]at e;cases e
   ·rw[bg]at e;cases e;exact(nY.1 aP).1
structure gm(g:b_)(w:bb)(H:List aG):Prop where
 mT:t_ g w
 ec:∀i o,H[i]? =D o->jU g w H i o
 kh:∀i j b,own g H i b->own g H j b->i=j
theorem gm.jV{g:b_}{H:List aG}(h:gm g w H):b' w g H g w H:=
 ⟨rfl,rfl,rfl,h.mT,hx.refl _ _ _,λ_ _ _=>⟨rfl,rfl⟩,h.ec,h.kh,λi b a1=>.inl ⟨i,a1⟩⟩
theorem b'.iR{b0:b_}{bS:List aG}{g:b_}{H:List aG}(h:b' cn b0 bS g w H):gm g w H:=⟨h.mT,h.ec,h.kh⟩
theorem b'.then{b0:b_}{bS:List aG}{g g':b_}{H H':List aG}(h:b' cn b0 bS g w H)(k:b' w g H g' w' H'):b' cn b0 bS g' w' H' where
 os:=k.os.trans h.os
 tape:=k.tape.trans h.tape
 output:=k.output.trans h.output
 mT:=k.mT
 a':=h.a'.trans k.a'
 iQ b aB a_:=by
  obtain⟨a,c⟩:=h.iQ b aB a_;have Vy:∀i,¬own g H i b:=λi a1=>by
   rcases h.px i b a1 with⟨j,ae⟩|Bb
   ·exact a_ j ae
   ·omega
  obtain⟨gy,c'⟩:=k.iQ b (sR aB h.a'.size) Vy;exact⟨gy.trans a,c'.trans c⟩
 ec:=k.ec
 kh:=k.kh
 px i b a1:=by
  rcases k.px i b a1 with⟨j,ae⟩|Bb
  ·exact h.px j b ae
  ·exact .inr (jC h.a'.size Bb)
variable {j:Nat}
theorem jG{H:List aG}{o:aG}(h:j≠i):(H.set i o)[j]? =H[j]? :=HQ (λe=>h e.symm)
theorem jH{H:List aG}{o:aG}(h:i<H.length):(H.set i o)[i]? =D o:=A5 h
theorem vi{g:b_}{H:List aG}(h:gm g w H)(a1:own g H i b):b<w.heap.size:=aeR h.jV a1
theorem b'.one{g g':b_}{H:List aG}{o':aG}(h:gm g w H)(dN:i<H.length)(t':w'.os=w.os)(Ef:w'.tape=w.tape)(Eg:w'.output=w.output)(ff:w.heap.size<=w'.heap.size)
  (H0:∀b,b<w.heap.size->¬own g H i b->w'.heap[b]? =w.heap[b]? /\g'.E b=g.E b) (aeS:∀b o,own g H i b->o<g.E b->w'.cell? ⟨b,o,aF⟩=w.cell? ⟨b,o,aF⟩) (aeT:∀b,own g H i b->g.E b<=g'.E b)
  (py:∀j,j≠i->g'.β j=g.β j/\g'.h j=g.h j) (H3:tY H[i]? ->tY (D o')/\g'.β i=g.β i) (aeU:∀m,tX H[i]? =D m->∃m',tX (D o')=D m'/\m<=m'/\(m=m'->g'.h i=g.h i))
  (ej:∀b,tZ g' i b (D o')->own g H i b\/w.heap.size<=b) (rQ:hx g w H g' w' (H.set i o')->jU g' w' (H.set i o') i o'):b' w g H g' w' (H.set i o'):=by
 have dO:hx g w H g' w' (H.set i o'):=by
  refine⟨ff,λb aB=>?_,λb o aB a1=>?_,λj ae=>?_,λt m ai=>?_⟩
  ·by_cases e:own g H i b
   ·exact aeT b e
   ·exact HT (H0 b aB e).2.symm
  ·by_cases e:own g H i b
   ·exact aeS b o e a1
   ·exact D4 (H0 b aB e).1
  ·by_cases e:j=i
   ·subst e;have:=H3 ae;exact⟨by unfold ct;rw[jH dN];exact this.1,this.2⟩
   ·exact⟨by unfold ct;rw[jG e];exact ae,(py j e).1⟩
  ·by_cases e:t=i
   ·subst e;obtain⟨m',a,b,c⟩:=aeU m ai;exact⟨m',by unfold eL;rw[jH dN];exact a,b,c⟩
   ·exact⟨m,by unfold eL;rw[jG e];exact ai,b5 _,λ_=>(py t e).2⟩
 have H4:∀j b,j≠i->own g' (H.set i o') j b->own g H j b:=λj b e a1=>by
  unfold own at a1⊢;rw[jG e]at a1;cases ae:H[j]? with
  |none=>rw[ae]at a1;exact a1
  |some o=>rw[ae]at a1;cases o<;>simp only[tZ,(py j e).1,(py j e).2]at a1⊢ <;>exact a1
 have N4:∀b,own g' (H.set i o') i b->own g H i b\/w.heap.size<=b:=λb a1=>by unfold own at a1;rw[jH dN]at a1;exact ej b a1
 refine⟨t',Ef,Eg,h.mT.a' dO,dO,λb aB a_=>H0 b aB (a_ i),λj o ae=>?_,λj k b h1 h2=>?_,λj b a1=>?_⟩
 ·by_cases e:j=i
  ·subst e;rw[jH dN]at ae;cases ae;exact rQ dO
  ·rw[jG e]at ae;refine jU.a' dO ae (λb aB=>H0 b (vi h aB) λao=>e (h.kh j i b aB ao)) (λ_ _ _ _ _=>(py j e).2) (h.ec j o ae)
 ·by_cases a5:j=i
  ·by_cases bk:k=i
   ·rw[a5,bk]
   ·subst a5;have au:=H4 k b bk h2;rcases N4 b h1 with h1|h1
    ·exact h.kh j k b h1 au
    ·have:=vi h au;omega
  ·have ae:=H4 j b a5 h1;by_cases bk:k=i
   ·subst bk;rcases N4 b h2 with h2|h2
    ·exact h.kh j k b ae h2
    ·have:=vi h ae;omega
   ·exact h.kh j k b ae (H4 k b bk h2)
 ·by_cases e:j=i
  ·subst e;rcases N4 b a1 with h1|h1
   ·exact .inl ⟨j,h1⟩
   ·exact .inr h1
  ·exact .inl ⟨j,H4 j b e a1⟩
theorem b'.Eh{g:b_}{H:List aG}{E:Nat->Nat}(h:gm g w H)(aB:Below w.heap.size w w')(aS:∀b,b<w.heap.size->E b=g.E b):b' w g H ⟨g.β,E,g.h⟩ w' H:=by
 have dO:hx g w H ⟨g.β,E,g.h⟩ w' H:=⟨aB.size,λb aK=>HT (aS b aK).symm,λb o aK _=>D4 (aB.block b aK),λi ao=>⟨ao,rfl⟩,λt m ai=>⟨m,ai,b5 _,λ_=>rfl⟩⟩
 have ej:∀j b,own ⟨g.β,E,g.h⟩ H j b↔own g H j b:=λj b=>by
  unfold own;cases H[j]? with
  |none=>exact Iff.rfl
  |some o=>cases o<;>exact Iff.rfl
 exact⟨aB.os,aB.tape,aB.output,h.mT.a' dO,dO,λb aK _=>⟨aB.block b aK,aS b aK⟩,λj o ae=>jU.a' dO ae (λb lG=>⟨aB.block b (vi h lG),aS b (vi h lG)⟩) (λ_ _ _ _ _=>rfl) (h.ec j o ae),
  λi j b h1 h2=>h.kh i j b ((ej i b).1 h1) ((ej j b).1 h2),λi b a1=>.inl ⟨i,(ej i b).1 a1⟩⟩
def dD{α:Type}(f:Nat->α)(i:Nat)(x:α):Nat->α:=λj=>if j=i then x else f j
variable {α:Type}
theorem fB(f:Nat->α)(i:Nat)(x:α):dD f i x i=x:=by simp[dD]
theorem ki{f:Nat->α}{x:α}(h:j≠i):dD f i x j=f j:=by simp[dD,h]
variable {T:Nat}{us:List a4}
theorem b'.Vz{g:b_}{H:List aG}{cs:List V}(h:gm g w H)(ao:H[i]? =D .bW)(aP:cU g w H cs us):
  b' w g H ⟨dD g.β i w.heap.size,dD g.E w.heap.size 0,g.h⟩ (w.alloc (.cells us.toArray T)) (H.set i (.cells T cs)):=by
 have dN:=(cz.1 ao).1;have aB:=yJ w (.cells us.toArray T);have df:∀b,¬own g H i b:=λb a1=>by unfold own at a1;rw[ao]at a1;exact a1
 refine b'.one h dN aB.os aB.tape aB.output aB.size (λb aK _=>⟨aB.block b aK,ki (by omega)⟩) (λb _ a1=>absurd a1 (df b)) (λb a1=>absurd a1 (df b)) (λj ae=>⟨ki ae,rfl⟩) (λaK=>by rw[ao]at aK;exact aK.elim)
  (λm hm=>by rw[ao]at hm;cases hm) (λb a1=>?_) (λdO=>?_)
 ·have e:b=dD g.β i w.heap.size i:=a1;rw[fB]at e;exact .inr (by omega)
 ·refine⟨us,?_,aP.a' dO,?_⟩
  ·show kA _ (dD g.β i w.heap.size i) us T;rw[fB];exact yK _ _ _
  ·show dD g.E w.heap.size 0 (dD g.β i w.heap.size i)=0;rw[fB,fB]
theorem b'.aeV{g:b_}{H:List aG}{cs ds:List V}(h:gm g w H)(ao:H[i]? =D (.cells T cs))(aP:mo (· =g.β i) w w')(dw:kA w' (g.β i) us T)(az:cU g w H ds us):
  b' w g H g w' (H.set i (.cells T ds)):=by
 have dN:=(cz.1 ao).1;have ej:∀b,own g H i b↔b=g.β i:=λb=>by unfold own;rw[ao];exact Iff.rfl
 have aS:g.E (g.β i)=0:=by obtain⟨_,_,_,aS⟩:=h.ec i _ ao;exact aS
 refine b'.one h dN aP.os aP.tape aP.output aP.size (λb aK a_=>⟨aP.block b aK λe=>a_ ((ej b).2 e),rfl⟩) (λb o a1 cf=>?_) (λb _=>b5 _) (λj _=>⟨rfl,rfl⟩) (λ_=>⟨trivial,rfl⟩)
  (λm hm=>by rw[ao]at hm;cases hm) (λb a1=>.inl ((ej b).2 a1)) (λdO=>⟨us,dw,az.a' dO,aS⟩)
 rw[(ej b).1 a1,aS]at cf;omega
theorem b'.VA{g:b_}{H:List aG}{cs:List P}(h:gm g w H)(ao:H[i]? =D .bW)(aP:e_ g.E w cs us):
  b' w g H ⟨dD g.β i w.heap.size,dD g.E w.heap.size 0,g.h⟩ (w.alloc (.cells us.toArray T)) (H.set i (.bu T cs)):=by
 have dN:=(cz.1 ao).1;have aB:=yJ w (.cells us.toArray T);have df:∀b,¬own g H i b:=λb a1=>by unfold own at a1;rw[ao]at a1;exact a1
 refine b'.one h dN aB.os aB.tape aB.output aB.size (λb aK _=>⟨aB.block b aK,ki (by omega)⟩) (λb _ a1=>absurd a1 (df b)) (λb a1=>absurd a1 (df b)) (λj ae=>⟨ki ae,rfl⟩) (λaK=>by rw[ao]at aK;exact aK.elim)
  (λm hm=>by rw[ao]at hm;cases hm) (λb a1=>?_) (λdO=>?_)
 ·have e:b=dD g.β i w.heap.size i:=a1;rw[fB]at e;exact .inr (by omega)
 ·refine⟨us,?_,aP.a' dO.size dO.E dO.cell,?_⟩
  ·show kA _ (dD g.β i w.heap.size i) us T;rw[fB];exact yK _ _ _
  ·show dD g.E w.heap.size 0 (dD g.β i w.heap.size i)=0;rw[fB,fB]
theorem b'.VB{g:b_}{H:List aG}{cs ds:List P}(h:gm g w H)(ao:H[i]? =D (.bu T cs))(aP:mo (· =g.β i) w w')(dw:kA w' (g.β i) us T)(az:e_ g.E w ds us):
  b' w g H g w' (H.set i (.bu T ds)):=by
 have dN:=(cz.1 ao).1;have ej:∀b,own g H i b↔b=g.β i:=λb=>by unfold own;rw[ao];exact Iff.rfl
 have aS:g.E (g.β i)=0:=by obtain⟨_,_,_,aS⟩:=h.ec i _ ao;exact aS
 refine b'.one h dN aP.os aP.tape aP.output aP.size (λb aK a_=>⟨aP.block b aK λe=>a_ ((ej b).2 e),rfl⟩) (λb o a1 cf=>?_) (λb _=>b5 _) (λj _=>⟨rfl,rfl⟩) (λ_=>⟨trivial,rfl⟩)
  (λm hm=>by rw[ao]at hm;cases hm) (λb a1=>.inl ((ej b).2 a1)) (λdO=>⟨us,dw,az.a' dO.size dO.E dO.cell,aS⟩)
 rw[(ej b).1 a1,aS]at cf;omega
end
def dT(H:List aG):List (Nat×aG)->List aG
 |[]=>H
 |(i,o)::r=>dT (H.set i o) r
def fq(H:List aG)(cV:List (Nat×aG)):Prop:=∀q∈cV,H[q.1]? =D q.2
theorem fq.one{H:List aG}{i:Nat}{o:aG}(h:fq H [(i,o)]):H[i]? =D o:=h (i,o) (by simp)
def ua(av:cj)(n:Next)(w:bb)(post:a4->bb->Prop):Prop:=
 (∃f vs,n=.enter f vs/\A4 av f vs w λgz w'=>∃v,gz=.returned v/\post v w')\/
 ∃l f tmps mp eD,n=.round l f tmps mp eD/\RoundIn (hK aF) 0 av l f tmps mp eD w λgz w'=>∃v,gz=.returned v/\post v w'
variable {av:cj}{post:a4->bb->Prop}{w:bb}
theorem ua.aY{f:gh}{vs:Array a4}(h:A4 av f vs w λgz w'=>∃v,gz=.returned v/\post v w'):ua av (.enter f vs) w post:=.inl ⟨f,vs,rfl,h⟩
theorem ua.mono{av:cj}{n:Next}{w:bb}{post VC:a4->bb->Prop}(h:ua av n w post)(k:∀v w',post v w'->VC v w'):ua av n w VC:=by
 rcases h with⟨f,vs,rfl,h⟩|⟨l,f,tmps,mp,eD,rfl,h⟩
 ·exact .inl ⟨f,vs,rfl,Calls.mono h λgz w' ⟨v,e,hp⟩=>⟨v,e,k v w' hp⟩⟩
 ·exact .inr ⟨l,f,tmps,mp,eD,rfl,RoundIn.mono h λgz w' ⟨v,e,hp⟩=>⟨v,e,k v w' hp⟩⟩
variable {n:Next}
theorem ua.yQ(h:ua av n w post):∀d,n≠ .defer d:=λd e=>by rcases h with⟨f,vs,rfl,h⟩|⟨l,f,tmps,mp,eD,rfl,h⟩<;>cases e
theorem ua.H5(h:ua av n w post){r:Option Nat}{o:bU}{a:cO}{next:cO->bb->Prop}{Q:cN->cO->bb->Prop}(k:∀v w',post v w'->next (a.put o.dst v) w'):o.uponIn (hK r) 0 av a next Q (.ok n w):=by
 rcases h with⟨f,vs,rfl,h⟩|⟨l,f,tmps,mp,eD,rfl,h⟩
 ·rw[Oper.uponIn_enter];refine⟨(λh=>by cases h),Vi (Calls.mono h ?_)⟩;rintro e w' ⟨v,rfl,hp⟩;exact k v w' hp
 ·rw[Oper.uponIn_round];refine⟨(λh=>by cases h),RoundIn.mono (show RoundIn (hK r) 0 av l f tmps mp eD w _ from h) ?_⟩;rintro e w' ⟨v,rfl,hp⟩;exact k v w' hp
def VD(av:cj)(e:bM->a4)(o:bU)(w:bb)(post:a4->bb->Prop):Prop:=
 (∃v w',(execOp e o).run av w=.ok (.value v) w'/\post v w')\/(∃w',(execOp e o).run av w=.ok .skip w'/\post undef w')\/
 ∃n,(execOp e o).run av w=.ok n w/\ua av n w post
def bE(av:cj)(op:Op)(ty:b3)(ρ:bM->Option V)(cV cE:List (Nat×aG))(d:V):Prop:=
 ∀(g:b_)(w:bb)(H:List aG)(e:bM->a4)(o:bU),o.op=op->o.type=ty->gm g w H->fq H cV->(∀x∈op.operands,∀u,ρ x=D u->cD g w H u (e x))->
  VD av e o w λv w'=>∃g',b' w g H g' w' (dT H cE)/\cD g' w' (dT H cE) d v
theorem cD.g4{g:b_}{H:List aG}{x v:a4}(h:cD g w H (.p (.v x)) v):v=x:=by cases h with|p h=>cases h;rfl
theorem cD.v{g:b_}{w:bb}{H:List aG}(x:a4):cD g w H (.p (.v x)) x:=.p .v
section
variable {av : cj} {ty : b3} {ρ : bM -> Option V}
variable {op:Op}
theorem bE.pure{d:V}(h:∀(g:b_)(w:bb)(H:List aG)(e:bM->a4)(o:bU),o.op=op->o.type=ty->gm g w H->(∀x∈op.operands,∀u,ρ x=D u->cD g w H u (e x))->
  ∃v,(execOp e o).run av w=.ok (.value v) w/\cD g w H d v):bE av op ty ρ [] [] d:=λg w H e o a1 ai aM _ a8=>by
 obtain⟨v,h1,h2⟩:=h g w H e o a1 ai aM a8;exact .inl ⟨v,w,h1,g,aM.jV,h2⟩
theorem bE.plain{r:a4}(h:∀(w:bb)(e:bM->a4)(o:bU),o.op=op->o.type=ty->(∀x∈op.operands,∀u,ρ x=D (.p (.v u))->e x=u)->(execOp e o).run av w=.ok (.value r) w):bE av op ty ρ [] [] (.p (.v r)):=
 .pure λg w H e o a1 ai _ a8=>⟨r,h w e o a1 ai λx ar u hu=>(a8 x ar _ hu).g4,.v r⟩
variable {x:bM}
theorem VE{d:V}(h:ρ x=D d):bE av (.move x) ty ρ [] [] d:=.pure λg w H e o a1 _ _ a8=>⟨e x,by unfold execOp;rw[a1];rfl,a8 x (by simp[c_]) _ h⟩
theorem N5{d:V}(h:ρ x=D d):bE av (.assign x) ty ρ [] [] d:=.pure λg w H e o a1 _ _ a8=>⟨e x,by unfold execOp;rw[a1];rfl,a8 x (by simp[c_]) _ h⟩
variable {c y:bM}
theorem aeW{d:V}(aP:ρ c=D (.p (.v (.bool ah))))(h:ρ x=D d):bE av (.pick c x y) ty ρ [] [] d:=.pure λg w H e o a1 _ _ a8=>by have a5:=(a8 c (by simp[c_]) _ aP).g4;exact⟨e x,by unfold execOp;rw[a1];simp[a5,asBool,ck,ce],a8 x (by simp[c_]) _ h⟩
theorem aeX{d:V}(aP:ρ c=D (.p (.v (.bool aQ))))(h:ρ y=D d):bE av (.pick c x y) ty ρ [] [] d:=.pure λg w H e o a1 _ _ a8=>by have a5:=(a8 c (by simp[c_]) _ aP).g4;exact⟨e y,by unfold execOp;rw[a1];simp[a5,asBool,ck,ce],a8 y (by simp[c_]) _ h⟩
theorem H6{i off:Nat}(h:ρ x=D (.aR i off)):bE av (.nilCheck x) ty ρ [] [] (.aR i off):=.pure λg w H e o a1 _ _ a8=>by have a5:=a8 x (by simp[c_]) _ h;generalize he:e x=v at a5;cases a5 with|aR aK=>exact⟨_,by unfold execOp;rw[a1];simp only[he];rfl,.aR aK⟩
theorem kS{op:BinOp}{T b1:b3}{vx vy v:a4}(ar:ρ x=D (.p (.v vx)))(bh:ρ y=D (.p (.v vy)))
  (h:∀w,(do eqGuard op T x y vx vy;binOp op T vx vy:Sem a4).run av w=.ok v w):bE av (.binOp op T x y b1) ty ρ [] [] (.p (.v v)):=.plain λw e o a1 _ a8=>by
 have a5:=a8 x (by simp[c_]) _ ar;have bk:=a8 y (by simp[c_]) _ bh;unfold execOp;rw[a1];simp only[a5,bk,ck,h w,ce,it]
section
variable {T b1 : b3} {x y : bM} {k : hv} {a b : Int}
theorem aeY(ar:ρ x=D (.p (.v (.int k a))))(bh:ρ y=D (.p (.v (.int k b))))(bw:b≠0):bE av (.binOp .rem T x y b1) ty ρ [] [] (.p (.v (.int k (a.tmod b)))):=
 kS ar bh λw'=>by simp[ck,pq,ce,binOp,Op.intDiv,bw]
theorem aeZ(ar:ρ x=D (.p (.v (.int k a))))(bh:ρ y=D (.p (.v (.int k b)))):bE av (.binOp .lss T x y b1) ty ρ [] [] (.p (.v (.bool (decide (a<b))))):=
 kS ar bh λw'=>by simp[ck,pq,ce,binOp,yG]
theorem ae0(ar:ρ x=D (.p (.v (.int k a))))(bh:ρ y=D (.p (.v (.int k b)))):bE av (.binOp .leq T x y b1) ty ρ [] [] (.p (.v (.bool (decide (a<=b))))):=
 kS ar bh λw'=>by simp[ck,pq,ce,binOp,yG]
theorem ae1(ar:ρ x=D (.p (.v (.int k a))))(bh:ρ y=D (.p (.v (.int k b)))):bE av (.binOp .gtr T x y b1) ty ρ [] [] (.p (.v (.bool (decide (b<a))))):=
 kS ar bh λw'=>by simp[ck,pq,ce,binOp,yG]
theorem ae2(ar:ρ x=D (.p (.v (.int k a))))(bh:ρ y=D (.p (.v (.int k b)))):bE av (.binOp .geq T x y b1) ty ρ [] [] (.p (.v (.bool (decide (b<=a))))):=
 kS ar bh λw'=>by simp[ck,pq,ce,binOp,yG]
theorem ae3(ar:ρ x=D (.p (.v (.int k a))))(bh:ρ y=D (.p (.v (.int k b)))):bE av (.binOp .eql T x y b1) ty ρ [] [] (.p (.v (.bool (decide (a=b))))):=
 kS ar bh λw'=>by simp[ck,pq,ce,binOp,yG];rfl
theorem ae4(ar:ρ x=D (.p (.v (.int k a))))(bh:ρ y=D (.p (.v (.int k b)))):bE av (.binOp .neq T x y b1) ty ρ [] [] (.p (.v (.bool (!decide (a=b))))):=
 kS ar bh λw'=>by simp[ck,pq,ce,binOp,yG];rfl
end
variable {x:bM}
theorem ae5{T:b3}{b:Bool}(ar:ρ x=D (.p (.v (.bool b)))):bE av (.unOp .not T x) ty ρ [] [] (.p (.v (.bool (!b)))):=.plain λw e o a1 _ a8=>by have a5:=a8 x (by simp[c_]) _ ar;unfold execOp;rw[a1];simp[a5,Op.unary,ck,ce]
theorem ae6{i:Nat}{ds:List V}{d:V}(ar:ρ x=D (.cg ds))(az:ds[i]? =D d):bE av (.extract x i) ty ρ [] [] d:=.pure λg w H e o a1 _ _ a8=>by
 have a5:=a8 x (by simp[c_]) _ ar;generalize he:e x=v at a5;cases a5 with
 |cg h=>obtain⟨v,h1,h2⟩:=h.aq az;exact⟨v,by unfold execOp;rw[a1];simp[he,Instr.extract,h1,ck,ce],h2⟩
end
def P.one:P->Bool
 |.v x=>n2 x
 |.dI _ _ _=>ah
variable {E:Nat->Nat}{w:bb}
theorem hL.one{x:P}{v:a4}(h:hL E w x v)(h1:x.one=ah):n2 v=ah:=by
 cases h with
 |v=>exact h1
 |nil=>rfl
 |vh=>rfl
 |dI=>rfl
variable {k n:Nat}
theorem hL.rR{cs:List P}{v:a4}(h:hL E w (.dI k n cs) v):((∃oH,v=.slice oH 0 0)/\n=0/\cs=[])\/∃b o cap us,v=.slice (D ⟨b,o,aF⟩) n cap/\n<=cap/\o+n*k<=E b/\b<w.heap.size/\cs.length=n*k/\e_ E w cs us/\
  ∀j u,us[j]? =D u->w.cell? ⟨b,o+j,aF⟩=D u:=by
 cases h with
 |nil=>exact .inl ⟨⟨_,rfl⟩,rfl,rfl⟩
 |vh=>exact .inl ⟨⟨_,rfl⟩,rfl,rfl⟩
 |@dI k n cs b o cap u aK aP aS aB hu h=>
  refine .inr ⟨b,o,cap,(mn (n*k)).map u,rfl,aP,aS,aB,aK,⟨by simp[aK],λj c x ae ar=>?_⟩,λj x ar=>?_⟩
  ·rw[fv,A7]at ar;obtain⟨i,ao,e⟩:=ar;have:=(cz.1 ao)
   obtain⟨cf,he⟩:=this;rw[A6]at he;subst he;subst e;exact h j c ae
  ·rw[fv,A7]at ar;obtain⟨i,ao,e⟩:=ar;obtain⟨cf,he⟩:=(cz.1 ao)
   rw[A6]at he;subst he;subst e;exact hu j (by simpa using cf)
theorem e_.dI{E:Nat->Nat}{w:bb}{k n b o cap:Nat}{cs:List P}{us:List a4}(h:e_ E w cs us)(aK:cs.length=n*k)(aP:n<=cap)(aS:o+n*k<=E b)(aB:b<w.heap.size)(hu:∀j u,us[j]? =D u->w.cell? ⟨b,o+j,aF⟩=D u):
  hL E w (.dI k n cs) (.slice (D ⟨b,o,aF⟩) n cap):=by
 have hlen:=h.1;refine .dI (λj=>us.getD j undef) aK aP aS aB (λj ae=>?_) (λj c ae=>?_)
 ·have jW:j<us.length:=by omega
  rw[hu j us[j] (cq jW)];simp[yH,cq jW]
 ·have jW:j<us.length:=by have:=(cz.1 ae).1;omega
  have:=h.2 j c us[j] ae (cq jW);simpa[yH,cq jW]using this
theorem e_.one{E:Nat->Nat}{w:bb}{cs:List P}{us:List a4}(h:e_ E w cs us)(h1:∀c∈cs,c.one=ah):∀u∈us,n2 u=ah:=λu hu=>by
 obtain⟨j,ae⟩:=List.getElem?_of_mem hu;have jW:j<cs.length:=by have:=(cz.1 ae).1;have:=h.1;omega
 exact(h.2 j _ u (cq jW) ae).one (h1 _ (List.getElem_mem _))
variable {us:List a4}
theorem e_.append{cs ds:List P} {vs:List a4}(h:e_ E w cs us)(k:e_ E w ds vs):e_ E w (cs++ds) (us++vs):=by
 refine⟨by simp[h.1,k.1],λj c u ae hu=>?_⟩;rw[NQ]at ae hu;have aK:=h.1;by_cases cf:j<cs.length
 ·rw[if_pos cf]at ae;rw[if_pos (by omega)]at hu;exact h.2 j c u ae hu
 ·rw[if_neg cf]at ae;rw[if_neg (by omega)]at hu;rw[aK]at ae;exact k.2 _ c u ae hu
variable {m:Nat}{news xs:List a4}
theorem VF{av:cj} {t ty e bytes:Nat}{z v:a4} {c:Nat}{a:sN}(ai:av.underlying t=D (.slice e))(ao:(av.info? e).map (λi=>(i.zero,i.size,i.bytes))=D (D z,k,bytes))(bj:z.cells.size=k)
  (au:0<k) (h:w.ownsRow 0 e k v n xs) (aK:news.length=m*k) (a_:∀j u,news[j]? =D u->w.cell? (a.add j)=D u) (h1:∀u∈news,n2 u=ah) (yR:n+m<=9223372036854775807) (qc:(n+m)*bytes<=140737488355328):
  ∃fh w',(Builtin.append_ #[t,t] ty #[v,.slice (D a) m c]).run av w=.ok fh w'/\w'.ownsRow 0 e k fh (n+m) (xs++news)/\w'.os=w.os/\w'.tape=w.tape/\w'.output=w.output/\w.heap.size<=w'.heap.size/\
   ((fh.ownBlock=v.ownBlock/\∀b,b<w.heap.size->v.ownBlock≠D b->w'.heap[b]? =w.heap[b]?)\/(fh.ownBlock=D w.heap.size/\∀b,b<w.heap.size->w'.heap[b]? =w.heap[b]?)):=by
 obtain⟨i,ju,Bc,ub,Bd⟩:∃i,av.info? e=D i/\i.zero=D z/\i.size=k/\i.bytes=bytes:=by
  cases ar:av.info? e with
  |none=>rw[ar]at ao;cases ao
  |some i=>rw[ar]at ao;simp only[lV,hX,Prod.mk.injEq]at ao;exact⟨i,rfl,ao.1,ao.2.1,ao.2.2⟩
 have pz:n+m<=maxLen:=by unfold maxLen;omega
 have pr:∀u∈news,u.oneCell'=ah:=λu hu=>by rw[<-aeN];exact h1 u hu
 obtain⟨fh,w',aM,a1,b2,_,wM⟩:=run_append_own_at (P:=av) (ty:=ty) w 0 t e i z k bytes ai ju Bc ub Bd bj au v n xs h a m c news aK a_ pr pz qc (gx _);refine⟨fh,w',aM,a1,b2.os,b2.tape,b2.output,b2.size,?_⟩;by_cases a5:fh.ownBlock=v.ownBlock
 ·exact .inl ⟨a5,λb aB e5=>b2.block b aB (λe=>e5 e.symm)⟩
 ·have bk:fh.ownBlock=D w.heap.size:=by rcases wM with h|h;exact absurd h a5;exact h
  refine .inr ⟨bk,λb aB=>?_⟩;rcases h.2 with⟨rfl,rfl⟩|⟨q,cap,h5,rfl,aE,ae7,N6,VG,e9,wI⟩
  ·exact b2.block b aB (λe=>by cases e)
  ·by_cases VH:n+m<=cap
   ·have lX:n*i.size+news.length<=h5.size:=by rw[aK,e9,ub,<-jD];exact oE _ VH
    have mU:=run_append_room (P:=av) w t ty e i ai ju q n cap h5 ae7 a m c news (by rw[ub];exact aK) a_ pr VH lX;rw[aM]at mU;cases mU;exact absurd rfl a5
   ·have holds:∀j u,xs[j]? =D u->w.cell? ((⟨q,0,aF⟩:sN).add j)=D u:=World.ownsRow.cells (g:=q) h rfl;have mU:=run_append_grow (P:=av) w t ty e i z ai ju Bc ⟨q,0,aF⟩ n cap xs (by rw[ub];exact h.1) holds a m c news (by rw[ub];exact aK) a_ (by omega) (by omega) (growslice_fits (by omega) (by rw[Bd];exact qc));rw[aM]at mU;cases mU;exact heap_alloc_old w.drew _ b aB
theorem ownsRow.dI{w:bb}{T k n:Nat}{v:a4}{us:List a4}{E:Nat->Nat}{cs:List P}(h:w.ownsRow 0 T k v n us)(aP:e_ E w cs us)(aS:∀b,v.ownBlock=D b->E b=n*k):hL E w (.dI k n cs) v:=by
 have aK:=aP.1;rw[h.1]at aK;rcases h.2 with⟨rfl,rfl⟩|⟨q,cap,h5,rfl,_,b2,N6,_,e9,wI⟩
 ·have:cs=[]:=nl (by simpa using aK);subst this;exact .nil
 ·have e:=aS q rfl;refine aP.dI aK N6 (by omega) (nY.1 b2).1 λj u ae=>?_;rw[hD];unfold p8;simp only[b2];have jW:=(cz.1 ae).1;rw[<-wI,kx]at ae;split at ae
  ·simpa using ae
  ·cases ae
variable {T i:Nat}
theorem b'.ae8{g:b_} {w':bb}{H:List aG} {kC:Nat}{fh:a4}(h:gm g w H)(ao:H[i]? =D (.bl T k m))(a1:w.ownsRow 0 T k (g.h i) n xs)(rS:w'.ownsRow 0 T k fh kC (xs++news))(sT:n<=kC)
  (t':w'.os=w.os) (Ef:w'.tape=w.tape) (Eg:w'.output=w.output) (ff:w.heap.size<=w'.heap.size)
  (wM:(fh.ownBlock=(g.h i).ownBlock/\∀b,b<w.heap.size->(g.h i).ownBlock≠D b->w'.heap[b]? =w.heap[b]?)\/(fh.ownBlock=D w.heap.size/\∀b,b<w.heap.size->w'.heap[b]? =w.heap[b]?)):
  b' w g H ⟨g.β,(match fh.ownBlock with|some b=>dD g.E b (kC*k)|none=>g.E),dD g.h i fh⟩ w' (H.set i (.bl T k (m+1)))/\∀b,fh.ownBlock=D b->(match fh.ownBlock with|some b=>dD g.E b (kC*k)|none=>g.E) b=kC*k:=by
 have dN:=(cz.1 ao).1;have ej:∀b,own g H i b↔(g.h i).ownBlock=D b:=λb=>by unfold own;rw[ao];exact Iff.rfl
 obtain⟨fX,us,oI,q0⟩:=h.ec i _ ao;have Ei:∀b,(g.h i).ownBlock=D b->fX=n:=λb aB=>by
  rcases a1.2 with⟨e,_⟩|⟨q,cap,h5,e,_⟩
  ·rw[e]at aB;cases aB
  ·rcases oI.2 with⟨hd,_⟩|⟨fs,N7,N8,hd,_⟩
   ·rw[e]at hd;cases hd
   ·rw[e]at hd;cases hd;rfl
 have VI:∀b,(g.h i).ownBlock=D b->g.E b=n*k:=λb aB=>by rw[q0 b aB,Ei b aB]
 have ic:∀b,fh.ownBlock=D b->(match fh.ownBlock with|some b=>dD g.E b (kC*k)|none=>g.E) b=kC*k:=λb aB=>by rw[aB];exact fB _ _ _
 have oJ:∀b,fh.ownBlock≠D b->(match fh.ownBlock with|some b=>dD g.E b (kC*k)|none=>g.E) b=g.E b:=λb aB=>by
  cases e:fh.ownBlock with
  |none=>rfl
  |some q=>exact ki λh=>aB (by rw[e,h])
 refine⟨b'.one h dN t' Ef Eg ff (λb aK a_=>?_) (λb o aB cf=>?_) (λb aB=>?_) (λj ae=>⟨rfl,ki ae⟩) (λaK=>by rw[ao]at aK;exact aK.elim) (λm' hm=>?_) (λb aB=>?_) (λdO=>?_),ic⟩
 ·have ld:(g.h i).ownBlock≠D b:=λe=>a_ ((ej b).2 e);rcases wM with⟨e,au⟩|⟨e,au⟩
  ·exact⟨au b aK ld,oJ b (by rw[e];exact ld)⟩
  ·exact⟨au b aK,oJ b (by rw[e];intro bk;cases bk;omega)⟩
 ·have aB:=(ej b).1 aB;replace cf:o<n*k:=by rw[<-VI b aB];exact cf
  rcases wM with⟨e,au⟩|⟨e,au⟩
  ·rcases a1.2 with⟨a5,_⟩|⟨q,cap,h5,a5,_,b2,_,_,_,wI⟩
   ·rw[a5]at aB;cases aB
   ·rw[a5]at aB e;cases aB;rcases rS.2 with⟨bk,_⟩|⟨fs,N7,N8,bk,_,wN,_,_,_,ae9⟩
    ·rw[bk]at e;cases e
    ·rw[bk]at e;cases e;unfold p8;simp only[b2,wN];have h1:h5.toList[o]? =xs[o]? :=by rw[<-wI,kx,if_pos cf]
     have h2:N8.toList[o]? =(xs++news)[o]? :=by rw[<-ae9,kx,if_pos (sR cf (oE _ sT))]
     rw[sP (by rw[a1.1];exact cf)]at h2;simpa using h2.trans h1.symm
  ·exact D4 (au b (vi h ((ej b).2 aB)))
 ·have aB:=(ej b).1 aB;by_cases e:fh.ownBlock=D b
  ·show g.E b<=(match fh.ownBlock with|some b=>dD g.E b (kC*k)|none=>g.E) b;rw[ic b e,VI b aB];exact oE _ sT
  ·exact HT (oJ b e).symm
 ·rw[ao]at hm;cases hm;exact⟨_,rfl,Nat.le_succ _,λe=>by omega⟩
 ·have aB:(dD g.h i fh i).ownBlock=D b:=aB;rw[fB]at aB;rcases wM with⟨e,au⟩|⟨e,au⟩
  ·exact .inl ((ej b).2 (by rw[<-e];exact aB))
  ·rw[e]at aB;cases aB;exact .inr (b5 _)
 ·refine⟨kC,xs++news,?_,λb aB=>?_⟩
  ·show w'.ownsRow 0 T k (dD g.h i fh i) kC _;rw[fB];exact rS
  ·have aB:(dD g.h i fh i).ownBlock=D b:=aB;rw[fB]at aB;exact ic b aB
theorem b'.afa{g:b_}{H:List aG}(h:gm g w H)(ao:H[i]? =D .bW)(aK:us.length=n*k)(hm:n<=maxLen):
  b' w g H ⟨g.β,dD g.E w.heap.size (n*k),dD g.h i (.slice (D ⟨w.heap.size,0,aF⟩) n n)⟩ (w.alloc (.cells us.toArray T)) (H.set i (.bl T k 0)):=by
 have dN:=(cz.1 ao).1;have aB:=yJ w (.cells us.toArray T);have df:∀b,¬own g H i b:=λb a1=>by unfold own at a1;rw[ao]at a1;exact a1
 refine b'.one h dN aB.os aB.tape aB.output aB.size (λb aK _=>⟨aB.block b aK,ki (by omega)⟩) (λb _ a1=>absurd a1 (df b)) (λb a1=>absurd a1 (df b)) (λj ae=>⟨rfl,ki ae⟩) (λaK=>by rw[ao]at aK;exact aK.elim)
  (λm hm=>by rw[ao]at hm;cases hm) (λb a1=>?_) (λdO=>?_)
 ·have e:(dD g.h i (.slice (D ⟨w.heap.size,0,aF⟩) n n) i).ownBlock=D b:=a1;rw[fB]at e;cases e;exact .inr (b5 _)
 ·refine⟨n,us,?_,λb aB=>?_⟩
  ·show NP _ 0 T k (dD g.h i _ i) n us;rw[fB];exact⟨aK,.inr ⟨w.heap.size,n,_,rfl,gx _,yK w us T,b5 _,hm,by simpa using aK,by rw[fz (by simp[aK])]⟩⟩
  ·have e:(dD g.h i (.slice (D ⟨w.heap.size,0,aF⟩) n n) i).ownBlock=D b:=aB;rw[fB]at e;cases e;exact fB _ _ _
theorem b'.VJ{g:b_}{H:List aG}(h:gm g w H)(ao:H[i]? =D .bW):b' w g H ⟨g.β,g.E,dD g.h i (.slice aF 0 0)⟩ w (H.set i (.bl T k 0)):=by
 have dN:=(cz.1 ao).1;have df:∀b,¬own g H i b:=λb a1=>by unfold own at a1;rw[ao]at a1;exact a1
 refine b'.one h dN rfl rfl rfl (b5 _) (λb _ _=>⟨rfl,rfl⟩) (λb _ a1=>absurd a1 (df b)) (λb a1=>absurd a1 (df b)) (λj ae=>⟨rfl,ki ae⟩) (λaK=>by rw[ao]at aK;exact aK.elim)
  (λm hm=>by rw[ao]at hm;cases hm) (λb a1=>?_) (λdO=>?_)
 ·have e:(dD g.h i (.slice aF 0 0) i).ownBlock=D b:=a1;rw[fB]at e;cases e
 ·refine⟨0,[],?_,λb aB=>?_⟩
  ·show NP _ 0 T k (dD g.h i _ i) 0 [];rw[fB];exact⟨by simp,.inl ⟨rfl,rfl⟩⟩
  ·have e:(dD g.h i (.slice aF 0 0) i).ownBlock=D b:=aB;rw[fB]at e;cases e
end Go.Dp

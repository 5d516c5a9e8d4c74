/- The step rules that all walks of these texts use: frames as lists of known slots, one rule for each form of code and for each kind of operation. Plain lemmas over any program; nothing of one program stands here. -/
import Derived.CallsIn
import Derived.OrdersIn
import Derived.RangeFuncLeaves
import Derived.RangeFuncOwn
import Derived.Deep.Quiet
import Derived.WalkKit
import Derived.RangeFuncNested
import GoSem.Core.Value
import Derived.Maps.AppendAt
set_option linter.all false
namespace Go.Mi
open Go Go.RowKit
open _root_.Array renaming getElem?_eq_some_iff->n_,getD_eq_getD_getElem?->qc,length_toList->Cx,range->SM
open Bool renaming true->ad,false->aS,false_eq_true->ge
open Go renaming Value->be,World->bj,Program->cF,TypeId->co,Oper->b_,Operand->bY,Exit->df,Act->di,FuncId->hE,Addr->wa,ResultVar->sF,Ending->wb,Deferred->oH,Calls->E8,IntKind->ip,store->SN
open Go.Instr renaming fill->n',buildSlice->SO
open Go.Op renaming operands->dw,intCmp->Cy
open Go.Region renaming binds->tP
open Go.Result renaming andThen->cp
open Go.Sem renaming run_bind->cq,run_pure->jp,run->yY
open Go.World renaming cell?_of_block->IF,cell?->rH,setCell->SP,ownsRow->SQ
open List renaming getElem?_eq_some_iff->cz,getElem?_eq_getElem->bN,length_cons->oa,getD_eq_getElem?_getD->sG,getElem?_take->kd,length_append->hW,getElem?_append_left->oI,getElem?_set_ne->Mw,getElem?_drop->sH,flatMap_cons->kp,length_drop->tQ,eq_nil_of_length_eq_zero->pr,take_of_length_le->g4,getElem?_set_self->E9,getElem?_eq_none->nD,getElem?_append->SR,getElem_range->E_,getElem?_map->gQ,append_assoc->xw,zipIdx_cons->SS,length_take->fF,drop->Mx,foldl_cons->SU,drop_drop->SV,length->sI,range->gD,getD->Cz
open Nat renaming lt_of_lt_of_le->wc,le_refl->bL,le_trans->gE,mul_le_mul_right->qX,add_mul->il,beq->eF,le_of_not_lt->My,add_assoc->mZ,zero_add->ib,le_of_eq->Mz,beq_refl->kq,add_zero->oJ,add_comm->tR,zero_le->fR,ble->fb
open Option renaming some->I,none->aJ,map_eq_some_iff->E',map_some->nE
open Option.some renaming injEq->je
theorem dd:(∀(p:Prop)[Decidable p],(decide p=ad)=p)/\(∀(p:Prop)[Decidable p],(decide p=aS)=¬p)/\(∀b:Bool,((!b)=ad)=(b=aS))/\(∀b:Bool,((!b)=aS)=(b=ad))/\
  (∀a b:Bool,((a||b)=ad)=(a=ad\/b=ad))/\(∀a b:Bool,((a&&b)=ad)=(a=ad/\b=ad))/\(∀a b:Bool,((a||b)=aS)=(a=aS/\b=aS))/\(∀a b:Bool,((a&&b)=aS)=(a=ad->b=aS))/\
  (∀a b:Int,(¬a<b)=(b<=a))/\(∀a b:Int,(¬a<=b)=(b<a)):=
 ⟨λ_ _=>decide_eq_true_eq,λ_ _=>by simp,λ_=>by simp,λ_=>by simp,λ_ _=>by simp,λ_ _=>by simp,λ_ _=>by simp,λ_ _=>by simp,λ_ _=>by simp,λ_ _=>by simp⟩
abbrev iV:=List (Nat×be)
def sJ:iV->Nat->Option be
 |[],_=>aJ
 |(d,v)::l,t=>cond (eF d t) (I v) (sJ l t)
def bB(l:iV):bY->Option be
 |.tmp t=>sJ l t
 |.const v=>I v
 |.global g=>I (.pointer (I ⟨g,0,aJ⟩))
 |.func f=>I (.func (.func f) #[] #[])
def nF(l:iV):List bY->Option (List be)
 |[]=>I []
 |x::xs=>match bB l x,nF l xs with
  |some v,I vs=>I (v::vs)
  |_,_=>aJ
abbrev jT(r:Option Nat):Fence:={fn:=λ_=>True,depth:=aJ,alive:=aS,round:=r}
structure jU where
 r:Option Nat
 P:cF
 N:Nat
 ds:List oH
def D(X:jU)(l:iV)(a:di):Prop:=a.defers=X.ds/\a.tmps.size=X.N/\∀t v,sJ l t=I v->a.tmps[t]? =I v
theorem D.bB{X:jU}{l:iV}{a:di}(h:D X l a){x:bY}{v:be}(bp:bB l x=I v):a.eval x=v:=by
 cases x with
 |tmp t=>have:=h.2.2 t v bp;simp[Act.eval,qc,this]
 |const u=>simpa[Mi.bB,Act.eval]using bp
 |global g=>simpa[Mi.bB,Act.eval]using bp
 |func f=>simpa[Mi.bB,Act.eval]using bp
theorem D.nF{X:jU}{l:iV}{a:di}(h:D X l a):∀{xs:List bY}{vs:List be},nF l xs=I vs->xs.map a.eval=vs:=by
 intro xs;induction xs with
 |nil=>intro vs bp;simp[Mi.nF]at bp;simp[<-bp]
 |cons x xs bx=>
  intro vs bp;simp only[Mi.nF]at bp;split at bp
  ·rename_i v us ak SW;cases bp;simp[h.bB ak,bx SW]
  ·cases bp
theorem tS{d t:Nat}(e:¬d=t):eF d t=aS:=by
 cases aF:eF d t with
 |false=>rfl
 |true=>exact absurd (Nat.eq_of_beq_eq_true aF) e
def CA(l l':iV):Prop:=∀t v,sJ l' t=I v->sJ l t=I v
theorem CA.nil{l:iV}:CA l []:=λt v h=>by simp[sJ]at h
theorem CA.cons{l l':iV}{t:Nat}{v:be}(h:sJ l t=I v)(aQ:CA l l'):CA l ((t,v)::l'):=λs u hu=>by
 simp only[sJ]at hu;by_cases e:t=s
 ·subst e;rw[show eF t t=ad from kq t]at hu;simp only[cond_true,je]at hu;rw[<-hu];exact h
 ·rw[tS e]at hu;exact aQ s u hu
def W(X:jU)(c:Code)(Q:df->di->bj->Prop)(l:iV)(w:bj):Prop:=∀a,D X l a->c.wpIn (jT X.r) 0 X.P Q a w
section
variable {X : jU} {Q : df -> di -> bj -> Prop} {l : iV} {w : bj}
def tT(X:jU)(y:Code)(Q:df->di->bj->Prop):df->di->bj->Prop:=Exit.then (λa w=>y.wpIn (jT X.r) 0 X.P Q a w) Q
theorem lU{p:Nat->Prop}(h:∃n,p n):∃n,p n/\∀m,p m->n<=m:=by
 obtain⟨n,a6⟩:=h;induction n using Nat.strongRecOn with
 |_ n bx=>
  by_cases hm:∃m,m<n/\p m
  ·obtain⟨m,b',hp⟩:=hm;exact bx m b' hp
  ·exact⟨n,a6,λm hp=>My λb'=>hm ⟨m,b',hp⟩⟩
end
def m0(X:jU)(ops:Array b_)(Q:df->di->bj->Prop):List b_->di->bj->Prop
 |[],a,w=>Q .normal a w
 |o::rest,a,w=>if Region.wanted o (yielded ops a.tmps)then o.wpIn (jT X.r) 0 X.P a w (m0 X ops Q rest) Q else m0 X ops Q rest (a.put o.dst undef) w
theorem SX{X:jU}{ops:Array b_}{Q:df->di->bj->Prop}:∀(rest:List b_)(k:Nat)(a:di)(w:bj),(∀j,rest[j]? =ops[k+j]?)->
  m0 X ops Q rest a w->wpOpsIn (jT X.r) 0 X.P ops Q (List.range' k rest.length) a w
 |[],k,a,w,_,h=>h
 |o::rest,k,a,w,aO,h=>by
  have bh:ops[k]? =I o:=by simpa using(aO 0).symm
  have ZV:∀j,rest[j]? =ops[k+1+j]? :=λj=>by have:=aO (j+1);simpa[mZ,tR 1 j]using this
  simp only[oa,List.range'_succ,wpOpsIn,bh];simp only[m0]at h;split
  ·rename_i hw;simp only[hw,if_true]at h;exact Oper.wpIn_mono (λfo w' cr=>SX rest (k+1) fo w' ZV cr) h
  ·rename_i hw;simp only[hw]at h;exact⟨λ_ _=>trivial,SX rest (k+1) _ w ZV h⟩
section
variable {X : jU} {Q : df -> di -> bj -> Prop} {l : iV} {w w' : bj} {ops : Array b_} {rest : List b_}
variable {n:Next}{o:b_}{ρ:bY->be}
theorem aiV{P:cF}{w w':bj}(h:(execOp ρ o).run P w=.ok n w')(a6:∀d,n≠ .defer d):∀c,o.op≠ .defer c:=by
 intro c ax;unfold execOp at h;rw[ax]at h;simp only[cq]at h;cases aO:(resolve ρ c o.type).run P w with
 |ok d iK=>rw[aO]at h;simp only[cp,jp]at h;cases h;exact a6 d rfl
 |halt x iK=>rw[aO]at h;simp only[cp]at h;cases h
theorem uY{P:cF}{w w':bj}{r:Option Nat}(h:(execOp ρ o).run P w=.ok n w')(a6:∀d,n≠ .defer d):(o.semAt r ρ).run P w=.ok n w':=by rw[Oper.semAt_eq r ρ o (aiV h a6)];exact h
end
section
variable {P : cF} {l : iV} {w : bj} {ty : co}
variable {T:co}{op:BinOp}{x y:bY}
theorem rI{k cV:ip}{a b:Int}(w:bj):(eqGuard op T x y (.int k a) (.int cV b)).run P w=.ok () w:=by unfold eqGuard;cases op<;>simp[jp]
theorem SY{a b:ByteArray}(w:bj):(eqGuard op T x y (.string a) (.string b)).run P w=.ok () w:=by unfold eqGuard;cases op<;>simp[jp]
section
variable {T cf : co} {x y : bY} {k : ip} {a b : Int}
end
end
theorem ZW{w:bj}{p:wa}{v:be}(h:w.cell? p=I v):p.block<w.heap.size:=by
 unfold rH at h;split at h
 ·rename_i aF;exact(n_.1 aF).1
 ·cases h
def tU(w:bj)(b o:Nat)(vs:List be):Prop:=∀i,i<vs.length->w.cell? ⟨b,o+i,aJ⟩=vs[i]?
theorem tU.lt{w:bj}{b o:Nat}{vs:List be}(h:tU w b o vs)(a6:0<vs.length):b<w.heap.size:=by have:=h 0 a6;rw[bN a6]at this;exact ZW this
theorem rJ(b o n:Nat):(⟨b,o,aJ⟩:wa).add n=⟨b,o+n,aJ⟩:=by
 unfold Addr.add;split
 ·rename_i h;subst h;rfl
 ·rfl
section
variable {P : cF} {l : iV} {w : bj} {ty : co}
theorem Fa{T:co}{p:wa}{v:be}(cw:∀w,(isAgg T).run P w=.ok aS w)(ax:w.cell? p=I v):(loadVar T p).run P w=.ok v w:=by unfold loadVar;simp[cq,cw,cp,Go.load,yY,ax]
theorem SZ{b o:Nat}:∀(n i:Nat)(acc:Array be)(vs:List be),(∀j,j<n->w.cell? ⟨b,o+(i+j),aJ⟩=vs[j]?)->vs.length=n->
  (loadCellsFrom ⟨b,o,aJ⟩ i n acc).run P w=.ok (acc++vs.toArray) w
 |0,i,acc,vs,_,aC=>by have:vs=[]:=List.length_eq_zero_iff.1 aC;subst this;simp[loadCellsFrom]
 |n+1,i,acc,vs,ax,aC=>by
  match vs,aC with
  |v::vs,aC=>have bh:=ax 0 (by omega);have aO:=SZ n (i+1) (acc.push v) vs (λj ag=>by have:=ax (j+1) (by omega);simpa[mZ,tR 1 j]using this) (by simpa using aC);unfold loadCellsFrom;simp only[cq,Go.load,rJ];simp only[oJ,List.getElem?_cons_zero]at bh;simp only[yY,bh,cp,aO];simp
theorem MA{T n:Nat}{b o:Nat}{vs:List be}(cw:∀w,(isAgg T).run P w=.ok ad w)(a6:∀w,(sizeOf T).run P w=.ok n w)(ax:tU w b o vs)(aC:vs.length=n):
  (loadVar T ⟨b,o,aJ⟩).run P w=.ok (.agg vs.toArray) w:=by
 unfold loadVar;have:=SZ (P:=P) (w:=w) (b:=b) (o:=o) n 0 #[] vs (λj ag=>by simpa using ax j (by omega)) aC;simp[cq,cw,a6,cp,loadCells,this]
end
def qY:be->Nat| .slice (I a) _ _=>a.block|_=>0
def S0:be->Nat| .slice (I a) _ _=>a.off|_=>0
def ZX:be->Nat| .slice _ _ c=>c|_=>0
structure IG{α:Type}(w:bj)(v:be)(k:Nat)(enc:α->List be)(xs:List α):Prop where
 shape:(v=.slice aJ 0 0/\xs=[])\/(v=.slice (I ⟨qY v,S0 v,aJ⟩) xs.length (ZX v)/\xs.length<=ZX v)
 cells:∀i x,xs[i]? =I x->tU w (qY v) (S0 v+i*k) (enc x)
 pos:∀x,0<(enc x).length
section
variable {α : Type} {w w' : bj} {v : be} {k : Nat} {enc : α -> List be} {xs : List α}
theorem IG.nil(hp:∀x,0<(enc x).length):IG w (.slice aJ 0 0) k enc []:=⟨.inl ⟨rfl,rfl⟩,λi x hi=>by simp at hi,hp⟩
theorem IG.lt(h:IG w v k enc xs)(a6:0<xs.length):qY v<w.heap.size:=
 (h.cells 0 _ (bN a6)).lt (h.pos _)
variable {P : cF} {l : iV} {ty : co}
end
structure ob(S:Nat->Prop)(w w':bj):Prop where
 os:w'.os=w.os
 tape:w'.tape=w.tape
 output:w'.output=w.output
 size:w.heap.size<=w'.heap.size
 block:∀k,k<w.heap.size->¬S k->w'.heap[k]? =w.heap[k]?
theorem ob.refl(S:Nat->Prop)(w:bj):ob S w w:=⟨rfl,rfl,rfl,bL _,λ_ _ _=>rfl⟩
theorem ob.trans{S:Nat->Prop}{a b c:bj}(h:ob S a b)(k:ob S b c):ob S a c:=
 ⟨k.os.trans h.os,k.tape.trans h.tape,k.output.trans h.output,gE h.size k.size,λi hi fG=>(k.block i (wc hi h.size) fG).trans (h.block i hi fG)⟩
variable {w:bj}
theorem ob.mono{S T:Nat->Prop} {w':bj}(h:ob S w w')(aiW:∀k,k<w.heap.size->S k->T k):ob T w w':=
 ⟨h.os,h.tape,h.output,h.size,λk ap cw=>h.block k ap λfG=>cw (aiW k ap fG)⟩
theorem ob.cell{S:Nat->Prop}{w w':bj}(h:ob S w w'){p:wa}{v:be}(ax:w.cell? p=I v)(a6:¬S p.block):w'.cell? p=I v:=by rw[<-ax];exact IF (w:=w) (h.block p.block (ZW ax) a6)
def lV(w:bj)(b:Nat)(cs:List be)(T:co):Prop:=w.heap[b]? =I (.cells cs.toArray T (0,0))
variable {T:co}{b:Nat}{cs:List be}
theorem lV.lt(h:lV w b cs T):b<w.heap.size:=(n_.1 h).1
theorem lV.cell{w:bj}{b o:Nat}{cs:List be}{T:co}(h:lV w b cs T):w.cell? ⟨b,o,aJ⟩=cs[o]? :=by unfold rH;rw[h];simp
theorem lV.cells {o:Nat} {vs:List be}(h:lV w b cs T)(bp:(cs.drop o).take vs.length=vs):tU w b o vs:=λi hi=>by rw[h.cell,<-bp];have:i<vs.length:=hi;simp[kd,this,sH]
section
variable {P : cF} {l : iV} {w : bj} {ty : co}
end
theorem CB(w:bj)(o:Obj):Below w.heap.size w (w.alloc o):=(Below.refl _ _).alloc (bL _) _
theorem CC(w:bj)(cs:List be)(T:co):lV (w.alloc (.cells cs.toArray T)) w.heap.size cs T:=by show(w.heap.push _)[w.heap.size]? =_;simp
def ZY(P:cF)(f:hE)(args:Array be)(w:bj)(v:be):Prop:=E8 P f args w λe w'=>e=.returned v/\Below w.heap.size w w'
def Fn(P:cF)(f:hE)(args:Array be)(w:bj)(R:be->bj->Prop):Prop:=E8 P f args w λe w'=>∃v,e=.returned v/\Below w.heap.size w w'/\R v w'
theorem Fn.mono{P:cF}{f:hE}{args:Array be}{w:bj}{R lw:be->bj->Prop}(h:Fn P f args w R)(aO:∀v w',Below w.heap.size w w'->R v w'->lw v w'):Fn P f args w lw:=
 Calls.mono h λe w' ⟨v,he,aF,aK⟩=>⟨v,he,aF,aO v w' aF aK⟩
theorem ZZ{P:cF}{r:Option Nat}{n:Nat}{f:hE}{args:Array be}{w:bj}{R:wb->bj->Prop}(h:E8 P f args w R):CallsIn (jT r) n P f args w R:=
 (callsIn_wide (n:=n)).2 h
section
variable {X : jU} {Q : df -> di -> bj -> Prop} {l : iV} {w w' : bj} {ops : Array b_} {rest : List b_}
end
section
variable {P : cF} {N : Nat} {l : iV} {w : bj} {fn : Func} {R : wb -> bj -> Prop} {e : df}
def Exit.m1:df->Bool| .normal=>ad| .ret=>ad|_=>aS
end
section
variable {X : jU} {Q : df -> di -> bj -> Prop} {l : iV} {w w' : bj} {ops : Array b_} {rest : List b_}
variable {K : di -> Prop}
end
theorem ZY.fn{P:cF}{f:hE}{args:Array be}{w:bj}{v:be}(h:ZY P f args w v):Fn P f args w (λu _=>u=v):=Calls.mono h λe w' ⟨he,aF⟩=>⟨v,he,aF,rfl⟩
section
variable {X : jU} {Q : df -> di -> bj -> Prop} {l : iV} {w w' : bj} {ops : Array b_} {rest : List b_}
theorem aiX(w:bj)(p:wa)(v:be):ob (· =p.block) w (w.setCell p v):=
 ⟨rfl,rfl,rfl,by simp[SP],λk _ ap=>Below.heap_setCell _ _ _ _ ap⟩
def oK:be->Bool
 |.agg _| .tuple _=>aS
 |_=>ad
def oc:List be->Nat->List be->List be
 |cs,_,[]=>cs
 |cs,o,v::vs=>oc (cs.set o v) (o+1) vs
theorem lV.setCell{w:bj}{b o:Nat}{cs:List be}{T:co}{v:be}(h:lV w b cs T):lV (w.setCell ⟨b,o,aJ⟩ v) b (cs.set o v) T:=by unfold lV at*;simp only[SP,Array.getElem?_modify,if_true,h,nE];simp
theorem lV.frozen{w:bj}{b o:Nat}{cs:List be}{T:co}(h:lV w b cs T):w.frozen? ⟨b,o,aJ⟩=aS:=by unfold World.frozen?;rw[h];simp
theorem Fb{P:cF}{b:Nat}{T:co}{o:Nat}:∀(vs:List be)(i:Nat)(cs:List be)(w:bj),lV w b cs T->(∀v∈vs,oK v=ad)->o+i+vs.length<=cs.length->
  ∃w',(storeCells ⟨b,o,aJ⟩ vs i).run P w=.ok () w'/\ob (· =b) w w'/\lV w' b (oc cs (o+i) vs) T
 |[],i,cs,w,eO,_,_=>⟨w,by simp[storeCells],ob.refl _ _,eO⟩
 |v::vs,i,cs,w,eO,rK,hle=>by
  simp only[oa]at hle;have bp:=rK v (by simp);have ax:w.cell? ⟨b,o+i,aJ⟩=I cs[o+i]:=by rw[eO.cell];exact bN (by omega)
  obtain⟨w',h1,h2,ay⟩:=Fb (P:=P) (o:=o) vs (i+1) (cs.set (o+i) v) (w.setCell ⟨b,o+i,aJ⟩ v) eO.setCell (λu hu=>rK u (by simp[hu])) (by simp;omega);refine⟨w',?_,(aiX w ⟨b,o+i,aJ⟩ v).trans h2,ay⟩;have cS:(SN ⟨b,o+i,aJ⟩ v).run P w=.ok () (w.setCell ⟨b,o+i,aJ⟩ v):=by cases v<;>simp[oK]at bp<;>simp[SN,yY,ax,eO.frozen]
  unfold storeCells;simp only[cq,rJ,cS,cp,h1]
end
theorem Z0:∀(vs cs:List be)(o:Nat),o+vs.length<=cs.length->oc cs o vs=cs.take o++vs++cs.drop (o+vs.length)
 |[],cs,o,_=>by simp[oc]
 |v::vs,cs,o,h=>by
  simp only[oa]at h;simp only[oc];rw[Z0 vs _ _ (by simp;omega)];have h1:(cs.set o v).take (o+1)=cs.take o++[v]:=by rw[List.take_succ_eq_append_getElem (by simp;omega)];simp[List.take_set_of_le]
  have h2:(cs.set o v).drop (o+1+vs.length)=cs.drop (o+1+vs.length):=by rw[List.drop_set_of_lt (by omega)]
  rw[h1,h2,oa,show o+(vs.length+1)=o+1+vs.length by omega];simp
section
variable {X : jU} {Q : df -> di -> bj -> Prop} {l : iV} {w w' : bj} {ops : Array b_} {rest : List b_}
end
theorem tU.cell{w:bj}{b o:Nat}{vs:List be}{v:be}(h:tU w b o vs)(i:Nat)(bp:vs[i]? =I v):w.cell? ⟨b,o+i,aJ⟩=I v:=by rw[h i (cz.1 bp).1,bp]
theorem tU.drop{w:bj}{b o:Nat}{vs:List be}(h:tU w b o vs)(n:Nat):tU w b (o+n) (vs.drop n):=λi hi=>by simp only[tQ]at hi;rw[mZ,h (n+i) (by omega),sH]
section
variable {α : Type} {X : jU} {Q : df -> di -> bj -> Prop} {l : iV} {w w' : bj} {ops : Array b_} {rest : List b_} {v : be} {k : Nat} {enc : α -> List be} {xs : List α} {K : di -> Prop}
variable {P : cF} {ty : co}
theorem MB{v:be}(h:oK v=ad):v.cells=#[v]:=by cases v<;>simp[oK]at h<;>rfl
end
section
variable {P : cF} {N : Nat} {l : iV} {w : bj} {fn : Func} {R : wb -> bj -> Prop} {e : df}
inductive cN (P:cF) (l:iV) (w:bj):sF->be->Prop
 |tmp {t:Nat} {v:be} (h:sJ l t=I v):cN P l w (.tmp t) v
 |load {t T:Nat} {p:wa} {v:be} (h:sJ l t=I (.pointer (I p))) (aC:(loadVar T p).run P w=.ok v w):cN P l w (.cell t T) v
theorem cN.cell{t T c8 b o:Nat}{cs:List be}{v:be}(h:sJ l t=I (.pointer (I ⟨b,o,aJ⟩)))(eO:lV w b cs c8)(cw:∀w,(isAgg T).run P w=.ok aS w)(bp:cs[o]? =I v):cN P l w (.cell t T) v:=
 .load h (Fa cw (eO.cell.trans bp))
theorem cN.CD{t T c8 b o n:Nat}{cs vs:List be}(h:sJ l t=I (.pointer (I ⟨b,o,aJ⟩)))(eO:lV w b cs c8)(cw:∀w,(isAgg T).run P w=.ok ad w)(a6:∀w,(sizeOf T).run P w=.ok n w)
  (bp:(cs.drop o).take n=vs) (aC:vs.length=n):cN P l w (.cell t T) (.agg vs.toArray):=
 .load h (MA cw a6 (eO.cells (by rw[aC];exact bp)) aC)
def Am(a:di):sF->Sem be
 |.tmp t=>pure (a.tmps.getD t undef)
 |.cell c t=>do loadVar t (<-asAddr (a.tmps.getD c undef))
theorem cN.run{r:sF}{v:be}{a:di}{X:jU}(h:cN P l w r v)(a4:D X l a):(Am a r).run P w=.ok v w:=by
 cases h with
 |tmp h=>simp[Am,qc,a4.2.2 _ _ h]
 |load h aC=>simp[Am,qc,a4.2.2 _ _ h,asAddr,cq,cp,aC]
theorem S1(fn:Func)(a:di):results fn a.tmps=(do let vs<-fn.results.mapM (Am a);pure (if h:vs.size=1 then vs[0]else .tuple vs):Sem be):=by unfold results;congr 1
end
structure IH where
 fr:Bool
 azw:List Nat
 R:be->bj->Nat->Nat->Prop
def Z1(P:cF)(o:b_)(l:iV)(w:bj)(rL:be->bj->Prop):Prop:=
 ∀(X:jU)(a:di),X.P=P->D X l a->(∃v w',(execOp a.eval o).run P w=.ok (.value v) w'/\Below w.heap.size w w'/\rL v w')\/(∃f vs,(execOp a.eval o).run P w=.ok (.enter f vs) w/\Fn P f vs w rL)
def II(P:cF)(os:List b_)(aQ:List IH)(w:bj)(o:b_)(R:be->bj->Nat->Nat->Prop):List Nat->iV->Prop
 |[],l=>Z1 P o l w (λv w'=>R v w' w.heap.size w'.heap.size)
 |e::es,l=>match aQ[e]?,(os[e]?).bind (·.dst)with
  |some h,I d=>∀v lo hi,hi<=w.heap.size->h.R v w lo hi->II P os aQ w o R es ((d,v)::l)
  |_,_=>False
def aiY(o:b_)(j:Nat):Bool:=o.after.any λe=>tP .any e&&eF e.on j
def MC(o:b_)(i:Nat):Bool:=o.after.all λe=> !Region.binds .any e||Nat.blt e.on i
section
variable {X : jU} {Q : df -> di -> bj -> Prop} {l : iV} {w w' : bj}
variable {i:Nat}{o:b_}
theorem aiZ(h:MC o i=ad):∀e∈o.after,tP .any e=ad->e.on<i:=λe he aF=>by unfold MC at h;rw[Array.all_eq_true_iff_forall_mem]at h;have:=h e he;simpa[aF,Nat.blt_eq]using this
theorem Z2:∀(L:List Bool)(i:Nat),L[i]? =I aS->(L.set i ad).count aS+1=L.count aS
 |[],i,h=>by simp at h
 |b::L,0,h=>by simp at h;subst h;simp
 |b::L,i+1,h=>by have:=Z2 L i (by simpa using h);simp only[List.set_cons_succ,List.count_cons];omega
variable {listed:Array Bool}
theorem ai0(h:listed.getD i ad=aS):listed.toList[i]? =I aS:=by
 rw[qc]at h;rw[Array.getElem?_toList];cases ak:listed[i]? with
 |none=>rw[ak]at h;simp at h
 |some b=>rw[ak]at h;simp at h;rw[h]
def MD(acc:List Nat)(o:b_):Nat:=o.after.toList.foldl (λs e=>if tP .any e then s ||| (1<<<e.on) ||| acc.getD e.on 0 else s) 0
def sK:List b_->List Nat->List Nat
 |[],acc=>acc
 |o::os,acc=>sK os (acc++[MD acc o])
def An(os:List b_)(listed:Array Bool):Prop:=∀i o,listed.getD i aS=ad->os[i]? =I o->∀e∈o.after,tP .any e=ad->listed.getD e.on aS=ad
variable {j:Nat}
theorem ai1{acc:List Nat}(h:(MD acc o).testBit j=ad):∃e∈o.after,tP .any e=ad/\(e.on=j\/(acc.getD e.on 0).testBit j=ad):=by
 unfold MD at h
 have key:∀(l:List Edge)(s:Nat),(l.foldl (λs e=>if tP .any e then s ||| (1<<<e.on) ||| acc.getD e.on 0 else s) s).testBit j=ad->
   s.testBit j=ad\/∃e∈l,tP .any e=ad/\(e.on=j\/(acc.getD e.on 0).testBit j=ad):=by
  intro l;induction l with
  |nil=>intro s h;exact .inl h
  |cons e l bx=>
   intro s h;simp only[SU]at h;rcases bx _ h with cr|⟨im,IJ,aF⟩
   ·by_cases aF:tP .any e=ad
    ·simp only[aF,if_true,Nat.testBit_or,Bool.or_eq_true]at cr;rcases cr with(cr|cr)|cr
     ·exact .inl cr
     ·refine .inr ⟨e,by simp,aF,.inl ?_⟩;rw[Nat.one_shiftLeft,Nat.testBit_two_pow]at cr;simpa using cr
     ·exact .inr ⟨e,by simp,aF,.inr cr⟩
    ·simp only[aF,ge,if_false]at cr;exact .inl cr
   ·exact .inr ⟨im,by simp[IJ],aF⟩
 rcases key _ _ h with h|⟨e,he,aF⟩
 ·simp at h
 ·exact⟨e,Array.mem_toList_iff.1 he,aF⟩
theorem Z3{os:List b_}{listed:Array Bool}(ax:An os listed):∀(rest:List b_)(acc:List Nat),os.drop acc.length=rest->
  (∀k o,k<acc.length->os[k]? =I o->(∀e∈o.after,tP .any e=ad->listed.getD e.on aS=ad)->∀j,(acc.getD k 0).testBit j=ad->listed.getD j aS=ad)->
  ∀k o,os[k]? =I o->(∀e∈o.after,tP .any e=ad->listed.getD e.on aS=ad)->∀j,((sK rest acc).getD k 0).testBit j=ad->listed.getD j aS=ad
 |[],acc,aO,ME=>λk o aU aG j ag=>by
  simp only[sK]at ag;by_cases ap:k<acc.length
  ·exact ME k o ap aU aG j ag
  ·simp[sG,nD (My ap)]at ag
 |x::rest,acc,aO,ME=>λk o aU aG j ag=>by
  simp only[sK]at ag;refine Z3 ax rest (acc++[MD acc x]) (by rw[hW,<-SV,aO];rfl) (λk o ap aU aG j ag=>?_) k o aU aG j ag;simp only[hW,oa,List.length_nil]at ap;by_cases sL:k<acc.length
  ·rw[sG,oI sL,<-sG]at ag;exact ME k o sL aU aG j ag
  ·have ai2:k=acc.length:=by omega
   subst ai2;have ak:os[acc.length]? =I x:=by have:=congrArg (·[0]?) aO;simpa using this
   rw[ak]at aU;cases aU;simp[sG]at ag;obtain⟨e,he,aF,kU⟩:=ai1 ag;have aC:=aG e he aF;rcases kU with rfl|kU
   ·exact aC
   ·by_cases Z4:e.on<acc.length
    ·obtain⟨MF,Z5⟩:∃MF,os[e.on]? =I MF:=by
      have h1:os.length=acc.length+(x::rest).length:=by have:=congrArg sI aO;simp only[tQ]at this;have:acc.length<os.length:=(cz.1 ak).1;simp only[oa]at*;omega
      exact⟨_,bN (by omega)⟩
     exact ME e.on MF Z4 Z5 (λim IJ mF=>ax e.on MF aC Z5 im IJ mF) j kU
    ·rw[sG,nD (My Z4)]at kU;simp at kU
def Fc(os:List b_)(k j:Nat):Bool:=((sK os []).getD k 0).testBit j
variable {os:List b_}
theorem S2 {k:Nat}(ax:An os listed)(aU:os[k]? =I o)(aG:∀e∈o.after,tP .any e=ad->listed.getD e.on aS=ad)(h:Fc os k j=ad):listed.getD j aS=ad:=
 Z3 ax os [] rfl (λk o ap=>by simp at ap) k o aU aG j h
theorem An.set(ax:An os listed)(aU:os[i]? =I o)(aG:∀e∈o.after,tP .any e=ad->listed.getD e.on aS=ad):An os (listed.setIfInBounds i ad):=λk x ap ak e he aF=>by
 by_cases MG:i=k
 ·subst MG;rw[aU]at ak;cases ak;exact getD_set_true (aG e he aF)
 ·rw[getD_set_ne aS MG]at ap;exact getD_set_true (ax k x ap ak e he aF)
structure azx(X:jU)(os:List b_)(aQ:List IH)(n:Nat)(h0:iV)(cK:bj)(listed:Array Bool)(a:di)(w:bj)(val:Nat->be)(lo hi:Nat->Nat):Prop where
 ok:D X h0 a
 below:Below cK.heap.size cK w
 azy:∀(i:Nat)(h:IH)(d:Nat),listed.getD i aS=ad->aQ[i]? =I h->(os[i]?).bind (·.dst)=I d->a.tmps[d]? =I (val i)/\h.R (val i) w (lo i) (hi i)/\cK.heap.size<=lo i/\lo i<=hi i/\hi i<=w.heap.size
 CE:∀i j,listed.getD i aS=ad->listed.getD j aS=ad->i≠j->hi i<=lo j\/hi j<=lo i
 azz:∀i,listed.getD i aS=ad->hi i<=w.heap.size
 azA:An os listed
def kH(os:List b_)(aQ:List IH)(n:Nat)(o:b_):Prop:=∃j want h d,o.guard=I (j,want)/\aQ[j]? =I h/\(os[j]?).bind (·.dst)=I d/\aiY o j=ad/\∀u w lo hi,h.R u w lo hi->u=.bool want
theorem II.run{os:List b_}{aQ:List IH}{w:bj}{o:b_}{R:be->bj->Nat->Nat->Prop}{a:di}{val:Nat->be}{lo hi:Nat->Nat}:∀{ds:List Nat}{l:iV},II X.P os aQ w o R ds l->D X l a->
  (∀e∈ds,∀h d,aQ[e]? =I h->(os[e]?).bind (·.dst)=I d->a.tmps[d]? =I (val e)/\h.R (val e) w (lo e) (hi e)/\hi e<=w.heap.size)->
  ∃l',D X l' a/\Z1 X.P o l' w (λv w'=>R v w' w.heap.size w'.heap.size)
 |[],l,h,kQ,_=>⟨l,kQ,h⟩
 |e::ds,l,h,kQ,aG=>by
  simp only[II]at h;split at h
  ·rename_i g d b5 ai3;obtain⟨h1,h2,ay⟩:=aG e (by simp) g d b5 ai3;refine II.run (h (val e) (lo e) (hi e) ay h2) ⟨kQ.1,kQ.2.1,λt v aj=>?_⟩ (λim IJ=>aG im (by simp[IJ]));simp only[sJ]at aj;by_cases q:d=t
   ·subst q;rw[show eF d d=ad from kq d]at aj;simp only[cond_true,je]at aj;rw[<-aj];exact h1
   ·rw[tS q]at aj;exact kQ.2.2 t v aj
  ·exact h.elim
end
section
variable {P : cF} {X : jU} {Q : df -> di -> bj -> Prop} {l : iV} {w w' : bj} {ops : Array b_} {rest : List b_} {ty : co}
end
structure azB(lo hi:Nat)(w w':bj):Prop where
 size:w.heap.size<=w'.heap.size
 block:∀k,lo<=k->k<hi->w'.heap[k]? =w.heap[k]?
section
variable {P : cF} {l : iV} {w : bj} {ty : co}
end
theorem ai4(v:be):oK v=v.oneCell':=by cases v<;>rfl
theorem Z6{α:Type}{enc:α->List be}{k:Nat}(ap:∀x,(enc x).length=k):∀(xs:List α)(i j:Nat)(x:α),xs[i]? =I x->j<k->(xs.flatMap enc)[i*k+j]? =(enc x)[j]?
 |[],i,j,x,h,_=>by simp at h
 |y::cO,0,j,x,h,ag=>by simp at h;subst h;simp only[Nat.zero_mul,ib,kp];rw[oI (by rw[ap];exact ag)]
 |y::cO,i+1,j,x,h,ag=>by have:=Z6 ap cO i j x (by simpa using h) ag;simp only[kp];rw[List.getElem?_append_right (by rw[ap,il];omega),ap,<-this];congr 1;rw[il];omega
structure Fe{α:Type}(w:bj)(v:be)(E k:Nat)(enc:α->List be)(xs:List α)(lo:Nat):Prop where
 own:w.ownsRow lo E k v xs.length (xs.flatMap enc)
 len:∀x,(enc x).length=k
 pos:0<k
section
variable {α : Type} {w w' : bj} {v : be} {E k lo : Nat} {enc : α -> List be} {xs : List α}
theorem Fe.nil(aC:∀x,(enc x).length=k)(hp:0<k):Fe w (.slice aJ 0 0) E k enc ([]:List α) lo:=⟨by simpa using World.ownsRow_nil w lo E k,aC,hp⟩
theorem Fe.sl(h:Fe w v E k enc xs lo):IG w v k enc xs:=by
 obtain⟨hlen,uZ⟩:=h.own;refine⟨?_,?_,λx=>by rw[h.len];exact h.pos⟩
 ·rcases uZ with⟨e,a6⟩|⟨g,cap,e5,e,_,_,ax,_⟩
  ·exact .inl ⟨e,pr a6⟩
  ·exact .inr ⟨by rw[e];rfl,by rw[e];exact ax⟩
 ·intro i x ak j ag;rw[h.len]at ag;have hi:=(cz.1 ak).1;rcases uZ with⟨e,a6⟩|⟨g,cap,e5,e,_,b5,ax,_,gw,Ao⟩
  ·omega
  ·have h1:=Z6 h.len xs i j x ak ag;have b':i*k+j<xs.length*k:=by
    have:(i+1)*k<=xs.length*k:=qX k hi;rw[il]at this;omega
   rw[e];simp only[qY,S0,ib];rw[<-h1,<-Ao,kd,if_pos b'];unfold rH;rw[b5];simp
theorem Fe.lt(h:Fe w v E k enc xs lo){b:Nat}(aF:v.ownBlock=I b):lo<=b/\b<w.heap.size:=h.own.lt b aF
variable {P : cF}
end
section
variable {α : Type} {X : jU} {Q : df -> di -> bj -> Prop} {l : iV} {w w' : bj} {ops : Array b_} {rest : List b_} {v u : be} {k lo : Nat} {enc : α -> List be} {xs cO : List α}
theorem Z7:∀(cs:List be)(A:Array be)(off le:Nat),off+le+cs.length<=A.size->
  ((cs.zipIdx le).foldl (λa (p:be×Nat)=>a.setIfInBounds (off+p.2) p.1) A).toList=A.toList.take (off+le)++cs++A.toList.drop (off+le+cs.length)
 |[],A,off,le,_=>by simp
 |c::cs,A,off,le,h=>by
  simp only[oa]at h;simp only[SS,SU];rw[Z7 cs _ off (le+1) (by simp;omega)];simp only[Array.toList_setIfInBounds];have b':off+le<A.toList.length:=by simp;omega
  apply List.ext_getElem?;intro i;simp only[SR,kd,sH,hW,fF,List.length_set,oa,Cx];have a2:min (off+(le+1)) A.size=off+le+1:=by omega
  have bc:min (off+le) A.size=off+le:=by omega
  rw[a2,bc];rcases Nat.lt_trichotomy i (off+le)with hi|hi|hi
  ·rw[if_pos (by omega),if_pos (by omega),if_pos (by omega),if_pos (by omega),if_pos (by omega),if_pos (by omega),Mw (by omega)]
  ·subst hi;rw[if_pos (by omega),if_pos (by omega),if_pos (by omega),if_pos (by omega),if_neg (by omega),E9 b'];simp
  ·by_cases fV:i<off+le+1+cs.length
   ·rw[if_pos (by omega),if_neg (by omega),if_pos (by omega),if_neg (by omega)];have:i-(off+le)=(i-(off+le+1))+1:=by omega
    rw[this];simp
   ·rw[if_neg (by omega),if_neg (by omega)];rw[Mw (by omega)];congr 1;omega
theorem Z8{k:Nat}:∀(vs:List be)(i:Nat)(A:Array be),(∀v∈vs,v.cells.size=k)->(i+vs.length)*k<=A.size->
  ∃B:Array be,n' (λj=>I (j*k,k)) A ((vs.zipIdx i).map λp=>(p.2,p.1))=I B/\B.toList=A.toList.take (i*k)++vs.flatMap (λv=>v.cells.toList)++A.toList.drop ((i+vs.length)*k)
 |[],i,A,_,_=>⟨A,by simp[n'],by simp⟩
 |v::vs,i,A,ap,h=>by
  have bp:=ap v (by simp);simp only[oa]at h;have ai5:i*k+k<=A.size:=by have:(i+1)*k<=(i+(vs.length+1))*k:=qX _ (by omega);rw[il]at this;omega
  have aF:=Z7 v.cells.toList A (i*k) 0 (by simp[bp];omega);simp only[oJ,Cx,bp]at aF;let IK:Array be:=(v.cells.toList.zipIdx 0).foldl (λa (p:be×Nat)=>a.setIfInBounds (i*k+p.2) p.1) A
  have Z9:IK.toList=A.toList.take (i*k)++v.cells.toList++A.toList.drop (i*k+k):=aF;have gw:IK.size=A.size:=by have:=congrArg sI Z9;simp only[Cx,hW,fF,tQ,bp]at this;omega
  obtain⟨B,eO,ai6⟩:=Z8 vs (i+1) IK (λu hu=>ap u (by simp[hu])) (by rw[gw,show i+1+vs.length=i+(vs.length+1) by omega];exact h);refine⟨B,?_,?_⟩
  ·simp only[SS,List.map_cons,n',bp];have fe:(k≠k||decide (i*k+k>A.size))=aS:=by simp;omega
   simp only[ne_eq,not_true_eq_false,decide_false,Bool.false_or,decide_eq_true_eq,show ¬(i*k+k>A.size) by omega,if_false];rw[<-eO];have dg:Array.foldl (λcs (x:be×Nat)=>cs.setIfInBounds (i*k+x.snd) x.fst) A v.cells.zipIdx=IK:=by rw[<-Array.foldl_toList];simp only[IK,Array.toList_zipIdx]
   simp only[ge,if_false];rw[dg]
  ·rw[ai6,Z9];have a2:(i+1)*k=i*k+k:=by rw[il];omega
   have bc:(i+1+vs.length)*k=(i+(vs.length+1))*k:=by congr 1;omega
   have cR:(i+(vs.length+1))*k=i*k+k+vs.length*k:=by rw[il,il];omega
   have fW:(A.toList.take (i*k)++v.cells.toList).length=i*k+k:=by simp[bp];omega
   rw[a2,List.take_append_of_le_length (by omega),g4 (by omega)];simp only[kp,xw,oa];rw[bc,cR];rw[show Mx (i*k+k+vs.length*k) (List.take (i*k) A.toList++(v.cells.toList++Mx (i*k+k) A.toList))=Mx (i*k+k+vs.length*k) A.toList from ?_];rw[<-xw,List.drop_append,fW];rw[List.drop_of_length_le (by rw[fW];omega),List.nil_append,SV];congr 1;omega
theorem ai7{P:cF}{t e k n:Nat}{z:be}{vs:List be}(aj:∀w,(underlying t).run P w=.ok (.slice e) w)(ap:∀w,(sizeOf e).run P w=.ok k w)(aP:∀w,(zeroValue e).run P w=.ok z w)
  (a6:vs.length=n) (gl:∀v∈vs,v.cells.size=k) (hle:n*k<=16777216) (w:bj):
  (SO t n (vs.zipIdx.map λp=>(p.2,p.1)).toArray).run P w=.ok (.slice (I ⟨w.heap.size,0,aJ⟩) n n) (w.alloc (.cells (vs.flatMap (λv=>v.cells.toList)).toArray e)):=by
 unfold SO;have ai8:¬(n*k>2^24):=by
  have:(2:Nat)^24=16777216:=by decide
  omega
 have key:∀(IL:Array be),∃B:Array be,n' (λj=>I (j*k,k)) ((SM (n*k)).map (IL[· %IL.size]!)) (vs.zipIdx.map λp=>(p.2,p.1))=I B/\B=(vs.flatMap (λv=>v.cells.toList)).toArray:=λIL=>by obtain⟨B,h1,h2⟩:=Z8 (k:=k) vs 0 ((SM (n*k)).map (IL[· %IL.size]!)) gl (by simp[a6]);refine⟨B,h1,?_⟩;apply Array.toList_inj.1;rw[h2];simp[a6]
 have dL:¬(0>2^24):=by omega
 by_cases bh:n*k=0
 ·obtain⟨B,h1,h2⟩:=key #[];rw[bh]at h1;simp only[cq,aj,ap,cp,bh,dL,if_false,if_true,jp,h1];simp only[newRow,newObj,cq,yY,cp,h2,jp];rfl
 ·obtain⟨B,h1,h2⟩:=key z.cells;simp only[cq,aj,ap,aP,cp,ai8,bh,if_false,jp,h1];simp only[newRow,newObj,cq,yY,cp,h2,jp];rfl
inductive CF {α:Type} (val:α->be):List be->List α->Prop
 |nil:CF val [] []
 |cons {x:α} {vs:List be} {xs:List α} (h:CF val vs xs):CF val (val x::vs) (x::xs)
theorem CF.length{val:α->be}{vs:List be}{xs:List α}(h:CF val vs xs):vs.length=xs.length:=by
 induction h with
 |nil=>rfl
 |cons h bx=>simp[bx]
theorem CF.size{val:α->be}(jh:∀x,(val x).cells=(enc x).toArray)(aC:∀x,(enc x).length=k){vs:List be}{xs:List α}(h:CF val vs xs):∀v∈vs,v.cells.size=k:=by
 induction h with
 |nil=>simp
 |cons h bx=>
  intro v bp;simp at bp;rcases bp with rfl|bp;· rw[jh];simp[aC]
  ·exact bx v bp
end
structure azC where
 f:Int
 n:Int
deriving DecidableEq
structure azD where
 name:ByteArray
 lo:Int
 hi:Int
deriving DecidableEq
structure Z_ where
 code:Int
 a:Int
 b:Int
 c:Int
 n:Int
deriving DecidableEq
structure MH(n:Nat)(x:Z_):Prop where
 Z:0<=x.a
 an:x.a<n
 eu:0<=x.b
 hF:x.b<n
 fS:0<=x.c
 fe:x.c<n
 f:x.code=2->1<=x.n/\x.n<=4
structure azE where
 e6:Bool
 st:Int
 azF:Z_
structure Z'(w:bj)(ms:List Nat):Prop where
 azG:∀yZ∈ms,w.heap[yZ]? =I (.deferred (I []))
 azH:ms.Nodup
theorem Z'.nil(w:bj):Z' w []:=⟨λ_ h=>by simp at h,List.nodup_nil⟩
section
variable {P : cF} {N : Nat} {l : iV} {w : bj} {fn : Func} {R : wb -> bj -> Prop} {e : df}
end
section
variable {X : jU} {Q : df -> di -> bj -> Prop} {l : iV} {w : bj} {α : Type} {r : Option Nat} {P : cF} {N : Nat} {azI azJ : List oH} {eh : α -> iV} {ds : α -> List oH} {eq : α -> bj -> Prop} {rM : α -> Nat} {m : Nat}
end
def mg{α cd:Type}(eq:List α->cd->bj->Prop)(aaa:Code->List α->cd->bj->Prop)(M:cd->Nat->Prop)(pre:List α)(x:α)(s:cd)(ke:bj):df->di->bj->Prop
 |.normal,_,w'=>∃s',eq (pre++[x]) s' w'/\ob (M s) ke w'/\∀k,k<ke.heap.size->M s' k->M s k
 |.ret,_,w'=>∃s',aaa .ret (pre++[x]) s' w'/\ob (M s) ke w'/\∀k,k<ke.heap.size->M s' k->M s k
 |.exit id,_,w'=>∃s',aaa (.exit id) (pre++[x]) s' w'/\ob (M s) ke w'/\∀k,k<ke.heap.size->M s' k->M s k
 |_,_,_=>False
section
variable {α : Type} {P : cF} {l : iV} {w : bj} {k B : Nat} {enc : α -> List be} {xs : List α} {ds : List Nat}
end
def aab{K V:Type}(w:bj)(r:Nat)(key:K->be)(val:V->be)(kv:List (K×V)):Prop:=
 ∃(es:Array MapEntry)(clock:Nat),w.heap[r]? =I (.map es clock)/\es.toList.map (λe=>(e.key,e.val))=kv.map λp=>(key p.1,val p.2)
section
variable {K V : Type} [DecidableEq K] {w w' : bj} {r : Nat} {key : K -> be} {val : V -> be} {kv : List (K × V)}
theorem aab.lt(h:aab w r key val kv):r<w.heap.size:=by obtain⟨es,c,h,_⟩:=h;exact(n_.1 h).1
variable {P : cF} {T kt lW : co}
variable {l : iV} {ty : co}
end
section
variable {P : cF} {l : iV} {w : bj} {ty : co}
end
section
variable {K : Type} [DecidableEq K] {w : bj} {r : Nat} {key : K -> be} {kv : List (K × Int)} {P : cF} {T kt lW : co} {l : iV} {ty : co}
end
end Go.Mi
namespace Go.Dp
open _root_.Array renaming getElem?_eq_some_iff->n_,getD_eq_getD_getElem?->qc,length_toList->Cx,range->SM
open Bool renaming true->ad,false->aS,false_eq_true->ge
open Go renaming Value->be,World->bj,Program->cF,TypeId->co,Oper->b_,Operand->bY,Exit->df,Act->di,FuncId->hE,Addr->wa,ResultVar->sF,Ending->wb,Deferred->oH,Calls->E8,IntKind->ip,store->SN
open Go.Instr renaming fill->n',buildSlice->SO
open Go.Op renaming operands->dw,intCmp->Cy
open Go.Region renaming binds->tP
open Go.Result renaming andThen->cp
open Go.Sem renaming run_bind->cq,run_pure->jp,run->yY
open Go.World renaming cell?_of_block->IF,cell?->rH,setCell->SP,ownsRow->SQ
open List renaming getElem?_eq_some_iff->cz,getElem?_eq_getElem->bN,length_cons->oa,getD_eq_getElem?_getD->sG,getElem?_take->kd,length_append->hW,getElem?_append_left->oI,getElem?_set_ne->Mw,getElem?_drop->sH,flatMap_cons->kp,length_drop->tQ,eq_nil_of_length_eq_zero->pr,take_of_length_le->g4,getElem?_set_self->E9,getElem?_eq_none->nD,getElem?_append->SR,getElem_range->E_,getElem?_map->gQ,append_assoc->xw,zipIdx_cons->SS,length_take->fF,drop->Mx,foldl_cons->SU,drop_drop->SV,length->sI,range->gD,getD->Cz
open Nat renaming lt_of_lt_of_le->wc,le_refl->bL,le_trans->gE,mul_le_mul_right->qX,add_mul->il,beq->eF,le_of_not_lt->My,add_assoc->mZ,zero_add->ib,le_of_eq->Mz,beq_refl->kq,add_zero->oJ,add_comm->tR,zero_le->fR,ble->fb
open Option renaming some->I,none->aJ,map_eq_some_iff->E',map_some->nE
open Option.some renaming injEq->je
def CG:List (Nat×List be):=[(6,(gD 256).map λi=>.int .u8 (cond (eF i 32||(fb 9 i&&fb i 13)) 1 0))]
open Go Go.Mi Go.RowKit
section
inductive P where
 |v (x:be)
 |sl (k n:Nat) (cs:List P)
inductive V where
 |p (x:P)
 |cZ (k n:Nat) (cs:List P) (t m:Nat)
 |aV (i off:Nat)
 |bG (cs:List P)
 |ek (i off n cap:Nat)
 |map (i:Nat)
 |fn (f:Go.Fn) (c3 fp:List V)
 |agg (cs:List V)
 |cx (cs:List V)
 |gV (i:Nat)
 |z
 |gs (k n t m off:Nat)
 |kr (t m off:Nat)
inductive aN where
 |cc
 |cells (T:Nat) (cs:List V)
 |bA (T:Nat) (cs:List P)
 |bs (T k m:Nat)
 |fq (T k m:Nat) (cs:List P)
 |gF (T:Nat) (cs:List P)
 |pt (c:Nat) (bT:List Nat) (kv:List (be×V))
 |loop (st:LoopState) (ee:Option Code) (f N:Nat) (fr:List (Nat×V)) (ps:Array Nat) (od eU:Code) (j:Nat)
 |cD (op:Bool)
 |rN (j:Nat)
 |oL (dX:Bool) (kv:List (be×List P))
 |lX (j A:Nat)
 |qd (ds:List V) (vs:List be)
abbrev ce:=List (Nat×V)
def c6:ce->Nat->Option V
 |[],_=>aJ
 |(d,v)::l,t=>cond (eF d t) (I v) (c6 l t)
structure cu where
 β:Nat->Nat
 E:Nat->Nat
 h:Nat->be
def xx:Option aN->Option Nat
 |some (.bs _ _ m)=>I m
 |some (.fq _ _ m _)=>I m
 |_=>aJ
def e5(H:List aN)(t:Nat):Option Nat:=xx H[t]?
def xy:Option aN->Prop
 |some (.gF _ _)=>True
 |some (.cells _ _)=>True
 |some (.bA _ _)=>True
 |some (.pt ..)=>True
 |some (.loop ..)=>True
 |some (.cD _)=>True
 |some (.rN _)=>True
 |some (.oL ..)=>True
 |_=>False
def cL(H:List aN)(i:Nat):Prop:=xy H[i]?
def xz(g:cu)(i b:Nat):Option aN->Prop
 |some (.gF _ _)=>b=g.β i
 |some (.cells _ _)=>b=g.β i
 |some (.bA _ _)=>b=g.β i
 |some (.pt ..)=>b=g.β i
 |some (.loop ..)=>b=g.β i
 |some (.cD _)=>b=g.β i
 |some (.rN _)=>b=g.β i
 |some (.oL ..)=>b=g.β i
 |some (.bs _ _ _)=>(g.h i).ownBlock=I b
 |some (.fq _ _ _ _)=>(g.h i).ownBlock=I b
 |_=>False
def own(g:cu)(H:List aN)(i b:Nat):Prop:=xz g i b H[i]?
inductive iW (E:Nat->Nat) (w:bj):P->be->Prop
 |v {x:be}:iW E w (.v x) x
 |nil {k:Nat}:iW E w (.sl k 0 []) (.slice aJ 0 0)
 |y0 {k:Nat} {a:wa}:iW E w (.sl k 0 []) (.slice (I a) 0 0)
 |sl {k n:Nat} {cs:List P} {b o cap:Nat} (u:Nat->be) (aC:cs.length=n*k) (ax:n<=cap) (aY:o+n*k<=E b) (aF:b<w.heap.size)
   (hu:∀j,j<n*k->w.cell? ⟨b,o+j,aJ⟩=I (u j)) (h:∀j c,cs[j]? =I c->iW E w c (u j)):iW E w (.sl k n cs) (.slice (I ⟨b,o,aJ⟩) n cap)
def Ff(g:cu)(H:List aN)(t m:Nat)(v:be):Prop:=∃m',e5 H t=I m'/\m<=m'/\(m=m'->v=g.h t)
def Ap(g:cu)(H:List aN)(t m k n off:Nat)(v:be):Prop:=∃m',e5 H t=I m'/\m<=m'/\(m=m'->(n=0/\off=0/\v=.slice aJ 0 0/\g.h t=.slice aJ 0 0)\/∃b el io hS cap,g.h t=.slice (I ⟨b,0,aJ⟩) el io/\v=.slice (I ⟨b,hS,aJ⟩) n cap/\off+n*k<=el*k/\n<=cap/\(n=0\/hS=off)/\(off=0->cap=io/\hS=0))
def IM(g:cu)(H:List aN)(t m off:Nat)(v:be):Prop:=∃m',e5 H t=I m'/\m<=m'/\(m=m'->∃b el io,g.h t=.slice (I ⟨b,0,aJ⟩) el io/\v=.pointer (I ⟨b,off,aJ⟩))
mutual
inductive cN (g:cu) (w:bj) (H:List aN):V->be->Prop
 |p {x:P} {v:be} (h:iW g.E w x v):cN g w H (.p x) v
 |cZ {k n:Nat} {cs:List P} {t m:Nat} {v:be} (h:iW g.E w (.sl k n cs) v) (aj:Ff g H t m v):cN g w H (.cZ k n cs t m) v
 |aV {i off:Nat} (aC:cL H i):cN g w H (.aV i off) (.pointer (I ⟨g.β i,off,aJ⟩))
 |bG {cs:List P} {b o:Nat} (u:Nat->be) (aY:o+cs.length<=g.E b) (aF:b<w.heap.size) (hu:∀j,j<cs.length->w.cell? ⟨b,o+j,aJ⟩=I (u j))
   (h:∀j c,cs[j]? =I c->iW g.E w c (u j)):cN g w H (.bG cs) (.pointer (I ⟨b,o,aJ⟩))
 |ek {i off n cap:Nat} (aC:cL H i):cN g w H (.ek i off n cap) (.slice (I ⟨g.β i,off,aJ⟩) n cap)
 |map {i:Nat} (aC:cL H i):cN g w H (.map i) (.map (I (g.β i)))
 |fn {f:Go.Fn} {c3 fp:List V} {us vs:List be} (h1:dp g w H c3 us) (h2:dp g w H fp vs):cN g w H (.fn f c3 fp) (.func f us.toArray vs.toArray)
 |agg {cs:List V} {vs:List be} (h:dp g w H cs vs):cN g w H (.agg cs) (.agg vs.toArray)
 |cx {cs:List V} {vs:List be} (h:dp g w H cs vs):cN g w H (.cx cs) (.tuple vs.toArray)
 |gV {i:Nat} (aC:cL H i):cN g w H (.gV i) (.func (.yield (g.β i)) #[] #[])
 |z {a:wa}:cN g w H .z (.slice (I a) 0 0)
 |gs {k n t m off:Nat} {v:be} (h1:oK v=ad) (h:Ap g H t m k n off v):cN g w H (.gs k n t m off) v
 |kr {t m off:Nat} {v:be} (h1:oK v=ad) (h:IM g H t m off v):cN g w H (.kr t m off) v
inductive dp (g:cu) (w:bj) (H:List aN):List V->List be->Prop
 |nil:dp g w H [] []
 |cons {d:V} {ds:List V} {v:be} {vs:List be} (h:cN g w H d v) (aQ:dp g w H ds vs):dp g w H (d::ds) (v::vs)
end
structure iA(g:cu)(w:bj)(H:List aN)(g':cu)(w':bj)(H':List aN):Prop where
 size:w.heap.size<=w'.heap.size
 E:∀b,b<w.heap.size->g.E b<=g'.E b
 cell:∀b o,b<w.heap.size->o<g.E b->w'.cell? ⟨b,o,aJ⟩=w.cell? ⟨b,o,aJ⟩
 cL:∀i,cL H i->cL H' i/\g'.β i=g.β i
 bs:∀t m,e5 H t=I m->∃m',e5 H' t=I m'/\m<=m'/\(m=m'->g'.h t=g.h t)
theorem iA.refl(g:cu)(w:bj)(H:List aN):iA g w H g w H:=⟨bL _,λ_ _=>bL _,λ_ _ _ _=>rfl,λ_ h=>⟨h,rfl⟩,λ_ m h=>⟨m,h,bL _,λ_=>rfl⟩⟩
theorem iA.trans{c9 dU dE:cu}{iK ke rO:bj}{H1 H2 aac:List aN}(h:iA c9 iK H1 dU ke H2)(k:iA dU ke H2 dE rO aac):iA c9 iK H1 dE rO aac where
 size:=gE h.size k.size
 E b aF:=gE (h.E b aF) (k.E b (wc aF h.size))
 cell b o aF aU:=(k.cell b o (wc aF h.size) (wc aU (h.E b aF))).trans (h.cell b o aF aU)
 cL i hi:=by obtain⟨a,b⟩:=h.cL i hi;obtain⟨c,d⟩:=k.cL i a;exact⟨c,d.trans b⟩
 bs t m aj:=by
  obtain⟨m',a,b,c⟩:=h.bs t m aj;obtain⟨aad,fo,g5,c'⟩:=k.bs t m' a;exact⟨aad,fo,gE b g5,λe=>by
   have:m=m':=by omega
   have:m'=aad:=by omega
   rw[c' this,c (by omega)]⟩
theorem iW.bi{E u0:Nat->Nat}{w w':bj}(aQ:w.heap.size<=w'.heap.size)(aY:∀b,b<w.heap.size->E b<=u0 b)(ax:∀b o,b<w.heap.size->o<E b->w'.cell? ⟨b,o,aJ⟩=w.cell? ⟨b,o,aJ⟩){x:P}{v:be}(h:iW E w x v):iW u0 w' x v:=by
 induction h with
 |v=>exact .v
 |nil=>exact .nil
 |y0=>exact .y0
 |sl u aC CH Aq aF hu _ bx=>exact .sl u aC CH (gE Aq (aY _ aF)) (wc aF aQ) (λj ag=>by rw[ax _ _ aF (by omega)];exact hu j ag) bx
section
variable {g g' : cu} {w w' : bj} {H H' : List aN}
theorem Ff.bi(m:iA g w H g' w' H'){t n:Nat}{v:be}(h:Ff g H t n v):Ff g' H' t n v:=by obtain⟨nG,a,b,c⟩:=h;obtain⟨m2,fo,g5,c'⟩:=m.bs t nG a;exact⟨m2,fo,gE b g5,λe=>by rw[c' (by omega)];exact c (by omega)⟩
theorem Ap.bi(m:iA g w H g' w' H'){t n k l o:Nat}{v:be}(h:Ap g H t n k l o v):Ap g' H' t n k l o v:=by obtain⟨nG,a,b,c⟩:=h;obtain⟨m2,fo,g5,c'⟩:=m.bs t nG a;exact⟨m2,fo,gE b g5,λe=>by rw[c' (by omega)];exact c (by omega)⟩
theorem IM.bi(m:iA g w H g' w' H'){t n o:Nat}{v:be}(h:IM g H t n o v):IM g' H' t n o v:=by obtain⟨nG,a,b,c⟩:=h;obtain⟨m2,fo,g5,c'⟩:=m.bs t nG a;exact⟨m2,fo,gE b g5,λe=>by rw[c' (by omega)];exact c (by omega)⟩
theorem iA.S3(m:iA g w H g' w' H'){x:P}{v:be}(h:iW g.E w x v):iW g'.E w' x v:=h.bi m.size m.E m.cell
mutual
theorem cN.bi(m:iA g w H g' w' H'):∀{d:V}{v:be},cN g w H d v->cN g' w' H' d v
 |_,_,.p h=>.p (m.S3 h)
 |_,_,.cZ h aj=>.cZ (m.S3 h) (aj.bi m)
 |_,_,.aV (i:=i) aC=>by have:=(m.cL i aC).2;rw[<-this];exact .aV (m.cL i aC).1
 |_,_,.bG u aY aF hu h=>.bG u (gE aY (m.E _ aF)) (wc aF m.size) (λj ag=>by rw[m.cell _ _ aF (by omega)];exact hu j ag) (λj c ag=>m.S3 (h j c ag))
 |_,_,.ek (i:=i) aC=>by have:=(m.cL i aC).2;rw[<-this];exact .ek (m.cL i aC).1
 |_,_,.map (i:=i) aC=>by have:=(m.cL i aC).2;rw[<-this];exact .map (m.cL i aC).1
 |_,_,.fn h1 h2=>.fn (dp.bi m h1) (dp.bi m h2)
 |_,_,.agg h=>.agg (dp.bi m h)
 |_,_,.cx h=>.cx (dp.bi m h)
 |_,_,.gV (i:=i) aC=>by have:=(m.cL i aC).2;rw[<-this];exact .gV (m.cL i aC).1
 |_,_,.z=>.z
 |_,_,.gs h1 h=>.gs h1 (h.bi m)
 |_,_,.kr h1 h=>.kr h1 (h.bi m)
theorem dp.bi(m:iA g w H g' w' H'):∀{ds:List V}{vs:List be},dp g w H ds vs->dp g' w' H' ds vs
 |_,_,.nil=>.nil
 |_,_,.cons h aQ=>.cons (cN.bi m h) (dp.bi m aQ)
end
theorem dp.len:∀{ds:List V}{vs:List be},dp g w H ds vs->ds.length=vs.length
 |_,_,.nil=>rfl
 |_,_,.cons _ aQ=>by simp[dp.len aQ]
theorem dp.ae:∀{ds:List V}{vs:List be}{i:Nat}{d:V},dp g w H ds vs->ds[i]? =I d->∃v,vs[i]? =I v/\cN g w H d v
 |_,_,i,d,.nil,h=>by simp at h
 |_,_,0,d,.cons h aQ,e=>by simp at e;subst e;exact⟨_,rfl,h⟩
 |_,_,i+1,d,.cons h aQ,e=>by simp at e;obtain⟨v,a,b⟩:=dp.ae aQ e;exact⟨v,by simpa using a,b⟩
theorem dp.set:∀{ds:List V}{vs:List be}{i:Nat}{d:V}{v:be},dp g w H ds vs->cN g w H d v->dp g w H (ds.set i d) (vs.set i v)
 |_,_,i,d,v,.nil,h=>by simp;exact .nil
 |_,_,0,d,v,.cons h aQ,e=>.cons e aQ
 |_,_,i+1,d,v,.cons h aQ,e=>.cons h (dp.set aQ e)
theorem dp.drop:∀{ds:List V}{vs:List be}(i:Nat),dp g w H ds vs->dp g w H (ds.drop i) (vs.drop i)
 |_,_,0,h=>h
 |_,_,i+1,.nil=>.nil
 |_,_,i+1,.cons h aQ=>dp.drop i aQ
theorem dp.take:∀{ds:List V}{vs:List be}(i:Nat),dp g w H ds vs->dp g w H (ds.take i) (vs.take i)
 |_,_,0,h=>.nil
 |_,_,i+1,.nil=>.nil
 |_,_,i+1,.cons h aQ=>.cons h (dp.take i aQ)
theorem dp.append:∀{ds es:List V}{vs us:List be},dp g w H ds vs->dp g w H es us->dp g w H (ds++es) (vs++us)
 |_,_,_,_,.nil,h=>h
 |_,_,_,_,.cons h aQ,k=>.cons h (dp.append aQ k)
end
def fH(E:Nat->Nat)(w:bj)(cs:List P)(us:List be):Prop:=cs.length=us.length/\∀(j:Nat)(c:P)(u:be),cs[j]? =I c->us[j]? =I u->iW E w c u
theorem fH.bi{E u0:Nat->Nat}{w w':bj}{cs:List P}{us:List be}(aQ:w.heap.size<=w'.heap.size)(aY:∀b,b<w.heap.size->E b<=u0 b)(ax:∀b o,b<w.heap.size->o<E b->w'.cell? ⟨b,o,aJ⟩=w.cell? ⟨b,o,aJ⟩)(h:fH E w cs us):fH u0 w' cs us:=
 ⟨h.1,λj c u h1 h2=>(h.2 j c u h1 h2).bi aQ aY ax⟩
def gm:List Nat->List be->List be->List MapEntry
 |b::bT,k::ks,u::us=>{key:=k,val:=u,born:=b}::gm bT ks us
 |_,_,_=>[]
def Ar(g:cu)(w:bj)(H:List aN)(fr:ce)(tm:Array be):Prop:=∀t d,c6 fr t=I d->∃v,tm[t]? =I v/\cN g w H d v
theorem Ar.bi{g g':cu}{w w':bj}{H H':List aN}(m:iA g w H g' w' H'){fr:ce}{tm:Array be}(h:Ar g w H fr tm):Ar g' w' H' fr tm:=λt d aG=>by obtain⟨v,a,b⟩:=h t d aG;exact⟨v,a,b.bi m⟩
def oM(E:Nat->Nat)(w:bj)(dX:Bool)(cs:List P)(u:be):Prop:=if dX=ad then ∃us:List be,u=.agg us.toArray/\fH E w cs us else ∃x,cs=[x]/\iW E w x u
theorem oM.bi{E u0:Nat->Nat}{w w':bj}{dX:Bool}{cs:List P}{u:be}(aQ:w.heap.size<=w'.heap.size)(aY:∀b,b<w.heap.size->E b<=u0 b)(ax:∀b o,b<w.heap.size->o<E b->w'.cell? ⟨b,o,aJ⟩=w.cell? ⟨b,o,aJ⟩)(h:oM E w dX cs u):oM u0 w' dX cs u:=by
 unfold oM at h⊢;cases dX with
 |true=>obtain⟨us,h1,h2⟩:=h;exact⟨us,h1,h2.bi aQ aY ax⟩
 |false=>obtain⟨x,h1,h2⟩:=h;exact⟨x,h1,h2.bi aQ aY ax⟩
def qe(c:Nat)(bT:List Nat):Prop:=bT.Nodup/\∀b∈bT,b<c
def lx(g:cu)(w:bj)(H:List aN)(i:Nat):aN->Prop
 |.cc=>True
 |.cells T cs=>∃us:List be,lV w (g.β i) us T/\dp g w H cs us/\g.E (g.β i)=0
 |.bA T cs=>∃us:List be,lV w (g.β i) us T/\fH g.E w cs us/\g.E (g.β i)=0
 |.bs T k _=>∃n us,w.ownsRow 0 T k (g.h i) n us/\∀b,(g.h i).ownBlock=I b->g.E b=n*k
 |.gF T cs=>∃us:List be,lV w (g.β i) us T/\fH g.E w cs us/\g.E (g.β i)=cs.length
 |.fq T k _ cs=>∃n us,w.ownsRow 0 T k (g.h i) n us/\fH g.E w cs us/\∀b,(g.h i).ownBlock=I b->g.E b=0
 |.pt c bT kv=>∃us,w.heap[g.β i]? =I (.map (gm bT (kv.map (·.1)) us).toArray c)/\bT.length=kv.length/\dp g w H (kv.map (·.2)) us
 |.loop st ee f N fr ps od eU j=>∃(f0:hE)(tm:Array be),w.heap[g.β i]? =I (.loop {state:=st,pending:=ee,fn:=f0,tmps:=tm,params:=ps,assign:=od,body:=eU,defers:=g.β j})/\tm.size=N/\cL H j/\Ar g w H fr tm
 |.cD b=>w.heap[g.β i]? =I (.deferred (if b then I []else aJ))
 |.rN j=>∃since last,w.heap[g.β i]? =I (.mapIter (I (g.β j)) since #[] last)/\cL H j
 |.oL dX kv=>∃c bT us,qe c bT/\w.heap[g.β i]? =I (.map (gm bT (kv.map (·.1)) us).toArray c)/\bT.length=kv.length/\us.length=kv.length/\∀(j:Nat)(q:be×List P)(u:be),kv[j]? =I q->us[j]? =I u->oM g.E w dX q.2 u
 |.lX j A=>cL H j/\g.β j=A
 |.qd ds vs=>dp g w H ds vs
def xA(g:cu)(w:bj):Prop:=∀q∈CG,q.1<w.heap.size/\q.2.length<=g.E q.1/\∀(j:Nat)(u:be),q.2[j]? =I u->w.cell? ⟨q.1,j,aJ⟩=I u
variable {w w':bj}
theorem xA.bi{g g':cu}{H H':List aN}(h:xA g w)(m:iA g w H g' w' H'):xA g' w':=λq aB=>by obtain⟨a,b,c⟩:=h q aB;refine⟨wc a m.size,gE b (m.E _ a),λj u ag=>?_⟩;rw[m.cell _ _ a (wc (cz.1 ag).1 b)];exact c j u ag
structure cn(cK:bj)(cl:cu)(ca:List aN)(g:cu)(w:bj)(H:List aN):Prop where
 os:w.os=cK.os
 tape:w.tape=cK.tape
 output:w.output=cK.output
 oe:xA g w
 bi:iA cl cK ca g w H
 iq:∀b,b<cK.heap.size->(∀i,¬own cl ca i b)->w.heap[b]? =cK.heap[b]? /\g.E b=cl.E b
 eP:∀i o,H[i]? =I o->lx g w H i o
 lY:∀i j b,own g H i b->own g H j b->i=j
 rP:∀i b,own g H i b->(∃j,own cl ca j b)\/cK.heap.size<=b
theorem lx.bi{g g':cu}{w w':bj}{H H':List aN}(m:iA g w H g' w' H'){i:Nat}{o:aN}(hi:H[i]? =I o)(aF:∀b,own g H i b->w'.heap[b]? =w.heap[b]? /\g'.E b=g.E b)(gf:e5 H i=e5 H i->∀T k n,(o=.bs T k n\/∃cs,o=.fq T k n cs)->g'.h i=g.h i)(h:lx g w H i o):lx g' w' H' i o:=by
 have eR:∀b,own g H i b↔xz g i b (I o):=λb=>by unfold own;rw[hi]
 cases o with
 |cc=>trivial
 |cells T cs=>
  obtain⟨us,h1,h2,ay⟩:=h;have aC:=m.cL i (by unfold cL;rw[hi];trivial);have:=aF (g.β i) ((eR _).2 rfl);refine⟨us,?_,h2.bi m,?_⟩
  ·rw[aC.2];exact this.1.trans h1
  ·rw[aC.2,this.2,ay]
 |bA T cs=>
  obtain⟨us,h1,h2,ay⟩:=h;have aC:=m.cL i (by unfold cL;rw[hi];trivial);have:=aF (g.β i) ((eR _).2 rfl);refine⟨us,?_,h2.bi m.size m.E m.cell,?_⟩
  ·rw[aC.2];exact this.1.trans h1
  ·rw[aC.2,this.2,ay]
 |gF T cs=>
  obtain⟨us,h1,h2,ay⟩:=h;have aC:=m.cL i (by unfold cL;rw[hi];trivial);have:=aF (g.β i) ((eR _).2 rfl);refine⟨us,?_,h2.bi m.size m.E m.cell,?_⟩
  ·rw[aC.2];exact this.1.trans h1
  ·rw[aC.2,this.2,ay]
 |bs T k n=>
  obtain⟨q,us,h1,h2⟩:=h;have he:=gf rfl T k n (.inl rfl);refine⟨q,us,?_,λb mF=>?_⟩
  ·rw[he];refine⟨h1.1,?_⟩;rcases h1.2 with h|⟨b,cap,hy,bp,bh,ax,r⟩
   ·exact .inl h
   ·refine .inr ⟨b,cap,hy,bp,bh,?_,r⟩;rw[(aF b ((eR _).2 (by show(g.h i).ownBlock=I b;rw[bp];rfl))).1];exact ax
  ·rw[he]at mF;rw[(aF b ((eR _).2 mF)).2];exact h2 b mF
 |fq T k n cs=>
  obtain⟨q,us,h1,ay,h2⟩:=h;have he:=gf rfl T k n (.inr ⟨cs,rfl⟩);refine⟨q,us,?_,ay.bi m.size m.E m.cell,λb mF=>?_⟩
  ·rw[he];refine⟨h1.1,?_⟩;rcases h1.2 with h|⟨b,cap,hy,bp,bh,ax,r⟩
   ·exact .inl h
   ·refine .inr ⟨b,cap,hy,bp,bh,?_,r⟩;rw[(aF b ((eR _).2 (by show(g.h i).ownBlock=I b;rw[bp];rfl))).1];exact ax
  ·rw[he]at mF;rw[(aF b ((eR _).2 mF)).2];exact h2 b mF
 |pt c bT kv=>obtain⟨us,h1,h2,ay⟩:=h;have aC:=m.cL i (by unfold cL;rw[hi];trivial);have:=aF (g.β i) ((eR _).2 rfl);exact⟨us,by rw[aC.2,this.1];exact h1,h2,ay.bi m⟩
 |loop st ee f N fr ps od eU j=>obtain⟨f0,tm,h1,h2,ay,bl⟩:=h;have aC:=m.cL i (by unfold cL;rw[hi];trivial);have:=aF (g.β i) ((eR _).2 rfl);exact⟨f0,tm,by rw[aC.2,this.1,(m.cL j ay).2];exact h1,h2,(m.cL j ay).1,bl.bi m⟩
 |cD b=>have aC:=m.cL i (by unfold cL;rw[hi];trivial);have:=aF (g.β i) ((eR _).2 rfl);show w'.heap[g'.β i]? =_;rw[aC.2,this.1];exact h
 |rN j=>obtain⟨s,t,h1,ay⟩:=h;have aC:=m.cL i (by unfold cL;rw[hi];trivial);have:=aF (g.β i) ((eR _).2 rfl);exact⟨s,t,by rw[aC.2,this.1,(m.cL j ay).2];exact h1,(m.cL j ay).1⟩
 |oL dX kv=>obtain⟨c,bT,us,bh,h1,h2,ay,bl⟩:=h;have aC:=m.cL i (by unfold cL;rw[hi];trivial);have:=aF (g.β i) ((eR _).2 rfl);exact⟨c,bT,us,bh,by rw[aC.2,this.1];exact h1,h2,ay,λj q u aB hu=>(bl j q u aB hu).bi m.size m.E m.cell⟩
 |lX j A=>exact⟨(m.cL j h.1).1,by rw[(m.cL j h.1).2];exact h.2⟩
 |qd ds vs=>exact dp.bi m h
variable {b i:Nat}{cK:bj}
theorem ai9{g:cu}{H:List aN}{cl:cu}{ca:List aN}(h:cn cK cl ca g w H)(aU:own g H i b):b<w.heap.size:=by
 unfold own at aU;cases hi:H[i]? with
 |none=>rw[hi]at aU;exact aU.elim
 |some o=>
  rw[hi]at aU;have aO:=h.eP i o hi;cases o with
  |cc=>exact aU.elim
  |cells T cs=>obtain⟨us,h1,_⟩:=aO;have:b=g.β i:=aU;subst this;exact h1.lt
  |bA T cs=>obtain⟨us,h1,_⟩:=aO;have:b=g.β i:=aU;subst this;exact h1.lt
  |gF T cs=>obtain⟨us,h1,_⟩:=aO;have:b=g.β i:=aU;subst this;exact h1.lt
  |pt c bT kv=>obtain⟨us,h1,_⟩:=aO;have:b=g.β i:=aU;subst this;exact(n_.1 h1).1
  |loop st ee f N fr ps od eU j=>obtain⟨f0,tm,h1,_⟩:=aO;have:b=g.β i:=aU;subst this;exact(n_.1 h1).1
  |cD q=>have h1:w.heap[g.β i]? =_:=aO;have:b=g.β i:=aU;subst this;exact(n_.1 h1).1
  |rN j=>obtain⟨_,_,h1,_⟩:=aO;have:b=g.β i:=aU;subst this;exact(n_.1 h1).1
  |oL dX kv=>obtain⟨_,_,_,_,h1,_⟩:=aO;have:b=g.β i:=aU;subst this;exact(n_.1 h1).1
  |lX j A=>exact aU.elim
  |qd ds vs=>exact aU.elim
  |bs T k m=>
   obtain⟨n,us,h1,_⟩:=aO;have e:(g.h i).ownBlock=I b:=aU;rcases h1.2 with⟨bp,_⟩|⟨q,cap,hy,bp,_,ax,_⟩
   ·rw[bp]at e;cases e
   ·rw[bp]at e;cases e;exact(n_.1 ax).1
  |fq T k m cs=>
   obtain⟨n,us,h1,_,_⟩:=aO;have e:(g.h i).ownBlock=I b:=aU;rcases h1.2 with⟨bp,_⟩|⟨q,cap,hy,bp,_,ax,_⟩
   ·rw[bp]at e;cases e
   ·rw[bp]at e;cases e;exact(n_.1 ax).1
structure g6(g:cu)(w:bj)(H:List aN):Prop where
 oe:xA g w
 eP:∀i o,H[i]? =I o->lx g w H i o
 lY:∀i j b,own g H i b->own g H j b->i=j
theorem g6.kf{g:cu}{H:List aN}(h:g6 g w H):cn w g H g w H:=
 ⟨rfl,rfl,rfl,h.oe,iA.refl _ _ _,λ_ _ _=>⟨rfl,rfl⟩,h.eP,h.lY,λi b aU=>.inl ⟨i,aU⟩⟩
theorem cn.jV{cl:cu}{ca:List aN}{g:cu}{H:List aN}(h:cn cK cl ca g w H):g6 g w H:=⟨h.oe,h.eP,h.lY⟩
theorem cn.then{cl:cu}{ca:List aN}{g g':cu}{H H':List aN}(h:cn cK cl ca g w H)(k:cn w g H g' w' H'):cn cK cl ca g' w' H' where
 os:=k.os.trans h.os
 tape:=k.tape.trans h.tape
 output:=k.output.trans h.output
 oe:=k.oe
 bi:=h.bi.trans k.bi
 iq b aF a6:=by
  obtain⟨a,c⟩:=h.iq b aF a6;have aae:∀i,¬own g H i b:=λi aU=>by
   rcases h.rP i b aU with⟨j,ag⟩|Fg
   ·exact a6 j ag
   ·omega
  obtain⟨fo,c'⟩:=k.iq b (wc aF h.bi.size) aae;exact⟨fo.trans a,c'.trans c⟩
 eP:=k.eP
 lY:=k.lY
 rP i b aU:=by
  rcases k.rP i b aU with⟨j,ag⟩|Fg
  ·exact h.rP j b ag
  ·exact .inr (gE h.bi.size Fg)
variable {j:Nat}
theorem lf{H:List aN}{o:aN}(h:j≠i):(H.set i o)[j]? =H[j]? :=Mw (λe=>h e.symm)
theorem kV{H:List aN}{o:aN}(h:i<H.length):(H.set i o)[i]? =I o:=E9 h
theorem y1{g:cu}{H:List aN}(h:g6 g w H)(aU:own g H i b):b<w.heap.size:=ai9 h.kf aU
theorem cn.one{g g':cu}{H:List aN}{o':aN}(h:g6 g w H)(c4:i<H.length)(xB:w'.os=w.os)(IN:w'.tape=w.tape)(IP:w'.output=w.output)(gw:w.heap.size<=w'.heap.size)
  (MI:∀b,b<w.heap.size->¬own g H i b->w'.heap[b]? =w.heap[b]? /\g'.E b=g.E b) (aja:∀b o,own g H i b->o<g.E b->w'.cell? ⟨b,o,aJ⟩=w.cell? ⟨b,o,aJ⟩) (ajb:∀b,own g H i b->g.E b<=g'.E b)
  (rQ:∀j,j≠i->g'.β j=g.β j/\g'.h j=g.h j) (MJ:xy H[i]? ->xy (I o')/\g'.β i=g.β i) (ajc:∀m,xx H[i]? =I m->∃m',xx (I o')=I m'/\m<=m'/\(m=m'->g'.h i=g.h i))
  (eR:∀b,xz g' i b (I o')->own g H i b\/w.heap.size<=b) (xC:iA g w H g' w' (H.set i o')->lx g' w' (H.set i o') i o'):cn w g H g' w' (H.set i o'):=by
 have ei:iA g w H g' w' (H.set i o'):=by
  refine⟨gw,λb aF=>?_,λb o aF aU=>?_,λj ag=>?_,λt m aj=>?_⟩
  ·by_cases e:own g H i b
   ·exact ajb b e
   ·exact Mz (MI b aF e).2.symm
  ·by_cases e:own g H i b
   ·exact aja b o e aU
   ·exact IF (MI b aF e).1
  ·by_cases e:j=i
   ·subst e;have:=MJ ag;exact⟨by unfold cL;rw[kV c4];exact this.1,this.2⟩
   ·exact⟨by unfold cL;rw[lf e];exact ag,(rQ j e).1⟩
  ·by_cases e:t=i
   ·subst e;obtain⟨m',a,b,c⟩:=ajc m aj;exact⟨m',by unfold e5;rw[kV c4];exact a,b,c⟩
   ·exact⟨m,by unfold e5;rw[lf e];exact aj,bL _,λ_=>(rQ t e).2⟩
 have MK:∀j b,j≠i->own g' (H.set i o') j b->own g H j b:=λj b e aU=>by
  unfold own at aU⊢;rw[lf e]at aU;cases ag:H[j]? with
  |none=>rw[ag]at aU;exact aU
  |some o=>rw[ag]at aU;cases o<;>simp only[xz,(rQ j e).1,(rQ j e).2]at aU⊢ <;>exact aU
 have S4:∀b,own g' (H.set i o') i b->own g H i b\/w.heap.size<=b:=λb aU=>by unfold own at aU;rw[kV c4]at aU;exact eR b aU
 refine⟨xB,IN,IP,h.oe.bi ei,ei,λb aF a6=>MI b aF (a6 i),λj o ag=>?_,λj k b h1 h2=>?_,λj b aU=>?_⟩
 ·by_cases e:j=i
  ·subst e;rw[kV c4]at ag;cases ag;exact xC ei
  ·rw[lf e]at ag;refine lx.bi ei ag (λb aF=>MI b (y1 h aF) λhi=>e (h.lY j i b aF hi)) (λ_ _ _ _ _=>(rQ j e).2) (h.eP j o ag)
 ·by_cases a2:j=i
  ·by_cases bc:k=i
   ·rw[a2,bc]
   ·subst a2;have ap:=MK k b bc h2;rcases S4 b h1 with h1|h1
    ·exact h.lY j k b h1 ap
    ·have:=y1 h ap;omega
  ·have ag:=MK j b a2 h1;by_cases bc:k=i
   ·subst bc;rcases S4 b h2 with h2|h2
    ·exact h.lY j k b ag h2
    ·have:=y1 h ag;omega
   ·exact h.lY j k b ag (MK k b bc h2)
 ·by_cases e:j=i
  ·subst e;rcases S4 b aU with h1|h1
   ·exact .inl ⟨j,h1⟩
   ·exact .inr h1
  ·exact .inl ⟨j,MK j b e aU⟩
theorem cn.ML{g:cu}{H:List aN}{E:Nat->Nat}(h:g6 g w H)(aF:Below w.heap.size w w')(aY:∀b,b<w.heap.size->E b=g.E b):cn w g H ⟨g.β,E,g.h⟩ w' H:=by
 have ei:iA g w H ⟨g.β,E,g.h⟩ w' H:=⟨aF.size,λb aC=>Mz (aY b aC).symm,λb o aC _=>IF (aF.block b aC),λi hi=>⟨hi,rfl⟩,λt m aj=>⟨m,aj,bL _,λ_=>rfl⟩⟩
 have eR:∀j b,own ⟨g.β,E,g.h⟩ H j b↔own g H j b:=λj b=>by
  unfold own;cases H[j]? with
  |none=>exact Iff.rfl
  |some o=>cases o<;>exact Iff.rfl
 exact⟨aF.os,aF.tape,aF.output,h.oe.bi ei,ei,λb aC _=>⟨aF.block b aC,aY b aC⟩,λj o ag=>lx.bi ei ag (λb mF=>⟨aF.block b (y1 h mF),aY b (y1 h mF)⟩) (λ_ _ _ _ _=>rfl) (h.eP j o ag),
  λi j b h1 h2=>h.lY i j b ((eR i b).1 h1) ((eR j b).1 h2),λi b aU=>.inl ⟨i,(eR i b).1 aU⟩⟩
def dT{α:Type}(f:Nat->α)(i:Nat)(x:α):Nat->α:=λj=>if j=i then x else f j
variable {α:Type}
theorem fL(f:Nat->α)(i:Nat)(x:α):dT f i x i=x:=by simp[dT]
theorem lg{f:Nat->α}{x:α}(h:j≠i):dT f i x j=f j:=by simp[dT,h]
variable {T:Nat}{us:List be}
theorem cn.aaf{g:cu}{H:List aN}{cs:List V}(h:g6 g w H)(hi:H[i]? =I .cc)(ax:dp g w H cs us):
  cn w g H ⟨dT g.β i w.heap.size,dT g.E w.heap.size 0,g.h⟩ (w.alloc (.cells us.toArray T)) (H.set i (.cells T cs)):=by
 have c4:=(cz.1 hi).1;have aF:=CB w (.cells us.toArray T);have dL:∀b,¬own g H i b:=λb aU=>by unfold own at aU;rw[hi]at aU;exact aU
 refine cn.one h c4 aF.os aF.tape aF.output aF.size (λb aC _=>⟨aF.block b aC,lg (by omega)⟩) (λb _ aU=>absurd aU (dL b)) (λb aU=>absurd aU (dL b)) (λj ag=>⟨lg ag,rfl⟩) (λaC=>by rw[hi]at aC;exact aC.elim)
  (λm hm=>by rw[hi]at hm;cases hm) (λb aU=>?_) (λei=>?_)
 ·have e:b=dT g.β i w.heap.size i:=aU;rw[fL]at e;exact .inr (by omega)
 ·refine⟨us,?_,ax.bi ei,?_⟩
  ·show lV _ (dT g.β i w.heap.size i) us T;rw[fL];exact CC _ _ _
  ·show dT g.E w.heap.size 0 (dT g.β i w.heap.size i)=0;rw[fL,fL]
theorem cn.ajd{g:cu}{H:List aN}{cs ds:List V}(h:g6 g w H)(hi:H[i]? =I (.cells T cs))(ax:ob (· =g.β i) w w')(eO:lV w' (g.β i) us T)(aG:dp g w H ds us):
  cn w g H g w' (H.set i (.cells T ds)):=by
 have c4:=(cz.1 hi).1;have eR:∀b,own g H i b↔b=g.β i:=λb=>by unfold own;rw[hi];exact Iff.rfl
 have aY:g.E (g.β i)=0:=by obtain⟨_,_,_,aY⟩:=h.eP i _ hi;exact aY
 refine cn.one h c4 ax.os ax.tape ax.output ax.size (λb aC a6=>⟨ax.block b aC λe=>a6 ((eR b).2 e),rfl⟩) (λb o aU b'=>?_) (λb _=>bL _) (λj _=>⟨rfl,rfl⟩) (λ_=>⟨trivial,rfl⟩)
  (λm hm=>by rw[hi]at hm;cases hm) (λb aU=>.inl ((eR b).2 aU)) (λei=>⟨us,eO,aG.bi ei,aY⟩)
 rw[(eR b).1 aU,aY]at b';omega
theorem cn.aag{g:cu}{H:List aN}{cs:List P}(h:g6 g w H)(hi:H[i]? =I .cc)(ax:fH g.E w cs us):
  cn w g H ⟨dT g.β i w.heap.size,dT g.E w.heap.size 0,g.h⟩ (w.alloc (.cells us.toArray T)) (H.set i (.bA T cs)):=by
 have c4:=(cz.1 hi).1;have aF:=CB w (.cells us.toArray T);have dL:∀b,¬own g H i b:=λb aU=>by unfold own at aU;rw[hi]at aU;exact aU
 refine cn.one h c4 aF.os aF.tape aF.output aF.size (λb aC _=>⟨aF.block b aC,lg (by omega)⟩) (λb _ aU=>absurd aU (dL b)) (λb aU=>absurd aU (dL b)) (λj ag=>⟨lg ag,rfl⟩) (λaC=>by rw[hi]at aC;exact aC.elim)
  (λm hm=>by rw[hi]at hm;cases hm) (λb aU=>?_) (λei=>?_)
 ·have e:b=dT g.β i w.heap.size i:=aU;rw[fL]at e;exact .inr (by omega)
 ·refine⟨us,?_,ax.bi ei.size ei.E ei.cell,?_⟩
  ·show lV _ (dT g.β i w.heap.size i) us T;rw[fL];exact CC _ _ _
  ·show dT g.E w.heap.size 0 (dT g.β i w.heap.size i)=0;rw[fL,fL]
theorem cn.aah{g:cu}{H:List aN}{cs ds:List P}(h:g6 g w H)(hi:H[i]? =I (.bA T cs))(ax:ob (· =g.β i) w w')(eO:lV w' (g.β i) us T)(aG:fH g.E w ds us):
  cn w g H g w' (H.set i (.bA T ds)):=by
 have c4:=(cz.1 hi).1;have eR:∀b,own g H i b↔b=g.β i:=λb=>by unfold own;rw[hi];exact Iff.rfl
 have aY:g.E (g.β i)=0:=by obtain⟨_,_,_,aY⟩:=h.eP i _ hi;exact aY
 refine cn.one h c4 ax.os ax.tape ax.output ax.size (λb aC a6=>⟨ax.block b aC λe=>a6 ((eR b).2 e),rfl⟩) (λb o aU b'=>?_) (λb _=>bL _) (λj _=>⟨rfl,rfl⟩) (λ_=>⟨trivial,rfl⟩)
  (λm hm=>by rw[hi]at hm;cases hm) (λb aU=>.inl ((eR b).2 aU)) (λei=>⟨us,eO,aG.bi ei.size ei.E ei.cell,aY⟩)
 rw[(eR b).1 aU,aY]at b';omega
end
def eH(H:List aN):List (Nat×aN)->List aN
 |[]=>H
 |(i,o)::r=>eH (H.set i o) r
def gx(H:List aN)(dx:List (Nat×aN)):Prop:=∀q∈dx,H[q.1]? =I q.2
theorem gx.one{H:List aN}{i:Nat}{o:aN}(h:gx H [(i,o)]):H[i]? =I o:=h (i,o) (by simp)
def xD(aw:cF)(n:Next)(w:bj)(post:be->bj->Prop):Prop:=
 (∃f vs,n=.enter f vs/\E8 aw f vs w λhG w'=>∃v,hG=.returned v/\post v w')\/
 ∃l f tmps od eU,n=.round l f tmps od eU/\RoundIn (jT aJ) 0 aw l f tmps od eU w λhG w'=>∃v,hG=.returned v/\post v w'
variable {aw:cF}{post:be->bj->Prop}{w:bj}
theorem xD.aX{f:hE}{vs:Array be}(h:E8 aw f vs w λhG w'=>∃v,hG=.returned v/\post v w'):xD aw (.enter f vs) w post:=.inl ⟨f,vs,rfl,h⟩
theorem xD.mono{aw:cF}{n:Next}{w:bj}{post aai:be->bj->Prop}(h:xD aw n w post)(k:∀v w',post v w'->aai v w'):xD aw n w aai:=by
 rcases h with⟨f,vs,rfl,h⟩|⟨l,f,tmps,od,eU,rfl,h⟩
 ·exact .inl ⟨f,vs,rfl,Calls.mono h λhG w' ⟨v,e,hp⟩=>⟨v,e,k v w' hp⟩⟩
 ·exact .inr ⟨l,f,tmps,od,eU,rfl,RoundIn.mono h λhG w' ⟨v,e,hp⟩=>⟨v,e,k v w' hp⟩⟩
variable {n:Next}
theorem xD.CI(h:xD aw n w post):∀d,n≠ .defer d:=λd e=>by rcases h with⟨f,vs,rfl,h⟩|⟨l,f,tmps,od,eU,rfl,h⟩<;>cases e
theorem xD.MM(h:xD aw n w post){r:Option Nat}{o:b_}{a:di}{next:di->bj->Prop}{Q:df->di->bj->Prop}(k:∀v w',post v w'->next (a.put o.dst v) w'):o.uponIn (jT r) 0 aw a next Q (.ok n w):=by
 rcases h with⟨f,vs,rfl,h⟩|⟨l,f,tmps,od,eU,rfl,h⟩
 ·rw[Oper.uponIn_enter];refine⟨(λh=>by cases h),ZZ (Calls.mono h ?_)⟩;rintro e w' ⟨v,rfl,hp⟩;exact k v w' hp
 ·rw[Oper.uponIn_round];refine⟨(λh=>by cases h),RoundIn.mono (show RoundIn (jT r) 0 aw l f tmps od eU w _ from h) ?_⟩;rintro e w' ⟨v,rfl,hp⟩;exact k v w' hp
def aaj(aw:cF)(e:bY->be)(o:b_)(w:bj)(post:be->bj->Prop):Prop:=
 (∃v w',(execOp e o).run aw w=.ok (.value v) w'/\post v w')\/(∃w',(execOp e o).run aw w=.ok .skip w'/\post undef w')\/
 ∃n,(execOp e o).run aw w=.ok n w/\xD aw n w post
def bP(aw:cF)(op:Op)(ty:co)(ρ:bY->Option V)(dx c0:List (Nat×aN))(d:V):Prop:=
 ∀(g:cu)(w:bj)(H:List aN)(e:bY->be)(o:b_),o.op=op->o.type=ty->g6 g w H->gx H dx->(∀x∈op.operands,∀u,ρ x=I u->cN g w H u (e x))->
  aaj aw e o w λv w'=>∃g',cn w g H g' w' (eH H c0)/\cN g' w' (eH H c0) d v
theorem cN.ic{g:cu}{H:List aN}{x v:be}(h:cN g w H (.p (.v x)) v):v=x:=by cases h with|p h=>cases h;rfl
theorem cN.v{g:cu}{w:bj}{H:List aN}(x:be):cN g w H (.p (.v x)) x:=.p .v
section
variable {aw : cF} {ty : co} {ρ : bY -> Option V}
variable {op:Op}
theorem bP.pure{d:V}(h:∀(g:cu)(w:bj)(H:List aN)(e:bY->be)(o:b_),o.op=op->o.type=ty->g6 g w H->(∀x∈op.operands,∀u,ρ x=I u->cN g w H u (e x))->
  ∃v,(execOp e o).run aw w=.ok (.value v) w/\cN g w H d v):bP aw op ty ρ [] [] d:=λg w H e o aU aj aO _ bg=>by
 obtain⟨v,h1,h2⟩:=h g w H e o aU aj aO bg;exact .inl ⟨v,w,h1,g,aO.kf,h2⟩
theorem bP.plain{r:be}(h:∀(w:bj)(e:bY->be)(o:b_),o.op=op->o.type=ty->(∀x∈op.operands,∀u,ρ x=I (.p (.v u))->e x=u)->(execOp e o).run aw w=.ok (.value r) w):bP aw op ty ρ [] [] (.p (.v r)):=
 .pure λg w H e o aU aj _ bg=>⟨r,h w e o aU aj λx ak u hu=>(bg x ak _ hu).ic,.v r⟩
variable {x:bY}
theorem aak{d:V}(h:ρ x=I d):bP aw (.move x) ty ρ [] [] d:=.pure λg w H e o aU _ _ bg=>⟨e x,by unfold execOp;rw[aU];rfl,bg x (by simp[dw]) _ h⟩
theorem S5{d:V}(h:ρ x=I d):bP aw (.assign x) ty ρ [] [] d:=.pure λg w H e o aU _ _ bg=>⟨e x,by unfold execOp;rw[aU];rfl,bg x (by simp[dw]) _ h⟩
variable {c y:bY}
theorem aje{d:V}(ax:ρ c=I (.p (.v (.bool ad))))(h:ρ x=I d):bP aw (.pick c x y) ty ρ [] [] d:=.pure λg w H e o aU _ _ bg=>by have a2:=(bg c (by simp[dw]) _ ax).ic;exact⟨e x,by unfold execOp;rw[aU];simp[a2,asBool,cq,cp],bg x (by simp[dw]) _ h⟩
theorem ajf{d:V}(ax:ρ c=I (.p (.v (.bool aS))))(h:ρ y=I d):bP aw (.pick c x y) ty ρ [] [] d:=.pure λg w H e o aU _ _ bg=>by have a2:=(bg c (by simp[dw]) _ ax).ic;exact⟨e y,by unfold execOp;rw[aU];simp[a2,asBool,cq,cp],bg y (by simp[dw]) _ h⟩
theorem MN{i off:Nat}(h:ρ x=I (.aV i off)):bP aw (.nilCheck x) ty ρ [] [] (.aV i off):=.pure λg w H e o aU _ _ bg=>by have a2:=bg x (by simp[dw]) _ h;generalize he:e x=v at a2;cases a2 with|aV aC=>exact⟨_,by unfold execOp;rw[aU];simp only[he];rfl,.aV aC⟩
theorem mG{op:BinOp}{T cf:co}{vx vy v:be}(ak:ρ x=I (.p (.v vx)))(a9:ρ y=I (.p (.v vy)))
  (h:∀w,(do eqGuard op T x y vx vy;binOp op T vx vy:Sem be).run aw w=.ok v w):bP aw (.binOp op T x y cf) ty ρ [] [] (.p (.v v)):=.plain λw e o aU _ bg=>by
 have a2:=bg x (by simp[dw]) _ ak;have bc:=bg y (by simp[dw]) _ a9;unfold execOp;rw[aU];simp only[a2,bc,cq,h w,cp,jp]
section
variable {T cf : co} {x y : bY} {k : ip} {a b : Int}
theorem ajg(ak:ρ x=I (.p (.v (.int k a))))(a9:ρ y=I (.p (.v (.int k b))))(bh:b≠0):bP aw (.binOp .rem T x y cf) ty ρ [] [] (.p (.v (.int k (a.tmod b)))):=
 mG ak a9 λw'=>by simp[cq,rI,cp,binOp,Op.intDiv,bh]
theorem ajh(ak:ρ x=I (.p (.v (.int k a))))(a9:ρ y=I (.p (.v (.int k b)))):bP aw (.binOp .lss T x y cf) ty ρ [] [] (.p (.v (.bool (decide (a<b))))):=
 mG ak a9 λw'=>by simp[cq,rI,cp,binOp,Cy]
theorem aji(ak:ρ x=I (.p (.v (.int k a))))(a9:ρ y=I (.p (.v (.int k b)))):bP aw (.binOp .leq T x y cf) ty ρ [] [] (.p (.v (.bool (decide (a<=b))))):=
 mG ak a9 λw'=>by simp[cq,rI,cp,binOp,Cy]
theorem ajj(ak:ρ x=I (.p (.v (.int k a))))(a9:ρ y=I (.p (.v (.int k b)))):bP aw (.binOp .gtr T x y cf) ty ρ [] [] (.p (.v (.bool (decide (b<a))))):=
 mG ak a9 λw'=>by simp[cq,rI,cp,binOp,Cy]
theorem ajk(ak:ρ x=I (.p (.v (.int k a))))(a9:ρ y=I (.p (.v (.int k b)))):bP aw (.binOp .geq T x y cf) ty ρ [] [] (.p (.v (.bool (decide (b<=a))))):=
 mG ak a9 λw'=>by simp[cq,rI,cp,binOp,Cy]
theorem ajl(ak:ρ x=I (.p (.v (.int k a))))(a9:ρ y=I (.p (.v (.int k b)))):bP aw (.binOp .eql T x y cf) ty ρ [] [] (.p (.v (.bool (decide (a=b))))):=
 mG ak a9 λw'=>by simp[cq,rI,cp,binOp,Cy];rfl
theorem ajm(ak:ρ x=I (.p (.v (.int k a))))(a9:ρ y=I (.p (.v (.int k b)))):bP aw (.binOp .neq T x y cf) ty ρ [] [] (.p (.v (.bool (!decide (a=b))))):=
 mG ak a9 λw'=>by simp[cq,rI,cp,binOp,Cy];rfl
end
variable {x:bY}
theorem ajn{T:co}{b:Bool}(ak:ρ x=I (.p (.v (.bool b)))):bP aw (.unOp .not T x) ty ρ [] [] (.p (.v (.bool (!b)))):=.plain λw e o aU _ bg=>by have a2:=bg x (by simp[dw]) _ ak;unfold execOp;rw[aU];simp[a2,Op.unary,cq,cp]
theorem ajo{i:Nat}{ds:List V}{d:V}(ak:ρ x=I (.cx ds))(aG:ds[i]? =I d):bP aw (.extract x i) ty ρ [] [] d:=.pure λg w H e o aU _ _ bg=>by
 have a2:=bg x (by simp[dw]) _ ak;generalize he:e x=v at a2;cases a2 with
 |cx h=>obtain⟨v,h1,h2⟩:=h.ae aG;exact⟨v,by unfold execOp;rw[aU];simp[he,Instr.extract,h1,cq,cp],h2⟩
end
def P.one:P->Bool
 |.v x=>oK x
 |.sl _ _ _=>ad
variable {E:Nat->Nat}{w:bj}
theorem iW.one{x:P}{v:be}(h:iW E w x v)(h1:x.one=ad):oK v=ad:=by
 cases h with
 |v=>exact h1
 |nil=>rfl
 |y0=>rfl
 |sl=>rfl
variable {k n:Nat}
theorem iW.u1{cs:List P}{v:be}(h:iW E w (.sl k n cs) v):((∃qZ,v=.slice qZ 0 0)/\n=0/\cs=[])\/∃b o cap us,v=.slice (I ⟨b,o,aJ⟩) n cap/\n<=cap/\o+n*k<=E b/\b<w.heap.size/\cs.length=n*k/\fH E w cs us/\
  ∀j u,us[j]? =I u->w.cell? ⟨b,o+j,aJ⟩=I u:=by
 cases h with
 |nil=>exact .inl ⟨⟨_,rfl⟩,rfl,rfl⟩
 |y0=>exact .inl ⟨⟨_,rfl⟩,rfl,rfl⟩
 |@sl k n cs b o cap u aC ax aY aF hu h=>
  refine .inr ⟨b,o,cap,(gD (n*k)).map u,rfl,ax,aY,aF,aC,⟨by simp[aC],λj c x ag ak=>?_⟩,λj x ak=>?_⟩
  ·rw[gQ,E']at ak;obtain⟨i,hi,e⟩:=ak;have:=(cz.1 hi)
   obtain⟨b',he⟩:=this;rw[E_]at he;subst he;subst e;exact h j c ag
  ·rw[gQ,E']at ak;obtain⟨i,hi,e⟩:=ak;obtain⟨b',he⟩:=(cz.1 hi)
   rw[E_]at he;subst he;subst e;exact hu j (by simpa using b')
theorem fH.sl{E:Nat->Nat}{w:bj}{k n b o cap:Nat}{cs:List P}{us:List be}(h:fH E w cs us)(aC:cs.length=n*k)(ax:n<=cap)(aY:o+n*k<=E b)(aF:b<w.heap.size)(hu:∀j u,us[j]? =I u->w.cell? ⟨b,o+j,aJ⟩=I u):
  iW E w (.sl k n cs) (.slice (I ⟨b,o,aJ⟩) n cap):=by
 have hlen:=h.1;refine .sl (λj=>us.getD j undef) aC ax aY aF (λj ag=>?_) (λj c ag=>?_)
 ·have ly:j<us.length:=by omega
  rw[hu j us[j] (bN ly)];simp[Cz,bN ly]
 ·have ly:j<us.length:=by have:=(cz.1 ag).1;omega
  have:=h.2 j c us[j] ag (bN ly);simpa[Cz,bN ly]using this
theorem fH.one{E:Nat->Nat}{w:bj}{cs:List P}{us:List be}(h:fH E w cs us)(h1:∀c∈cs,c.one=ad):∀u∈us,oK u=ad:=λu hu=>by
 obtain⟨j,ag⟩:=List.getElem?_of_mem hu;have ly:j<cs.length:=by have:=(cz.1 ag).1;have:=h.1;omega
 exact(h.2 j _ u (bN ly) ag).one (h1 _ (List.getElem_mem _))
variable {us:List be}
theorem fH.append{cs ds:List P} {vs:List be}(h:fH E w cs us)(k:fH E w ds vs):fH E w (cs++ds) (us++vs):=by
 refine⟨by simp[h.1,k.1],λj c u ag hu=>?_⟩;rw[SR]at ag hu;have aC:=h.1;by_cases b':j<cs.length
 ·rw[if_pos b']at ag;rw[if_pos (by omega)]at hu;exact h.2 j c u ag hu
 ·rw[if_neg b']at ag;rw[if_neg (by omega)]at hu;rw[aC]at ag;exact k.2 _ c u ag hu
variable {m:Nat}{news xs:List be}
theorem aal{aw:cF} {t ty e bytes:Nat}{z v:be} {c:Nat}{a:wa}(aj:aw.underlying t=I (.slice e))(hi:(aw.info? e).map (λi=>(i.zero,i.size,i.bytes))=I (I z,k,bytes))(aP:z.cells.size=k)
  (ap:0<k) (h:w.ownsRow 0 e k v n xs) (aC:news.length=m*k) (a6:∀j u,news[j]? =I u->w.cell? (a.add j)=I u) (h1:∀u∈news,oK u=ad) (CJ:n+m<=9223372036854775807) (sM:(n+m)*bytes<=140737488355328):
  ∃v' w',(Builtin.append_ #[t,t] ty #[v,.slice (I a) m c]).run aw w=.ok v' w'/\w'.ownsRow 0 e k v' (n+m) (xs++news)/\w'.os=w.os/\w'.tape=w.tape/\w'.output=w.output/\w.heap.size<=w'.heap.size/\
   ((v'.ownBlock=v.ownBlock/\∀b,b<w.heap.size->v.ownBlock≠I b->w'.heap[b]? =w.heap[b]?)\/(v'.ownBlock=I w.heap.size/\∀b,b<w.heap.size->w'.heap[b]? =w.heap[b]?)):=by
 obtain⟨i,kW,Fh,xE,Fi⟩:∃i,aw.info? e=I i/\i.zero=I z/\i.size=k/\i.bytes=bytes:=by
  cases ak:aw.info? e with
  |none=>rw[ak]at hi;cases hi
  |some i=>rw[ak]at hi;simp only[nE,je,Prod.mk.injEq]at hi;exact⟨i,rfl,hi.1,hi.2.1,hi.2.2⟩
 have rR:n+m<=maxLen:=by unfold maxLen;omega
 have rK:∀u∈news,u.oneCell'=ad:=λu hu=>by rw[<-ai4];exact h1 u hu
 obtain⟨v',w',aO,aU,b5,_,As⟩:=run_append_own_at (P:=aw) (ty:=ty) w 0 t e i z k bytes aj kW Fh xE Fi aP ap v n xs h a m c news aC a6 rK rR sM (fR _);refine⟨v',w',aO,aU,b5.os,b5.tape,b5.output,b5.size,?_⟩;by_cases a2:v'.ownBlock=v.ownBlock
 ·exact .inl ⟨a2,λb aF fM=>b5.block b aF (λe=>fM e.symm)⟩
 ·have bc:v'.ownBlock=I w.heap.size:=by rcases As with h|h;exact absurd h a2;exact h
  refine .inr ⟨bc,λb aF=>?_⟩;rcases h.2 with⟨rfl,rfl⟩|⟨q,cap,hy,rfl,aB,ajp,S6,aam,gl,Ao⟩
  ·exact b5.block b aF (λe=>by cases e)
  ·by_cases aan:n+m<=cap
   ·have nH:n*i.size+news.length<=hy.size:=by rw[aC,gl,xE,<-il];exact qX _ aan
    have At:=run_append_room (P:=aw) w t ty e i aj kW q n cap hy ajp a m c news (by rw[xE];exact aC) a6 rK aan nH;rw[aO]at At;cases At;exact absurd rfl a2
   ·have holds:∀j u,xs[j]? =I u->w.cell? ((⟨q,0,aJ⟩:wa).add j)=I u:=World.ownsRow.cells (g:=q) h rfl;have At:=run_append_grow (P:=aw) w t ty e i z aj kW Fh ⟨q,0,aJ⟩ n cap xs (by rw[xE];exact h.1) holds a m c news (by rw[xE];exact aC) a6 (by omega) (by omega) (growslice_fits (by omega) (by rw[Fi];exact sM));rw[aO]at At;cases At;exact heap_alloc_old w.drew _ b aF
theorem ownsRow.sl{w:bj}{T k n:Nat}{v:be}{us:List be}{E:Nat->Nat}{cs:List P}(h:w.ownsRow 0 T k v n us)(ax:fH E w cs us)(aY:∀b,v.ownBlock=I b->E b=n*k):iW E w (.sl k n cs) v:=by
 have aC:=ax.1;rw[h.1]at aC;rcases h.2 with⟨rfl,rfl⟩|⟨q,cap,hy,rfl,_,b5,S6,_,gl,Ao⟩
 ·have:cs=[]:=pr (by simpa using aC);subst this;exact .nil
 ·have e:=aY q rfl;refine ax.sl aC S6 (by omega) (n_.1 b5).1 λj u ag=>?_;rw[ib];unfold rH;simp only[b5];have ly:=(cz.1 ag).1;rw[<-Ao,kd]at ag;split at ag
  ·simpa using ag
  ·cases ag
variable {T i:Nat}
theorem cn.ajq{g:cu} {w':bj}{H:List aN} {lh:Nat}{v':be}(h:g6 g w H)(hi:H[i]? =I (.bs T k m))(aU:w.ownsRow 0 T k (g.h i) n xs)(u2:w'.ownsRow 0 T k v' lh (xs++news))(we:n<=lh)
  (xB:w'.os=w.os) (IN:w'.tape=w.tape) (IP:w'.output=w.output) (gw:w.heap.size<=w'.heap.size)
  (As:(v'.ownBlock=(g.h i).ownBlock/\∀b,b<w.heap.size->(g.h i).ownBlock≠I b->w'.heap[b]? =w.heap[b]?)\/(v'.ownBlock=I w.heap.size/\∀b,b<w.heap.size->w'.heap[b]? =w.heap[b]?)):
  cn w g H ⟨g.β,(match v'.ownBlock with|some b=>dT g.E b (lh*k)|none=>g.E),dT g.h i v'⟩ w' (H.set i (.bs T k (m+1)))/\∀b,v'.ownBlock=I b->(match v'.ownBlock with|some b=>dT g.E b (lh*k)|none=>g.E) b=lh*k:=by
 have c4:=(cz.1 hi).1;have eR:∀b,own g H i b↔(g.h i).ownBlock=I b:=λb=>by unfold own;rw[hi];exact Iff.rfl
 obtain⟨el,us,q0,tV⟩:=h.eP i _ hi;have IQ:∀b,(g.h i).ownBlock=I b->el=n:=λb aF=>by
  rcases aU.2 with⟨e,_⟩|⟨q,cap,hy,e,_⟩
  ·rw[e]at aF;cases aF
  ·rcases q0.2 with⟨im,_⟩|⟨gn,MO,S7,im,_⟩
   ·rw[e]at im;cases im
   ·rw[e]at im;cases im;rfl
 have aao:∀b,(g.h i).ownBlock=I b->g.E b=n*k:=λb aF=>by rw[tV b aF,IQ b aF]
 have ku:∀b,v'.ownBlock=I b->(match v'.ownBlock with|some b=>dT g.E b (lh*k)|none=>g.E) b=lh*k:=λb aF=>by rw[aF];exact fL _ _ _
 have q1:∀b,v'.ownBlock≠I b->(match v'.ownBlock with|some b=>dT g.E b (lh*k)|none=>g.E) b=g.E b:=λb aF=>by
  cases e:v'.ownBlock with
  |none=>rfl
  |some q=>exact lg λh=>aF (by rw[e,h])
 refine⟨cn.one h c4 xB IN IP gw (λb aC a6=>?_) (λb o aF b'=>?_) (λb aF=>?_) (λj ag=>⟨rfl,lg ag⟩) (λaC=>by rw[hi]at aC;exact aC.elim) (λm' hm=>?_) (λb aF=>?_) (λei=>?_),ku⟩
 ·have mh:(g.h i).ownBlock≠I b:=λe=>a6 ((eR b).2 e);rcases As with⟨e,ap⟩|⟨e,ap⟩
  ·exact⟨ap b aC mh,q1 b (by rw[e];exact mh)⟩
  ·exact⟨ap b aC,q1 b (by rw[e];intro bc;cases bc;omega)⟩
 ·have aF:=(eR b).1 aF;replace b':o<n*k:=by rw[<-aao b aF];exact b'
  rcases As with⟨e,ap⟩|⟨e,ap⟩
  ·rcases aU.2 with⟨a2,_⟩|⟨q,cap,hy,a2,_,b5,_,_,_,Ao⟩
   ·rw[a2]at aF;cases aF
   ·rw[a2]at aF e;cases aF;rcases u2.2 with⟨bc,_⟩|⟨gn,MO,S7,bc,_,Au,_,_,_,ajr⟩
    ·rw[bc]at e;cases e
    ·rw[bc]at e;cases e;unfold rH;simp only[b5,Au];have h1:hy.toList[o]? =xs[o]? :=by rw[<-Ao,kd,if_pos b']
     have h2:S7.toList[o]? =(xs++news)[o]? :=by rw[<-ajr,kd,if_pos (wc b' (qX _ we))]
     rw[oI (by rw[aU.1];exact b')]at h2;simpa using h2.trans h1.symm
  ·exact IF (ap b (y1 h ((eR b).2 aF)))
 ·have aF:=(eR b).1 aF;by_cases e:v'.ownBlock=I b
  ·show g.E b<=(match v'.ownBlock with|some b=>dT g.E b (lh*k)|none=>g.E) b;rw[ku b e,aao b aF];exact qX _ we
  ·exact Mz (q1 b e).symm
 ·rw[hi]at hm;cases hm;exact⟨_,rfl,Nat.le_succ _,λe=>by omega⟩
 ·have aF:(dT g.h i v' i).ownBlock=I b:=aF;rw[fL]at aF;rcases As with⟨e,ap⟩|⟨e,ap⟩
  ·exact .inl ((eR b).2 (by rw[<-e];exact aF))
  ·rw[e]at aF;cases aF;exact .inr (bL _)
 ·refine⟨lh,xs++news,?_,λb aF=>?_⟩
  ·show w'.ownsRow 0 T k (dT g.h i v' i) lh _;rw[fL];exact u2
  ·have aF:(dT g.h i v' i).ownBlock=I b:=aF;rw[fL]at aF;exact ku b aF
theorem cn.ajs{g:cu}{H:List aN}(h:g6 g w H)(hi:H[i]? =I .cc)(aC:us.length=n*k)(hm:n<=maxLen):
  cn w g H ⟨g.β,dT g.E w.heap.size (n*k),dT g.h i (.slice (I ⟨w.heap.size,0,aJ⟩) n n)⟩ (w.alloc (.cells us.toArray T)) (H.set i (.bs T k 0)):=by
 have c4:=(cz.1 hi).1;have aF:=CB w (.cells us.toArray T);have dL:∀b,¬own g H i b:=λb aU=>by unfold own at aU;rw[hi]at aU;exact aU
 refine cn.one h c4 aF.os aF.tape aF.output aF.size (λb aC _=>⟨aF.block b aC,lg (by omega)⟩) (λb _ aU=>absurd aU (dL b)) (λb aU=>absurd aU (dL b)) (λj ag=>⟨rfl,lg ag⟩) (λaC=>by rw[hi]at aC;exact aC.elim)
  (λm hm=>by rw[hi]at hm;cases hm) (λb aU=>?_) (λei=>?_)
 ·have e:(dT g.h i (.slice (I ⟨w.heap.size,0,aJ⟩) n n) i).ownBlock=I b:=aU;rw[fL]at e;cases e;exact .inr (bL _)
 ·refine⟨n,us,?_,λb aF=>?_⟩
  ·show SQ _ 0 T k (dT g.h i _ i) n us;rw[fL];exact⟨aC,.inr ⟨w.heap.size,n,_,rfl,fR _,CC w us T,bL _,hm,by simpa using aC,by rw[g4 (by simp[aC])]⟩⟩
  ·have e:(dT g.h i (.slice (I ⟨w.heap.size,0,aJ⟩) n n) i).ownBlock=I b:=aF;rw[fL]at e;cases e;exact fL _ _ _
theorem cn.aap{g:cu}{H:List aN}(h:g6 g w H)(hi:H[i]? =I .cc):cn w g H ⟨g.β,g.E,dT g.h i (.slice aJ 0 0)⟩ w (H.set i (.bs T k 0)):=by
 have c4:=(cz.1 hi).1;have dL:∀b,¬own g H i b:=λb aU=>by unfold own at aU;rw[hi]at aU;exact aU
 refine cn.one h c4 rfl rfl rfl (bL _) (λb _ _=>⟨rfl,rfl⟩) (λb _ aU=>absurd aU (dL b)) (λb aU=>absurd aU (dL b)) (λj ag=>⟨rfl,lg ag⟩) (λaC=>by rw[hi]at aC;exact aC.elim)
  (λm hm=>by rw[hi]at hm;cases hm) (λb aU=>?_) (λei=>?_)
 ·have e:(dT g.h i (.slice aJ 0 0) i).ownBlock=I b:=aU;rw[fL]at e;cases e
 ·refine⟨0,[],?_,λb aF=>?_⟩
  ·show SQ _ 0 T k (dT g.h i _ i) 0 [];rw[fL];exact⟨by simp,.inl ⟨rfl,rfl⟩⟩
  ·have e:(dT g.h i (.slice aJ 0 0) i).ownBlock=I b:=aF;rw[fL]at e;cases e
end Go.Dp

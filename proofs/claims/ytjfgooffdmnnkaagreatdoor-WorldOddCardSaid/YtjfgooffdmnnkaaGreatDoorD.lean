/- Closed calls are worked out by a function: what each operation, each code and each call yields, over what values mean. No proof here: it follows in the next texts. -/
import Derived.Test.YtjfgooffdmnnkaaGreatDoorC
import Derived.Lib.ConvBytes
import Derived.LoopNIn
import Derived.RecoverIn
set_option linter.all false
namespace Go.Dp
open Go Go.Mi Go.RowKit
open _root_.Array renaming getElem?_eq_some_iff->n_,length_toList->Cx
open Bool renaming true->ad,rec->xV,false->aS
open Go renaming Value->be,World->bj,Program->cF,Operand->bY,TypeId->co,Oper->b_,TypeDesc->Jg,FuncId->hE,Exit->df
open Go.Builtin renaming clear_->TW,zeroCells->abo,len_->IT
open Go.Call renaming operands->ji
open Go.Instr renaming sliceBound->qh,sliceBounds->sS,sureAddr->u3,findNow->FJ,findKey->TX,fill->n',findAsking->FK,sliceAt->u',indexAt->abp,slice->va
open Go.Op renaming operands->dw,equalIn->kZ,equal->lG
open Go.Result renaming andThen->cp
open Go.Sem renaming run_bind->cq,run_pure->jp
open Go.World renaming putObj_heap_same->Nq,cell?->rH,putObj_heap_other->abq
open List renaming replicate->cC,getElem?_eq_some_iff->cz,getElem?_append_left->oI,getElem?_take->kd,getElem?_append_right->q2,rec->wo,getElem?_eq_getElem->bN,getElem?_replicate->FE,getElem?_cons_succ->TY,modify_succ_cons->TZ,getElem?_eq_none->nD,set_cons_succ->T0,eq_nil_of_length_eq_zero->pr,length_replicate->abr,getElem?_drop->sH,getElem?_map->gQ,ext_getElem?->m3,length_take->fF,length_cons->oa,mem_cons->qf
open Nat renaming le_refl->bL,blt_eq->lA,min_eq_left->l0,shiftRight->Jh,mul_one->pA,beq->eF,zero_le->fR,succ->Ji,zero_add->ib,eq_of_beq_eq_true->mi,land->Nr,shiftLeft->abs,lor->abt
open Option renaming some->I,none->aJ,isNone->AJ
open Option.some renaming injEq->je,inj->rS
inductive M (α:Type) where
 |ok (a:α)
 |bt (azQ:String)
noncomputable def M.b{α β:Type}(x:M α)(f:α->M β):M β:=M.rec (motive:=λ_=>M β) f (λs=>.bt s) x
noncomputable def eP{α β:Type}(s:String)(x:Option α)(f:α->M β):M β:=Option.rec (motive:=λ_=>M β) (.bt s) f x
noncomputable def y_{β:Type}(c:Bool)(t e:M β):M β:=xV (motive:=λ_=>M β) e t c
noncomputable def T1{α β:Type}(s:String)(l:List α)(i:Nat)(k:α->M β):M β:=
 wo (motive:=λ_=>Nat->M β) (λ_=>.bt s) (λx _ bx i=>Nat.rec (motive:=λ_=>M β) (k x) (λj _=>bx j) i) l i
inductive hr where
 |e
 |c (t:Nat) (v:V) (r:hr)
def hr.kh:hr->ce
 |.e=>[]
 |.c t v r=>(t,v)::r.kh
noncomputable def ud(mask i:Nat):Bool:=eF (Nr (Jh mask i) 1) 1
noncomputable def qY(mask i:Nat):Nat:=abt mask (abs 1 i)
inductive iY where
 |mk (cf:Nat) (lc l:hr)
def Jj:List (Nat×List be)->Nat->V
 |[],g=>.p (.v (.pointer (I ⟨g,0,aJ⟩)))
 |(b,cs)::r,g=>cond (eF b g) (.bG (cs.map .v)) (Jj r g)
def y'(l:ce):bY->Option V
 |.global g=>I (Jj CG g)
 |x=>bV l x
noncomputable def V.val(d:V):Option be:=
 V.rec (motive_1:=λ_=>Option be) (motive_2:=λ_=>Option (List be))
  (λx=>match x with| .v v=>I v|_=>aJ) (λ_ _ _ _ _=>aJ) (λ_ _=>aJ) (λ_=>aJ) (λ_ _ _ _=>aJ) (λ_=>aJ)
  (λf b c _ _=>match b,c with|[],[]=>I (.func f #[] #[])|_,_=>aJ) (λ_ r=>r.map λl=>.agg l.toArray) (λ_ r=>r.map λl=>.tuple l.toArray) (λ_=>aJ) aJ (λ_ _ _ _ _=>aJ) (λ_ _ _=>aJ)
  (I []) (λ_ _ a b=>match a,b with|some x,I xs=>I (x::xs)|_,_=>aJ) d
def Ns:List V->Option (List P)
 |[]=>I []
 |d::ds=>match d,Ns ds with
  |.p x,I r=>I (x::r)
  |.cZ k n cs _ _,I r=>I (.sl k n cs::r)
  |_,_=>aJ
def V.T2:V->Bool
 |.cZ _ (_+1) _ _ _=>ad
 |.p (.sl _ (_+1) _)=>ad
 |.ek .. =>ad
 |_=>aS
def V.T3:V->Bool
 |.aV .. =>ad
 |.bG .. =>ad
 |_=>aS
def V.FL:V->Bool
 |.fn .. =>ad
 |.p (.v (.func ..))=>ad
 |_=>aS
def V.T4:V->Bool
 |.map _=>ad
 |_=>aS
def FM(u:Jg)(a b:V):Bool:=match u,b with
 |.slice _,.p (.v (.slice aJ _ _))=>a.T2
 |.map _ _,.p (.v (.map aJ))=>a.T4
 |.func _ _ _,.p (.v .nilFunc)=>a.FL
 |.pointer _,.p (.v (.pointer aJ))=>a.T3
 |_,_=>aS
abbrev K(β:Type):=V->Nat->List (Nat×aN)->List (Nat×aN)->M β
section ops
variable {β : Type} (aw : cF) (f : iY) (H : List aN) (pB : V -> M β) (k : K β)
def T5:Jg->Bool
 |.struct _=>ad
 |_=>aS
end ops
inductive Nt where
 |n
 |ret
 |exit (id:Nat)
inductive wp where
 |mark (i:Nat)
 |fn (f:hE) (fp:List V)
inductive akO where
 |mk (e:Nt) (l:hr) (H:List aN) (ds:List wp)
structure akP where
 f:Nat
 xs:List V
 r:V
 H:List aN
structure C3 where
 P:cF
 azR:List Nat
 qk:Nat
 eC:List akP
 azS:Nat:=0
noncomputable def Jk(a1:List Nat)(i:Nat):Option Nat:=wo (motive:=λ_=>Nat->Option Nat) (λ_=>aJ) (λj _ bx n=>xV (motive:=λ_=>Option Nat) (bx (Ji n)) (I n) (eF j i)) a1 0
noncomputable def V.pC(d:V)(s:Nat->Option Nat):Option V:=
 V.rec (motive_1:=λ_=>Option V) (motive_2:=λ_=>Option (List V))
  (λx=>I (.p x)) (λk n cs t m=>(s t).map λt=>.cZ k n cs t m) (λi o=>(s i).map λi=>.aV i o) (λcs=>I (.bG cs)) (λi o n c=>(s i).map λi=>.ek i o n c) (λi=>(s i).map .map)
  (λf _ _ b c=>match b,c with|some b,I c=>I (.fn f b c)|_,_=>aJ) (λ_ r=>r.map .agg) (λ_ r=>r.map .cx) (λi=>(s i).map .gV) (I .z) (λk n t m o=>(s t).map λt=>.gs k n t m o) (λt m o=>(s t).map λt=>.kr t m o)
  (I []) (λ_ _ x xs=>match x,xs with|some x,I xs=>I (x::xs)|_,_=>aJ) d
noncomputable def sX(s:Nat->Option Nat)(ds:List V):Option (List V):=wo (motive:=λ_=>Option (List V)) (I []) (λd _ bx=>match d.pC s,bx with|some x,I xs=>I (x::xs)|_,_=>aJ) ds
noncomputable def Jl(s:Nat->Option Nat)(kv:List (be×V)):Option (List (be×V)):=wo (motive:=λ_=>Option (List (be×V))) (I []) (λq _ bx=>match q.2.pC s,bx with|some x,I xs=>I ((q.1,x)::xs)|_,_=>aJ) kv
noncomputable def FN(s:Nat->Option Nat)(fr:ce):Option ce:=wo (motive:=λ_=>Option ce) (I []) (λq _ bx=>match q.2.pC s,bx with|some x,I xs=>I ((q.1,x)::xs)|_,_=>aJ) fr
noncomputable def aN.pC(o:aN)(s:Nat->Option Nat):Option aN:=match o with
 |.cc=>I .cc
 |.cells T cs=>(sX s cs).map (.cells T)
 |.bA T cs=>I (.bA T cs)
 |.bs T k m=>I (.bs T k m)
 |.fq T k m cs=>I (.fq T k m cs)
 |.gF T cs=>I (.gF T cs)
 |.pt c bT kv=>(Jl s kv).map (.pt c bT)
 |.loop st ee f N fr ps a b j=>match FN s fr,s j with|some fr,I j=>I (.loop st ee f N fr ps a b j)|_,_=>aJ
 |.cD b=>I (.cD b)
 |.rN j=>(s j).map .rN
 |.oL dX kv=>I (.oL dX kv)
 |.lX j A=>(s j).map λj=>.lX j A
 |.qd ds vs=>(sX s ds).map λds=>.qd ds vs
noncomputable def abu(a1:List Nat):Bool:=wo (motive:=λ_=>Nat->Bool) (λ_=>ad) (λi _ bx mask=>xV (motive:=λ_=>Bool) (bx (qY mask i)) aS (ud mask i)) a1 0
noncomputable def T6{β:Type}(H:List aN)(s:Nat->Option Nat)(a1:List Nat)(k:List aN->M β):M β:=
 wo (motive:=λ_=>(List aN->M β)->M β) (λk=>k []) (λi _ bx k=>T1 "object" H i λo=>eP "name" (o.pC s) λo'=>bx λos=>k (o'::os)) a1 k
abbrev C4:=Nat->Option Nat->hE->Code->hr->List aN->List wp->M akO
noncomputable def hr.J(l:hr)(cf:Nat):ce:=hr.rec (motive:=λ_=>ce) [] (λt v _ bx=>xV (motive:=λ_=>ce) bx ((t,v)::bx) (ud cf t)) l
section akQ
end akQ
section words
variable {α β m8 : Type} {b : β}
theorem akR{s:String}{x:Option α}{f:α->M β}(h:eP s x f=.ok b):∃a,x=I a/\f a=.ok b:=by
 cases x with
 |none=>cases h
 |some a=>exact⟨a,rfl,h⟩
theorem abv{s:String}:∀{l:List α}{i:Nat}{k:α->M β},T1 s l i k=.ok b->∃a,l[i]? =I a/\k a=.ok b
 |[],_,_,h=>by cases h
 |x::_,0,_,h=>⟨x,rfl,h⟩
 |_::l,i+1,k,h=>by obtain⟨a,h1,h2⟩:=abv (l:=l) (i:=i) h;exact⟨a,by simpa using h1,h2⟩
end words
section
noncomputable def iY.kh:iY->ce
 |.mk cf lc l=>(lc.kh.filter λq=> !ud cf q.1)++l.kh.filter λq=>ud cf q.1
section
variable {β : Type} {b : β}
end
noncomputable def xW:List V->Option (List be)
 |[]=>I []
 |d::ds=>match d.val,xW ds with
  |some x,I xs=>I (x::xs)
  |_,_=>aJ
noncomputable def abw(cs:List V):Option (List be):=
 V.rec_1 (motive_1:=λ_=>Option be) (motive_2:=λ_=>Option (List be))
  (λx=>match x with| .v v=>I v|_=>aJ) (λ_ _ _ _ _=>aJ) (λ_ _=>aJ) (λ_=>aJ) (λ_ _ _ _=>aJ) (λ_=>aJ)
  (λf b c _ _=>match b,c with|[],[]=>I (.func f #[] #[])|_,_=>aJ) (λ_ r=>r.map λl=>.agg l.toArray) (λ_ r=>r.map λl=>.tuple l.toArray) (λ_=>aJ) aJ (λ_ _ _ _ _=>aJ) (λ_ _ _=>aJ)
  (I []) (λ_ _ a b=>match a,b with|some x,I xs=>I (x::xs)|_,_=>aJ) cs
theorem T7:∀(cs:List V),abw cs=xW cs
 |[]=>rfl
 |d::ds=>by show(match d.val,abw ds with|some x,I xs=>I (x::xs)|_,_=>aJ)=_;rw[T7 ds];rfl
theorem akS(cs:List V):(V.agg cs).val=(xW cs).map λl=>.agg l.toArray:=by rw[<-T7];rfl
theorem akT(cs:List V):(V.cx cs).val=(xW cs).map λl=>.tuple l.toArray:=by rw[<-T7];rfl
section
variable {g : cu} {w : bj} {H : List aN}
mutual
theorem cN.val:∀{d:V}{v u:be},d.val=I v->cN g w H d u->u=v
 |.p (.v x),v,u,h,hu=>by have e:I x=I v:=h;cases e;exact hu.ic
 |.p (.sl ..),_,_,h,_=>by cases h
 |.cZ ..,_,_,h,_=>by cases h
 |.aV ..,_,_,h,_=>by cases h
 |.bG _,_,_,h,_=>by cases h
 |.ek ..,_,_,h,_=>by cases h
 |.map _,_,_,h,_=>by cases h
 |.gV _,_,_,h,_=>by cases h
 |.z,_,_,h,_=>by cases h
 |.gs ..,_,_,h,_=>by cases h
 |.kr ..,_,_,h,_=>by cases h
 |.fn f [] [],v,u,h,hu=>by have e:I (Value.func f #[] #[])=I v:=h;cases e;cases hu with|fn h1 h2=>cases h1;cases h2;rfl
 |.fn _ (_::_) _,_,_,h,_=>by cases h
 |.fn _ [] (_::_),_,_,h,_=>by cases h
 |.agg cs,v,u,h,hu=>by
  rw[akS]at h;cases ax:xW cs with
  |none=>rw[ax]at h;cases h
  |some l=>rw[ax]at h;cases h;cases hu with|agg aQ=>rw[dp.val ax aQ]
 |.cx cs,v,u,h,hu=>by
  rw[akT]at h;cases ax:xW cs with
  |none=>rw[ax]at h;cases h
  |some l=>rw[ax]at h;cases h;cases hu with|cx aQ=>rw[dp.val ax aQ]
theorem dp.val:∀{ds:List V}{vs us:List be},xW ds=I vs->dp g w H ds us->us=vs
 |[],_,_,h,hu=>by cases hu;simp only[xW,je]at h;exact h
 |d::ds,vs,us,h,hu=>by
  cases hu with
  |cons h1 h2=>
   simp only[xW]at h;cases aG:d.val with
   |none=>rw[aG]at h;cases h
   |some x=>
    cases aQ:xW ds with
    |none=>rw[aG,aQ]at h;cases h
    |some xs=>rw[aG,aQ]at h;cases h;rw[cN.val aG h1,dp.val aQ h2]
end
end
def FO{β:Type}(aw:cF)(op:Op)(ty:co)(l:ce)(H:List aN)(pB:V->M β)(k:K β)(b:β):Prop:=
 (∃d,bP aw op ty (y' l) [] [] d/\pB d=.ok b)\/∃d m dx c0,bP aw op ty (y' l) dx c0 d/\gx (H++cC m .cc) dx/\(∀q∈c0,q.1<H.length+m)/\k d m dx c0=.ok b
section
variable {β : Type} {b : β} {aw : cF} {ty : co} {f : iY} {H : List aN} {pB : V -> M β} {k : K β}
variable {op:Op}
theorem FO.p{d:V}(h:bP aw op ty (y' f.kh) [] [] d)(ap:pB d=.ok b):FO aw op ty f.kh H pB k b:=.inl ⟨d,h,ap⟩
variable {i:Nat}
theorem FO.r{d:V}{o:aN}(h:bP aw op ty (y' f.kh) [(i,o)] [] d)(hi:H[i]? =I o)(ap:k d 0 [(i,o)] []=.ok b):FO aw op ty f.kh H pB k b:=
 .inr ⟨_,0,_,_,h,fa (by simpa using hi),λq aB=>(by cases aB),ap⟩
theorem FO.w{d:V}{o o':aN}(h:bP aw op ty (y' f.kh) [(i,o)] [(i,o')] d)(hi:H[i]? =I o)(ap:k d 0 [(i,o)] [(i,o')]=.ok b):FO aw op ty f.kh H pB k b:=
 .inr ⟨_,0,_,_,h,fa (by simpa using hi),λq aB=>(by simp at aB;subst aB;exact(cz.1 hi).1),ap⟩
end
end
section
variable {β : Type} {b : β} {aw : cF} {ty : co} {f : iY} {H : List aN} {pB : V -> M β} {k : K β}
theorem AK(T:co)(x y:be):∃d,lG T x y=kZ (d+1) T x y:=⟨9999,rfl⟩
variable {T:co}{g:cu}{k1 sY:be}
theorem akU{u:Jg}{a c:V}{w:bj}{H:List aN}(hu:∀w,(underlying T).run aw w=.ok u w)(h:FM u a c=ad)(a4:cN g w H a k1)(ax:cN g w H c sY)(x y:bY):
  (∀op,op=.eql\/op=.neq->(eqGuard op T x y k1 sY).run aw w=.ok () w/\(eqGuard op T y x sY k1).run aw w=.ok () w)/\(lG T k1 sY).run aw w=.ok aS w/\(lG T sY k1).run aw w=.ok aS w:=by
 have Jm:∀{k n:Nat}{cs:List P}{v:be},iW g.E w (.sl k (n+1) cs) v->∃p m c,v=.slice (I p) m c:=λh=>by
  rcases h.u1 with⟨_,bh,_⟩|⟨b,o,cap,us,e,_⟩
  ·cases bh
  ·exact⟨_,_,_,e⟩
 unfold FM at h;split at h
 ·have aQ:∃p m c,k1=.slice (I p) m c:=by
   unfold V.T2 at h;split at h
   ·cases a4 with|cZ h1 _=>exact Jm h1
   ·cases a4 with|p h1=>exact Jm h1
   ·cases a4 with|ek _=>exact⟨_,_,_,rfl⟩
   ·cases h
  obtain⟨p,m,c,rfl⟩:=aQ;have:=ax.ic;subst this;refine⟨?_,?_,?_⟩
  ·rintro op (rfl|rfl)<;>exact⟨rfl,rfl⟩
  ·obtain⟨d,e⟩:=AK T _ _;rw[e];simp only[kZ,hu,cq,cp,jp,AJ]
  ·obtain⟨d,e⟩:=AK T _ _;rw[e];simp only[kZ,hu,cq,cp,jp,AJ]
 ·have aQ:∃i,k1=.map (I i):=by
   unfold V.T4 at h;split at h
   ·cases a4 with|map _=>exact⟨_,rfl⟩
   ·cases h
  obtain⟨i,rfl⟩:=aQ;have:=ax.ic;subst this;refine⟨?_,?_,?_⟩
  ·rintro op (rfl|rfl)<;>exact⟨rfl,rfl⟩
  ·obtain⟨d,e⟩:=AK T _ _;rw[e];simp only[kZ,hu,cq,cp,jp,AJ]
  ·obtain⟨d,e⟩:=AK T _ _;rw[e];simp only[kZ,hu,cq,cp,jp,AJ]
 ·have aQ:∃q xs cO,k1=.func q xs cO:=by
   unfold V.FL at h;split at h
   ·cases a4 with|fn _ _=>exact⟨_,_,_,rfl⟩
   ·exact⟨_,_,_,a4.ic⟩
   ·cases h
  obtain⟨q,xs,cO,rfl⟩:=aQ;have:=ax.ic;subst this;refine⟨?_,?_,?_⟩
  ·rintro op (rfl|rfl)<;>exact⟨rfl,rfl⟩
  ·obtain⟨d,e⟩:=AK T _ _;rw[e];simp only[kZ,hu,cq,cp,jp,AJ]
  ·obtain⟨d,e⟩:=AK T _ _;rw[e];simp only[kZ,hu,cq,cp,jp,AJ]
 ·have aQ:∃p,k1=.pointer (I p):=by
   unfold V.T3 at h;split at h
   ·cases a4 with|aV _=>exact⟨_,rfl⟩
   ·cases a4 with|bG _ _ _ _ _=>exact⟨_,rfl⟩
   ·cases h
  obtain⟨p,rfl⟩:=aQ;have:=ax.ic;subst this;refine⟨?_,?_,?_⟩
  ·rintro op (rfl|rfl)<;>exact⟨rfl,rfl⟩
  ·obtain⟨d,e⟩:=AK T _ _;rw[e];simp only[kZ,hu,cq,cp,jp,AJ]
  ·obtain⟨d,e⟩:=AK T _ _;rw[e];simp only[kZ,hu,cq,cp,jp,AJ]
 ·cases h
theorem akV{u:Jg}{a c:V}{w:bj}{H:List aN}(h:FM u a c=ad)(a4:cN g w H a k1):(∀k n,k1≠ .int k n)/\(∀k n,k1≠ .float k n)/\(∀k n m,k1≠ .complex k n m)/\(∀s,k1≠ .string s):=by
 have Jm:∀{k n:Nat}{cs:List P}{v:be},iW g.E w (.sl k n cs) v->∃p m c,v=.slice p m c:=λh=>by
  rcases h.u1 with⟨⟨qZ,e⟩,_,_⟩|⟨b,o,cap,us,e,_⟩
  ·exact⟨_,_,_,e⟩
  ·exact⟨_,_,_,e⟩
 unfold FM at h;split at h
 ·have aQ:∃p m c,k1=.slice p m c:=by
   unfold V.T2 at h;split at h
   ·cases a4 with|cZ h1 _=>exact Jm h1
   ·cases a4 with|p h1=>exact Jm h1
   ·cases a4 with|ek _=>exact⟨_,_,_,rfl⟩
   ·cases h
  obtain⟨p,m,c,rfl⟩:=aQ;exact⟨λ_ _=>by simp,λ_ _=>by simp,λ_ _ _=>by simp,λ_=>by simp⟩
 ·unfold V.T4 at h;split at h
  ·cases a4 with|map _=>exact⟨λ_ _=>by simp,λ_ _=>by simp,λ_ _ _=>by simp,λ_=>by simp⟩
  ·cases h
 ·unfold V.FL at h;split at h
  ·cases a4 with|fn _ _=>exact⟨λ_ _=>by simp,λ_ _=>by simp,λ_ _ _=>by simp,λ_=>by simp⟩
  ·have:=a4.ic;subst this;exact⟨λ_ _=>by simp,λ_ _=>by simp,λ_ _ _=>by simp,λ_=>by simp⟩
  ·cases h
 ·unfold V.T3 at h;split at h
  ·cases a4 with|aV _=>exact⟨λ_ _=>by simp,λ_ _=>by simp,λ_ _ _=>by simp,λ_=>by simp⟩
  ·cases a4 with|bG _ _ _ _ _=>exact⟨λ_ _=>by simp,λ_ _=>by simp,λ_ _ _=>by simp,λ_=>by simp⟩
  ·cases h
 ·cases h
theorem akW{w:bj}{r:Bool}(h1:∀k n,k1≠ .int k n)(h2:∀k n,k1≠ .float k n)(ay:∀k n m,k1≠ .complex k n m)(bl:∀s,k1≠ .string s)(h:(lG T k1 sY).run aw w=.ok r w):
  (binOp .eql T k1 sY).run aw w=.ok (.bool r) w/\(binOp .neq T k1 sY).run aw w=.ok (.bool (!r)) w:=by
 cases k1<;>first|exact absurd rfl (h1 _ _)|exact absurd rfl (h2 _ _)|exact absurd rfl (ay _ _ _)|exact absurd rfl (bl _)|exact⟨by simp[binOp,cq,h,cp],by simp[binOp,cq,h,cp]⟩
end
section
variable {aw : cF} {ty : co} {ρ : bY -> Option V}
theorem akX{sl:Bool}{lo hi gX:Option bY}{bB:bY->be}{n cap l h q:Nat}(aC:∀y,lo=I y->∃K,bB y=.int K l)(mn:lo=aJ->l=0)(gf:∀y,hi=I y->∃K,bB y=.int K h)(q9:hi=aJ->h=n/\gX=aJ)(hm:∀y,gX=I y->∃K,bB y=.int K q)(sW:gX=aJ->q=cap)
  (h1:l<=h) (h2:h<=q) (ay:q<=cap) (w:bj):(sS sl n cap (lo.map bB) (hi.map bB) (gX.map bB)).run aw w=.ok (l,h,q) w:=by
 unfold sS;cases gX with
 |none=>
  have:=sW rfl;subst this;cases hi with
  |none=>
   obtain⟨rfl,_⟩:=q9 rfl;cases lo with
   |none=>have:=mn rfl;subst this;simp[cq,cp]
   |some x=>obtain⟨K,bZ⟩:=aC x rfl;simp[bZ,qh,asIntOf,cq,cp,h1]
  |some y=>
   obtain⟨K,bZ⟩:=gf y rfl;cases lo with
   |none=>have:=mn rfl;subst this;simp[bZ,qh,asIntOf,cq,cp,h2]
   |some x=>obtain⟨js,nt⟩:=aC x rfl;simp[bZ,nt,qh,asIntOf,cq,cp,h1,h2]
 |some z=>
  obtain⟨eq,a7⟩:=hm z rfl;cases hi with
  |none=>exact absurd (q9 rfl).2 (by simp)
  |some y=>
   obtain⟨K,bZ⟩:=gf y rfl;cases lo with
   |none=>have:=mn rfl;subst this;simp[a7,bZ,qh,asIntOf,cq,cp,h2,ay]
   |some x=>obtain⟨js,nt⟩:=aC x rfl;simp[a7,bZ,nt,qh,asIntOf,cq,cp,h1,h2,ay]
structure MH(ρ:bY->Option V)(lo hi gX:Option bY)(n cap:Nat)(l h q:Int):Prop where
 aC:∀y,lo=I y->∃K,ρ y=I (.p (.v (.int K l)))
 mn:lo=aJ->l=0
 gf:∀y,hi=I y->∃K,ρ y=I (.p (.v (.int K h)))
 q9:hi=aJ->h=n/\gX=aJ
 hm:∀y,gX=I y->∃K,ρ y=I (.p (.v (.int K q)))
 sW:gX=aJ->q=cap
 bh:0<=l
 h1:l<=h
 h2:h<=q
 ay:q<=cap
theorem MH.run{sl:Bool}{lo hi gX:Option bY}{n cap:Nat}{l h q:Int}(b:MH ρ lo hi gX n cap l h q){g:cu}{w:bj}{H:List aN}{bB:bY->be}{T:co}{x:bY}(bg:∀y∈(Op.slice T x lo hi gX).operands,∀u,ρ y=I u->cN g w H u (bB y))(w':bj):
  (sS sl n cap (lo.map bB) (hi.map bB) (gX.map bB)).run aw w'=.ok (l.toNat,h.toNat,q.toNat) w':=by
 have t0:=b.bh;have t1:=b.h1;have t2:=b.h2;have t3:=b.ay;refine akX (λy a9=>?_) (λe=>by have:=b.mn e;omega) (λy a9=>?_) (λe=>⟨by have:=(b.q9 e).1;omega,(b.q9 e).2⟩) (λy a9=>?_) (λe=>by have:=b.sW e;omega) (by omega) (by omega) (by omega) w'
 ·obtain⟨K,bZ⟩:=b.aC y a9;exact⟨K,by rw[(bg y (by simp[dw,a9]) _ bZ).ic];congr 1;omega⟩
 ·obtain⟨K,bZ⟩:=b.gf y a9;exact⟨K,by rw[(bg y (by simp[dw,a9]) _ bZ).ic];congr 1;omega⟩
 ·obtain⟨K,bZ⟩:=b.hm y a9;exact⟨K,by rw[(bg y (by simp[dw,a9]) _ bZ).ic];congr 1;omega⟩
theorem abx{T E i off n k:Nat}{x y:bY}{K:IntKind}{j:Int}(cw:∀w,(underlying T).run aw w=.ok (.array n E) w)(aY:∀w,(sizeOf E).run aw w=.ok k w)(ak:ρ x=I (.aV i off))(a9:ρ y=I (.p (.v (.int K j))))(bh:0<=j)(h1:j<n):bP aw (.indexAddr T x y) ty ρ [] [] (.aV i (off+j.toNat*k)):=.pure λg w H e q aB _ _ h=>by
 have a2:=h x (by simp[dw]) _ ak;have bc:=(h y (by simp[dw]) _ a9).ic;generalize he:e x=v at a2;cases a2 with
 |aV aC=>
  refine⟨.pointer (I ⟨g.β i,off+j.toNat*k,aJ⟩),?_,.aV aC⟩;unfold execOp;rw[aB];have cR:(0<=j/\j<(n:Int)):=⟨bh,h1⟩
  simp[he,bc,abp,u3,asIntOf,cw,aY,cq,cp,cR,rJ]
end
section
variable {β : Type} {b : β} {aw : cF} {ty : co} {f : iY} {H : List aN} {pB : V -> M β} {k : K β}
end
section
variable {β : Type} {b : β} {aw : cF} {ty : co} {f : iY} {H : List aN} {pB : V -> M β} {k : K β}
theorem aby{pl:List (Nat×Nat)}{abz:Nat->Option (Nat×Nat)}(hp:∀i x,pl[i]? =I x->abz i=I x):∀(ps:List (Nat×be))(cs c:Array be),n' (λi=>pl[i]?) cs ps=I c->n' abz cs ps=I c
 |[],_,_,h=>h
 |(i,v)::r,cs,c,h=>by
  simp only[n']at h⊢;cases hi:pl[i]? with
  |none=>rw[hi]at h;cases h
  |some x=>
   rw[hi]at h;rw[hp i x hi];obtain⟨off,size⟩:=x;simp only at h⊢;split at h
   ·cases h
   ·rename_i ax;rw[if_neg ax];exact aby hp r _ c h
end
section
variable {β : Type} {b : β} {aw : cF} {ty : co} {f : iY} {H : List aN} {pB : V -> M β} {k : K β}
end
section
variable {aw : cF} {ty : co} {ρ : bY -> Option V}
theorem T8{g:cu}{w:bj}{H:List aN}:∀{ds:List V}{ps:List P}{us:List be},Ns ds=I ps->dp g w H ds us->dp g w H (ps.map .p) us
 |[],_,_,h,bp=>by have:I []=I _:=h;cases this;exact bp
 |d::ds,ps,us,h,bp=>by
  cases bp with
  |cons h1 h2=>
   simp only[Ns]at h;split at h
   ·rename_i aO;cases h;exact .cons h1 (T8 aO h2)
   ·rename_i aO;cases h;cases h1 with|cZ hp _=>exact .cons (.p hp) (T8 aO h2)
   ·cases h
end
section
variable {β : Type} {b : β} {aw : cF} {ty : co} {f : iY} {H : List aN} {pB : V -> M β} {k : K β}
end
section
variable {aw : cF} {ty : co} {ρ : bY -> Option V}
end
section
variable {β : Type} {b : β} {aw : cF} {ty : co} {f : iY} {H : List aN} {pB : V -> M β} {k : K β}
end
open Go.MapKept
theorem T9:∀{bT:List Nat}{ks us:List be}{j b:Nat}{k u:be},bT[j]? =I b->ks[j]? =I k->us[j]? =I u->(gm bT ks us)[j]? =I {key:=k,val:=u,born:=b}
 |[],_,_,_,_,_,_,h,_,_=>by simp at h
 |_::_,[],_,_,_,_,_,_,h,_=>by simp at h
 |_::_,_::_,[],_,_,_,_,_,_,h=>by simp at h
 |_::bT,_::ks,_::us,0,_,_,_,h1,h2,ay=>by simp at h1 h2 ay;subst h1;subst h2;subst ay;rfl
 |_::bT,_::ks,_::us,j+1,_,_,_,h1,h2,ay=>by simp only[gm,TY]at h1 h2 ay⊢;exact T9 h1 h2 ay
theorem abA(val:be):∀(bT:List Nat)(ks us:List be)(j:Nat)(k:be),ks[j]? =I k->((gm bT ks us).modify j λe=>{e with key:=k,val:=val})=gm bT ks (us.set j val)
 |[],_,_,_,_,_=>by simp[gm]
 |_::_,[],_,_,_,h=>by simp at h
 |_::_,_::_,[],_,_,_=>by simp[gm]
 |b::bT,q::ks,u::us,0,k,h=>by simp at h;subst h;simp[gm]
 |b::bT,q::ks,u::us,j+1,k,h=>by simp only[gm,TZ,T0,TY]at h⊢;rw[abA val bT ks us j k h]
theorem T_:∀(bT:List Nat)(ks us:List be)(j:Nat)(k:be),ks[j]? =I k->((gm bT ks us).modify j λe=>{e with key:=k})=gm bT ks us
 |[],_,_,_,_,_=>by simp[gm]
 |_::_,[],_,_,_,h=>by simp at h
 |_::_,_::_,[],_,_,_=>by simp[gm]
 |b::bT,q::ks,u::us,0,k,h=>by simp at h;subst h;simp[gm]
 |b::bT,q::ks,u::us,j+1,k,h=>by simp only[gm,TZ,TY]at h⊢;rw[T_ bT ks us j k h]
theorem abB(val:be):∀(bT:List Nat)(ks us:List be)(j:Nat),((gm bT ks us).modify j λe=>{e with val:=val})=gm bT ks (us.set j val)
 |[],_,_,_=>by simp[gm]
 |_::_,[],_,_=>by simp[gm]
 |_::_,_::_,[],_=>by simp[gm]
 |b::bT,q::ks,u::us,0=>by simp[gm]
 |b::bT,q::ks,u::us,j+1=>by simp only[gm,TZ,T0];rw[abB val bT ks us j]
theorem T'(c:Nat)(k u:be):∀(bT:List Nat)(ks us:List be),bT.length=ks.length->us.length=ks.length->gm bT ks us++[{key:=k,val:=u,born:=c}]=gm (bT++[c]) (ks++[k]) (us++[u])
 |[],[],[],_,_=>rfl
 |b::bT,q::ks,x::us,h1,h2=>by simp only[gm,List.cons_append];rw[T' c k u bT ks us (by simpa using h1) (by simpa using h2)]
 |[],_::_,_,h,_=>by cases h
 |_::_,[],_,h,_=>by cases h
 |[],[],_::_,_,h=>by cases h
 |_::_,_::_,[],_,h=>by cases h
theorem abC:∀(bT:List Nat)(ks us:List be),bT.length=ks.length->us.length=ks.length->(gm bT ks us).length=ks.length
 |[],[],[],_,_=>rfl
 |b::bT,q::ks,x::us,h1,h2=>by simp only[gm,oa];rw[abC bT ks us (by simpa using h1) (by simpa using h2)]
 |[],_::_,_,h,_=>by cases h
 |_::_,[],_,h,_=>by cases h
 |[],[],_::_,_,h=>by cases h
 |_::_,_::_,[],_,h=>by cases h
theorem cn.Ua{g:cu}{w:bj}{H:List aN}{i c c':Nat}{bT bs':List Nat}{kv kv':List (be×V)}{us:List be}(h:g6 g w H)(hi:H[i]? =I (.pt c bT kv))(aC:bs'.length=kv'.length)(aG:dp g w H (kv'.map (·.2)) us):
  cn w g H g {w with heap:=w.heap.setIfInBounds (g.β i) (.map (gm bs' (kv'.map (·.1)) us).toArray c')} (H.set i (.pt c' bs' kv')):=by
 have c4:=(cz.1 hi).1;have eR:∀b,own g H i b↔b=g.β i:=λb=>by unfold own;rw[hi];exact Iff.rfl
 obtain⟨AL,h1,h2,ay⟩:=h.eP i _ hi;have aQ:=heap_set (o':=.map (gm bs' (kv'.map (·.1)) us).toArray c') h1
 refine cn.one h c4 rfl rfl rfl (by simp) (λb aC a6=>⟨aQ.2 b λe=>a6 ((eR b).2 e),rfl⟩) (λb o aU b'=>?_) (λb _=>bL _) (λj _=>⟨rfl,rfl⟩) (λ_=>⟨trivial,rfl⟩)
  (λm hm=>by rw[hi]at hm;cases hm) (λb aU=>.inl ((eR b).2 aU)) (λei=>⟨us,aQ.1,aC,aG.bi ei⟩)
 have:=(eR b).1 aU;subst this;simp[rH,aQ.1,h1]
theorem cn.Ub{g:cu}{w:bj}{H:List aN}{i:Nat}{o:aN}{eP:Obj}(h:g6 g w H)(hi:H[i]? =I .cc)(aU:∀g b,xz g i b (I o)->b=g.β i)(ax:∀g':cu,g'.β i=w.heap.size->iA g w H g' (w.alloc eP) (H.set i o)->lx g' (w.alloc eP) (H.set i o) i o):
  cn w g H ⟨dT g.β i w.heap.size,dT g.E w.heap.size 0,g.h⟩ (w.alloc eP) (H.set i o):=by
 have c4:=(cz.1 hi).1;have aF:=CB w eP;have dL:∀b,¬own g H i b:=λb aU=>by unfold own at aU;rw[hi]at aU;exact aU
 refine cn.one h c4 aF.os aF.tape aF.output aF.size (λb aC _=>⟨aF.block b aC,lg (by omega)⟩) (λb _ aU=>absurd aU (dL b)) (λb aU=>absurd aU (dL b)) (λj ag=>⟨lg ag,rfl⟩) (λaC=>by rw[hi]at aC;exact aC.elim)
  (λm hm=>by rw[hi]at hm;cases hm) (λb u2=>?_) (λei=>ax _ (fL _ _ _) ei)
 have e:b=dT g.β i w.heap.size i:=aU _ b u2;rw[fL]at e;exact .inr (by omega)
section
variable {β : Type} {b : β} {aw : cF} {ty : co} {f : iY} {H : List aN} {pB : V -> M β} {k : K β}
theorem cN.FP{g:cu}{w:bj}{H:List aN}{i:Nat}{v:be}(h:cN g w H (.map i) v):v=.map (I (g.β i)):=by cases h;rfl
theorem Jn{α:Type}:∀{l:List α}{j:Nat}{x:α},l[j]? =I x->l.set j x=l
 |[],_,_,h=>by simp at h
 |_::_,0,_,h=>by simp at h;subst h;rfl
 |_::l,j+1,_,h=>by simp only[T0];rw[Jn (by simpa using h)]
end
section
variable {β : Type} {b : β} {aw : cF} {ty : co} {f : iY} {H : List aN} {pB : V -> M β} {k : K β}
theorem abD{g:cu}{w:bj}{H:List aN}{ok c:Bool}{d:V}{u:be}(h:cN g w H d u):cN g w H (cond ok (.cx [d,bD c]) d) (if ok then .tuple #[u,.bool c]else u):=by
 cases ok with
 |false=>exact h
 |true=>exact .cx (.cons h (.cons (.v _) .nil))
end
section
variable {β : Type} {b : β} {aw : cF} {ty : co} {f : iY} {H : List aN} {pB : V -> M β} {k : K β}
theorem Nu{α m8:Type}(f:α->m8):∀(l:List α)(j:Nat),(l.eraseIdx j).map f=(l.map f).eraseIdx j
 |[],_=>rfl
 |_::_,0=>rfl
 |_::l,j+1=>by simp[Nu f l j]
theorem akY{kt:co}{u:Jg}{key:be}{es:List MapEntry}{a:Option (Nat×be)}{w:bj}(aG:aw.underlying kt=I u)(hu:T5 u=ad)(h:(FK kt key es).run aw w=.ok a w):(TX kt key es).run aw w=.ok a w:=by
 cases u with
 |struct y5=>
  cases es with
  |nil=>simp[FK]at h;simp[TX,run_underlying aG,cq,cp,FJ,h]
  |cons e es=>
   have:FJ (.struct y5) key (e::es) 0=aJ:=by unfold FJ;cases key<;>simp[Instr.sameNow]
   simp[TX,run_underlying aG,cq,cp,this,h]
 |_=>cases hu
end
variable {T:Nat}{cs:List P}{g:cu}{i k m:Nat}
theorem Nv{w:bj}{H:List aN}(hi:H[i]? =I (.fq T k m cs)):∀b,own g H i b↔(g.h i).ownBlock=I b:=λb=>by unfold own;rw[hi];exact Iff.rfl
variable {n:Nat}{v':be}{w':bj}
theorem cn.akZ {w:bj}{H:List aN}{us:List be}(h:g6 g w H)(hi:H[i]? =I .cc)(aF:Below w.heap.size w w')(aU:w'.ownsRow 0 T k v' n us)(bp:v'.ownBlock=I w.heap.size)(ax:fH g.E w cs us):
  cn w g H ⟨g.β,dT g.E w.heap.size 0,dT g.h i v'⟩ w' (H.set i (.fq T k 1 cs)):=by
 have c4:=(cz.1 hi).1;have dL:∀b,¬own g H i b:=λb aU=>by unfold own at aU;rw[hi]at aU;exact aU
 refine cn.one h c4 aF.os aF.tape aF.output aF.size (λb aC _=>⟨aF.block b aC,lg (by omega)⟩) (λb _ aU=>absurd aU (dL b)) (λb aU=>absurd aU (dL b)) (λj ag=>⟨rfl,lg ag⟩) (λaC=>by rw[hi]at aC;exact aC.elim)
  (λm hm=>by rw[hi]at hm;cases hm) (λb qg=>?_) (λei=>?_)
 ·have e:(dT g.h i v' i).ownBlock=I b:=qg;rw[fL,bp]at e;cases e;exact .inr (bL _)
 ·refine⟨n,us,?_,ax.bi ei.size ei.E ei.cell,λb ku=>?_⟩
  ·show w'.ownsRow 0 T k (dT g.h i v' i) n us;rw[fL];exact aU
  ·have e:(dT g.h i v' i).ownBlock=I b:=ku;rw[fL,bp]at e;cases e;exact fL _ _ _
variable {cs':List P}{wk:List be}
theorem cn.ak0 {w:bj}{H:List aN} {m' lh:Nat}(h:g6 g w H)(hi:H[i]? =I (.fq T k m cs))(hm:m<m')(u2:w'.ownsRow 0 T k v' lh wk)(gl:fH g.E w cs' wk)
  (xB:w'.os=w.os) (IN:w'.tape=w.tape) (IP:w'.output=w.output) (gw:w.heap.size<=w'.heap.size)
  (As:(v'.ownBlock=(g.h i).ownBlock/\∀b,b<w.heap.size->(g.h i).ownBlock≠I b->w'.heap[b]? =w.heap[b]?)\/(v'.ownBlock=I w.heap.size/\∀b,b<w.heap.size->w'.heap[b]? =w.heap[b]?)):
  ∃g':cu,cn w g H g' w' (H.set i (.fq T k m' cs'))/\g'.h i=v':=by
 have c4:=(cz.1 hi).1;have eR:=Nv (w:=w) hi (g:=g);obtain⟨el,us,q0,ak1,tV⟩:=h.eP i _ hi;have ku:∀b,v'.ownBlock=I b->(match v'.ownBlock with|some b=>dT g.E b 0|none=>g.E) b=0:=λb aF=>by rw[aF];exact fL _ _ _
 have q1:∀b,v'.ownBlock≠I b->(match v'.ownBlock with|some b=>dT g.E b 0|none=>g.E) b=g.E b:=λb aF=>by
  cases e:v'.ownBlock with
  |none=>rfl
  |some q=>exact lg λh=>aF (by rw[e,h])
 refine⟨⟨g.β,(match v'.ownBlock with|some b=>dT g.E b 0|none=>g.E),dT g.h i v'⟩,cn.one h c4 xB IN IP gw (λb aC a6=>?_) (λb o aF b'=>?_) (λb aF=>?_) (λj ag=>⟨rfl,lg ag⟩) (λaC=>by rw[hi]at aC;exact aC.elim) (λnG sZ=>?_) (λb aF=>?_) (λei=>?_),fL _ _ _⟩
 ·have mh:(g.h i).ownBlock≠I b:=λe=>a6 ((eR b).2 e);rcases As with⟨e,ap⟩|⟨e,ap⟩
  ·exact⟨ap b aC mh,q1 b (by rw[e];exact mh)⟩
  ·exact⟨ap b aC,q1 b (by rw[e];intro bc;cases bc;omega)⟩
 ·rw[tV b ((eR b).1 aF)]at b';omega
 ·rw[tV b ((eR b).1 aF)];exact fR _
 ·rw[hi]at sZ;cases sZ;exact⟨_,rfl,Nat.le_of_lt hm,λe=>by omega⟩
 ·have aF:(dT g.h i v' i).ownBlock=I b:=aF;rw[fL]at aF;rcases As with⟨e,ap⟩|⟨e,ap⟩
  ·exact .inl ((eR b).2 (by rw[<-e];exact aF))
  ·rw[e]at aF;cases aF;exact .inr (bL _)
 ·refine⟨lh,wk,?_,gl.bi ei.size ei.E ei.cell,λb aF=>?_⟩
  ·show w'.ownsRow 0 T k (dT g.h i v' i) lh _;rw[fL];exact u2
  ·have aF:(dT g.h i v' i).ownBlock=I b:=aF;rw[fL]at aF;exact ku b aF
theorem cn.abE {w:bj}{H:List aN} {b:Nat}(h:g6 g w H)(hi:H[i]? =I (.fq T k m cs))(aF:(g.h i).ownBlock=I b)(ax:ob (· =b) w w')(aU:w'.ownsRow 0 T k (g.h i) n wk)(gl:fH g.E w cs' wk):
  cn w g H g w' (H.set i (.fq T k m cs')):=by
 have c4:=(cz.1 hi).1;have eR:=Nv (w:=w) hi (g:=g);obtain⟨el,us,q0,ak1,tV⟩:=h.eP i _ hi
 refine cn.one h c4 ax.os ax.tape ax.output ax.size (λg5 aC a6=>⟨ax.block g5 aC λe=>a6 ((eR g5).2 (by rw[e];exact aF)),rfl⟩) (λg5 o mF b'=>?_) (λb _=>bL _) (λj _=>⟨rfl,rfl⟩) (λaC=>by rw[hi]at aC;exact aC.elim)
  (λnG sZ=>by rw[hi]at sZ;cases sZ;exact⟨m,rfl,bL _,λ_=>rfl⟩) (λg5 mF=>.inl ((eR g5).2 mF)) (λei=>⟨n,wk,aU,gl.bi ei.size ei.E ei.cell,tV⟩)
 rw[tV g5 ((eR g5).1 mF)]at b';omega
variable {off:Nat}{v:be}
theorem AM{w:bj}{H:List aN}(h:g6 g w H)(hi:H[i]? =I (.fq T 1 m cs))(aQ:Ap g H i m k n off v):
  (n=0/\off=0/\v=.slice aJ 0 0/\g.h i=.slice aJ 0 0/\cs=[])\/∃b el io e5 hS cap us,g.h i=.slice (I ⟨b,0,aJ⟩) el io/\v=.slice (I ⟨b,hS,aJ⟩) n cap/\off+n*k<=el*k/\n<=cap/\(n=0\/hS=off)/\(off=0->cap=io/\hS=0)/\
   w.heap[b]? =I (.cells e5 T (0,0))/\el<=io/\io<=maxLen/\e5.size=io*1/\e5.toList.take (el*1)=us/\us.length=el*1/\fH g.E w cs us/\g.E b=0:=by
 obtain⟨m',h1,h2,ay⟩:=aQ;have ax:e5 H i=I m:=by unfold e5;rw[hi];rfl
 rw[ax]at h1;cases h1;obtain⟨q,us,aU,gl,aY⟩:=h.eP i _ hi;rcases ay rfl with⟨dg,a2,bc,cR⟩|⟨b,el,io,hS,cap,a2,bc,cR,go,gN,ki⟩
 ·refine .inl ⟨dg,a2,bc,cR,?_⟩;have hu:us=[]:=by
   rcases aU.2 with⟨_,f2⟩|⟨g5,MO,hy,f1,_⟩
   ·exact pr (by rw[aU.1,f2,Nat.zero_mul])
   ·rw[cR]at f1;cases f1
  exact pr (by rw[gl.1,hu];rfl)
 ·rcases aU.2 with⟨f1,_⟩|⟨g5,MO,hy,f1,_,f3,f4,f5,f6,f7⟩
  ·rw[a2]at f1;cases f1
  ·rw[a2]at f1;cases f1;exact .inr ⟨b,q,io,hy,hS,cap,us,a2,bc,cR,go,gN,ki,f3,f4,f5,f6,f7,aU.1,gl,aY b (by rw[a2];rfl)⟩
theorem ak2{w:bj}{H:List aN}(h:g6 g w H)(hi:H[i]? =I (.fq T 1 m cs))(a6:n≠0)(aQ:Ap g H i m k n off v):
  ∃b el io e5 hS cap us,g.h i=.slice (I ⟨b,0,aJ⟩) el io/\v=.slice (I ⟨b,hS,aJ⟩) n cap/\off+n*k<=el*k/\n<=cap/\(n=0\/hS=off)/\(off=0->cap=io/\hS=0)/\
   w.heap[b]? =I (.cells e5 T (0,0))/\el<=io/\io<=maxLen/\e5.size=io*1/\e5.toList.take (el*1)=us/\us.length=el*1/\fH g.E w cs us/\g.E b=0:=
 (AM h hi aQ).resolve_left λe=>a6 e.1
theorem abF{w:bj}{H:List aN}(h:g6 g w H)(hi:H[i]? =I (.fq T 1 m cs))(aQ:IM g H i m off v):
  ∃b el io e5 us,g.h i=.slice (I ⟨b,0,aJ⟩) el io/\v=.pointer (I ⟨b,off,aJ⟩)/\
   w.heap[b]? =I (.cells e5 T (0,0))/\el<=io/\io<=maxLen/\e5.size=io*1/\e5.toList.take (el*1)=us/\us.length=el*1/\fH g.E w cs us:=by
 obtain⟨m',h1,h2,ay⟩:=aQ;have ax:e5 H i=I m:=by unfold e5;rw[hi];rfl
 rw[ax]at h1;cases h1;obtain⟨b,el,io,a2,bc⟩:=ay rfl;obtain⟨q,us,aU,gl,aY⟩:=h.eP i _ hi;rcases aU.2 with⟨f1,_⟩|⟨g5,MO,hy,f1,_,f3,f4,f5,f6,f7⟩
 ·rw[a2]at f1;cases f1
 ·rw[a2]at f1;cases f1;exact⟨b,el,io,hy,us,a2,bc,f3,f4,f5,f6,f7,aU.1,gl⟩
section
variable {aw : cF} {ty : co} {ρ : bY -> Option V}
variable {g:cu}{k m n off t:Nat}{v:be}
theorem Nw{H:List aN}(ax:e5 H t=I m)(h:∃b el io hS cap,g.h t=.slice (I ⟨b,0,aJ⟩) el io/\v=.slice (I ⟨b,hS,aJ⟩) n cap/\off+n*k<=el*k/\n<=cap/\(n=0\/hS=off)/\(off=0->cap=io/\hS=0)):Ap g H t m k n off v:=⟨m,ax,bL _,λ_=>.inr h⟩
theorem Uc{H:List aN}(ax:e5 H t=I m)(h:g.h t=.slice aJ 0 0):Ap g H t m k 0 0 (.slice aJ 0 0):=⟨m,ax,bL _,λ_=>.inl ⟨rfl,rfl,rfl,h⟩⟩
variable {T:Nat}{cs:List P}{i:Nat}
theorem Nx{H:List aN}(hi:i<H.length):e5 (H.set i (.fq T k m cs)) i=I m:=by unfold e5;rw[kV hi];rfl
variable {x:bY}{z:be}
theorem ak3 {e bytes iM:Nat} {s:bY}{cs y3:List P}{d:V}(aj:aw.underlying t=I (.slice e))(hi:(aw.info? e).map (λi=>(i.zero,i.size,i.bytes))=I (I z,1,bytes))(aP:z.cells.size=1)
  (aQ:ρ s=I (.gs 1 n i m 0)) (ak:ρ x=I d) (aG:d.rT=I (1,iM,y3)) (aU:∀c∈y3,c.one=ad) (a6:0<iM) (CJ:n+iM<=2000000) (sM:(n+iM)*bytes<=140737488355328):
  bP aw (.call {callee:=.builtin .append,args:=#[s,x],argTypes:=#[t,t]}) ty ρ [(i,.fq e 1 m cs)] [(i,.fq e 1 (m+1) (cs.take n++y3))] (.gs 1 (n+iM) i (m+1) 0):=λg w H bB o iL rY aO ev h=>by
 have li:=ev.one;have c4:=(cz.1 li).1;have es:=h s (by simp[dw,ji]) _ aQ;have ex:=(h x (by simp[dw,ji]) _ ak).rT aG;generalize q5:bB s=vs at es;cases es with
 |gs h1 nM=>
  have ak4:∃wq,w.ownsRow 0 e 1 vs n wq/\fH g.E w (cs.take n) wq/\vs.ownBlock=(g.h i).ownBlock:=by
   rcases AM aO li nM with⟨rfl,_,rfl,cR,rfl⟩|⟨eu,el,io,hy,hS,cap,AL,an,a',dr,gp,jk,iQ,jt,lm,ky,mK,l1,m9,nN,vb⟩
   ·exact⟨[],⟨by simp,.inl ⟨rfl,rfl⟩⟩,⟨rfl,λj c u ag=>by simp at ag⟩,by rw[cR]⟩
   ·obtain⟨rfl,rfl⟩:=iQ rfl;simp only[pA,ib]at dr mK l1 m9;exact⟨AL.take n,⟨by simp[m9,dr],.inr ⟨eu,cap,hy,a',fR _,jt,gp,ky,by omega,by rw[pA,<-l1,List.take_take,l0 dr]⟩⟩,nN.take n,by rw[an,a'];rfl⟩
  obtain⟨wq,eR,ak5,rW⟩:=ak4;rcases ex.u1 with⟨_,bh,_⟩|⟨b,aX,TF,us,he,ax,Aq,Ud,hlen,u5,hu⟩
  ·omega
  ·have ak6:∀j v,us[j]? =I v->w.cell? ((⟨b,aX,aJ⟩:Addr).add j)=I v:=λj v ag=>by rw[rJ];exact hu j v ag
   obtain⟨v',w',gR,fu,gG,og,xM,I5,Fs⟩:=aal (aw:=aw) (w:=w) (ty:=o.type) (news:=us) (a:=⟨b,aX,aJ⟩) (m:=iM) (c:=TF) aj hi aP (by omega) eR (by rw[<-u5.1,hlen]) ak6 (u5.one aU) (by omega) sM;rw[rW]at Fs;obtain⟨g',b5,ak7⟩:=cn.ak0 (m':=m+1) (cs':=cs.take n++y3) aO li (by omega) fu (ak5.append u5) gG og xM I5 Fs;have ue:∃q C5,v'=.slice (I ⟨q,0,aJ⟩) (n+iM) C5/\n+iM<=C5:=by
    rcases fu.2 with⟨_,bc⟩|⟨q,C5,S7,bc,_,_,cR,_⟩
    ·omega
    ·exact⟨q,C5,bc,cR⟩
   obtain⟨q,C5,ue,CH⟩:=ue;refine .inl ⟨v',w',?_,g',b5,.gs (by rw[ue];rfl) (Nw (Nx c4) ⟨q,n+iM,C5,0,C5,by rw[ak7];exact ue,ue,by omega,CH,.inr rfl,λ_=>⟨rfl,rfl⟩⟩)⟩;unfold execOp;rw[iL];simp[resolve,invoke,builtin,q5,he,cq,cp,gR]
variable {E c8:Nat}{y:bY}
theorem ak8{K:IntKind}{j:Int}(cw:∀w,(underlying T).run aw w=.ok (.slice E) w)(aY:∀w,(sizeOf E).run aw w=.ok 1 w)(ak:ρ x=I (.gs 1 n i m off))(a9:ρ y=I (.p (.v (.int K j))))(bh:0<=j)(h1:j<n):
  bP aw (.indexAddr T x y) ty ρ [(i,.fq c8 1 m cs)] [] (.kr i m (off+j.toNat)):=λg w H bB q aB _ aO ev h=>by
 have li:=ev.one;have a2:=h x (by simp[dw]) _ ak;have bc:=(h y (by simp[dw]) _ a9).ic;generalize he:bB x=v at a2;cases a2 with
 |gs h2 nM=>
  obtain⟨eu,el,io,hy,hS,cap,AL,an,a',dr,gp,jk,iQ,jt,lm,ky,mK,l1,m9,nN,vb⟩:=ak2 aO li (by omega) nM;have Ue:hS=off:=by rcases jk with h|h;omega;exact h
  subst Ue;refine .inl ⟨.pointer (I ⟨eu,hS+j.toNat,aJ⟩),w,?_,g,aO.kf,.kr rfl ⟨m,by unfold e5;show xx H[i]? =_;rw[li];rfl,bL _,λ_=>⟨eu,el,io,an,rfl⟩⟩⟩;unfold execOp;rw[aB];have cR:(0<=j/\j<(n:Int)):=⟨bh,h1⟩
  simp[he,a',bc,abp,asIntOf,cw,aY,cq,cp,cR,rJ]
variable {c:P}
theorem ak9(cw:∀w,(isAgg T).run aw w=.ok aS w)(ak:ρ x=I (.kr i m off))(ax:cs[off]? =I c):bP aw (.load T x) ty ρ [(i,.fq c8 1 m cs)] [] (.p c):=λg w H bB q aB _ aO ev h=>by
 have li:=ev.one;have a2:=h x (by simp[dw]) _ ak;generalize he:bB x=v at a2;cases a2 with
 |kr h2 q'=>
  obtain⟨eu,el,io,hy,us,an,a',dr,gp,jk,iQ,jt,lm,ky⟩:=abF aO li q';have Ny:off<us.length:=by rw[<-ky.1];exact(cz.1 ax).1
  have hu:us[off]? =I us[off]:=bN Ny;have Jo:w.cell? ⟨eu,off,aJ⟩=I us[off]:=by
   unfold rH;simp only[dr];have:(hy.toList.take (el*1))[off]? =us[off]? :=by rw[jt]
   rw[kd,if_pos (by omega)]at this;rw[hu]at this;simpa using this
  refine .inl ⟨us[off],w,?_,g,aO.kf,.p (ky.2 off c _ ax hu)⟩;unfold execOp;rw[aB];simp[he,a',Instr.loadAt,u3,Fa cw Jo,cq,cp]
theorem ala{us:List be}(h:off<n)(a6:n<=us.length):(oc us off [v]).take n=(us.take n).set off v:=by simp only[oc];rw[List.take_set]
theorem alb{d:V}(a6:∀w,(sizeOf T).run aw w=.ok 1 w)(ak:ρ x=I (.kr i m off))(a9:ρ y=I d)(aG:Ns [d]=I [c])(h1:d.cells=[d])(aU:d.one=ad)(aC:off<cs.length):bP aw (.store T x y) ty ρ [(i,.fq c8 1 m cs)] [(i,.fq c8 1 m (cs.set off c))] (.p (.v undef)):=λg w H bB q aB _ aO ev h=>by
 have li:=ev.one;have a2:=h x (by simp[dw]) _ ak;have bc:=h y (by simp[dw]) _ a9;have cR:iW g.E w c (bB y):=by have:=T8 aG (.cons bc .nil);cases this with|cons ay _=>cases ay with|p ay=>exact ay
 have xL:=bc.one aU;generalize he:bB x=v at a2;cases a2 with
 |kr h2 q'=>
  obtain⟨eu,el,io,hy,us,an,a',dr,gp,jk,iQ,jt,lm,ky⟩:=abF aO li q';have Ny:off<us.length:=by rw[<-ky.1];exact aC
  simp only[pA]at iQ jt lm;have eO:lV w eu hy.toList c8:=by show w.heap[eu]? =I (.cells hy.toList.toArray c8 (0,0));simpa using dr
  have dy:off+0+1<=hy.toList.length:=by simp;omega
  obtain⟨w',s1,s2,h6⟩:=Fb (P:=aw) (o:=off) [bB y] 0 hy.toList w eO (λu hu=>by simp at hu;subst hu;exact xL) dy;have AN:w'.ownsRow 0 c8 1 (g.h i) el (us.set off (bB y)):=by refine⟨by simp[lm],.inr ⟨eu,io,(oc hy.toList (off+0) [bB y]).toArray,an,fR _,h6,gp,jk,by simp[oc,iQ],?_⟩⟩;have:=ala (us:=hy.toList) (n:=el) (off:=off) (v:=bB y) (by omega) (by simp;omega);rw[jt]at this;simpa using this
  have b5:=cn.abE (cs':=cs.set off c) aO li (b:=eu) (by rw[an];rfl) s2 AN ⟨by simp[ky.1],λj p u hp hu=>by
   rw[List.getElem?_set]at hp hu;by_cases e:off=j
   ·subst e;simp only[if_true,aC,Ny]at hp hu;cases hp;cases hu;exact cR
   ·simp only[e,if_false]at hp hu;exact ky.2 j p u hp hu⟩
  refine .inr (.inl ⟨w',?_,g,b5,.v _⟩);unfold execOp;rw[aB];simp[he,a',Instr.storeAt,u3,storeVar,a6,MB xL,cq,cp,s1]
theorem alc(cw:∀w,(underlying T).run aw w=.ok (.slice E) w)(ak:ρ x=I (.gs 1 n i m off)){c8:Nat}{cs:List P}:bP aw (.call {callee:=.builtin .len,args:=#[x],argTypes:=#[T]}) ty ρ [(i,.fq c8 1 m cs)] [] (aL (.ofNat n)):=λg w H bB q aB _ aO ev h=>by
 have li:=ev.one;have a2:=h x (by simp[dw,ji]) _ ak;generalize he:bB x=v at a2;cases a2 with
 |gs h2 nM=>
  refine .inl ⟨.int .i64 n,w,?_,g,aO.kf,.v _⟩;rcases AM aO li nM with⟨rfl,_,rfl,cR,rfl⟩|⟨eu,el,io,hy,hS,cap,AL,an,a',_⟩
  ·unfold execOp;rw[aB];simp[resolve,invoke,builtin,IT,he,cw,goInt,cq,cp]
  ·unfold execOp;rw[aB];simp[resolve,invoke,builtin,IT,he,a',cw,goInt,cq,cp]
theorem abG{lo hi:Option bY}{l h:Int}(cw:∀w,(underlying T).run aw w=.ok (.slice E) w)(aY:∀w,(sizeOf E).run aw w=.ok 1 w)(ak:ρ x=I (.gs 1 n i m off))(aF:∀cap:Nat,n<=cap->MH ρ lo hi aJ n cap l h cap)(ay:h<=n):
  bP aw (.slice T x lo hi aJ) ty ρ [(i,.fq c8 1 m cs)] [] (.gs 1 (h.toNat-l.toNat) i m (off+l.toNat)):=λg w H bB o aU _ aO ev bg=>by
 have li:=ev.one;have a2:=bg x (by simp[dw]) _ ak;generalize he:bB x=v at a2;cases a2 with
 |gs h2 nM=>
  have ax:e5 H i=I m:=by unfold e5;rw[li];rfl
  rcases AM aO li nM with⟨rfl,rfl,rfl,f3,rfl⟩|⟨eu,el,io,hy,hS,cap,AL,an,a',dr,gp,jk,iQ,_⟩
  ·have eU:=aF 0 (bL _);have t0:=eU.bh;have t1:=eU.h1;have r0:=eU.run (aw:=aw) bg (sl:=ad) (T:=T) (x:=x) w;simp only[Int.toNat_natCast]at r0;have mn:l=0:=by omega
   have q9:h=0:=by omega
   subst mn q9;simp only[Option.map_none,show Int.toNat 0=0 from rfl]at r0;refine .inl ⟨.slice aJ 0 0,w,?_,g,aO.kf,.gs rfl (Uc ax f3)⟩;unfold execOp;rw[aU];simp[he,u',va,cw,aY,r0,cq,cp,jp]
  have eU:=aF cap gp;have t0:=eU.bh;have t1:=eU.h1;have r0:=eU.run (aw:=aw) bg (sl:=ad) (T:=T) (x:=x) w;simp only[Int.toNat_natCast]at r0;refine .inl ⟨.slice (I (if cap=l.toNat then⟨eu,hS,aJ⟩else(Addr.mk eu hS aJ).add (l.toNat*1))) (h.toNat-l.toNat) (cap-l.toNat),w,?_,g,aO.kf,?_⟩
  ·unfold execOp;rw[aU];have Jf:(if cap=l.toNat then I (Addr.mk eu hS aJ)else(I (Addr.mk eu hS aJ)).map (·.add (l.toNat*1)))=I (if cap=l.toNat then⟨eu,hS,aJ⟩else(Addr.mk eu hS aJ).add (l.toNat*1)):=by split<;>rfl
   simp only[he,a',u',va,cw,aY,r0,cq,cp,jp,Jf]
  ·refine .gs rfl (Nw ax ?_);by_cases aB:cap=l.toNat
   ·rw[if_pos aB];exact⟨eu,el,io,hS,cap-l.toNat,an,rfl,by omega,by omega,.inl (by omega),λbh=>by have:=iQ (by omega);exact⟨by omega,this.2⟩⟩
   ·rw[if_neg aB,rJ];refine⟨eu,el,io,hS+l.toNat*1,cap-l.toNat,an,rfl,by omega,by omega,?_,λbh=>by have:=iQ (by omega);exact⟨by omega,by omega⟩⟩;rcases jk with bO|bO
    ·exact .inl (by omega)
    ·exact .inr (by omega)
theorem ald(z:be)(n:Nat):(abo #[z] n).toList=cC n z:=by
 unfold abo;apply m3;intro j;simp only[Array.toList_map,Array.toList_range,List.size_toArray,oa,List.length_nil,ib,pA,gQ,FE];by_cases h:j<n
 ·rw[List.getElem?_range h,if_pos h];simp[Nat.mod_one]
 ·rw[if_neg h,nD (by simp;omega)];rfl
theorem ale(cw:∀w,(underlying T).run aw w=.ok (.slice E) w)(aP:∀w,(zeroValue E).run aw w=.ok z w)(pD:oK z=ad)(ak:ρ x=I (.gs 1 n i m off)){c8:Nat}(aC:off+n<=cs.length):
  bP aw (.call {callee:=.builtin .clear,args:=#[x],argTypes:=#[T]}) ty ρ [(i,.fq c8 1 m cs)] [(i,.fq c8 1 m (cs.take off++cC n (.v z)++cs.drop (off+n)))] (.p (.v undef)):=λg w H bB q aB _ aO ev h=>by
 have li:=ev.one;have a2:=h x (by simp[dw,ji]) _ ak;generalize he:bB x=v at a2;cases a2 with
 |gs h2 nM=>
  rcases AM aO li nM with⟨rfl,rfl,rfl,f3,rfl⟩|⟨eu,el,io,hy,hS,cap,us,an,a',dr,gp,jk,iQ,jt,lm,ky,mK,l1,m9,nN,vb⟩
  ·have wn:H.set i (.fq c8 1 m [])=H:=Jn li;refine .inl ⟨undef,w,?_,g,by show cn w g H g w (H.set i _);simpa[wn]using aO.kf,.v _⟩;unfold execOp;rw[aB];simp[resolve,invoke,builtin,TW,he,cw,cq,cp,undef]
  have hlen:=nN.1;simp only[pA]at dr mK l1 m9;cases n with
  |zero=>
   have aQ:cs.take off++cC 0 (.v z)++cs.drop (off+0)=cs:=by simp
   rw[aQ];have wn:H.set i (.fq c8 1 m cs)=H:=Jn li;refine .inl ⟨undef,w,?_,g,by show cn w g H g w (H.set i _);rw[wn];exact aO.kf,.v _⟩;unfold execOp;rw[aB];simp[resolve,invoke,builtin,TW,he,a',cw,cq,cp,undef]
  |succ n=>
   have Ue:hS=off:=by rcases jk with h|h;omega;exact h
   subst Ue;have eO:lV w eu hy.toList c8:=by show w.heap[eu]? =I (.cells hy.toList.toArray c8 (0,0));simpa using jt
   have abH:hS+0+(cC (n+1) z).length<=hy.toList.length:=by simp;omega
   obtain⟨w',s1,s2,h6⟩:=Fb (P:=aw) (o:=hS) (cC (n+1) z) 0 hy.toList w eO (λu hu=>by rw[(List.mem_replicate.1 hu).2];exact pD) abH;have abI:=Z0 (cC (n+1) z) hy.toList (hS+0) abH;have AN:w'.ownsRow 0 c8 1 (g.h i) el (us.take hS++cC (n+1) z++us.drop (hS+(n+1))):=by
    refine⟨by simp[m9];omega,.inr ⟨eu,io,(oc hy.toList (hS+0) (cC (n+1) z)).toArray,an,fR _,h6,lm,ky,by rw[abI];simp;omega,?_⟩⟩;rw[abI,<-l1];apply m3;intro j;simp only[Nat.add_zero,pA,abr];by_cases ag:j<el
    ·rw[kd,if_pos ag];by_cases h1:j<hS
     ·rw[oI (by simp;omega),oI (by simp;omega),oI (by simp;omega),oI (by simp;omega),kd,if_pos h1,kd,if_pos h1,kd,if_pos ag]
     ·by_cases h2:j<hS+(n+1)
      ·rw[oI (by simp;omega),q2 (by simp;omega),oI (by simp;omega),q2 (by simp;omega)];simp only[fF,Cx];rw[l0 (by omega),l0 (by omega)]
      ·rw[q2 (by simp;omega),q2 (by simp;omega),sH,sH];simp only[List.length_append,fF,abr,Cx];rw[l0 (by omega),l0 (by omega),kd,if_pos (by omega)]
    ·rw[kd,if_neg ag,nD (by simp;omega)]
   have alf:fH g.E w (cC (n+1) (.v z)) (cC (n+1) z):=⟨by simp,λj c u h1 h2=>by
    rw[FE]at h1 h2;split at h1
    ·simp only[*,if_true,je]at h2;cases h1;subst h2;exact .v
    ·cases h1⟩
   have b5:=cn.abE (cs':=cs.take hS++cC (n+1) (.v z)++cs.drop (hS+(n+1))) aO li (b:=eu) (by rw[an];rfl) s2 AN (((nN.take hS).append alf).append (nN.drop _));refine .inl ⟨undef,w',?_,g,b5,.v _⟩;unfold execOp;rw[aB];have alg:z.cells=#[z]:=MB pD;have:=ald z (n+1);simp[resolve,invoke,builtin,TW,he,a',cw,aP,alg,this,s1,cq,cp,undef]
end
section
variable {β : Type} {b : β} {aw : cF} {ty : co} {f : iY} {H : List aN} {pB : V -> M β} {k : K β}
end
section
variable {β : Type} {b : β} {aw : cF} {ty : co} {f : iY} {H : List aN} {pB : V -> M β} {k : K β}
end
theorem Nz(H:List aN)(n i:Nat):(H++cC n aN.cc)[i]? =H[i]? \/(H[i]? =aJ/\(H++cC n aN.cc)[i]? =I .cc)\/(H[i]? =aJ/\(H++cC n aN.cc)[i]? =aJ):=by
 by_cases hi:i<H.length
 ·exact .inl (oI hi)
 ·rw[q2 (by omega),FE];have e:H[i]? =aJ:=nD (by omega);split
  ·exact .inr (.inl ⟨e,rfl⟩)
  ·exact .inr (.inr ⟨e,rfl⟩)
theorem alh(H:List aN)(n i:Nat):cL (H++cC n aN.cc) i↔cL H i:=by
 unfold cL;rcases Nz H n i with e|⟨a2,bc⟩|⟨a2,bc⟩
 ·rw[e]
 ·rw[a2,bc];exact Iff.rfl
 ·rw[a2,bc]
theorem ali(H:List aN)(n i:Nat):e5 (H++cC n aN.cc) i=e5 H i:=by
 unfold e5;rcases Nz H n i with e|⟨a2,bc⟩|⟨a2,bc⟩
 ·rw[e]
 ·rw[a2,bc];rfl
 ·rw[a2,bc]
theorem Uf(g:cu)(H:List aN)(n i b:Nat):own g (H++cC n aN.cc) i b↔own g H i b:=by
 unfold own;rcases Nz H n i with e|⟨a2,bc⟩|⟨a2,bc⟩
 ·rw[e]
 ·rw[a2,bc];exact Iff.rfl
 ·rw[a2,bc]
theorem iA.ext(g:cu)(w:bj)(H:List aN)(n:Nat):iA g w H g w (H++cC n aN.cc):=
 ⟨bL _,λ_ _=>bL _,λ_ _ _ _=>rfl,λi hi=>⟨(alh H n i).2 hi,rfl⟩,λt m aj=>⟨m,by rw[ali];exact aj,bL _,λ_=>rfl⟩⟩
theorem cn.ext{cK:bj}{cl:cu}{ca:List aN}{g:cu}{w:bj}{H:List aN}(aO:cn cK cl ca g w H)(n:Nat):cn cK cl ca g w (H++cC n .cc):=by
 have ei:=iA.ext g w H n;refine⟨aO.os,aO.tape,aO.output,aO.oe.bi ei,aO.bi.trans ei,aO.iq,λi o hi=>?_,λi j b h1 h2=>aO.lY i j b ((Uf _ _ _ i b).1 h1) ((Uf _ _ _ j b).1 h2),λi b h1=>aO.rP i b ((Uf _ _ _ i b).1 h1)⟩;rcases Nz H n i with e|⟨_,bc⟩|⟨_,bc⟩
 ·rw[e]at hi;exact lx.bi ei hi (λ_ _=>⟨rfl,rfl⟩) (λ_ _ _ _ _=>rfl) (aO.eP i o hi)
 ·rw[bc]at hi;cases hi;trivial
 ·rw[bc]at hi;cases hi
theorem abJ{g:cu}{w:bj}{H:List aN}(b5:xA g w):∀(G:List (Nat×List be))(q:Nat),(∀x∈G,x∈CG)->cN g w H (Jj G q) (.pointer (I ⟨q,0,aJ⟩))
 |[],q,_=>.v _
 |(b,cs)::G,q,aQ=>by
  simp only[Jj];cases aF:eF b q with
  |false=>exact abJ b5 G q λx ak=>aQ x (by simp[ak])
  |true=>
   have:=mi aF;subst this;obtain⟨h1,h2,ay⟩:=b5 (b,cs) (aQ _ (by simp));replace h1:b<w.heap.size:=h1;replace h2:cs.length<=g.E b:=h2;have:=cN.bG (g:=g) (w:=w) (H:=H) (cs:=cs.map .v) (b:=b) (o:=0) (λj=>(cs[j]?).getD undef) (by simpa using h2) h1 (λj ag=>?_) λj c ag=>?_
   ·exact this
   ·rw[List.length_map]at ag;rw[ib,ay j cs[j] (bN ag),bN ag];rfl
   ·rw[gQ]at ag;cases aB:cs[j]? with
    |none=>rw[aB]at ag;cases ag
    |some v=>rw[aB]at ag;cases ag;exact .v
def AO(g:cu)(w:bj)(H:List aN):List wp->List Deferred->Prop
 |[],[]=>True
 |.mark i::ds,q::ql=>cL H i/\q={target:=.collected (g.β i),args:=#[]}/\AO g w H ds ql
 |.fn f cs::ds,q::ql=>(∃vs:List be,q={target:=.fn (.func f) vs.toArray,args:=#[]}/\dp g w H cs vs)/\AO g w H ds ql
 |_,_=>False
theorem AO.bi{g g':cu}{w w':bj}{H H':List aN}(m:iA g w H g' w' H'):∀{ds:List wp}{ql:List Deferred},AO g w H ds ql->AO g' w' H' ds ql
 |[],[],_=>trivial
 |.mark i::ds,q::ql,⟨h1,h2,ay⟩=>⟨(m.cL i h1).1,by rw[(m.cL i h1).2];exact h2,AO.bi m ay⟩
 |.fn f cs::ds,q::ql,⟨⟨vs,h1,h2⟩,ay⟩=>⟨⟨vs,h1,h2.bi m⟩,AO.bi m ay⟩
 |[],_::_,h=>h.elim
 |.mark _::_,[],h=>h.elim
 |.fn _ _::_,[],h=>h.elim
def NA(r:Option Nat)(g:cu)(H:List aN):Option Nat->Prop
 |none=>r=aJ
 |some i=>r=I (g.β i)/\cL H i
theorem NA.bi{r:Option Nat}{g g':cu}{w w':bj}{H H':List aN}(m:iA g w H g' w' H'){k2:Option Nat}(h:NA r g H k2):NA r g' H' k2:=by
 cases k2 with
 |none=>exact h
 |some i=>exact⟨by rw[(m.cL i h.2).2];exact h.1,(m.cL i h.2).1⟩
structure xX(r:Option Nat)(N:Nat)(k2:Option Nat)(g:cu)(w:bj)(H:List aN)(l:ce)(ds:List wp)(a:Act):Prop where
 abK:AO g w H ds a.defers
 Ug:a.tmps.size=N
 fr:Ar g w H l a.tmps
 k2:NA r g H k2
section
variable {r : Option Nat} {N : Nat} {k2 : Option Nat} {g g' : cu} {w w' : bj} {H H' : List aN} {l : ce} {ds : List wp} {a : Act}
theorem xX.bi(h:xX r N k2 g w H l ds a)(m:iA g w H g' w' H'):xX r N k2 g' w' H' l ds a:=⟨h.abK.bi m,h.Ug,h.fr.bi m,h.k2.bi m⟩
theorem xX.bB(h:xX r N k2 g w H l ds a)(b5:xA g w){x:bY}{d:V}(aG:y' l x=I d):cN g w H d (a.eval x):=by
 cases x with
 |tmp t=>obtain⟨v,h1,h2⟩:=h.fr t d aG;simpa[Act.eval,Array.getD_eq_getD_getElem?,h1]using h2
 |const v=>have:I (V.p (.v v))=I d:=aG;cases this;exact .v _
 |global q=>have:I (Jj CG q)=I d:=aG;cases this;exact abJ b5 CG q λ_ h=>h
 |func f=>have:I (V.p (.v (.func (.func f) #[] #[])))=I d:=aG;cases this;exact .v _
theorem xX.put(h:xX r N k2 g w H l ds a){dst:Option Tmp}(aG:m4 N dst=ad){d:V}{v:be}(bp:cN g w H d v):xX r N k2 g w H (hJ dst d l) ds (a.put dst v):=by
 cases dst with
 |none=>exact h
 |some t=>
  refine⟨h.abK,by simp[Act.put,h.Ug],λs u aQ=>?_,h.k2⟩;have aj:t<N:=by simpa[m4,lA]using aG
  simp only[hJ,c6]at aQ;simp only[Act.put,Array.getElem?_setIfInBounds,h.Ug];by_cases e:t=s
  ·subst e;rw[show eF t t=ad from Nat.beq_refl t]at aQ;simp only[cond_true,je]at aQ;subst aQ;exact⟨v,by simp[aj],bp⟩
  ·rw[tS e]at aQ;simp only[cond_false]at aQ;obtain⟨sN,h1,h2⟩:=h.fr s u aQ;exact⟨sN,by simp[e,h1],h2⟩
end
theorem abL(m i:Nat):ud m i=m.testBit i:=by
 unfold ud Nat.testBit;have e:(1 &&& (m>>>i))=Nr (Jh m i) 1:=by rw[Nat.and_comm];rfl
 rw[e];have h:Nr (Jh m i) 1< 2:=by have:=Nat.and_lt_two_pow (Jh m i) (n:=1) (show 1< 2^1 by omega);exact this
 generalize Nr (Jh m i) 1=q at h;match q,h with
 |0,_=>rfl
 |1,_=>rfl
theorem abM(m i j:Nat):ud (qY m i) j=(ud m j||decide (j=i)):=by rw[abL,abL];unfold qY;have:abt m (abs 1 i)=m ||| (1<<<i):=rfl;rw[this,Nat.testBit_or];congr 1;rw[Nat.one_shiftLeft,Nat.testBit_two_pow];simp[eq_comm]
theorem abN:∀(a1:List Nat)(m:Nat),(wo (motive:=λ_=>Nat->Bool) (λ_=>ad) (λi _ bx mask=>xV (motive:=λ_=>Bool) (bx (qY mask i)) aS (ud mask i)) a1 m:Bool)=ad->a1.Nodup/\∀i∈a1,ud m i=aS
 |[],m,_=>⟨List.nodup_nil,λ_ h=>by cases h⟩
 |i::a1,m,h=>by
  replace h:(xV (motive:=λ_=>Bool) (wo (motive:=λ_=>Nat->Bool) (λ_=>ad) (λi _ bx mask=>xV (motive:=λ_=>Bool) (bx (qY mask i)) aS (ud mask i)) a1 (qY m i)) aS (ud m i):Bool)=ad:=h;cases aF:ud m i with
  |true=>rw[aF]at h;cases h
  |false=>
   rw[aF]at h;obtain⟨h1,h2⟩:=abN a1 _ h;refine⟨List.nodup_cons.2 ⟨λhi=>?_,h1⟩,λj ag=>?_⟩
   ·have:=h2 i hi;rw[abM]at this;simp at this
   ·rcases qf.1 ag with rfl|ag
    ·exact aF
    ·have:=h2 j ag;rw[abM]at this;simp at this;exact this.1
variable {a1:List Nat}
theorem alj(h:abu a1=ad):a1.Nodup:=(abN a1 0 h).1
theorem abO:∀(a1:List Nat)(i k n:Nat),(wo (motive:=λ_=>Nat->Option Nat) (λ_=>aJ) (λj _ bx n=>xV (motive:=λ_=>Option Nat) (bx (Ji n)) (I n) (eF j i)) a1 k:Option Nat)=I n->k<=n/\a1[n-k]? =I i
 |[],i,k,n,h=>by cases h
 |j::a1,i,k,n,h=>by
  replace h:(xV (motive:=λ_=>Option Nat) (wo (motive:=λ_=>Nat->Option Nat) (λ_=>aJ) (λj _ bx n=>xV (motive:=λ_=>Option Nat) (bx (Ji n)) (I n) (eF j i)) a1 (Ji k)) (I k) (eF j i):Option Nat)=I n:=h;cases aF:eF j i with
  |true=>rw[aF]at h;have e:I k=I n:=h;cases e;have:=mi aF;subst this;simp
  |false=>rw[aF]at h;obtain⟨h1,h2⟩:=abO a1 i _ n h;refine⟨by omega,?_⟩;rw[show n-k=(n-Ji k)+1 by omega];simpa using h2
theorem alk{i n:Nat}(h:Jk a1 i=I n):a1[n]? =I i:=(abO a1 i 0 n h).2
def za(s:Nat->Option Nat)(t:Nat->Nat)(k:Nat):Prop:=∀i j,s i=I j->t j=i/\j<k
theorem za.Jk(a1:List Nat):za (Jk a1) (b0 a1) a1.length:=λi j h=>by have h1:=alk h;exact⟨by unfold b0;rw[List.getD_eq_getElem?_getD,h1];rfl,(cz.1 h1).1⟩
noncomputable def abP(s:Nat->Option Nat)(cs:List V):Option (List V):=
 V.rec_1 (motive_1:=λ_=>Option V) (motive_2:=λ_=>Option (List V))
  (λx=>I (.p x)) (λk n cs t m=>(s t).map λt=>.cZ k n cs t m) (λi o=>(s i).map λi=>.aV i o) (λcs=>I (.bG cs)) (λi o n c=>(s i).map λi=>.ek i o n c) (λi=>(s i).map .map)
  (λf _ _ b c=>match b,c with|some b,I c=>I (.fn f b c)|_,_=>aJ) (λ_ r=>r.map .agg) (λ_ r=>r.map .cx) (λi=>(s i).map .gV) (I .z) (λk n t m o=>(s t).map λt=>.gs k n t m o) (λt m o=>(s t).map λt=>.kr t m o)
  (I []) (λ_ _ x xs=>match x,xs with|some x,I xs=>I (x::xs)|_,_=>aJ) cs
theorem Jp(s:Nat->Option Nat):∀(cs:List V),abP s cs=sX s cs
 |[]=>rfl
 |d::ds=>by show(match d.pC s,abP s ds with|some x,I xs=>I (x::xs)|_,_=>aJ)=_;rw[Jp s ds];rfl
theorem alm(s:Nat->Option Nat)(f:Go.Fn)(b c:List V):(V.fn f b c).pC s=match sX s b,sX s c with|some b,I c=>I (.fn f b c)|_,_=>aJ:=by rw[<-Jp,<-Jp];rfl
theorem aln(s:Nat->Option Nat)(b:List V):(V.agg b).pC s=(sX s b).map .agg:=by rw[<-Jp];rfl
theorem alo(s:Nat->Option Nat)(b:List V):(V.cx b).pC s=(sX s b).map .cx:=by rw[<-Jp];rfl
theorem s0{α m8:Type}{x:Option α}{f:α->m8}{c:m8}(h:x.map f=I c):∃a,x=I a/\f a=c:=by
 cases x with
 |none=>cases h
 |some a=>exact⟨a,rfl,by simpa using h⟩
section
variable {s : Nat -> Option Nat} {t : Nat -> Nat} {k : Nat}
mutual
theorem V.Jq(aQ:za s t k):∀{d db:V},d.pC s=I db->db.dN t=d/\db.lt k=ad
 |.p x,db,h=>by have e:I (V.p x)=I db:=h;cases e;exact⟨rfl,rfl⟩
 |.cZ q n cs i m,db,h=>by obtain⟨a,h1,rfl⟩:=s0 (show(s i).map _=I db from h);obtain⟨h2,ay⟩:=aQ _ _ h1;exact⟨by simp[V.dN,h2],by simpa[V.lt,lA]using ay⟩
 |.aV i o,db,h=>by obtain⟨a,h1,rfl⟩:=s0 (show(s i).map _=I db from h);obtain⟨h2,ay⟩:=aQ _ _ h1;exact⟨by simp[V.dN,h2],by simpa[V.lt,lA]using ay⟩
 |.bG cs,db,h=>by have e:I (V.bG cs)=I db:=h;cases e;exact⟨rfl,rfl⟩
 |.ek i o n c,db,h=>by obtain⟨a,h1,rfl⟩:=s0 (show(s i).map _=I db from h);obtain⟨h2,ay⟩:=aQ _ _ h1;exact⟨by simp[V.dN,h2],by simpa[V.lt,lA]using ay⟩
 |.map i,db,h=>by obtain⟨a,h1,rfl⟩:=s0 (show(s i).map _=I db from h);obtain⟨h2,ay⟩:=aQ _ _ h1;exact⟨by simp[V.dN,h2],by simpa[V.lt,lA]using ay⟩
 |.gs cV n i m o,db,h=>by obtain⟨a,h1,rfl⟩:=s0 (show(s i).map _=I db from h);obtain⟨h2,ay⟩:=aQ _ _ h1;exact⟨by simp[V.dN,h2],by simpa[V.lt,lA]using ay⟩
 |.kr i m o,db,h=>by obtain⟨a,h1,rfl⟩:=s0 (show(s i).map _=I db from h);obtain⟨h2,ay⟩:=aQ _ _ h1;exact⟨by simp[V.dN,h2],by simpa[V.lt,lA]using ay⟩
 |.z,db,h=>by have e:I V.z=I db:=h;cases e;exact⟨rfl,rfl⟩
 |.gV i,db,h=>by obtain⟨a,h1,rfl⟩:=s0 (show(s i).map _=I db from h);obtain⟨h2,ay⟩:=aQ _ _ h1;exact⟨by simp[V.dN,h2],by simpa[V.lt,lA]using ay⟩
 |.fn f b c,db,h=>by
  rw[alm]at h;cases aF:sX s b with
  |none=>rw[aF]at h;cases h
  |some g5=>
   cases ax:sX s c with
   |none=>rw[aF,ax]at h;cases h
   |some c'=>rw[aF,ax]at h;cases h;obtain⟨h1,h2⟩:=C6 aQ aF;obtain⟨ay,bl⟩:=C6 aQ ax;exact⟨by simp[V.dN,h1,ay],by simp[V.lt,h2,bl]⟩
 |.agg cs,db,h=>by rw[aln]at h;obtain⟨a,h1,rfl⟩:=s0 h;obtain⟨h2,ay⟩:=C6 aQ h1;exact⟨by simp[V.dN,h2],by simp[V.lt,ay]⟩
 |.cx cs,db,h=>by rw[alo]at h;obtain⟨a,h1,rfl⟩:=s0 h;obtain⟨h2,ay⟩:=C6 aQ h1;exact⟨by simp[V.dN,h2],by simp[V.lt,ay]⟩
theorem C6(aQ:za s t k):∀{ds r1:List V},sX s ds=I r1->g7 t r1=ds/\m5 k r1=ad
 |[],r1,h=>by have e:I ([]:List V)=I r1:=h;cases e;exact⟨rfl,rfl⟩
 |d::ds,r1,h=>by
  replace h:(match d.pC s,sX s ds with|some x,I xs=>I (x::xs)|_,_=>aJ)=I r1:=h;cases aG:d.pC s with
  |none=>rw[aG]at h;cases h
  |some x=>
   cases ak:sX s ds with
   |none=>rw[aG,ak]at h;cases h
   |some xs=>rw[aG,ak]at h;cases h;obtain⟨h1,h2⟩:=V.Jq aQ aG;obtain⟨ay,bl⟩:=C6 aQ ak;exact⟨by simp[g7,h1,ay],by simp[m5,h2,bl]⟩
end
theorem abQ(aQ:za s t k):∀{kv kv':List (be×V)},Jl s kv=I kv'->xG t kv'=kv/\m5 k (kv'.map (·.2))=ad
 |[],kv',h=>by have e:I ([]:List (be×V))=I kv':=h;cases e;exact⟨rfl,rfl⟩
 |q::kv,kv',h=>by
  replace h:(match q.2.pC s,Jl s kv with|some x,I xs=>I ((q.1,x)::xs)|_,_=>aJ)=I kv':=h;cases aG:q.2.pC s with
  |none=>rw[aG]at h;cases h
  |some x=>
   cases ak:Jl s kv with
   |none=>rw[aG,ak]at h;cases h
   |some xs=>rw[aG,ak]at h;cases h;obtain⟨h1,h2⟩:=V.Jq aQ aG;obtain⟨ay,bl⟩:=abQ aQ ak;exact⟨by simp[xG,h1,ay],by simp[m5,h2];simpa using bl⟩
theorem abR(aQ:za s t k):∀{kv kv':ce},FN s kv=I kv'->u6 t kv'=kv/\Fo k kv'=ad
 |[],kv',h=>by have e:I ([]:ce)=I kv':=h;cases e;exact⟨rfl,rfl⟩
 |q::kv,kv',h=>by
  replace h:(match q.2.pC s,FN s kv with|some x,I xs=>I ((q.1,x)::xs)|_,_=>aJ)=I kv':=h;cases aG:q.2.pC s with
  |none=>rw[aG]at h;cases h
  |some x=>
   cases ak:FN s kv with
   |none=>rw[aG,ak]at h;cases h
   |some xs=>rw[aG,ak]at h;cases h;obtain⟨h1,h2⟩:=V.Jq aQ aG;obtain⟨ay,bl⟩:=abR aQ ak;exact⟨by simp[u6,h1,ay],by simp[Fo,h2,bl]⟩
theorem aN.Jq(aQ:za s t k){o o':aN}(h:o.pC s=I o'):o'.dN t=o/\o'.lt k=ad:=by
 cases o with
 |cc=>have e:I aN.cc=I o':=h;cases e;exact⟨rfl,rfl⟩
 |cells T cs=>obtain⟨a,h1,rfl⟩:=s0 (show(sX s cs).map _=I o' from h);obtain⟨h2,ay⟩:=C6 aQ h1;exact⟨by simp[aN.dN,h2],ay⟩
 |bA T cs=>have e:I (aN.bA T cs)=I o':=h;cases e;exact⟨rfl,rfl⟩
 |gF T cs=>have e:I (aN.gF T cs)=I o':=h;cases e;exact⟨rfl,rfl⟩
 |fq T q m cs=>have e:I (aN.fq T q m cs)=I o':=h;cases e;exact⟨rfl,rfl⟩
 |bs T q m=>have e:I (aN.bs T q m)=I o':=h;cases e;exact⟨rfl,rfl⟩
 |pt c bT kv=>obtain⟨a,h1,rfl⟩:=s0 (show(Jl s kv).map _=I o' from h);obtain⟨h2,ay⟩:=abQ aQ h1;exact⟨by simp[aN.dN,h2],ay⟩
 |loop st ee f N fr ps a b j=>
  replace h:(match FN s fr,s j with|some fr,I j=>I (aN.loop st ee f N fr ps a b j)|_,_=>aJ)=I o':=h;cases aG:FN s fr with
  |none=>rw[aG]at h;cases h
  |some g1=>
   cases ag:s j with
   |none=>rw[aG,ag]at h;cases h
   |some fX=>rw[aG,ag]at h;cases h;obtain⟨h1,h2⟩:=abR aQ aG;obtain⟨ay,bl⟩:=aQ _ _ ag;exact⟨by simp[aN.dN,h1,ay],by simp[aN.lt,h2,lA,bl]⟩
 |cD b=>have e:I (aN.cD b)=I o':=h;cases e;exact⟨rfl,rfl⟩
 |rN j=>obtain⟨a,h1,rfl⟩:=s0 (show(s j).map _=I o' from h);obtain⟨h2,ay⟩:=aQ _ _ h1;exact⟨by simp[aN.dN,h2],by simpa[aN.lt,lA]using ay⟩
 |oL dX kv=>have e:I (aN.oL dX kv)=I o':=h;cases e;exact⟨rfl,rfl⟩
 |lX j A=>obtain⟨a,h1,rfl⟩:=s0 (show(s j).map _=I o' from h);obtain⟨h2,ay⟩:=aQ _ _ h1;exact⟨by simp[aN.dN,h2],by simpa[aN.lt,lA]using ay⟩
 |qd ds vs=>obtain⟨a,h1,rfl⟩:=s0 (show(sX s ds).map _=I o' from h);obtain⟨h2,ay⟩:=C6 aQ h1;exact⟨by simp[aN.dN,h2],ay⟩
theorem abS{β:Type}{b:β}{H:List aN}(aQ:za s t k):∀{a1:List Nat}{g2:List aN->M β},T6 H s a1 g2=.ok b->∃os:List aN,os.length=a1.length/\(∀(i j:Nat)(o:aN),os[i]? =I o->a1[i]? =I j->H[j]? =I (o.dN t))/\os.all (aN.lt k)=ad/\g2 os=.ok b
 |[],g2,h=>⟨[],rfl,λi j o h=>by simp at h,rfl,h⟩
 |q::a1,g2,h=>by
  replace h:(T1 "object" H q λo=>eP "name" (o.pC s) λo'=>T6 H s a1 λos=>g2 (o'::os))=.ok b:=h;obtain⟨o,h1,h2⟩:=abv h;obtain⟨o',ay,bl⟩:=akR h2;obtain⟨bO,cX⟩:=aN.Jq aQ ay;obtain⟨os,hq,g8,kg,AP⟩:=abS aQ bl;refine⟨o'::os,by simp[hq],λi j x hi ag=>?_,by simp[cX];simpa using kg,AP⟩;cases i with
  |zero=>simp at hi ag;subst hi ag;rw[bO];exact h1
  |succ i=>simp at hi ag;exact g8 i j x hi ag
end
theorem abT(s:Nat->Nat):∀(S:List Nat)(Hc:List aN)(q:Nat×aN),q∈eW s S Hc->∃(i:Nat)(o:aN),S[i]? =I q.1/\Hc[i]? =I o/\q.2=o.dN s
 |[],_,q,h=>by cases h
 |_::_,[],q,h=>by cases h
 |j::Tl,o::os,q,h=>by
  simp only[eW,qf]at h;rcases h with rfl|h
  ·exact⟨0,o,rfl,rfl,rfl⟩
  ·obtain⟨i,o',h1,h2,ay⟩:=abT s Tl os q h;exact⟨i+1,o',by simpa using h1,by simpa using h2,ay⟩
structure NB(H Hc:List aN)(a1:List Nat):Prop where
 sl:xH H Hc a1
 af:a1.Nodup
 lt:Hc.all (aN.lt Hc.length)=ad
variable {a1:List Nat}
theorem NB.aX{β:Type}{b:β}{H:List aN}{g2:List aN->M β}(a6:abu a1=ad)(h:T6 H (Jk a1) a1 g2=.ok b):∃Hc,NB H Hc a1/\g2 Hc=.ok b:=by
 obtain⟨os,h1,h2,ay,bl⟩:=abS (za.Jk a1) h;refine⟨os,⟨⟨h1.symm,λi o hi=>?_⟩,alj a6,by rw[h1];exact ay⟩,bl⟩;have b':i<a1.length:=by rw[<-h1];exact(cz.1 hi).1
 exact h2 i _ o hi (y2 b')
theorem NB.dx{H Hc:List aN}(h:NB H Hc a1):gx H (eW (b0 a1) a1 Hc):=λq aB=>by obtain⟨i,o,h1,h2,ay⟩:=abT _ _ _ _ aB;have bl:=h.sl.2 i o h2;have b':i<a1.length:=(cz.1 h1).1;rw[y2 b']at h1;have e:b0 a1 i=q.1:=rS h1;rw[<-e,ay];exact bl
def Nt.ex:Nt->df
 |.n=>.normal
 |.ret=>.ret
 |.exit id=>.exit id
theorem cn.alp{g:cu}{w:bj}{H:List aN}{i:Nat}(h:g6 g w H)(hi:H[i]? =I (.cD ad)):
  cn w g H g (w.putObj (g.β i) (.deferred aJ)) (H.set i (.cD aS)):=by
 have c4:=(cz.1 hi).1;have eR:∀b,own g H i b↔b=g.β i:=λb=>by unfold own;rw[hi];exact Iff.rfl
 have h1:w.heap[g.β i]? =I (.deferred (I [])):=h.eP i _ hi;have Jr:=(n_.1 h1).1
 refine cn.one h c4 rfl rfl rfl (by simp) (λb aC a6=>⟨abq λe=>a6 ((eR b).2 e),rfl⟩) (λb o aU b'=>?_) (λb _=>bL _) (λj _=>⟨rfl,rfl⟩) (λ_=>⟨trivial,rfl⟩)
  (λm hm=>by rw[hi]at hm;cases hm) (λb aU=>.inl ((eR b).2 aU)) (λei=>Nq Jr)
 have:=(eR b).1 aU;subst this;simp[rH,Nq Jr,h1]
section
variable {g : cu} {w : bj} {H : List aN}
end
section
variable {β : Type} {b : β} {E : C3} {bx : C4} {H : List aN} {k : K β}
inductive wr (f:hE):V->List V->List V->Prop
 |fn {b c:List V}:wr f (.fn (.func f) b c) b c
 |v:wr f (.p (.v (.func (.func f) #[] #[]))) [] []
theorem wr.rv{f:hE}{kh:V}{bT cs:List V}(h:wr f kh bT cs){g:cu}{w:bj}{H:List aN}{u:be}(hu:cN g w H kh u):∃us vs:List be,u=.func (.func f) us.toArray vs.toArray/\dp g w H bT us/\dp g w H cs vs:=by
 cases h with
 |fn=>cases hu with|fn h1 h2=>exact⟨_,_,rfl,h1,h2⟩
 |v=>exact⟨[],[],hu.ic,.nil,.nil⟩
end
def iY.u:iY->Nat
 |.mk cf _ _=>cf
section
variable {P : cF} {N : Nat} {r k2 : Option Nat} {cK : bj} {cl : cu} {ca : List aN} {Q : df -> Act -> bj -> Prop}
def NC(P:cF)(N:Nat)(r k2:Option Nat)(cK:bj)(cl:cu)(ca:List aN)(ops:Array b_)(Q:df->Act->bj->Prop)(rest:List b_)(l:ce)(H:List aN)(ds:List wp):Prop:=
 ∀g w a,cn cK cl ca g w H->xX r N k2 g w H l ds a->m0 ⟨r,P,N,[]⟩ ops Q rest a w
variable {ops : Array b_} {rest : List b_} {l : ce} {H : List aN} {ds : List wp}
theorem NC.ext(m:Nat)(h:NC P N r k2 cK cl ca ops Q rest l (H++cC m .cc) ds):NC P N r k2 cK cl ca ops Q rest l H ds:=λg w a aO a4=>h g w a (aO.ext m) (a4.bi (iA.ext g w H m))
def Js(P:cF)(N:Nat)(r k2:Option Nat)(cK:bj)(cl:cu)(ca:List aN)(ops:Array b_)(Q:df->Act->bj->Prop)(o:b_)(rest:List b_)(l:ce)(H:List aN)(ds:List wp):Prop:=
 ∀g w a,cn cK cl ca g w H->xX r N k2 g w H l ds a->o.wpIn (jT r) 0 P a w (m0 ⟨r,P,N,[]⟩ ops Q rest) Q
theorem Js.ar{o:b_}{dx c0:List (Nat×aN)}{d:V}(h:bP P o.op o.type (y' l) dx c0 d)(ev:gx H dx)(aG:m4 N o.dst=ad)(k:NC P N r k2 cK cl ca ops Q rest (hJ o.dst d l) (eH H c0) ds):
  Js P N r k2 cK cl ca ops Q o rest l H ds:=λg w a aO a4=>by
 refine⟨λ_ _=>trivial,?_⟩
 have fi:∀v w' g',cn w g H g' w' (eH H c0)->cN g' w' (eH H c0) d v->m0 ⟨r,P,N,[]⟩ ops Q rest (a.put o.dst v) w':=λv w' g' h1 h2=>
  k g' w' _ (aO.then h1) ((a4.bi h1.bi).put aG h2)
 rcases h g w H a.eval o rfl rfl aO.jV ev (λx _ u hu=>a4.bB aO.oe hu)with⟨v,w',h1,g',h2,ay⟩|⟨w',h1,g',h2,ay⟩|⟨n,h1,h2⟩
 ·rw[uY h1 (by intro d h;cases h)];exact fi v w' g' h2 ay
 ·rw[uY h1 (by intro d h;cases h)];exact fi undef w' g' h2 ay
 ·rw[uY h1 h2.CI];exact h2.MM λv w' ⟨g',ay,bl⟩=>fi v w' g' ay bl
theorem Js.ext{o:b_}(m:Nat)(h:Js P N r k2 cK cl ca ops Q o rest l (H++cC m .cc) ds):Js P N r k2 cK cl ca ops Q o rest l H ds:=λg w a aO a4=>h g w a (aO.ext m) (a4.bi (iA.ext g w H m))
end
theorem cn.Uh{g:cu}{w:bj}{H:List aN}{i f N j:Nat}{st st':LoopState}{ee Jt:Option Code}{fr:List (Nat×V)}{ps:Array Nat}{od eU:Code}{rec:Loop}(h:g6 g w H)(hi:H[i]? =I (.loop st ee f N fr ps od eU j))(Ui:w.heap[g.β i]? =I (.loop rec)):
  cn w g H g (w.putObj (g.β i) (.loop {rec with state:=st',pending:=Jt})) (H.set i (.loop st' Jt f N fr ps od eU j)):=by
 have c4:=(cz.1 hi).1;have eR:∀b,own g H i b↔b=g.β i:=λb=>by unfold own;rw[hi];exact Iff.rfl
 obtain⟨f0,tm,h1,h2,ay,bl⟩:=h.eP i _ hi;rw[Ui]at h1;cases h1;have Jr:=(n_.1 Ui).1
 refine cn.one h c4 rfl rfl rfl (by simp) (λb aC a6=>⟨abq λe=>a6 ((eR b).2 e),rfl⟩) (λb o aU b'=>?_) (λb _=>bL _) (λj _=>⟨rfl,rfl⟩) (λ_=>⟨trivial,rfl⟩)
  (λm hm=>by rw[hi]at hm;cases hm) (λb aU=>.inl ((eR b).2 aU)) (λei=>⟨f0,tm,Nq Jr,h2,(ei.cL j ay).1,bl.bi ei⟩)
 have:=(eR b).1 aU;subst this;simp[rH,Nq Jr,Ui]
section
variable {β : Type} {b : β} {E : C3} {bx : C4}
end
section
variable {P : cF} {N : Nat} {r k2 : Option Nat} {g : cu} {w : bj} {H : List aN} {l : ce} {ds : List wp} {a : Act} {ops : Array b_}
end
section
variable {β : Type} {b : β} {E : C3} {bx : C4} {N : Nat} {r k2 : Option Nat} {cK : bj} {cl : cu} {ca : List aN} {Q : df -> Act -> bj -> Prop} {ops : Array b_} {rest : List b_}
end
structure ND where
 d:V
 m:Nat
 dx:List (Nat×aN)
 c0:List (Nat×aN)
 en:Option (Nat×Nat×V)
structure alq(P:cF)(op:Op)(l:ce)(H:List aN)(x:ND)(q:Nat×Nat×V):Prop where
 d:q.2.2=x.d
 w:x.c0=[]
 ty:∃T y,op=.load T y/\y' l y=I (.aV q.1 q.2.1)/\∀w,(isAgg T).run P w=.ok aS w
def alr(eS:List b_)(o:b_)(l:ce):Prop:=o.guard=aJ\/∃j dM want,o.guard=I (j,want)/\(eS[j]?).bind (·.dst)=I dM/\c6 l dM=I (.p (.v (.bool want)))
structure als(P:cF)(eS:List b_)(o:b_)(l:ce)(H:List aN)(x:ND):Prop where
 fs:alr eS o l
 ar:bP P o.op o.type (y' l) x.dx x.c0 x.d
 dx:gx (H++cC x.m .cc) x.dx
 c0:∀q∈x.c0,q.1<H.length+x.m
 en:∀q,x.en=I q->alq P o.op l H x q
inductive hK (P:cF) (eS:List b_) (o:b_) (l:ce) (H:List aN) (x:ND):Prop
 |alt (h:als P eS o l H x)
 |off {j dM:Nat} {want:Bool} (b5:o.guard=I (j,want)) (ag:(eS[j]?).bind (·.dst)=I dM) (aF:c6 l dM=I (.p (.v (.bool (!want))))) (ak:x=⟨.p (.v undef),0,[],[],aJ⟩):hK P eS o l H x
 |Ft {j dM:Nat} {want:Bool} {y:Array be} (b5:o.guard=I (j,want)) (ag:(eS[j]?).bind (·.dst)=I dM) (aF:c6 l dM=I (.p (.v (.tuple y)))) (ak:x=⟨.p (.v undef),0,[],[],aJ⟩):hK P eS o l H x
section
variable {β : Type} {b : β} {E : C3} {bx : C4} {N : Nat}
end
section
variable {β : Type} {b : β} {E : C3} {bx : C4} {N : Nat}
end
section
variable {P : cF} {eS : List b_} {lo : Nat}
theorem hK.c0{o:b_}{l:ce}{H:List aN}{x:ND}(h:hK P eS o l H x):(∀q∈x.c0,q.1<(H++cC x.m aN.cc).length)/\gx (H++cC x.m .cc) x.dx:=by
 cases h with
 |alt h=>exact⟨λq aB=>by simpa using h.c0 q aB,h.dx⟩
 |off b5 ag aF ak=>subst ak;exact⟨λq aB=>(by cases aB),λq aB=>(by cases aB)⟩
 |Ft b5 ag aF ak=>subst ak;exact⟨λq aB=>(by cases aB),λq aB=>(by cases aB)⟩
end
section
variable {β : Type} {b : β} {E : C3} {bx : C4} {N : Nat} {r k2 : Option Nat} {cK : bj} {cl : cu} {ca : List aN} {Q : df -> Act -> bj -> Prop}
end
section
variable {E : C3} {bx : C4}
section
variable {N : Nat} {k2 : Option Nat} {fn : hE} {l l' : hr} {H H' : List aN} {ds r1 : List wp} {e : Nt} {r : Option Nat} {cK : bj} {cl : cu} {ca : List aN} {g : cu} {w : bj} {a : Act}
end
end

end Go.Dp

/- Closed calls are worked out by a function: what each operation, each code and each call yields, over what values mean. No proof here: it follows in the next texts. -/
import Derived.Test.YtgfggdcbhjhegaaGreatDoorC
import Derived.Lib.ConvBytes
import Derived.LoopNIn
import Derived.RecoverIn
set_option linter.all false
namespace Go.Dp
open Go Go.Mi Go.RowKit
open Bool renaming true->ah,rec->uw,false->aQ
open Go renaming Value->a4,Program->cj,World->bb,Operand->bM,TypeId->b3,Oper->bU,TypeDesc->EK,FuncId->gh,Exit->cN
open Go.Instr renaming sliceBound->n7,sliceBounds->qg,findNow->BE,findKey->O3,fill->mm,findAsking->BF,sureAddr->sV,indexAt->WM
open Go.Op renaming operands->c_,equalIn->kG,equal->l2
open Go.Result renaming andThen->ce
open Go.Sem renaming run_bind->ck,run_pure->it
open Go.World renaming putObj_heap_same->IJ,putObj_heap_other->WN,cell?->p8
open List renaming getElem?_eq_some_iff->cz,replicate->dm,rec->s4,getElem?_cons_succ->O4,modify_succ_cons->O5,set_cons_succ->O6,getElem?_eq_getElem->cq,mem_cons->n4
open Nat renaming le_refl->b5,blt_eq->iu,shiftRight->EL,beq->d',succ->EM,eq_of_beq_eq_true->kz,zero_le->gx,mul_one->q4,land->IK,shiftLeft->WO,zero_add->hD,lor->WP
open Option renaming some->D,none->aF,isNone->w5
open Option.some renaming injEq->hX,inj->pA
inductive M (α:Type) where
 |ok (a:α)
 |br (at3:String)
noncomputable def M.b{α β:Type}(x:M α)(f:α->M β):M β:=M.rec (motive:=λ_=>M β) f (λs=>.br s) x
noncomputable def ec{α β:Type}(s:String)(x:Option α)(f:α->M β):M β:=Option.rec (motive:=λ_=>M β) (.br s) f x
noncomputable def vu{β:Type}(c:Bool)(t e:M β):M β:=uw (motive:=λ_=>M β) e t c
def EN{α:Type}(av:cj):Sem α->Option α
 |.pure a=>D a
 |.program k=>EN av (k av)
 |.mark _ k=>EN av k
 |_=>aF
noncomputable def O7{α β:Type}(s:String)(l:List α)(i:Nat)(k:α->M β):M β:=
 s4 (motive:=λ_=>Nat->M β) (λ_=>.br s) (λx _ bB i=>Nat.rec (motive:=λ_=>M β) (k x) (λj _=>bB j) i) l i
inductive gq where
 |e
 |c (t:Nat) (v:V) (r:gq)
def gq.iT:gq->bY
 |.e=>[]
 |.c t v r=>(t,v)::r.iT
noncomputable def q5(mask i:Nat):Bool:=d' (IK (EL mask i) 1) 1
noncomputable def oF(mask i:Nat):Nat:=WP mask (WO 1 i)
inductive hN where
 |mk (b1:Nat) (lc l:gq)
def EO:List (Nat×List a4)->Nat->V
 |[],g=>.p (.v (.pointer (D ⟨g,0,aF⟩)))
 |(b,cs)::r,g=>cond (d' b g) (.bA (cs.map .v)) (EO r g)
def vv(l:bY):bM->Option V
 |.global g=>D (EO yP g)
 |x=>bO l x
noncomputable def V.val(d:V):Option a4:=
 V.rec (motive_1:=λ_=>Option a4) (motive_2:=λ_=>Option (List a4))
  (λx=>match x with| .v v=>D v|_=>aF) (λ_ _ _ _ _=>aF) (λ_ _=>aF) (λ_=>aF) (λ_ _ _ _=>aF) (λ_=>aF)
  (λf b c _ _=>match b,c with|[],[]=>D (.func f #[] #[])|_,_=>aF) (λ_ r=>r.map λl=>.agg l.toArray) (λ_ r=>r.map λl=>.tuple l.toArray) (λ_=>aF) aF (λ_ _ _ _ _=>aF) (λ_ _ _=>aF)
  (D []) (λ_ _ a b=>match a,b with|some x,D xs=>D (x::xs)|_,_=>aF) d
def IL:List V->Option (List P)
 |[]=>D []
 |d::ds=>match d,IL ds with
  |.p x,D r=>D (x::r)
  |.cT k n cs _ _,D r=>D (.dI k n cs::r)
  |_,_=>aF
def V.O8:V->Bool
 |.cT _ (_+1) _ _ _=>ah
 |.p (.dI _ (_+1) _)=>ah
 |.dX .. =>ah
 |_=>aQ
def V.O9:V->Bool
 |.aR .. =>ah
 |.bA .. =>ah
 |_=>aQ
def V.BG:V->Bool
 |.fn .. =>ah
 |.p (.v (.func ..))=>ah
 |_=>aQ
def V.O_:V->Bool
 |.map _=>ah
 |_=>aQ
def BH(u:EK)(a b:V):Bool:=match u,b with
 |.slice _,.p (.v (.slice aF _ _))=>a.O8
 |.map _ _,.p (.v (.map aF))=>a.O_
 |.func _ _ _,.p (.v .nilFunc)=>a.BG
 |.pointer _,.p (.v (.pointer aF))=>a.O9
 |_,_=>aQ
abbrev K(β:Type):=V->Nat->List (Nat×aG)->List (Nat×aG)->M β
section ops
variable {β : Type} (av : cj) (f : hN) (H : List aG) (ns : V -> M β) (k : K β)
def Pa:EK->Bool
 |.struct _=>ah
 |_=>aQ
end ops
inductive IM where
 |n
 |ret
 |exit (id:Nat)
inductive s5 where
 |mark (i:Nat)
 |fn (f:gh) (en:List V)
inductive agw where
 |mk (e:IM) (l:gq) (H:List aG) (ds:List s5)
structure agx where
 f:Nat
 xs:List V
 r:V
 H:List aG
structure y' where
 P:cj
 at4:List Nat
 at5:Nat
 fL:List agx
 at6:Nat:=0
noncomputable def EP(aU:List Nat)(i:Nat):Option Nat:=s4 (motive:=λ_=>Nat->Option Nat) (λ_=>aF) (λj _ bB n=>uw (motive:=λ_=>Option Nat) (bB (EM n)) (D n) (d' j i)) aU 0
noncomputable def V.nt(d:V)(s:Nat->Option Nat):Option V:=
 V.rec (motive_1:=λ_=>Option V) (motive_2:=λ_=>Option (List V))
  (λx=>D (.p x)) (λk n cs t m=>(s t).map λt=>.cT k n cs t m) (λi o=>(s i).map λi=>.aR i o) (λcs=>D (.bA cs)) (λi o n c=>(s i).map λi=>.dX i o n c) (λi=>(s i).map .map)
  (λf _ _ b c=>match b,c with|some b,D c=>D (.fn f b c)|_,_=>aF) (λ_ r=>r.map .agg) (λ_ r=>r.map .cg) (λi=>(s i).map .fW) (D .z) (λk n t m o=>(s t).map λt=>.gs k n t m o) (λt m o=>(s t).map λt=>.js t m o)
  (D []) (λ_ _ x xs=>match x,xs with|some x,D xs=>D (x::xs)|_,_=>aF) d
noncomputable def qk(s:Nat->Option Nat)(ds:List V):Option (List V):=s4 (motive:=λ_=>Option (List V)) (D []) (λd _ bB=>match d.nt s,bB with|some x,D xs=>D (x::xs)|_,_=>aF) ds
noncomputable def EQ(s:Nat->Option Nat)(kv:List (a4×V)):Option (List (a4×V)):=s4 (motive:=λ_=>Option (List (a4×V))) (D []) (λq _ bB=>match q.2.nt s,bB with|some x,D xs=>D ((q.1,x)::xs)|_,_=>aF) kv
noncomputable def BI(s:Nat->Option Nat)(fr:bY):Option bY:=s4 (motive:=λ_=>Option bY) (D []) (λq _ bB=>match q.2.nt s,bB with|some x,D xs=>D ((q.1,x)::xs)|_,_=>aF) fr
noncomputable def aG.nt(o:aG)(s:Nat->Option Nat):Option aG:=match o with
 |.bW=>D .bW
 |.cells T cs=>(qk s cs).map (.cells T)
 |.bu T cs=>D (.bu T cs)
 |.bl T k m=>D (.bl T k m)
 |.hf T k m cs=>D (.hf T k m cs)
 |.gH T cs=>D (.gH T cs)
 |.nn c bH kv=>(EQ s kv).map (.nn c bH)
 |.loop st dJ f N fr ps a b j=>match BI s fr,s j with|some fr,D j=>D (.loop st dJ f N fr ps a b j)|_,_=>aF
 |.cr b=>D (.cr b)
 |.pw j=>(s j).map .pw
 |.mP dj kv=>D (.mP dj kv)
 |.kg j A=>(s j).map λj=>.kg j A
 |.mq ds vs=>(qk s ds).map λds=>.mq ds vs
noncomputable def WQ(aU:List Nat):Bool:=s4 (motive:=λ_=>Nat->Bool) (λ_=>ah) (λi _ bB mask=>uw (motive:=λ_=>Bool) (bB (oF mask i)) aQ (q5 mask i)) aU 0
noncomputable def Pb{β:Type}(H:List aG)(s:Nat->Option Nat)(aU:List Nat)(k:List aG->M β):M β:=
 s4 (motive:=λ_=>(List aG->M β)->M β) (λk=>k []) (λi _ bB k=>O7 "object" H i λo=>ec "name" (o.nt s) λo'=>bB λos=>k (o'::os)) aU k
abbrev za:=Nat->Option Nat->gh->Code->gq->List aG->List s5->M agw
noncomputable def gq.J(l:gq)(b1:Nat):bY:=gq.rec (motive:=λ_=>bY) [] (λt v _ bB=>uw (motive:=λ_=>bY) bB ((t,v)::bB) (q5 b1 t)) l
section agy
end agy
section words
variable {α β lj : Type} {b : β}
theorem agz{s:String}{x:Option α}{f:α->M β}(h:ec s x f=.ok b):∃a,x=D a/\f a=.ok b:=by
 cases x with
 |none=>cases h
 |some a=>exact⟨a,rfl,h⟩
theorem Pc{av:cj}:∀{s:Sem α}{a:α},EN av s=D a->∀w,s.run av w=.ok a w
 |.pure _,_,h,w=>by simp only[EN,hX]at h;subst h;rfl
 |.program k,_,h,w=>Pc (s:=k av) h w
 |.mark _ k,_,h,w=>Pc (s:=k) h w
 |.load ..,_,h,_=>by cases h
 |.store ..,_,h,_=>by cases h
 |.new ..,_,h,_=>by cases h
 |.shape ..,_,h,_=>by cases h
 |.freeze ..,_,h,_=>by cases h
 |.frozen ..,_,h,_=>by cases h
 |.getObj ..,_,h,_=>by cases h
 |.setObj ..,_,h,_=>by cases h
 |.choose ..,_,h,_=>by cases h
 |.sys ..,_,h,_=>by cases h
 |.halt _,_,h,_=>by cases h
theorem WR{s:String}:∀{l:List α}{i:Nat}{k:α->M β},O7 s l i k=.ok b->∃a,l[i]? =D a/\k a=.ok b
 |[],_,_,h=>by cases h
 |x::_,0,_,h=>⟨x,rfl,h⟩
 |_::l,i+1,k,h=>by obtain⟨a,h1,h2⟩:=WR (l:=l) (i:=i) h;exact⟨a,by simpa using h1,h2⟩
end words
section
noncomputable def hN.iT:hN->bY
 |.mk b1 lc l=>(lc.iT.filter λq=> !q5 b1 q.1)++l.iT.filter λq=>q5 b1 q.1
section
variable {β : Type} {b : β}
end
noncomputable def ux:List V->Option (List a4)
 |[]=>D []
 |d::ds=>match d.val,ux ds with
  |some x,D xs=>D (x::xs)
  |_,_=>aF
noncomputable def WS(cs:List V):Option (List a4):=
 V.rec_1 (motive_1:=λ_=>Option a4) (motive_2:=λ_=>Option (List a4))
  (λx=>match x with| .v v=>D v|_=>aF) (λ_ _ _ _ _=>aF) (λ_ _=>aF) (λ_=>aF) (λ_ _ _ _=>aF) (λ_=>aF)
  (λf b c _ _=>match b,c with|[],[]=>D (.func f #[] #[])|_,_=>aF) (λ_ r=>r.map λl=>.agg l.toArray) (λ_ r=>r.map λl=>.tuple l.toArray) (λ_=>aF) aF (λ_ _ _ _ _=>aF) (λ_ _ _=>aF)
  (D []) (λ_ _ a b=>match a,b with|some x,D xs=>D (x::xs)|_,_=>aF) cs
theorem Pd:∀(cs:List V),WS cs=ux cs
 |[]=>rfl
 |d::ds=>by show(match d.val,WS ds with|some x,D xs=>D (x::xs)|_,_=>aF)=_;rw[Pd ds];rfl
theorem agA(cs:List V):(V.agg cs).val=(ux cs).map λl=>.agg l.toArray:=by rw[<-Pd];rfl
theorem agB(cs:List V):(V.cg cs).val=(ux cs).map λl=>.tuple l.toArray:=by rw[<-Pd];rfl
section
variable {g : b_} {w : bb} {H : List aG}
mutual
theorem cD.val:∀{d:V}{v u:a4},d.val=D v->cD g w H d u->u=v
 |.p (.v x),v,u,h,hu=>by have e:D x=D v:=h;cases e;exact hu.g4
 |.p (.dI ..),_,_,h,_=>by cases h
 |.cT ..,_,_,h,_=>by cases h
 |.aR ..,_,_,h,_=>by cases h
 |.bA _,_,_,h,_=>by cases h
 |.dX ..,_,_,h,_=>by cases h
 |.map _,_,_,h,_=>by cases h
 |.fW _,_,_,h,_=>by cases h
 |.z,_,_,h,_=>by cases h
 |.gs ..,_,_,h,_=>by cases h
 |.js ..,_,_,h,_=>by cases h
 |.fn f [] [],v,u,h,hu=>by have e:D (Value.func f #[] #[])=D v:=h;cases e;cases hu with|fn h1 h2=>cases h1;cases h2;rfl
 |.fn _ (_::_) _,_,_,h,_=>by cases h
 |.fn _ [] (_::_),_,_,h,_=>by cases h
 |.agg cs,v,u,h,hu=>by
  rw[agA]at h;cases aP:ux cs with
  |none=>rw[aP]at h;cases h
  |some l=>rw[aP]at h;cases h;cases hu with|agg aV=>rw[cU.val aP aV]
 |.cg cs,v,u,h,hu=>by
  rw[agB]at h;cases aP:ux cs with
  |none=>rw[aP]at h;cases h
  |some l=>rw[aP]at h;cases h;cases hu with|cg aV=>rw[cU.val aP aV]
theorem cU.val:∀{ds:List V}{vs us:List a4},ux ds=D vs->cU g w H ds us->us=vs
 |[],_,_,h,hu=>by cases hu;simp only[ux,hX]at h;exact h
 |d::ds,vs,us,h,hu=>by
  cases hu with
  |cons h1 h2=>
   simp only[ux]at h;cases az:d.val with
   |none=>rw[az]at h;cases h
   |some x=>
    cases aV:ux ds with
    |none=>rw[az,aV]at h;cases h
    |some xs=>rw[az,aV]at h;cases h;rw[cD.val az h1,cU.val aV h2]
end
end
def BJ{β:Type}(av:cj)(op:Op)(ty:b3)(l:bY)(H:List aG)(ns:V->M β)(k:K β)(b:β):Prop:=
 (∃d,bE av op ty (vv l) [] [] d/\ns d=.ok b)\/∃d m cV cE,bE av op ty (vv l) cV cE d/\fq (H++dm m .bW) cV/\(∀q∈cE,q.1<H.length+m)/\k d m cV cE=.ok b
section
variable {β : Type} {b : β} {av : cj} {ty : b3} {f : hN} {H : List aG} {ns : V -> M β} {k : K β}
variable {op:Op}
theorem BJ.p{d:V}(h:bE av op ty (vv f.iT) [] [] d)(au:ns d=.ok b):BJ av op ty f.iT H ns k b:=.inl ⟨d,h,au⟩
variable {i:Nat}
theorem BJ.r{d:V}{o:aG}(h:bE av op ty (vv f.iT) [(i,o)] [] d)(ao:H[i]? =D o)(au:k d 0 [(i,o)] []=.ok b):BJ av op ty f.iT H ns k b:=
 .inr ⟨_,0,_,_,h,da (by simpa using ao),λq aE=>(by cases aE),au⟩
theorem BJ.w{d:V}{o o':aG}(h:bE av op ty (vv f.iT) [(i,o)] [(i,o')] d)(ao:H[i]? =D o)(au:k d 0 [(i,o)] [(i,o')]=.ok b):BJ av op ty f.iT H ns k b:=
 .inr ⟨_,0,_,_,h,da (by simpa using ao),λq aE=>(by simp at aE;subst aE;exact(cz.1 ao).1),au⟩
end
end
section
variable {β : Type} {b : β} {av : cj} {ty : b3} {f : hN} {H : List aG} {ns : V -> M β} {k : K β}
theorem w6(T:b3)(x y:a4):∃d,l2 T x y=kG (d+1) T x y:=⟨9999,rfl⟩
variable {T:b3}{g:b_}{jw ql:a4}
theorem agC{u:EK}{a c:V}{w:bb}{H:List aG}(hu:∀w,(underlying T).run av w=.ok u w)(h:BH u a c=ah)(a9:cD g w H a jw)(aP:cD g w H c ql)(x y:bM):
  (∀op,op=.eql\/op=.neq->(eqGuard op T x y jw ql).run av w=.ok () w/\(eqGuard op T y x ql jw).run av w=.ok () w)/\(l2 T jw ql).run av w=.ok aQ w/\(l2 T ql jw).run av w=.ok aQ w:=by
 have ER:∀{k n:Nat}{cs:List P}{v:a4},hL g.E w (.dI k (n+1) cs) v->∃p m c,v=.slice (D p) m c:=λh=>by
  rcases h.rR with⟨_,bw,_⟩|⟨b,o,cap,us,e,_⟩
  ·cases bw
  ·exact⟨_,_,_,e⟩
 unfold BH at h;split at h
 ·have aV:∃p m c,jw=.slice (D p) m c:=by
   unfold V.O8 at h;split at h
   ·cases a9 with|cT h1 _=>exact ER h1
   ·cases a9 with|p h1=>exact ER h1
   ·cases a9 with|dX _=>exact⟨_,_,_,rfl⟩
   ·cases h
  obtain⟨p,m,c,rfl⟩:=aV;have:=aP.g4;subst this;refine⟨?_,?_,?_⟩
  ·rintro op (rfl|rfl)<;>exact⟨rfl,rfl⟩
  ·obtain⟨d,e⟩:=w6 T _ _;rw[e];simp only[kG,hu,ck,ce,it,w5]
  ·obtain⟨d,e⟩:=w6 T _ _;rw[e];simp only[kG,hu,ck,ce,it,w5]
 ·have aV:∃i,jw=.map (D i):=by
   unfold V.O_ at h;split at h
   ·cases a9 with|map _=>exact⟨_,rfl⟩
   ·cases h
  obtain⟨i,rfl⟩:=aV;have:=aP.g4;subst this;refine⟨?_,?_,?_⟩
  ·rintro op (rfl|rfl)<;>exact⟨rfl,rfl⟩
  ·obtain⟨d,e⟩:=w6 T _ _;rw[e];simp only[kG,hu,ck,ce,it,w5]
  ·obtain⟨d,e⟩:=w6 T _ _;rw[e];simp only[kG,hu,ck,ce,it,w5]
 ·have aV:∃q xs cX,jw=.func q xs cX:=by
   unfold V.BG at h;split at h
   ·cases a9 with|fn _ _=>exact⟨_,_,_,rfl⟩
   ·exact⟨_,_,_,a9.g4⟩
   ·cases h
  obtain⟨q,xs,cX,rfl⟩:=aV;have:=aP.g4;subst this;refine⟨?_,?_,?_⟩
  ·rintro op (rfl|rfl)<;>exact⟨rfl,rfl⟩
  ·obtain⟨d,e⟩:=w6 T _ _;rw[e];simp only[kG,hu,ck,ce,it,w5]
  ·obtain⟨d,e⟩:=w6 T _ _;rw[e];simp only[kG,hu,ck,ce,it,w5]
 ·have aV:∃p,jw=.pointer (D p):=by
   unfold V.O9 at h;split at h
   ·cases a9 with|aR _=>exact⟨_,rfl⟩
   ·cases a9 with|bA _ _ _ _ _=>exact⟨_,rfl⟩
   ·cases h
  obtain⟨p,rfl⟩:=aV;have:=aP.g4;subst this;refine⟨?_,?_,?_⟩
  ·rintro op (rfl|rfl)<;>exact⟨rfl,rfl⟩
  ·obtain⟨d,e⟩:=w6 T _ _;rw[e];simp only[kG,hu,ck,ce,it,w5]
  ·obtain⟨d,e⟩:=w6 T _ _;rw[e];simp only[kG,hu,ck,ce,it,w5]
 ·cases h
theorem agD{u:EK}{a c:V}{w:bb}{H:List aG}(h:BH u a c=ah)(a9:cD g w H a jw):(∀k n,jw≠ .int k n)/\(∀k n,jw≠ .float k n)/\(∀k n m,jw≠ .complex k n m)/\(∀s,jw≠ .string s):=by
 have ER:∀{k n:Nat}{cs:List P}{v:a4},hL g.E w (.dI k n cs) v->∃p m c,v=.slice p m c:=λh=>by
  rcases h.rR with⟨⟨oH,e⟩,_,_⟩|⟨b,o,cap,us,e,_⟩
  ·exact⟨_,_,_,e⟩
  ·exact⟨_,_,_,e⟩
 unfold BH at h;split at h
 ·have aV:∃p m c,jw=.slice p m c:=by
   unfold V.O8 at h;split at h
   ·cases a9 with|cT h1 _=>exact ER h1
   ·cases a9 with|p h1=>exact ER h1
   ·cases a9 with|dX _=>exact⟨_,_,_,rfl⟩
   ·cases h
  obtain⟨p,m,c,rfl⟩:=aV;exact⟨λ_ _=>by simp,λ_ _=>by simp,λ_ _ _=>by simp,λ_=>by simp⟩
 ·unfold V.O_ at h;split at h
  ·cases a9 with|map _=>exact⟨λ_ _=>by simp,λ_ _=>by simp,λ_ _ _=>by simp,λ_=>by simp⟩
  ·cases h
 ·unfold V.BG at h;split at h
  ·cases a9 with|fn _ _=>exact⟨λ_ _=>by simp,λ_ _=>by simp,λ_ _ _=>by simp,λ_=>by simp⟩
  ·have:=a9.g4;subst this;exact⟨λ_ _=>by simp,λ_ _=>by simp,λ_ _ _=>by simp,λ_=>by simp⟩
  ·cases h
 ·unfold V.O9 at h;split at h
  ·cases a9 with|aR _=>exact⟨λ_ _=>by simp,λ_ _=>by simp,λ_ _ _=>by simp,λ_=>by simp⟩
  ·cases a9 with|bA _ _ _ _ _=>exact⟨λ_ _=>by simp,λ_ _=>by simp,λ_ _ _=>by simp,λ_=>by simp⟩
  ·cases h
 ·cases h
theorem agE{w:bb}{r:Bool}(h1:∀k n,jw≠ .int k n)(h2:∀k n,jw≠ .float k n)(aJ:∀k n m,jw≠ .complex k n m)(bp:∀s,jw≠ .string s)(h:(l2 T jw ql).run av w=.ok r w):
  (binOp .eql T jw ql).run av w=.ok (.bool r) w/\(binOp .neq T jw ql).run av w=.ok (.bool (!r)) w:=by
 cases jw<;>first|exact absurd rfl (h1 _ _)|exact absurd rfl (h2 _ _)|exact absurd rfl (aJ _ _ _)|exact absurd rfl (bp _)|exact⟨by simp[binOp,ck,h,ce],by simp[binOp,ck,h,ce]⟩
end
section
variable {av : cj} {ty : b3} {ρ : bM -> Option V}
theorem agF{dI:Bool}{lo ao fR:Option bM}{bo:bM->a4}{n cap l h q:Nat}(aK:∀y,lo=D y->∃K,bo y=.int K l)(lh:lo=aF->l=0)(fG:∀y,ao=D y->∃K,bo y=.int K h)(qi:ao=aF->h=n/\fR=aF)(hm:∀y,fR=D y->∃K,bo y=.int K q)(qj:fR=aF->q=cap)
  (h1:l<=h) (h2:h<=q) (aJ:q<=cap) (w:bb):(qg dI n cap (lo.map bo) (ao.map bo) (fR.map bo)).run av w=.ok (l,h,q) w:=by
 unfold qg;cases fR with
 |none=>
  have:=qj rfl;subst this;cases ao with
  |none=>
   obtain⟨rfl,_⟩:=qi rfl;cases lo with
   |none=>have:=lh rfl;subst this;simp[ck,ce]
   |some x=>obtain⟨K,bV⟩:=aK x rfl;simp[bV,n7,asIntOf,ck,ce,h1]
  |some y=>
   obtain⟨K,bV⟩:=fG y rfl;cases lo with
   |none=>have:=lh rfl;subst this;simp[bV,n7,asIntOf,ck,ce,h2]
   |some x=>obtain⟨mX,lK⟩:=aK x rfl;simp[bV,lK,n7,asIntOf,ck,ce,h1,h2]
 |some z=>
  obtain⟨dL,bq⟩:=hm z rfl;cases ao with
  |none=>exact absurd (qi rfl).2 (by simp)
  |some y=>
   obtain⟨K,bV⟩:=fG y rfl;cases lo with
   |none=>have:=lh rfl;subst this;simp[bq,bV,n7,asIntOf,ck,ce,h2,aJ]
   |some x=>obtain⟨mX,lK⟩:=aK x rfl;simp[bq,bV,lK,n7,asIntOf,ck,ce,h1,h2,aJ]
structure N2(ρ:bM->Option V)(lo ao fR:Option bM)(n cap:Nat)(l h q:Int):Prop where
 aK:∀y,lo=D y->∃K,ρ y=D (.p (.v (.int K l)))
 lh:lo=aF->l=0
 fG:∀y,ao=D y->∃K,ρ y=D (.p (.v (.int K h)))
 qi:ao=aF->h=n/\fR=aF
 hm:∀y,fR=D y->∃K,ρ y=D (.p (.v (.int K q)))
 qj:fR=aF->q=cap
 bw:0<=l
 h1:l<=h
 h2:h<=q
 aJ:q<=cap
theorem N2.run{dI:Bool}{lo ao fR:Option bM}{n cap:Nat}{l h q:Int}(b:N2 ρ lo ao fR n cap l h q){g:b_}{w:bb}{H:List aG}{bo:bM->a4}{T:b3}{x:bM}(a8:∀y∈(Op.slice T x lo ao fR).operands,∀u,ρ y=D u->cD g w H u (bo y))(w':bb):
  (qg dI n cap (lo.map bo) (ao.map bo) (fR.map bo)).run av w'=.ok (l.toNat,h.toNat,q.toNat) w':=by
 have t0:=b.bw;have t1:=b.h1;have t2:=b.h2;have t3:=b.aJ;refine agF (λy bh=>?_) (λe=>by have:=b.lh e;omega) (λy bh=>?_) (λe=>⟨by have:=(b.qi e).1;omega,(b.qi e).2⟩) (λy bh=>?_) (λe=>by have:=b.qj e;omega) (by omega) (by omega) (by omega) w'
 ·obtain⟨K,bV⟩:=b.aK y bh;exact⟨K,by rw[(a8 y (by simp[c_,bh]) _ bV).g4];congr 1;omega⟩
 ·obtain⟨K,bV⟩:=b.fG y bh;exact⟨K,by rw[(a8 y (by simp[c_,bh]) _ bV).g4];congr 1;omega⟩
 ·obtain⟨K,bV⟩:=b.hm y bh;exact⟨K,by rw[(a8 y (by simp[c_,bh]) _ bV).g4];congr 1;omega⟩
theorem WT{T E i off n k:Nat}{x y:bM}{K:IntKind}{j:Int}(cc:∀w,(underlying T).run av w=.ok (.array n E) w)(aS:∀w,(sizeOf E).run av w=.ok k w)(ar:ρ x=D (.aR i off))(bh:ρ y=D (.p (.v (.int K j))))(bw:0<=j)(h1:j<n):bE av (.indexAddr T x y) ty ρ [] [] (.aR i (off+j.toNat*k)):=.pure λg w H e q aE _ _ h=>by
 have a5:=h x (by simp[c_]) _ ar;have bk:=(h y (by simp[c_]) _ bh).g4;generalize he:e x=v at a5;cases a5 with
 |aR aK=>
  refine⟨.pointer (D ⟨g.β i,off+j.toNat*k,aF⟩),?_,.aR aK⟩;unfold execOp;rw[aE];have c0:(0<=j/\j<(n:Int)):=⟨bw,h1⟩
  simp[he,bk,WM,sV,asIntOf,cc,aS,ck,ce,c0,qb]
end
section
variable {β : Type} {b : β} {av : cj} {ty : b3} {f : hN} {H : List aG} {ns : V -> M β} {k : K β}
end
section
variable {β : Type} {b : β} {av : cj} {ty : b3} {f : hN} {H : List aG} {ns : V -> M β} {k : K β}
theorem WU{pl:List (Nat×Nat)}{WV:Nat->Option (Nat×Nat)}(hp:∀i x,pl[i]? =D x->WV i=D x):∀(ps:List (Nat×a4))(cs c:Array a4),mm (λi=>pl[i]?) cs ps=D c->mm WV cs ps=D c
 |[],_,_,h=>h
 |(i,v)::r,cs,c,h=>by
  simp only[mm]at h⊢;cases ao:pl[i]? with
  |none=>rw[ao]at h;cases h
  |some x=>
   rw[ao]at h;rw[hp i x ao];obtain⟨off,size⟩:=x;simp only at h⊢;split at h
   ·cases h
   ·rename_i aP;rw[if_neg aP];exact WU hp r _ c h
end
section
variable {β : Type} {b : β} {av : cj} {ty : b3} {f : hN} {H : List aG} {ns : V -> M β} {k : K β}
end
section
variable {av : cj} {ty : b3} {ρ : bM -> Option V}
theorem Pe{g:b_}{w:bb}{H:List aG}:∀{ds:List V}{ps:List P}{us:List a4},IL ds=D ps->cU g w H ds us->cU g w H (ps.map .p) us
 |[],_,_,h,bg=>by have:D []=D _:=h;cases this;exact bg
 |d::ds,ps,us,h,bg=>by
  cases bg with
  |cons h1 h2=>
   simp only[IL]at h;split at h
   ·rename_i aM;cases h;exact .cons h1 (Pe aM h2)
   ·rename_i aM;cases h;cases h1 with|cT hp _=>exact .cons (.p hp) (Pe aM h2)
   ·cases h
end
section
variable {β : Type} {b : β} {av : cj} {ty : b3} {f : hN} {H : List aG} {ns : V -> M β} {k : K β}
end
section
variable {av : cj} {ty : b3} {ρ : bM -> Option V}
end
section
variable {β : Type} {b : β} {av : cj} {ty : b3} {f : hN} {H : List aG} {ns : V -> M β} {k : K β}
end
open Go.MapKept
theorem Pf:∀{bH:List Nat}{ks us:List a4}{j b:Nat}{k u:a4},bH[j]? =D b->ks[j]? =D k->us[j]? =D u->(fp bH ks us)[j]? =D {key:=k,val:=u,born:=b}
 |[],_,_,_,_,_,_,h,_,_=>by simp at h
 |_::_,[],_,_,_,_,_,_,h,_=>by simp at h
 |_::_,_::_,[],_,_,_,_,_,_,h=>by simp at h
 |_::bH,_::ks,_::us,0,_,_,_,h1,h2,aJ=>by simp at h1 h2 aJ;subst h1;subst h2;subst aJ;rfl
 |_::bH,_::ks,_::us,j+1,_,_,_,h1,h2,aJ=>by simp only[fp,O4]at h1 h2 aJ⊢;exact Pf h1 h2 aJ
theorem WW(val:a4):∀(bH:List Nat)(ks us:List a4)(j:Nat)(k:a4),ks[j]? =D k->((fp bH ks us).modify j λe=>{e with key:=k,val:=val})=fp bH ks (us.set j val)
 |[],_,_,_,_,_=>by simp[fp]
 |_::_,[],_,_,_,h=>by simp at h
 |_::_,_::_,[],_,_,_=>by simp[fp]
 |b::bH,q::ks,u::us,0,k,h=>by simp at h;subst h;simp[fp]
 |b::bH,q::ks,u::us,j+1,k,h=>by simp only[fp,O5,O6,O4]at h⊢;rw[WW val bH ks us j k h]
theorem Pg:∀(bH:List Nat)(ks us:List a4)(j:Nat)(k:a4),ks[j]? =D k->((fp bH ks us).modify j λe=>{e with key:=k})=fp bH ks us
 |[],_,_,_,_,_=>by simp[fp]
 |_::_,[],_,_,_,h=>by simp at h
 |_::_,_::_,[],_,_,_=>by simp[fp]
 |b::bH,q::ks,u::us,0,k,h=>by simp at h;subst h;simp[fp]
 |b::bH,q::ks,u::us,j+1,k,h=>by simp only[fp,O5,O4]at h⊢;rw[Pg bH ks us j k h]
theorem WX(val:a4):∀(bH:List Nat)(ks us:List a4)(j:Nat),((fp bH ks us).modify j λe=>{e with val:=val})=fp bH ks (us.set j val)
 |[],_,_,_=>by simp[fp]
 |_::_,[],_,_=>by simp[fp]
 |_::_,_::_,[],_=>by simp[fp]
 |b::bH,q::ks,u::us,0=>by simp[fp]
 |b::bH,q::ks,u::us,j+1=>by simp only[fp,O5,O6];rw[WX val bH ks us j]
theorem Ph(c:Nat)(k u:a4):∀(bH:List Nat)(ks us:List a4),bH.length=ks.length->us.length=ks.length->fp bH ks us++[{key:=k,val:=u,born:=c}]=fp (bH++[c]) (ks++[k]) (us++[u])
 |[],[],[],_,_=>rfl
 |b::bH,q::ks,x::us,h1,h2=>by simp only[fp,List.cons_append];rw[Ph c k u bH ks us (by simpa using h1) (by simpa using h2)]
 |[],_::_,_,h,_=>by cases h
 |_::_,[],_,h,_=>by cases h
 |[],[],_::_,_,h=>by cases h
 |_::_,_::_,[],_,h=>by cases h
theorem WY:∀(bH:List Nat)(ks us:List a4),bH.length=ks.length->us.length=ks.length->(fp bH ks us).length=ks.length
 |[],[],[],_,_=>rfl
 |b::bH,q::ks,x::us,h1,h2=>by simp only[fp,List.length_cons];rw[WY bH ks us (by simpa using h1) (by simpa using h2)]
 |[],_::_,_,h,_=>by cases h
 |_::_,[],_,h,_=>by cases h
 |[],[],_::_,_,h=>by cases h
 |_::_,_::_,[],_,h=>by cases h
theorem b'.Pj{g:b_}{w:bb}{H:List aG}{i c c':Nat}{bH bs':List Nat}{kv kv':List (a4×V)}{us:List a4}(h:gm g w H)(ao:H[i]? =D (.nn c bH kv))(aK:bs'.length=kv'.length)(az:cU g w H (kv'.map (·.2)) us):
  b' w g H g {w with heap:=w.heap.setIfInBounds (g.β i) (.map (fp bs' (kv'.map (·.1)) us).toArray c')} (H.set i (.nn c' bs' kv')):=by
 have dN:=(cz.1 ao).1;have ej:∀b,own g H i b↔b=g.β i:=λb=>by unfold own;rw[ao];exact Iff.rfl
 obtain⟨IN,h1,h2,aJ⟩:=h.ec i _ ao;have aV:=heap_set (o':=.map (fp bs' (kv'.map (·.1)) us).toArray c') h1
 refine b'.one h dN rfl rfl rfl (by simp) (λb aK a_=>⟨aV.2 b λe=>a_ ((ej b).2 e),rfl⟩) (λb o a1 cf=>?_) (λb _=>b5 _) (λj _=>⟨rfl,rfl⟩) (λ_=>⟨trivial,rfl⟩)
  (λm hm=>by rw[ao]at hm;cases hm) (λb a1=>.inl ((ej b).2 a1)) (λdO=>⟨us,aV.1,aK,az.a' dO⟩)
 have:=(ej b).1 a1;subst this;simp[p8,aV.1,h1]
theorem b'.Pk{g:b_}{w:bb}{H:List aG}{i:Nat}{o:aG}{ec:Obj}(h:gm g w H)(ao:H[i]? =D .bW)(a1:∀g b,tZ g i b (D o)->b=g.β i)(aP:∀g':b_,g'.β i=w.heap.size->hx g w H g' (w.alloc ec) (H.set i o)->jU g' (w.alloc ec) (H.set i o) i o):
  b' w g H ⟨dD g.β i w.heap.size,dD g.E w.heap.size 0,g.h⟩ (w.alloc ec) (H.set i o):=by
 have dN:=(cz.1 ao).1;have aB:=yJ w ec;have df:∀b,¬own g H i b:=λb a1=>by unfold own at a1;rw[ao]at a1;exact a1
 refine b'.one h dN aB.os aB.tape aB.output aB.size (λb aK _=>⟨aB.block b aK,ki (by omega)⟩) (λb _ a1=>absurd a1 (df b)) (λb a1=>absurd a1 (df b)) (λj ae=>⟨ki ae,rfl⟩) (λaK=>by rw[ao]at aK;exact aK.elim)
  (λm hm=>by rw[ao]at hm;cases hm) (λb rS=>?_) (λdO=>aP _ (fB _ _ _) dO)
 have e:b=dD g.β i w.heap.size i:=a1 _ b rS;rw[fB]at e;exact .inr (by omega)
section
variable {β : Type} {b : β} {av : cj} {ty : b3} {f : hN} {H : List aG} {ns : V -> M β} {k : K β}
theorem cD.BK{g:b_}{w:bb}{H:List aG}{i:Nat}{v:a4}(h:cD g w H (.map i) v):v=.map (D (g.β i)):=by cases h;rfl
theorem Pl{α:Type}:∀{l:List α}{j:Nat}{x:α},l[j]? =D x->l.set j x=l
 |[],_,_,h=>by simp at h
 |_::_,0,_,h=>by simp at h;subst h;rfl
 |_::l,j+1,_,h=>by simp only[O6];rw[Pl (by simpa using h)]
end
section
variable {β : Type} {b : β} {av : cj} {ty : b3} {f : hN} {H : List aG} {ns : V -> M β} {k : K β}
theorem WZ{g:b_}{w:bb}{H:List aG}{ok c:Bool}{d:V}{u:a4}(h:cD g w H d u):cD g w H (cond ok (.cg [d,bs c]) d) (if ok then .tuple #[u,.bool c]else u):=by
 cases ok with
 |false=>exact h
 |true=>exact .cg (.cons h (.cons (.v _) .nil))
end
section
variable {β : Type} {b : β} {av : cj} {ty : b3} {f : hN} {H : List aG} {ns : V -> M β} {k : K β}
theorem IP{α lj:Type}(f:α->lj):∀(l:List α)(j:Nat),(l.eraseIdx j).map f=(l.map f).eraseIdx j
 |[],_=>rfl
 |_::_,0=>rfl
 |_::l,j+1=>by simp[IP f l j]
theorem agG{kt:b3}{u:EK}{key:a4}{es:List MapEntry}{a:Option (Nat×a4)}{w:bb}(az:av.underlying kt=D u)(hu:Pa u=ah)(h:(BF kt key es).run av w=.ok a w):(O3 kt key es).run av w=.ok a w:=by
 cases u with
 |struct vo=>
  cases es with
  |nil=>simp[BF]at h;simp[O3,run_underlying az,ck,ce,BE,h]
  |cons e es=>
   have:BE (.struct vo) key (e::es) 0=aF:=by unfold BE;cases key<;>simp[Instr.sameNow]
   simp[O3,run_underlying az,ck,ce,this,h]
 |_=>cases hu
end
variable {T:Nat}{cs:List P}{g:b_}{i k m:Nat}
theorem Pm{w:bb}{H:List aG}(ao:H[i]? =D (.hf T k m cs)):∀b,own g H i b↔(g.h i).ownBlock=D b:=λb=>by unfold own;rw[ao];exact Iff.rfl
variable {n:Nat}{fh:a4}{w':bb}
theorem b'.agH {w:bb}{H:List aG}{us:List a4}(h:gm g w H)(ao:H[i]? =D .bW)(aB:Below w.heap.size w w')(a1:w'.ownsRow 0 T k fh n us)(bg:fh.ownBlock=D w.heap.size)(aP:e_ g.E w cs us):
  b' w g H ⟨g.β,dD g.E w.heap.size 0,dD g.h i fh⟩ w' (H.set i (.hf T k 1 cs)):=by
 have dN:=(cz.1 ao).1;have df:∀b,¬own g H i b:=λb a1=>by unfold own at a1;rw[ao]at a1;exact a1
 refine b'.one h dN aB.os aB.tape aB.output aB.size (λb aK _=>⟨aB.block b aK,ki (by omega)⟩) (λb _ a1=>absurd a1 (df b)) (λb a1=>absurd a1 (df b)) (λj ae=>⟨rfl,ki ae⟩) (λaK=>by rw[ao]at aK;exact aK.elim)
  (λm hm=>by rw[ao]at hm;cases hm) (λb n5=>?_) (λdO=>?_)
 ·have e:(dD g.h i fh i).ownBlock=D b:=n5;rw[fB,bg]at e;cases e;exact .inr (b5 _)
 ·refine⟨n,us,?_,aP.a' dO.size dO.E dO.cell,λb ic=>?_⟩
  ·show w'.ownsRow 0 T k (dD g.h i fh i) n us;rw[fB];exact a1
  ·have e:(dD g.h i fh i).ownBlock=D b:=ic;rw[fB,bg]at e;cases e;exact fB _ _ _
variable {cs':List P}{sY:List a4}
theorem b'.agI {w:bb}{H:List aG} {m' kC:Nat}(h:gm g w H)(ao:H[i]? =D (.hf T k m cs))(hm:m<m')(rS:w'.ownsRow 0 T k fh kC sY)(e9:e_ g.E w cs' sY)
  (t':w'.os=w.os) (Ef:w'.tape=w.tape) (Eg:w'.output=w.output) (ff:w.heap.size<=w'.heap.size)
  (wM:(fh.ownBlock=(g.h i).ownBlock/\∀b,b<w.heap.size->(g.h i).ownBlock≠D b->w'.heap[b]? =w.heap[b]?)\/(fh.ownBlock=D w.heap.size/\∀b,b<w.heap.size->w'.heap[b]? =w.heap[b]?)):
  ∃g':b_,b' w g H g' w' (H.set i (.hf T k m' cs'))/\g'.h i=fh:=by
 have dN:=(cz.1 ao).1;have ej:=Pm (w:=w) ao (g:=g);obtain⟨fX,us,oI,agJ,q0⟩:=h.ec i _ ao;have ic:∀b,fh.ownBlock=D b->(match fh.ownBlock with|some b=>dD g.E b 0|none=>g.E) b=0:=λb aB=>by rw[aB];exact fB _ _ _
 have oJ:∀b,fh.ownBlock≠D b->(match fh.ownBlock with|some b=>dD g.E b 0|none=>g.E) b=g.E b:=λb aB=>by
  cases e:fh.ownBlock with
  |none=>rfl
  |some q=>exact ki λh=>aB (by rw[e,h])
 refine⟨⟨g.β,(match fh.ownBlock with|some b=>dD g.E b 0|none=>g.E),dD g.h i fh⟩,b'.one h dN t' Ef Eg ff (λb aK a_=>?_) (λb o aB cf=>?_) (λb aB=>?_) (λj ae=>⟨rfl,ki ae⟩) (λaK=>by rw[ao]at aK;exact aK.elim) (λmR w7=>?_) (λb aB=>?_) (λdO=>?_),fB _ _ _⟩
 ·have ld:(g.h i).ownBlock≠D b:=λe=>a_ ((ej b).2 e);rcases wM with⟨e,au⟩|⟨e,au⟩
  ·exact⟨au b aK ld,oJ b (by rw[e];exact ld)⟩
  ·exact⟨au b aK,oJ b (by rw[e];intro bk;cases bk;omega)⟩
 ·rw[q0 b ((ej b).1 aB)]at cf;omega
 ·rw[q0 b ((ej b).1 aB)];exact gx _
 ·rw[ao]at w7;cases w7;exact⟨_,rfl,Nat.le_of_lt hm,λe=>by omega⟩
 ·have aB:(dD g.h i fh i).ownBlock=D b:=aB;rw[fB]at aB;rcases wM with⟨e,au⟩|⟨e,au⟩
  ·exact .inl ((ej b).2 (by rw[<-e];exact aB))
  ·rw[e]at aB;cases aB;exact .inr (b5 _)
 ·refine⟨kC,sY,?_,e9.a' dO.size dO.E dO.cell,λb aB=>?_⟩
  ·show w'.ownsRow 0 T k (dD g.h i fh i) kC _;rw[fB];exact rS
  ·have aB:(dD g.h i fh i).ownBlock=D b:=aB;rw[fB]at aB;exact ic b aB
theorem b'.agK {w:bb}{H:List aG} {b:Nat}(h:gm g w H)(ao:H[i]? =D (.hf T k m cs))(aB:(g.h i).ownBlock=D b)(aP:mo (· =b) w w')(a1:w'.ownsRow 0 T k (g.h i) n sY)(e9:e_ g.E w cs' sY):
  b' w g H g w' (H.set i (.hf T k m cs')):=by
 have dN:=(cz.1 ao).1;have ej:=Pm (w:=w) ao (g:=g);obtain⟨fX,us,oI,agJ,q0⟩:=h.ec i _ ao
 refine b'.one h dN aP.os aP.tape aP.output aP.size (λgi aK a_=>⟨aP.block gi aK λe=>a_ ((ej gi).2 (by rw[e];exact aB)),rfl⟩) (λgi o lG cf=>?_) (λb _=>b5 _) (λj _=>⟨rfl,rfl⟩) (λaK=>by rw[ao]at aK;exact aK.elim)
  (λmR w7=>by rw[ao]at w7;cases w7;exact⟨m,rfl,b5 _,λ_=>rfl⟩) (λgi lG=>.inl ((ej gi).2 lG)) (λdO=>⟨n,sY,a1,e9.a' dO.size dO.E dO.cell,q0⟩)
 rw[q0 gi ((ej gi).1 lG)]at cf;omega
variable {off:Nat}{v:a4}
theorem IQ{w:bb}{H:List aG}(h:gm g w H)(ao:H[i]? =D (.hf T 1 m cs))(aV:Ba g H i m k n off v):
  ∃b fX jt eL mQ cap us,g.h i=.slice (D ⟨b,0,aF⟩) fX jt/\v=.slice (D ⟨b,mQ,aF⟩) n cap/\off+n*k<=fX*k/\n<=cap/\(n=0\/mQ=off)/\(off=0->cap=jt/\mQ=0)/\
   w.heap[b]? =D (.cells eL T (0,0))/\fX<=jt/\jt<=maxLen/\eL.size=jt*1/\eL.toList.take (fX*1)=us/\us.length=fX*1/\e_ g.E w cs us/\g.E b=0:=by
 obtain⟨m',h1,h2,aJ⟩:=aV;have aP:eL H i=D m:=by unfold eL;rw[ao];rfl
 rw[aP]at h1;cases h1;obtain⟨b,fX,jt,mQ,cap,a5,bk,c0,gA,gT,j2⟩:=aJ rfl;obtain⟨q,us,a1,e9,aS⟩:=h.ec i _ ao;rcases a1.2 with⟨f1,_⟩|⟨gi,N7,h5,f1,_,f3,f4,f5,f6,f7⟩
 ·rw[a5]at f1;cases f1
 ·rw[a5]at f1;cases f1;exact⟨b,fX,jt,h5,mQ,cap,us,a5,bk,c0,gA,gT,j2,f3,f4,f5,f6,f7,a1.1,e9,aS b (by rw[a5];rfl)⟩
theorem agL{w:bb}{H:List aG}(h:gm g w H)(ao:H[i]? =D (.hf T 1 m cs))(aV:Ec g H i m off v):
  ∃b fX jt eL us,g.h i=.slice (D ⟨b,0,aF⟩) fX jt/\v=.pointer (D ⟨b,off,aF⟩)/\
   w.heap[b]? =D (.cells eL T (0,0))/\fX<=jt/\jt<=maxLen/\eL.size=jt*1/\eL.toList.take (fX*1)=us/\us.length=fX*1/\e_ g.E w cs us:=by
 obtain⟨m',h1,h2,aJ⟩:=aV;have aP:eL H i=D m:=by unfold eL;rw[ao];rfl
 rw[aP]at h1;cases h1;obtain⟨b,fX,jt,a5,bk⟩:=aJ rfl;obtain⟨q,us,a1,e9,aS⟩:=h.ec i _ ao;rcases a1.2 with⟨f1,_⟩|⟨gi,N7,h5,f1,_,f3,f4,f5,f6,f7⟩
 ·rw[a5]at f1;cases f1
 ·rw[a5]at f1;cases f1;exact⟨b,fX,jt,h5,us,a5,bk,f3,f4,f5,f6,f7,a1.1,e9⟩
section
variable {av : cj} {ty : b3} {ρ : bM -> Option V}
variable {k m n off t:Nat}{v:a4}
theorem W0{g:b_}{H:List aG}(aP:eL H t=D m)(h:∃b fX jt mQ cap,g.h t=.slice (D ⟨b,0,aF⟩) fX jt/\v=.slice (D ⟨b,mQ,aF⟩) n cap/\off+n*k<=fX*k/\n<=cap/\(n=0\/mQ=off)/\(off=0->cap=jt/\mQ=0)):Ba g H t m k n off v:=⟨m,aP,b5 _,λ_=>h⟩
variable {T:Nat}{cs:List P}{i:Nat}
theorem W1{H:List aG}(ao:i<H.length):eL (H.set i (.hf T k m cs)) i=D m:=by unfold eL;rw[jH ao];rfl
variable {x:bM}
theorem agM {e bytes hF:Nat}{z:a4} {s:bM}{cs vl:List P}{d:V}(ai:av.underlying t=D (.slice e))(ao:(av.info? e).map (λi=>(i.zero,i.size,i.bytes))=D (D z,1,bytes))(bj:z.cells.size=1)
  (aV:ρ s=D (.gs 1 n i m 0)) (ar:ρ x=D d) (az:d.pB=D (1,hF,vl)) (a1:∀c∈vl,c.one=ah) (a_:0<hF) (yR:n+hF<=2000000) (qc:(n+hF)*bytes<=140737488355328):
  bE av (.call {callee:=.builtin .append,args:=#[s,x],argTypes:=#[t,t]}) ty ρ [(i,.hf e 1 m cs)] [(i,.hf e 1 (m+1) (cs.take n++vl))] (.gs 1 (n+hF) i (m+1) 0):=λg w H bo o hE pG aM dY h=>by
 have oO:=dY.one;have dN:=(cz.1 oO).1;have es:=h s (by simp[c_,Call.operands]) _ aV;have ex:=(h x (by simp[c_,Call.operands]) _ ar).pB az;generalize oN:bo s=vs at es;cases es with
 |gs h1 qm=>
  obtain⟨fg,fX,jt,h5,mQ,cap,IN,aj,a6,dg,fS,ja,iU,ji,kV,kH,my,mz,n',pJ,uy⟩:=IQ aM oO qm;obtain⟨rfl,rfl⟩:=iU rfl;simp only[q4,hD]at dg my mz n';rcases ex.rR with⟨_,bw,_⟩|⟨b,aY,OJ,us,he,aP,wK,ES,hlen,rU,hu⟩
  ·omega
  ·have ej:w.ownsRow 0 e 1 vs n (IN.take n):=⟨by simp[n',dg],.inr ⟨fg,cap,h5,a6,gx _,ji,fS,kH,by omega,by rw[q4,<-mz,List.take_take,Nat.min_eq_left dg]⟩⟩
   have agN:∀j v,us[j]? =D v->w.cell? ((⟨b,aY,aF⟩:Addr).add j)=D v:=λj v ae=>by rw[qb];exact hu j v ae
   obtain⟨fh,w',fH,iC,iS,yX,Ex,Ey,Bn⟩:=VF (av:=av) (w:=w) (ty:=o.type) (news:=us) (a:=⟨b,aY,aF⟩) (m:=hF) (c:=OJ) ai ao bj (by omega) ej (by rw[<-rU.1,hlen]) agN (rU.one a1) (by omega) qc;have pD:vs.ownBlock=(g.h i).ownBlock:=by rw[aj,a6];rfl
   rw[pD]at Bn;obtain⟨g',b2,agO⟩:=b'.agI (m':=m+1) (cs':=cs.take n++vl) aM oO (by omega) iC ((pJ.take n).append rU) iS yX Ex Ey Bn;have q6:∃q zb,fh=.slice (D ⟨q,0,aF⟩) (n+hF) zb/\n+hF<=zb:=by
    rcases iC.2 with⟨_,bk⟩|⟨q,zb,N8,bk,_,_,c0,_⟩
    ·omega
    ·exact⟨q,zb,bk,c0⟩
   obtain⟨q,zb,q6,Ee⟩:=q6;refine .inl ⟨fh,w',?_,g',b2,.gs (by rw[q6];rfl) (W0 (W1 dN) ⟨q,n+hF,zb,0,zb,by rw[agO];exact q6,q6,by omega,Ee,.inr rfl,λ_=>⟨rfl,rfl⟩⟩)⟩;unfold execOp;rw[hE];simp[resolve,invoke,builtin,oN,he,ck,ce,fH]
variable {dF:Nat}{y:bM}
theorem agP {E:Nat}{K:IntKind}{j:Int}(cc:∀w,(underlying T).run av w=.ok (.slice E) w)(aS:∀w,(sizeOf E).run av w=.ok 1 w)(ar:ρ x=D (.gs 1 n i m off))(bh:ρ y=D (.p (.v (.int K j))))(bw:0<=j)(h1:j<n):
  bE av (.indexAddr T x y) ty ρ [(i,.hf dF 1 m cs)] [] (.js i m (off+j.toNat)):=λg w H bo q aE _ aM dY h=>by
 have oO:=dY.one;have a5:=h x (by simp[c_]) _ ar;have bk:=(h y (by simp[c_]) _ bh).g4;generalize he:bo x=v at a5;cases a5 with
 |gs h2 qm=>
  obtain⟨fg,fX,jt,h5,mQ,cap,IN,aj,a6,dg,fS,ja,iU,ji,kV,kH,my,mz,n',pJ,uy⟩:=IQ aM oO qm;have agQ:mQ=off:=by rcases ja with h|h;omega;exact h
  subst agQ;refine .inl ⟨.pointer (D ⟨fg,mQ+j.toNat,aF⟩),w,?_,g,aM.jV,.js rfl ⟨m,by unfold eL;show tX H[i]? =_;rw[oO];rfl,b5 _,λ_=>⟨fg,fX,jt,aj,rfl⟩⟩⟩;unfold execOp;rw[aE];have c0:(0<=j/\j<(n:Int)):=⟨bw,h1⟩
  simp[he,a6,bk,WM,asIntOf,cc,aS,ck,ce,c0,qb]
theorem agR{us:List a4}(h:off<n)(a_:n<=us.length):(oG us off [v]).take n=(us.take n).set off v:=by simp only[oG];rw[List.take_set]
theorem agS{c:P}{d:V}(a_:∀w,(sizeOf T).run av w=.ok 1 w)(ar:ρ x=D (.js i m off))(bh:ρ y=D d)(az:IL [d]=D [c])(h1:d.cells=[d])(a1:d.one=ah)(aK:off<cs.length):bE av (.store T x y) ty ρ [(i,.hf dF 1 m cs)] [(i,.hf dF 1 m (cs.set off c))] (.p (.v undef)):=λg w H bo q aE _ aM dY h=>by
 have oO:=dY.one;have a5:=h x (by simp[c_]) _ ar;have bk:=h y (by simp[c_]) _ bh;have c0:hL g.E w c (bo y):=by have:=Pe az (.cons bk .nil);cases this with|cons aJ _=>cases aJ with|p aJ=>exact aJ
 have ui:=bk.one a1;generalize he:bo x=v at a5;cases a5 with
 |js h2 qn=>
  obtain⟨fg,fX,jt,h5,us,aj,a6,dg,fS,ja,iU,ji,kV,kH⟩:=agL aM oO qn;have W2:off<us.length:=by rw[<-kH.1];exact aK
  simp only[q4]at iU ji kV;have dw:kA w fg h5.toList dF:=by show w.heap[fg]? =D (.cells h5.toList.toArray dF (0,0));simpa using dg
  have eE:off+0+1<=h5.toList.length:=by simp;omega
  obtain⟨w',s1,s2,s6⟩:=D7 (P:=av) (o:=off) [bo y] 0 h5.toList w dw (λu hu=>by simp at hu;subst hu;exact ui) eE;have BL:w'.ownsRow 0 dF 1 (g.h i) fX (us.set off (bo y)):=by refine⟨by simp[kV],.inr ⟨fg,jt,(oG h5.toList (off+0) [bo y]).toArray,aj,gx _,s6,fS,ja,by simp[oG,iU],?_⟩⟩;have:=agR (us:=h5.toList) (n:=fX) (off:=off) (v:=bo y) (by omega) (by simp;omega);rw[ji]at this;simpa using this
  have b2:=b'.agK (cs':=cs.set off c) aM oO (b:=fg) (by rw[aj];rfl) s2 BL ⟨by simp[kH.1],λj p u hp hu=>by
   rw[List.getElem?_set]at hp hu;by_cases e:off=j
   ·subst e;simp only[if_true,aK,W2]at hp hu;cases hp;cases hu;exact c0
   ·simp only[e,if_false]at hp hu;exact kH.2 j p u hp hu⟩
  refine .inr (.inl ⟨w',?_,g,b2,.v _⟩);unfold execOp;rw[aE];simp[he,a6,Instr.storeAt,sV,storeVar,a_,NZ ui,ck,ce,s1]
end
section
variable {β : Type} {b : β} {av : cj} {ty : b3} {f : hN} {H : List aG} {ns : V -> M β} {k : K β}
end
section
variable {β : Type} {b : β} {av : cj} {ty : b3} {f : hN} {H : List aG} {ns : V -> M β} {k : K β}
end
theorem IR(H:List aG)(n i:Nat):(H++dm n aG.bW)[i]? =H[i]? \/(H[i]? =aF/\(H++dm n aG.bW)[i]? =D .bW)\/(H[i]? =aF/\(H++dm n aG.bW)[i]? =aF):=by
 by_cases ao:i<H.length
 ·exact .inl (List.getElem?_append_left ao)
 ·rw[List.getElem?_append_right (by omega),List.getElem?_replicate];have e:H[i]? =aF:=List.getElem?_eq_none (by omega);split
  ·exact .inr (.inl ⟨e,rfl⟩)
  ·exact .inr (.inr ⟨e,rfl⟩)
theorem agT(H:List aG)(n i:Nat):ct (H++dm n aG.bW) i↔ct H i:=by
 unfold ct;rcases IR H n i with e|⟨a5,bk⟩|⟨a5,bk⟩
 ·rw[e]
 ·rw[a5,bk];exact Iff.rfl
 ·rw[a5,bk]
theorem agU(H:List aG)(n i:Nat):eL (H++dm n aG.bW) i=eL H i:=by
 unfold eL;rcases IR H n i with e|⟨a5,bk⟩|⟨a5,bk⟩
 ·rw[e]
 ·rw[a5,bk];rfl
 ·rw[a5,bk]
theorem Pn(g:b_)(H:List aG)(n i b:Nat):own g (H++dm n aG.bW) i b↔own g H i b:=by
 unfold own;rcases IR H n i with e|⟨a5,bk⟩|⟨a5,bk⟩
 ·rw[e]
 ·rw[a5,bk];exact Iff.rfl
 ·rw[a5,bk]
theorem hx.ext(g:b_)(w:bb)(H:List aG)(n:Nat):hx g w H g w (H++dm n aG.bW):=
 ⟨b5 _,λ_ _=>b5 _,λ_ _ _ _=>rfl,λi ao=>⟨(agT H n i).2 ao,rfl⟩,λt m ai=>⟨m,by rw[agU];exact ai,b5 _,λ_=>rfl⟩⟩
theorem b'.ext{cn:bb}{b0:b_}{bS:List aG}{g:b_}{w:bb}{H:List aG}(aM:b' cn b0 bS g w H)(n:Nat):b' cn b0 bS g w (H++dm n .bW):=by
 have dO:=hx.ext g w H n;refine⟨aM.os,aM.tape,aM.output,aM.mT.a' dO,aM.a'.trans dO,aM.iQ,λi o ao=>?_,λi j b h1 h2=>aM.kh i j b ((Pn _ _ _ i b).1 h1) ((Pn _ _ _ j b).1 h2),λi b h1=>aM.px i b ((Pn _ _ _ i b).1 h1)⟩;rcases IR H n i with e|⟨_,bk⟩|⟨_,bk⟩
 ·rw[e]at ao;exact jU.a' dO ao (λ_ _=>⟨rfl,rfl⟩) (λ_ _ _ _ _=>rfl) (aM.ec i o ao)
 ·rw[bk]at ao;cases ao;trivial
 ·rw[bk]at ao;cases ao
theorem W3{g:b_}{w:bb}{H:List aG}(b2:t_ g w):∀(G:List (Nat×List a4))(q:Nat),(∀x∈G,x∈yP)->cD g w H (EO G q) (.pointer (D ⟨q,0,aF⟩))
 |[],q,_=>.v _
 |(b,cs)::G,q,aV=>by
  simp only[EO];cases aB:d' b q with
  |false=>exact W3 b2 G q λx ar=>aV x (by simp[ar])
  |true=>
   have:=kz aB;subst this;obtain⟨h1,h2,aJ⟩:=b2 (b,cs) (aV _ (by simp));replace h1:b<w.heap.size:=h1;replace h2:cs.length<=g.E b:=h2;have:=cD.bA (g:=g) (w:=w) (H:=H) (cs:=cs.map .v) (b:=b) (o:=0) (λj=>(cs[j]?).getD undef) (by simpa using h2) h1 (λj ae=>?_) λj c ae=>?_
   ·exact this
   ·rw[List.length_map]at ae;rw[hD,aJ j cs[j] (cq ae),cq ae];rfl
   ·rw[List.getElem?_map]at ae;cases aE:cs[j]? with
    |none=>rw[aE]at ae;cases ae
    |some v=>rw[aE]at ae;cases ae;exact .v
def w8(g:b_)(w:bb)(H:List aG):List s5->List Deferred->Prop
 |[],[]=>True
 |.mark i::ds,q::oa=>ct H i/\q={target:=.collected (g.β i),args:=#[]}/\w8 g w H ds oa
 |.fn f cs::ds,q::oa=>(∃vs:List a4,q={target:=.fn (.func f) vs.toArray,args:=#[]}/\cU g w H cs vs)/\w8 g w H ds oa
 |_,_=>False
theorem w8.a'{g g':b_}{w w':bb}{H H':List aG}(m:hx g w H g' w' H'):∀{ds:List s5}{oa:List Deferred},w8 g w H ds oa->w8 g' w' H' ds oa
 |[],[],_=>trivial
 |.mark i::ds,q::oa,⟨h1,h2,aJ⟩=>⟨(m.ct i h1).1,by rw[(m.ct i h1).2];exact h2,w8.a' m aJ⟩
 |.fn f cs::ds,q::oa,⟨⟨vs,h1,h2⟩,aJ⟩=>⟨⟨vs,h1,h2.a' m⟩,w8.a' m aJ⟩
 |[],_::_,h=>h.elim
 |.mark _::_,[],h=>h.elim
 |.fn _ _::_,[],h=>h.elim
def IS(r:Option Nat)(g:b_)(H:List aG):Option Nat->Prop
 |none=>r=aF
 |some i=>r=D (g.β i)/\ct H i
theorem IS.a'{r:Option Nat}{g g':b_}{w w':bb}{H H':List aG}(m:hx g w H g' w' H'){jx:Option Nat}(h:IS r g H jx):IS r g' H' jx:=by
 cases jx with
 |none=>exact h
 |some i=>exact⟨by rw[(m.ct i h.2).2];exact h.1,(m.ct i h.2).1⟩
structure uz(r:Option Nat)(N:Nat)(jx:Option Nat)(g:b_)(w:bb)(H:List aG)(l:bY)(ds:List s5)(a:Act):Prop where
 W4:w8 g w H ds a.defers
 Po:a.tmps.size=N
 fr:wL g w H l a.tmps
 jx:IS r g H jx
section
variable {r : Option Nat} {N : Nat} {jx : Option Nat} {g g' : b_} {w w' : bb} {H H' : List aG} {l : bY} {ds : List s5} {a : Act}
theorem uz.a'(h:uz r N jx g w H l ds a)(m:hx g w H g' w' H'):uz r N jx g' w' H' l ds a:=⟨h.W4.a' m,h.Po,h.fr.a' m,h.jx.a' m⟩
theorem uz.bo(h:uz r N jx g w H l ds a)(b2:t_ g w){x:bM}{d:V}(az:vv l x=D d):cD g w H d (a.eval x):=by
 cases x with
 |tmp t=>obtain⟨v,h1,h2⟩:=h.fr t d az;simpa[Act.eval,Array.getD_eq_getD_getElem?,h1]using h2
 |const v=>have:D (V.p (.v v))=D d:=az;cases this;exact .v _
 |global q=>have:D (EO yP q)=D d:=az;cases this;exact W3 b2 yP q λ_ h=>h
 |func f=>have:D (V.p (.v (.func (.func f) #[] #[])))=D d:=az;cases this;exact .v _
theorem uz.put(h:uz r N jx g w H l ds a){dst:Option Tmp}(az:kT N dst=ah){d:V}{v:a4}(bg:cD g w H d v):uz r N jx g w H (gn dst d l) ds (a.put dst v):=by
 cases dst with
 |none=>exact h
 |some t=>
  refine⟨h.W4,by simp[Act.put,h.Po],λs u aV=>?_,h.jx⟩;have ai:t<N:=by simpa[kT,iu]using az
  simp only[gn,cR]at aV;simp only[Act.put,Array.getElem?_setIfInBounds,h.Po];by_cases e:t=s
  ·subst e;rw[show d' t t=ah from Nat.beq_refl t]at aV;simp only[cond_true,hX]at aV;subst aV;exact⟨v,by simp[ai],bg⟩
  ·rw[p' e]at aV;simp only[cond_false]at aV;obtain⟨oM,h1,h2⟩:=h.fr s u aV;exact⟨oM,by simp[e,h1],h2⟩
end
theorem W5(m i:Nat):q5 m i=m.testBit i:=by
 unfold q5 Nat.testBit;have e:(1 &&& (m>>>i))=IK (EL m i) 1:=by rw[Nat.and_comm];rfl
 rw[e];have h:IK (EL m i) 1< 2:=by have:=Nat.and_lt_two_pow (EL m i) (n:=1) (show 1< 2^1 by omega);exact this
 generalize IK (EL m i) 1=q at h;match q,h with
 |0,_=>rfl
 |1,_=>rfl
theorem W6(m i j:Nat):q5 (oF m i) j=(q5 m j||decide (j=i)):=by rw[W5,W5];unfold oF;have:WP m (WO 1 i)=m ||| (1<<<i):=rfl;rw[this,Nat.testBit_or];congr 1;rw[Nat.one_shiftLeft,Nat.testBit_two_pow];simp[eq_comm]
theorem W7:∀(aU:List Nat)(m:Nat),(s4 (motive:=λ_=>Nat->Bool) (λ_=>ah) (λi _ bB mask=>uw (motive:=λ_=>Bool) (bB (oF mask i)) aQ (q5 mask i)) aU m:Bool)=ah->aU.Nodup/\∀i∈aU,q5 m i=aQ
 |[],m,_=>⟨List.nodup_nil,λ_ h=>by cases h⟩
 |i::aU,m,h=>by
  replace h:(uw (motive:=λ_=>Bool) (s4 (motive:=λ_=>Nat->Bool) (λ_=>ah) (λi _ bB mask=>uw (motive:=λ_=>Bool) (bB (oF mask i)) aQ (q5 mask i)) aU (oF m i)) aQ (q5 m i):Bool)=ah:=h;cases aB:q5 m i with
  |true=>rw[aB]at h;cases h
  |false=>
   rw[aB]at h;obtain⟨h1,h2⟩:=W7 aU _ h;refine⟨List.nodup_cons.2 ⟨λao=>?_,h1⟩,λj ae=>?_⟩
   ·have:=h2 i ao;rw[W6]at this;simp at this
   ·rcases n4.1 ae with rfl|ae
    ·exact aB
    ·have:=h2 j ae;rw[W6]at this;simp at this;exact this.1
variable {aU:List Nat}
theorem agV(h:WQ aU=ah):aU.Nodup:=(W7 aU 0 h).1
theorem W8:∀(aU:List Nat)(i k n:Nat),(s4 (motive:=λ_=>Nat->Option Nat) (λ_=>aF) (λj _ bB n=>uw (motive:=λ_=>Option Nat) (bB (EM n)) (D n) (d' j i)) aU k:Option Nat)=D n->k<=n/\aU[n-k]? =D i
 |[],i,k,n,h=>by cases h
 |j::aU,i,k,n,h=>by
  replace h:(uw (motive:=λ_=>Option Nat) (s4 (motive:=λ_=>Nat->Option Nat) (λ_=>aF) (λj _ bB n=>uw (motive:=λ_=>Option Nat) (bB (EM n)) (D n) (d' j i)) aU (EM k)) (D k) (d' j i):Option Nat)=D n:=h;cases aB:d' j i with
  |true=>rw[aB]at h;have e:D k=D n:=h;cases e;have:=kz aB;subst this;simp
  |false=>rw[aB]at h;obtain⟨h1,h2⟩:=W8 aU i _ n h;refine⟨by omega,?_⟩;rw[show n-k=(n-EM k)+1 by omega];simpa using h2
theorem agW{i n:Nat}(h:EP aU i=D n):aU[n]? =D i:=(W8 aU i 0 n h).2
def vw(s:Nat->Option Nat)(t:Nat->Nat)(k:Nat):Prop:=∀i j,s i=D j->t j=i/\j<k
theorem vw.EP(aU:List Nat):vw (EP aU) (bQ aU) aU.length:=λi j h=>by have h1:=agW h;exact⟨by unfold bQ;rw[List.getD_eq_getElem?_getD,h1];rfl,(cz.1 h1).1⟩
noncomputable def W9(s:Nat->Option Nat)(cs:List V):Option (List V):=
 V.rec_1 (motive_1:=λ_=>Option V) (motive_2:=λ_=>Option (List V))
  (λx=>D (.p x)) (λk n cs t m=>(s t).map λt=>.cT k n cs t m) (λi o=>(s i).map λi=>.aR i o) (λcs=>D (.bA cs)) (λi o n c=>(s i).map λi=>.dX i o n c) (λi=>(s i).map .map)
  (λf _ _ b c=>match b,c with|some b,D c=>D (.fn f b c)|_,_=>aF) (λ_ r=>r.map .agg) (λ_ r=>r.map .cg) (λi=>(s i).map .fW) (D .z) (λk n t m o=>(s t).map λt=>.gs k n t m o) (λt m o=>(s t).map λt=>.js t m o)
  (D []) (λ_ _ x xs=>match x,xs with|some x,D xs=>D (x::xs)|_,_=>aF) cs
theorem ET(s:Nat->Option Nat):∀(cs:List V),W9 s cs=qk s cs
 |[]=>rfl
 |d::ds=>by show(match d.nt s,W9 s ds with|some x,D xs=>D (x::xs)|_,_=>aF)=_;rw[ET s ds];rfl
theorem agX(s:Nat->Option Nat)(f:Go.Fn)(b c:List V):(V.fn f b c).nt s=match qk s b,qk s c with|some b,D c=>D (.fn f b c)|_,_=>aF:=by rw[<-ET,<-ET];rfl
theorem agY(s:Nat->Option Nat)(b:List V):(V.agg b).nt s=(qk s b).map .agg:=by rw[<-ET];rfl
theorem agZ(s:Nat->Option Nat)(b:List V):(V.cg b).nt s=(qk s b).map .cg:=by rw[<-ET];rfl
theorem qo{α lj:Type}{x:Option α}{f:α->lj}{c:lj}(h:x.map f=D c):∃a,x=D a/\f a=c:=by
 cases x with
 |none=>cases h
 |some a=>exact⟨a,rfl,by simpa using h⟩
section
variable {s : Nat -> Option Nat} {t : Nat -> Nat} {k : Nat}
mutual
theorem V.EU(aV:vw s t k):∀{d cQ:V},d.nt s=D cQ->cQ.dc t=d/\cQ.lt k=ah
 |.p x,cQ,h=>by have e:D (V.p x)=D cQ:=h;cases e;exact⟨rfl,rfl⟩
 |.cT q n cs i m,cQ,h=>by obtain⟨a,h1,rfl⟩:=qo (show(s i).map _=D cQ from h);obtain⟨h2,aJ⟩:=aV _ _ h1;exact⟨by simp[V.dc,h2],by simpa[V.lt,iu]using aJ⟩
 |.aR i o,cQ,h=>by obtain⟨a,h1,rfl⟩:=qo (show(s i).map _=D cQ from h);obtain⟨h2,aJ⟩:=aV _ _ h1;exact⟨by simp[V.dc,h2],by simpa[V.lt,iu]using aJ⟩
 |.bA cs,cQ,h=>by have e:D (V.bA cs)=D cQ:=h;cases e;exact⟨rfl,rfl⟩
 |.dX i o n c,cQ,h=>by obtain⟨a,h1,rfl⟩:=qo (show(s i).map _=D cQ from h);obtain⟨h2,aJ⟩:=aV _ _ h1;exact⟨by simp[V.dc,h2],by simpa[V.lt,iu]using aJ⟩
 |.map i,cQ,h=>by obtain⟨a,h1,rfl⟩:=qo (show(s i).map _=D cQ from h);obtain⟨h2,aJ⟩:=aV _ _ h1;exact⟨by simp[V.dc,h2],by simpa[V.lt,iu]using aJ⟩
 |.gs cA n i m o,cQ,h=>by obtain⟨a,h1,rfl⟩:=qo (show(s i).map _=D cQ from h);obtain⟨h2,aJ⟩:=aV _ _ h1;exact⟨by simp[V.dc,h2],by simpa[V.lt,iu]using aJ⟩
 |.js i m o,cQ,h=>by obtain⟨a,h1,rfl⟩:=qo (show(s i).map _=D cQ from h);obtain⟨h2,aJ⟩:=aV _ _ h1;exact⟨by simp[V.dc,h2],by simpa[V.lt,iu]using aJ⟩
 |.z,cQ,h=>by have e:D V.z=D cQ:=h;cases e;exact⟨rfl,rfl⟩
 |.fW i,cQ,h=>by obtain⟨a,h1,rfl⟩:=qo (show(s i).map _=D cQ from h);obtain⟨h2,aJ⟩:=aV _ _ h1;exact⟨by simp[V.dc,h2],by simpa[V.lt,iu]using aJ⟩
 |.fn f b c,cQ,h=>by
  rw[agX]at h;cases aB:qk s b with
  |none=>rw[aB]at h;cases h
  |some gi=>
   cases aP:qk s c with
   |none=>rw[aB,aP]at h;cases h
   |some c'=>rw[aB,aP]at h;cases h;obtain⟨h1,h2⟩:=zc aV aB;obtain⟨aJ,bp⟩:=zc aV aP;exact⟨by simp[V.dc,h1,aJ],by simp[V.lt,h2,bp]⟩
 |.agg cs,cQ,h=>by rw[agY]at h;obtain⟨a,h1,rfl⟩:=qo h;obtain⟨h2,aJ⟩:=zc aV h1;exact⟨by simp[V.dc,h2],by simp[V.lt,aJ]⟩
 |.cg cs,cQ,h=>by rw[agZ]at h;obtain⟨a,h1,rfl⟩:=qo h;obtain⟨h2,aJ⟩:=zc aV h1;exact⟨by simp[V.dc,h2],by simp[V.lt,aJ]⟩
theorem zc(aV:vw s t k):∀{ds pH:List V},qk s ds=D pH->gb t pH=ds/\le k pH=ah
 |[],pH,h=>by have e:D ([]:List V)=D pH:=h;cases e;exact⟨rfl,rfl⟩
 |d::ds,pH,h=>by
  replace h:(match d.nt s,qk s ds with|some x,D xs=>D (x::xs)|_,_=>aF)=D pH:=h;cases az:d.nt s with
  |none=>rw[az]at h;cases h
  |some x=>
   cases ar:qk s ds with
   |none=>rw[az,ar]at h;cases h
   |some xs=>rw[az,ar]at h;cases h;obtain⟨h1,h2⟩:=V.EU aV az;obtain⟨aJ,bp⟩:=zc aV ar;exact⟨by simp[gb,h1,aJ],by simp[le,h2,bp]⟩
end
theorem W_(aV:vw s t k):∀{kv kv':List (a4×V)},EQ s kv=D kv'->ue t kv'=kv/\le k (kv'.map (·.2))=ah
 |[],kv',h=>by have e:D ([]:List (a4×V))=D kv':=h;cases e;exact⟨rfl,rfl⟩
 |q::kv,kv',h=>by
  replace h:(match q.2.nt s,EQ s kv with|some x,D xs=>D ((q.1,x)::xs)|_,_=>aF)=D kv':=h;cases az:q.2.nt s with
  |none=>rw[az]at h;cases h
  |some x=>
   cases ar:EQ s kv with
   |none=>rw[az,ar]at h;cases h
   |some xs=>rw[az,ar]at h;cases h;obtain⟨h1,h2⟩:=V.EU aV az;obtain⟨aJ,bp⟩:=W_ aV ar;exact⟨by simp[ue,h1,aJ],by simp[le,h2];simpa using bp⟩
theorem W'(aV:vw s t k):∀{kv kv':bY},BI s kv=D kv'->rW t kv'=kv/\Bj k kv'=ah
 |[],kv',h=>by have e:D ([]:bY)=D kv':=h;cases e;exact⟨rfl,rfl⟩
 |q::kv,kv',h=>by
  replace h:(match q.2.nt s,BI s kv with|some x,D xs=>D ((q.1,x)::xs)|_,_=>aF)=D kv':=h;cases az:q.2.nt s with
  |none=>rw[az]at h;cases h
  |some x=>
   cases ar:BI s kv with
   |none=>rw[az,ar]at h;cases h
   |some xs=>rw[az,ar]at h;cases h;obtain⟨h1,h2⟩:=V.EU aV az;obtain⟨aJ,bp⟩:=W' aV ar;exact⟨by simp[rW,h1,aJ],by simp[Bj,h2,bp]⟩
theorem aG.EU(aV:vw s t k){o o':aG}(h:o.nt s=D o'):o'.dc t=o/\o'.lt k=ah:=by
 cases o with
 |bW=>have e:D aG.bW=D o':=h;cases e;exact⟨rfl,rfl⟩
 |cells T cs=>obtain⟨a,h1,rfl⟩:=qo (show(qk s cs).map _=D o' from h);obtain⟨h2,aJ⟩:=zc aV h1;exact⟨by simp[aG.dc,h2],aJ⟩
 |bu T cs=>have e:D (aG.bu T cs)=D o':=h;cases e;exact⟨rfl,rfl⟩
 |gH T cs=>have e:D (aG.gH T cs)=D o':=h;cases e;exact⟨rfl,rfl⟩
 |hf T q m cs=>have e:D (aG.hf T q m cs)=D o':=h;cases e;exact⟨rfl,rfl⟩
 |bl T q m=>have e:D (aG.bl T q m)=D o':=h;cases e;exact⟨rfl,rfl⟩
 |nn c bH kv=>obtain⟨a,h1,rfl⟩:=qo (show(EQ s kv).map _=D o' from h);obtain⟨h2,aJ⟩:=W_ aV h1;exact⟨by simp[aG.dc,h2],aJ⟩
 |loop st dJ f N fr ps a b j=>
  replace h:(match BI s fr,s j with|some fr,D j=>D (aG.loop st dJ f N fr ps a b j)|_,_=>aF)=D o':=h;cases az:BI s fr with
  |none=>rw[az]at h;cases h
  |some fZ=>
   cases ae:s j with
   |none=>rw[az,ae]at h;cases h
   |some e8=>rw[az,ae]at h;cases h;obtain⟨h1,h2⟩:=W' aV az;obtain⟨aJ,bp⟩:=aV _ _ ae;exact⟨by simp[aG.dc,h1,aJ],by simp[aG.lt,h2,iu,bp]⟩
 |cr b=>have e:D (aG.cr b)=D o':=h;cases e;exact⟨rfl,rfl⟩
 |pw j=>obtain⟨a,h1,rfl⟩:=qo (show(s j).map _=D o' from h);obtain⟨h2,aJ⟩:=aV _ _ h1;exact⟨by simp[aG.dc,h2],by simpa[aG.lt,iu]using aJ⟩
 |mP dj kv=>have e:D (aG.mP dj kv)=D o':=h;cases e;exact⟨rfl,rfl⟩
 |kg j A=>obtain⟨a,h1,rfl⟩:=qo (show(s j).map _=D o' from h);obtain⟨h2,aJ⟩:=aV _ _ h1;exact⟨by simp[aG.dc,h2],by simpa[aG.lt,iu]using aJ⟩
 |mq ds vs=>obtain⟨a,h1,rfl⟩:=qo (show(qk s ds).map _=D o' from h);obtain⟨h2,aJ⟩:=zc aV h1;exact⟨by simp[aG.dc,h2],aJ⟩
theorem Xa{β:Type}{b:β}{H:List aG}(aV:vw s t k):∀{aU:List Nat}{go:List aG->M β},Pb H s aU go=.ok b->∃os:List aG,os.length=aU.length/\(∀(i j:Nat)(o:aG),os[i]? =D o->aU[i]? =D j->H[j]? =D (o.dc t))/\os.all (aG.lt k)=ah/\go os=.ok b
 |[],go,h=>⟨[],rfl,λi j o h=>by simp at h,rfl,h⟩
 |q::aU,go,h=>by
  replace h:(O7 "object" H q λo=>ec "name" (o.nt s) λo'=>Pb H s aU λos=>go (o'::os))=.ok b:=h;obtain⟨o,h1,h2⟩:=WR h;obtain⟨o',aJ,bp⟩:=agz h2;obtain⟨cy,cY⟩:=aG.EU aV aJ;obtain⟨os,gX,gO,fP,w9⟩:=Xa aV bp;refine⟨o'::os,by simp[gX],λi j x ao ae=>?_,by simp[cY];simpa using fP,w9⟩;cases i with
  |zero=>simp at ao ae;subst ao ae;rw[cy];exact h1
  |succ i=>simp at ao ae;exact gO i j x ao ae
end
theorem Xb(s:Nat->Nat):∀(S:List Nat)(Hc:List aG)(q:Nat×aG),q∈ek s S Hc->∃(i:Nat)(o:aG),S[i]? =D q.1/\Hc[i]? =D o/\q.2=o.dc s
 |[],_,q,h=>by cases h
 |_::_,[],q,h=>by cases h
 |j::Ol,o::os,q,h=>by
  simp only[ek,n4]at h;rcases h with rfl|h
  ·exact⟨0,o,rfl,rfl,rfl⟩
  ·obtain⟨i,o',h1,h2,aJ⟩:=Xb s Ol os q h;exact⟨i+1,o',by simpa using h1,by simpa using h2,aJ⟩
structure IT(H Hc:List aG)(aU:List Nat):Prop where
 dI:uf H Hc aU
 af:aU.Nodup
 lt:Hc.all (aG.lt Hc.length)=ah
variable {aU:List Nat}
theorem IT.aY{β:Type}{b:β}{H:List aG}{go:List aG->M β}(a_:WQ aU=ah)(h:Pb H (EP aU) aU go=.ok b):∃Hc,IT H Hc aU/\go Hc=.ok b:=by
 obtain⟨os,h1,h2,aJ,bp⟩:=Xa (vw.EP aU) h;refine⟨os,⟨⟨h1.symm,λi o ao=>?_⟩,agV a_,by rw[h1];exact aJ⟩,bp⟩;have cf:i<aU.length:=by rw[<-h1];exact(cz.1 ao).1
 exact h2 i _ o ao (vj cf)
theorem IT.cV{H Hc:List aG}(h:IT H Hc aU):fq H (ek (bQ aU) aU Hc):=λq aE=>by obtain⟨i,o,h1,h2,aJ⟩:=Xb _ _ _ _ aE;have bp:=h.dI.2 i o h2;have cf:i<aU.length:=(cz.1 h1).1;rw[vj cf]at h1;have e:bQ aU i=q.1:=pA h1;rw[<-e,aJ];exact bp
def IM.ex:IM->cN
 |.n=>.normal
 |.ret=>.ret
 |.exit id=>.exit id
theorem b'.ag0{g:b_}{w:bb}{H:List aG}{i:Nat}(h:gm g w H)(ao:H[i]? =D (.cr ah)):
  b' w g H g (w.putObj (g.β i) (.deferred aF)) (H.set i (.cr aQ)):=by
 have dN:=(cz.1 ao).1;have ej:∀b,own g H i b↔b=g.β i:=λb=>by unfold own;rw[ao];exact Iff.rfl
 have h1:w.heap[g.β i]? =D (.deferred (D [])):=h.ec i _ ao;have EV:=(Array.getElem?_eq_some_iff.1 h1).1
 refine b'.one h dN rfl rfl rfl (by simp) (λb aK a_=>⟨WN λe=>a_ ((ej b).2 e),rfl⟩) (λb o a1 cf=>?_) (λb _=>b5 _) (λj _=>⟨rfl,rfl⟩) (λ_=>⟨trivial,rfl⟩)
  (λm hm=>by rw[ao]at hm;cases hm) (λb a1=>.inl ((ej b).2 a1)) (λdO=>IJ EV)
 have:=(ej b).1 a1;subst this;simp[p8,IJ EV,h1]
section
variable {g : b_} {w : bb} {H : List aG}
end
section
variable {β : Type} {b : β} {E : y'} {bB : za} {H : List aG} {k : K β}
inductive s7 (f:gh):V->List V->List V->Prop
 |fn {b c:List V}:s7 f (.fn (.func f) b c) b c
 |v:s7 f (.p (.v (.func (.func f) #[] #[]))) [] []
theorem s7.rv{f:gh}{iT:V}{bH cs:List V}(h:s7 f iT bH cs){g:b_}{w:bb}{H:List aG}{u:a4}(hu:cD g w H iT u):∃us vs:List a4,u=.func (.func f) us.toArray vs.toArray/\cU g w H bH us/\cU g w H cs vs:=by
 cases h with
 |fn=>cases hu with|fn h1 h2=>exact⟨_,_,rfl,h1,h2⟩
 |v=>exact⟨[],[],hu.g4,.nil,.nil⟩
end
def hN.u:hN->Nat
 |.mk b1 _ _=>b1
section
variable {P : cj} {N : Nat} {r jx : Option Nat} {cn : bb} {b0 : b_} {bS : List aG} {Q : cN -> Act -> bb -> Prop}
def IU(P:cj)(N:Nat)(r jx:Option Nat)(cn:bb)(b0:b_)(bS:List aG)(ops:Array bU)(Q:cN->Act->bb->Prop)(rest:List bU)(l:bY)(H:List aG)(ds:List s5):Prop:=
 ∀g w a,b' cn b0 bS g w H->uz r N jx g w H l ds a->jQ ⟨r,P,N,[]⟩ ops Q rest a w
variable {ops : Array bU} {rest : List bU} {l : bY} {H : List aG} {ds : List s5}
theorem IU.ext(m:Nat)(h:IU P N r jx cn b0 bS ops Q rest l (H++dm m .bW) ds):IU P N r jx cn b0 bS ops Q rest l H ds:=λg w a aM a9=>h g w a (aM.ext m) (a9.a' (hx.ext g w H m))
def EW(P:cj)(N:Nat)(r jx:Option Nat)(cn:bb)(b0:b_)(bS:List aG)(ops:Array bU)(Q:cN->Act->bb->Prop)(o:bU)(rest:List bU)(l:bY)(H:List aG)(ds:List s5):Prop:=
 ∀g w a,b' cn b0 bS g w H->uz r N jx g w H l ds a->o.wpIn (hK r) 0 P a w (jQ ⟨r,P,N,[]⟩ ops Q rest) Q
theorem EW.aC{o:bU}{cV cE:List (Nat×aG)}{d:V}(h:bE P o.op o.type (vv l) cV cE d)(dY:fq H cV)(az:kT N o.dst=ah)(k:IU P N r jx cn b0 bS ops Q rest (gn o.dst d l) (dT H cE) ds):
  EW P N r jx cn b0 bS ops Q o rest l H ds:=λg w a aM a9=>by
 refine⟨λ_ _=>trivial,?_⟩
 have fin:∀v w' g',b' w g H g' w' (dT H cE)->cD g' w' (dT H cE) d v->jQ ⟨r,P,N,[]⟩ ops Q rest (a.put o.dst v) w':=λv w' g' h1 h2=>
  k g' w' _ (aM.then h1) ((a9.a' h1.a').put az h2)
 rcases h g w H a.eval o rfl rfl aM.iR dY (λx _ u hu=>a9.bo aM.mT hu)with⟨v,w',h1,g',h2,aJ⟩|⟨w',h1,g',h2,aJ⟩|⟨n,h1,h2⟩
 ·rw[qY h1 (by intro d h;cases h)];exact fin v w' g' h2 aJ
 ·rw[qY h1 (by intro d h;cases h)];exact fin undef w' g' h2 aJ
 ·rw[qY h1 h2.yQ];exact h2.H5 λv w' ⟨g',aJ,bp⟩=>fin v w' g' aJ bp
theorem EW.ext{o:bU}(m:Nat)(h:EW P N r jx cn b0 bS ops Q o rest l (H++dm m .bW) ds):EW P N r jx cn b0 bS ops Q o rest l H ds:=λg w a aM a9=>h g w a (aM.ext m) (a9.a' (hx.ext g w H m))
end
theorem b'.Pp{g:b_}{w:bb}{H:List aG}{i f N j:Nat}{st st':LoopState}{dJ EX:Option Code}{fr:List (Nat×V)}{ps:Array Nat}{mp eD:Code}{rec:Loop}(h:gm g w H)(ao:H[i]? =D (.loop st dJ f N fr ps mp eD j))(EY:w.heap[g.β i]? =D (.loop rec)):
  b' w g H g (w.putObj (g.β i) (.loop {rec with state:=st',pending:=EX})) (H.set i (.loop st' EX f N fr ps mp eD j)):=by
 have dN:=(cz.1 ao).1;have ej:∀b,own g H i b↔b=g.β i:=λb=>by unfold own;rw[ao];exact Iff.rfl
 obtain⟨f0,tm,h1,h2,aJ,bp⟩:=h.ec i _ ao;rw[EY]at h1;cases h1;have EV:=(Array.getElem?_eq_some_iff.1 EY).1
 refine b'.one h dN rfl rfl rfl (by simp) (λb aK a_=>⟨WN λe=>a_ ((ej b).2 e),rfl⟩) (λb o a1 cf=>?_) (λb _=>b5 _) (λj _=>⟨rfl,rfl⟩) (λ_=>⟨trivial,rfl⟩)
  (λm hm=>by rw[ao]at hm;cases hm) (λb a1=>.inl ((ej b).2 a1)) (λdO=>⟨f0,tm,IJ EV,h2,(dO.ct j aJ).1,bp.a' dO⟩)
 have:=(ej b).1 a1;subst this;simp[p8,IJ EV,EY]
section
variable {β : Type} {b : β} {E : y'} {bB : za}
end
section
variable {P : cj} {N : Nat} {r jx : Option Nat} {g : b_} {w : bb} {H : List aG} {l : bY} {ds : List s5} {a : Act} {ops : Array bU}
end
section
variable {β : Type} {b : β} {E : y'} {bB : za} {N : Nat} {r jx : Option Nat} {cn : bb} {b0 : b_} {bS : List aG} {Q : cN -> Act -> bb -> Prop} {ops : Array bU} {rest : List bU}
end
structure IV where
 d:V
 m:Nat
 cV:List (Nat×aG)
 cE:List (Nat×aG)
 dB:Option (Nat×Nat×V)
structure ag1(P:cj)(op:Op)(l:bY)(H:List aG)(x:IV)(q:Nat×Nat×V):Prop where
 d:q.2.2=x.d
 w:x.cE=[]
 ty:∃T y,op=.load T y/\vv l y=D (.aR q.1 q.2.1)/\∀w,(isAgg T).run P w=.ok aQ w
def ag2(ed:List bU)(o:bU)(l:bY):Prop:=o.guard=aF\/∃j db want,o.guard=D (j,want)/\(ed[j]?).bind (·.dst)=D db/\cR l db=D (.p (.v (.bool want)))
structure ag3(P:cj)(ed:List bU)(o:bU)(l:bY)(H:List aG)(x:IV):Prop where
 eF:ag2 ed o l
 aC:bE P o.op o.type (vv l) x.cV x.cE x.d
 cV:fq (H++dm x.m .bW) x.cV
 cE:∀q∈x.cE,q.1<H.length+x.m
 dB:∀q,x.dB=D q->ag1 P o.op l H x q
inductive IW (P:cj) (ed:List bU) (o:bU) (l:bY) (H:List aG) (x:IV):Prop
 |ag4 (h:ag3 P ed o l H x)
 |off {j db:Nat} {want:Bool} (b2:o.guard=D (j,want)) (ae:(ed[j]?).bind (·.dst)=D db) (aB:cR l db=D (.p (.v (.bool (!want))))) (ar:x=⟨.p (.v undef),0,[],[],aF⟩):IW P ed o l H x
 |Bo {j db:Nat} {want:Bool} {y:Array a4} (b2:o.guard=D (j,want)) (ae:(ed[j]?).bind (·.dst)=D db) (aB:cR l db=D (.p (.v (.tuple y)))) (ar:x=⟨.p (.v undef),0,[],[],aF⟩):IW P ed o l H x
section
variable {β : Type} {b : β} {E : y'} {bB : za} {N : Nat}
end
section
variable {β : Type} {b : β} {E : y'} {bB : za} {N : Nat}
end
section
variable {P : cj} {ed : List bU} {lo : Nat}
theorem IW.cE{o:bU}{l:bY}{H:List aG}{x:IV}(h:IW P ed o l H x):(∀q∈x.cE,q.1<(H++dm x.m aG.bW).length)/\fq (H++dm x.m .bW) x.cV:=by
 cases h with
 |ag4 h=>exact⟨λq aE=>by simpa using h.cE q aE,h.cV⟩
 |off b2 ae aB ar=>subst ar;exact⟨λq aE=>(by cases aE),λq aE=>(by cases aE)⟩
 |Bo b2 ae aB ar=>subst ar;exact⟨λq aE=>(by cases aE),λq aE=>(by cases aE)⟩
end
section
variable {β : Type} {b : β} {E : y'} {bB : za} {N : Nat} {r jx : Option Nat} {cn : bb} {b0 : b_} {bS : List aG} {Q : cN -> Act -> bb -> Prop}
end
section
variable {E : y'} {bB : za}
section
variable {N : Nat} {jx : Option Nat} {fn : gh} {l l' : gq} {H H' : List aG} {ds pH : List s5} {e : IM} {r : Option Nat} {cn : bb} {b0 : b_} {bS : List aG} {g : b_} {w : bb} {a : Act}
end
end

end Go.Dp

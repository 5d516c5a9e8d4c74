/- Deferred functions that ask for a panic and find none; functions that are found by a text. -/
import Derived.Test.YtgfggdcbhjhegaaGreatDoorG
import Derived.RecoverIn
set_option linter.all false
set_option maxRecDepth 100000
namespace Go.Dp
open Go Go.Mi Go.RowKit
open Nat renaming blt->fV,blt_eq->iu
open Option renaming none->aF,some->D
def Qm(P:Program)(f:FuncId):Prop:=∀(w:World)(args:Array Value),CallsDIn (hK aF) 0 P f args .returning w λe u w'=>(∃v,e=.returned v)/\settle u=.returning/\Below w.heap.size w w'
variable {f:FuncId}{fn:Func}
theorem ajl{P:Program}{i0 i1 i3 i4:Nat}{a b d:Nat}{T b1:TypeId}{ab ag ak:String}{t0 t1 t2:TypeId}{rest:Code}(a8:P.funcs[f]? =D fn)
  (aB:fn.body=D (.seq (.region i0 #[{dst:=D a,op:=.call {callee:=.builtin .recover,args:=#[],argTypes:=#[]},type:=t0,pos:=ab,after:=#[],guard:=aF}] false)
   (.block i1 (.seq (.region i3 #[{dst:=D b,op:=.binOp .eql T (.tmp a) (.const .nilIface) b1,type:=t1,pos:=ag,after:=#[],guard:=aF}] false)
    (.cond (.tmp b) (.region i4 #[{dst:=D d,op:=.assign (.tmp a),type:=t2,pos:=ak,after:=#[],guard:=aF}] false) rest)))))
  (jY:fn.results=#[]) (a9:fV a fn.ntmps=true) (ES:fV b fn.ntmps=true) (Fu:fV d fn.ntmps=true) (YE:Nat.beq b a=false)
  (he:EN P (do eqGuard .eql T (.tmp a) (.const .nilIface) .nilIface .nilIface;binOp .eql T .nilIface .nilIface)=D (.bool true)):Qm P f:=by
 refine λw args=>callsDIn_of_wpSIn a8 aB trivial λJE cs hu=>wpSIn_seq (wpSIn_region ?_);have EY:recoverD (JE::cs)=aF:=by simp[recoverD,hu]
 have mv:∀(e:Operand->Value),(execOp e {dst:=D a,op:=.call {callee:=.builtin .recover,args:=#[],argTypes:=#[]},type:=t0,pos:=ab,after:=#[],guard:=aF}).run P w=.ok .recover w:=λe=>by unfold execOp;simp[resolve,invoke,builtin,Sem.run_bind,Result.andThen]
 have ajm:List.range (#[({dst:=D a,op:=.call {callee:=.builtin .recover,args:=#[],argTypes:=#[]},type:=t0,pos:=ab,after:=#[],guard:=aF}:Oper)].size)=[0]:=rfl;rw[ajm];refine⟨λ_ _=>trivial,?_⟩;simp only[Region.wanted,if_true,mv,EY,wpOpsSIn];show Code.wpSIn _ _ _ _ _ _ _ _;refine wpSIn_of_wpIn rfl ?_;obtain⟨N,e0⟩:∃N,args.size+(fn.ntmps-args.size)=N:=⟨_,rfl⟩
 have lt:∀{x:Nat},fV x fn.ntmps=true->fV x N=true:=λ{x} h=>by
  have:x<fn.ntmps:=by simpa[iu]using h
  simp[iu];omega
 have Qn:Mi.lF [(a,Value.nilIface)] a=D .nilIface:=by simp[Mi.lF]
 have ajn:Mi.lF [(b,Value.bool true),(a,Value.nilIface)] b=D (.bool true):=by simp[Mi.lF]
 have ajo:Mi.lF [(b,Value.bool true),(a,Value.nilIface)] a=D .nilIface:=by simp only[Mi.lF,YE,cond_false];exact Qn
 have aO:W ⟨aF,P,N,[]⟩ (.block i1 (.seq (.region i3 #[{dst:=D b,op:=.binOp .eql T (.tmp a) (.const .nilIface) b1,type:=t1,pos:=ag,after:=#[],guard:=aF}] false)
    (.cond (.tmp b) (.region i4 #[{dst:=D d,op:=.assign (.tmp a),type:=t2,pos:=ak,after:=#[],guard:=aF}] false) rest)))
   (λe gy w'=>bodyPostS P fn JE cs (λe u w'=>(∃v,e=.returned v)/\settle u=.returning/\Below w.heap.size w w') e gy (JE::cs) w') [(a,.nilIface)] w:=by
  refine aex (aew (Vc (os:=[_]) (Ve (v:=.bool true) (aeE (vx:=.nilIface) (vy:=.nilIface) Qn rfl λw' _=>Pc he w') (lt ES) (Vd (aez (aey ajn (Vc (os:=[_]) (Ve (aeD (v:=.nilIface) ajo) (lt Fu) (Vd ?_)))))))));refine aeA λgy jh=>?_;refine⟨jh.1,JE.mode,rfl,.tuple #[],by simp[results,jY],⟨_,rfl⟩,by rw[hu];rfl,Below.refl _ _⟩
 have n6:a<fn.ntmps:=by simpa[iu]using a9
 exact aO _ ⟨rfl,by simp[Act.put,e0],λt v ai=>by
  by_cases e:a=t
  ·subst e;rw[Qn]at ai;cases ai;have ff:a<(args++Array.replicate (fn.ntmps-args.size) undef).size:=by simp;omega
   exact Array.getElem?_setIfInBounds_self_of_lt ff
  ·simp[Mi.lF,p' e]at ai⟩
variable {H:List aG}
theorem b'.ajp{g:b_}{w w':World}(h:gm g w H)(aB:Below w.heap.size w w'):b' w g H g w' H:=b'.Eh (E:=g.E) h aB λ_ _=>rfl
theorem bZ.ajq{av:Program}{N:Nat}{fM:List Deferred}{cn:World}{b0:b_}{bS:List aG}{l:bY}{fN:Ending->World->Prop}{e:Exit}{R:Type}{T:R->Prop}{m:Option R}{vs:List Value}(YF:Qm av f)(aS:Exit.kf e=true)(a8:∀args w,(callFunc f args).run av w=.ok (.enter f args) w)
  (k:bZ ⟨⟨aF,av,N,fM⟩,cn,b0,bS⟩ (bodyPostM (hK aF) 0 av fn fN) e l H m T):bZ ⟨⟨aF,av,N,Fh f vs::fM⟩,cn,b0,bS⟩ (bodyPostM (hK aF) 0 av fn fN) e l H m T:=λc9=>by
 intro g w a aM a9;have az:a.defers=Fh f vs::fM:=a9.1;have key:LeavesInM (hK aF) 0 av fn a.tmps fN a.defers .returning w:=by rw[az];refine⟨(by intro e;cases e),.inr ⟨(λe=>by cases e),.func f,vs.toArray,f,vs.toArray,rfl,by simp[invoke];exact a8 _ _,(λ_ _=>trivial),CallsDIn.mono (YF w vs.toArray) ?_⟩⟩;rintro gz oM w' ⟨⟨v,rfl⟩,hu,aB⟩;have gN:=b'.ajp aM.iR aB;have aJ:=k c9 g w' {a with defers:=fM} (aM.then gN) ⟨rfl,(a9.a' gN.a').2.1,(a9.a' gN.a').2.2⟩;show LeavesInM (hK aF) 0 av fn a.tmps fN fM (settle oM) w';rw[hu];cases e<;>first|exact aJ|(simp[Exit.kf]at aS)
 cases e<;>first|exact key|(simp[Exit.kf]at aS)
section
variable {Y : gj} {Q : Exit -> Act -> World -> Prop} {l : bY} {H : List aG} {R : Type} {m m' : Option R} {T : R -> Prop} {ops : Array Oper} {os rest : List Oper}
theorem bI.JF{k c:ByteArray}(h1:k=c->bI Y ops Q os l H m T)(h2:¬k=c->bI Y ops Q os l H m' T):bI Y ops Q os l H (if decide (k=c)=true then m else m') T:=by
 by_cases h:k=c
 ·rw[if_pos (by simpa using h)];exact h1 h
 ·rw[if_neg (by simpa using h)];exact h2 h
theorem bI.JG{p:Prop} [Decidable p](h:p->bI Y ops Q os l H m T):bI Y ops Q os l H (if decide p=true then m else aF) T:=by
 by_cases hp:p
 ·rw[if_pos (by simpa using hp)];exact h hp
 ·rw[if_neg (by simpa using hp)];exact λ⟨_,e,_⟩=>by cases e
theorem bE.val{av:Program}{op:Op}{ty:TypeId}{ρ:Operand->Option V}{cV cE:List (Nat×aG)}{d cQ:V}(h:bE av op ty ρ cV cE d)(e:d=cQ):bE av op ty ρ cV cE cQ:=e▸h
end
end Go.Dp

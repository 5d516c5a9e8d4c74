/-
  The given statement EvalStepsCardSaid: the law answers true for all arguments, and leaves them as they were. No conditions.
-/
import Derived.Test.YtgfggdcbhjhegaaGreatDoorWk
import Derived.Test.YtgfggdcbhjhegaaGreatDoorZo
import Derived.Test.YtgfggdcbhjhegaaGreatDoorUL
import Derived.Test.YtgfggdcbhjhegaaGreatDoorZwa
import Derived.Test.YtgfggdcbhjhegaaGreatDoorZwb
import Derived.Stop.Joined
set_option linter.all false
namespace Go.Proofs.YtgfggdcbhjhegaaGreatDoor
open Go Go.ChangeShapes Go.WideShapes Go.ChangeAt Go.WideMaps Go.WideElems Go.RowKit
theorem U':laidOutB Tryz.prog=true:=by kernel_rfl
set_option maxHeartbeats 1600000 in
set_option maxRecDepth 100000 in
theorem are(os:Os)(started:os.Started)(H:Type)(enc:TypeId×Value->H):
  ReturnsInHanded {} Tryz.checked os 6 .any (λw args=>(Rows.evalStepsSpec.pre enc Tryz.prog Tryz.f6 [] false w args/\laidMetH Tryz.prog Rows.evalStepsRow.laid w)/\sizedMet enc Tryz.prog Tryz.f6 (OpenSpec.ofChange Rows.evalStepsSpec) false w args)
   (Rows.evalStepsSpec.post enc Tryz.prog Tryz.f6 false true false false):=by
 refine returnsInHanded_of_change_and (C:=Tryz.checked) (X:=λw _=>laidMetH Tryz.prog Rows.evalStepsRow.laid w) (λ_ _ _ fG h=>h.of_heap fG) own started (by kernel_rfl) Tryz.func6
  (ChangeSpec.witness_shaped (enc:=enc) (C:=Tryz.checked) (os:=os) (X:=λw _=>laidMetH Tryz.prog Rows.evalStepsRow.laid w) false (World.doorLaid Tryz.prog 400 os) #[.agg #[.slice none 0 0,.slice none 0 0],.int .i64 0,.slice none 0 0] 8 rfl (World.shaped_of_RefB (by kernel_rfl) (by kernel_rfl)) (by kernel_rfl) (by kernel_rfl) (by kernel_rfl) (HK os _)) ?_
 intro W base args ds gs before qT aO _ _ g6 _;have iP:∀(j:Nat) t v,Tryz.f6.params[j]? =some t->args[j]? =some v->Value.okWide Tryz.prog W .any base t v:=qT;have ml:=aO;obtain⟨p,q,qU,qQ,rfl,AI,zr⟩:=aO;have ii:DataW.TrodAll enc Tryz.prog W 0 (λ_=>true) true Tryz.f6.params.toList args.toList ds p:=qU;rw[Tryz.params6]at ii iP;obtain⟨v0,v1,v2,d0,d1,d2,ab,ag,ak,rfl,rfl,rfl,bw,h1,h2⟩:=trodAll_three ii;obtain⟨rfl,rfl⟩:=trodVars_none qQ;clear qU qT;simp only[List.append_nil]at ml;have cf:∀x∈ab++ag++ak,x.block<W.heap.size:=λx ar=>by simpa using ml.lt x ar
 obtain⟨t,dw,cc⟩:=HG (λ_=>rfl) (iP 0 25 v0 rfl rfl) bw;obtain⟨a,rfl⟩:=U9 (iP 1 3 v1 rfl rfl);obtain⟨l,aK⟩:=NK (iP 2 23 v2 rfl rfl) h2;refine(HI (Go.Dp.fC.p (av:=Tryz.prog) (aqC (n:=10000000) (t:=t) (w:=l) rfl (Nat.le_refl _) dw a)) (HJ g6) (.cons cc (.cons (.p .v) (.cons aK .nil)))).mono λe rM ⟨he,dw⟩=>?_;subst he;have U:=Below.trod U' (by kernel_rfl) (of_decide_eq_true (by kernel_rfl)) bw dw (λx ar=>cf x (by simp[ar]));have aj:=Below.trod U' (by kernel_rfl) (of_decide_eq_true (by kernel_rfl)) h1 dw (λx ar=>cf x (by simp[ar]));have a6:=Below.trod U' (by kernel_rfl) (of_decide_eq_true (by kernel_rfl)) h2 dw (λx ar=>cf x (by simp[ar]));exact⟨_,rfl,_,_,_,[],ab++ag++ak,[],ml,trodAll_mk1 (shut_bool Tryz.underlying4 _),by rw[List.append_assoc];exact trodAll_mk3 U aj a6,rfl,dw.frame _,λh=>by cases h⟩
end Go.Proofs.YtgfggdcbhjhegaaGreatDoor

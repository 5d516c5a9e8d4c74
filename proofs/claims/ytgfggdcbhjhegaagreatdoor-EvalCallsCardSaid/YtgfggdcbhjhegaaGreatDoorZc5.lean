/-
  The given statement EvalCallsCardSaid: the law answers true for all arguments, and leaves them as they were. No conditions.
-/
import Derived.Test.YtgfggdcbhjhegaaGreatDoorWl
import Derived.Test.YtgfggdcbhjhegaaGreatDoorZp
import Derived.Test.YtgfggdcbhjhegaaGreatDoorUL
import Derived.Test.YtgfggdcbhjhegaaGreatDoorZwa
import Derived.Test.YtgfggdcbhjhegaaGreatDoorZwb
import Derived.Stop.Joined
set_option linter.all false
namespace Go.Proofs.YtgfggdcbhjhegaaGreatDoor
open Go Go.ChangeShapes Go.WideShapes Go.ChangeAt Go.WideMaps Go.WideElems Go.RowKit
theorem aev:laidOutB Tryz.prog=true:=by kernel_rfl
set_option maxHeartbeats 1600000 in
set_option maxRecDepth 100000 in
theorem arc(os:Os)(started:os.Started)(H:Type)(enc:TypeId×Value->H):
  ReturnsInHanded {} Tryz.checked os 5 .any (λw args=>(Rows.evalCallsSpec.pre enc Tryz.prog Tryz.f5 [] false w args/\laidMetH Tryz.prog Rows.evalCallsRow.laid w)/\sizedMet enc Tryz.prog Tryz.f5 (OpenSpec.ofChange Rows.evalCallsSpec) false w args)
   (Rows.evalCallsSpec.post enc Tryz.prog Tryz.f5 false true false false):=by
 refine returnsInHanded_of_change_and (C:=Tryz.checked) (X:=λw _=>laidMetH Tryz.prog Rows.evalCallsRow.laid w) (λ_ _ _ fG h=>h.of_heap fG) own started (by kernel_rfl) Tryz.func5
  (ChangeSpec.witness_shaped (enc:=enc) (C:=Tryz.checked) (os:=os) (X:=λw _=>laidMetH Tryz.prog Rows.evalCallsRow.laid w) false (World.doorLaid Tryz.prog 400 os) #[.agg #[.slice none 0 0,.slice none 0 0],.agg #[.int .i64 0,.slice none 0 0,.slice none 0 0]] 8 rfl (World.shaped_of_RefB (by kernel_rfl) (by kernel_rfl)) (by kernel_rfl) (by kernel_rfl) (by kernel_rfl) (HK os _)) ?_
 intro W base args ds gs before qT aO _ _ g6 _;have iP:∀(j:Nat) t v,Tryz.f5.params[j]? =some t->args[j]? =some v->Value.okWide Tryz.prog W .any base t v:=qT;have ml:=aO;obtain⟨p,q,qU,qQ,rfl,AI,zr⟩:=aO;have ii:DataW.TrodAll enc Tryz.prog W 0 (λ_=>true) true Tryz.f5.params.toList args.toList ds p:=qU;rw[Tryz.params5]at ii iP;obtain⟨v0,v1,d0,d1,ab,ag,rfl,rfl,rfl,bw,h1⟩:=trodAll_two ii;obtain⟨rfl,rfl⟩:=trodVars_none qQ;clear qU qT;simp only[List.append_nil]at ml;have cf:∀x∈ab++ag,x.block<W.heap.size:=λx ar=>by simpa using ml.lt x ar
 obtain⟨t,dw,cc⟩:=HG (λ_=>rfl) (iP 0 25 v0 rfl rfl) bw;obtain⟨l,ard,aK⟩:=aq5 (iP 1 51 v1 rfl rfl) h1;refine(HI (Go.Dp.fC.p (av:=Tryz.prog) (aqT (n:=10000000) (t:=t) rfl (Nat.le_refl _) dw l ard)) (HJ g6) (.cons cc (.cons aK .nil))).mono λe rM ⟨he,dw⟩=>?_;subst he;have U:=Below.trod aev (by kernel_rfl) (of_decide_eq_true (by kernel_rfl)) bw dw (λx ar=>cf x (by simp[ar]));have aj:=Below.trod aev (by kernel_rfl) (of_decide_eq_true (by kernel_rfl)) h1 dw (λx ar=>cf x (by simp[ar]));exact⟨_,rfl,_,_,_,[],ab++ag,[],ml,trodAll_mk1 (shut_bool Tryz.underlying4 _),trodAll_mk2 U aj,rfl,dw.frame _,λh=>by cases h⟩
end Go.Proofs.YtgfggdcbhjhegaaGreatDoor

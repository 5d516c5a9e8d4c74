/- WorldOdd answers true, for all arguments. No conditions. -/
import Derived.Test.YtjfgooffdmnnkaaGreatDoorT8
import Derived.Test.YtjfgooffdmnnkaaGreatDoorZo
import Derived.Test.YtjfgooffdmnnkaaGreatDoorUL
import Derived.Test.YtjfgooffdmnnkaaGreatDoorZwa
import Derived.Test.YtjfgooffdmnnkaaGreatDoorZwb
import Derived.Stop.Joined
set_option linter.all false
namespace Go.Proofs.YtjfgooffdmnnkaaGreatDoor
open Go Go.ChangeShapes Go.WideShapes Go.ChangeAt Go.WideMaps Go.WideElems Go.RowKit
theorem aiU:laidOutB Tryz.prog=true:=by kernel_rfl
set_option maxHeartbeats 1600000 in
set_option maxRecDepth 100000 in
theorem ayX(os:Os)(started:os.Started)(H:Type)(enc:TypeId×Value->H):
  ReturnsInHanded {} Tryz.checked os 8 .any (λw args=>(Rows.worldOddSpec.pre enc Tryz.prog Tryz.f8 [] false w args/\laidMetH Tryz.prog Rows.worldOddRow.laid w)/\sizedMet enc Tryz.prog Tryz.f8 (OpenSpec.ofChange Rows.worldOddSpec) false w args)
   (Rows.worldOddSpec.post enc Tryz.prog Tryz.f8 false true false false):=by
 refine returnsInHanded_of_change_and (C:=Tryz.checked) (X:=λw _=>laidMetH Tryz.prog Rows.worldOddRow.laid w) (λ_ _ _ gf h=>h.of_heap gf) own started (by kernel_rfl) Tryz.func8
  (ChangeSpec.witness_shaped (enc:=enc) (C:=Tryz.checked) (os:=os) (X:=λw _=>laidMetH Tryz.prog Rows.worldOddRow.laid w) false (World.doorLaid Tryz.prog 400 os) #[.agg #[.slice none 0 0,.slice none 0 0],.int .i64 0] 8 rfl (World.shaped_of_RefB (by kernel_rfl) (by kernel_rfl)) (by kernel_rfl) (by kernel_rfl) (by kernel_rfl) (Ix os _)) ?_
 intro W base args ds gs before qV aR _ _ eK _;have jh:∀(j:Nat) t v,Tryz.f8.params[j]? =some t->args[j]? =some v->Value.okWide Tryz.prog W .any base t v:=qV;have mA:=aR;obtain⟨p,q,qW,rD,rfl,Ce,A6⟩:=aR;have ju:DataW.TrodAll enc Tryz.prog W 0 (λ_=>true) true Tryz.f8.params.toList args.toList ds p:=qW;rw[Tryz.params8]at ju jh;obtain⟨v0,v1,d0,d1,ab,al,rfl,rfl,rfl,bh,h1⟩:=trodAll_two ju;obtain⟨rfl,rfl⟩:=trodVars_none rD;clear qW qV;simp only[List.append_nil]at mA;have b':∀x∈ab++al,x.block<W.heap.size:=λx ak=>by simpa using mA.lt x ak
 obtain⟨Z,eu,pJ⟩:=avS (λ_=>rfl) (jh 0 25 v0 rfl rfl) bh;obtain⟨an,rfl⟩:=Iu (jh 1 3 v1 rfl rfl);refine(Iv (Go.Dp.gB.p (aw:=Tryz.prog) (avQ (n:=10000000) (Nat.le_refl _) eu an)) (Iw eK) (.cons pJ (.cons (.p .v) .nil))).mono λe tH ⟨he,eO⟩=>?_;subst he;have lu:=Below.trod aiU (by kernel_rfl) (of_decide_eq_true (by kernel_rfl)) bh eO (λx ak=>b' x (by simp[ak]));have ea:=Below.trod aiU (by kernel_rfl) (of_decide_eq_true (by kernel_rfl)) h1 eO (λx ak=>b' x (by simp[ak]));exact⟨_,rfl,_,_,_,[],ab++al,[],mA,trodAll_mk1 (shut_bool Tryz.underlying4 _),trodAll_mk2 lu ea,rfl,eO.frame _,λh=>by cases h⟩
end Go.Proofs.YtjfgooffdmnnkaaGreatDoor

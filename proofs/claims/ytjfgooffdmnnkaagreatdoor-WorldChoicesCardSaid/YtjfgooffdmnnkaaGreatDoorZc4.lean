/- WorldChoices answers true, for all arguments. No conditions. -/
import Derived.Test.YtjfgooffdmnnkaaGreatDoorT4
import Derived.Test.YtjfgooffdmnnkaaGreatDoorZo
import Derived.Test.YtjfgooffdmnnkaaGreatDoorUL
import Derived.Test.YtjfgooffdmnnkaaGreatDoorZwa
import Derived.Test.YtjfgooffdmnnkaaGreatDoorZwb
import Derived.Stop.Joined
set_option linter.all false
namespace Go.Proofs.YtjfgooffdmnnkaaGreatDoor
open Go Go.ChangeShapes Go.WideShapes Go.ChangeAt Go.WideMaps Go.WideElems Go.RowKit
theorem ZS:laidOutB Tryz.prog=true:=by kernel_rfl
set_option maxHeartbeats 1600000 in
set_option maxRecDepth 100000 in
theorem awI(os:Os)(started:os.Started)(H:Type)(enc:TypeId×Value->H):
  ReturnsInHanded {} Tryz.checked os 4 .any (λw args=>(Rows.worldChoicesSpec.pre enc Tryz.prog Tryz.f4 [] false w args/\laidMetH Tryz.prog Rows.worldChoicesRow.laid w)/\sizedMet enc Tryz.prog Tryz.f4 (OpenSpec.ofChange Rows.worldChoicesSpec) false w args)
   (Rows.worldChoicesSpec.post enc Tryz.prog Tryz.f4 false true false false):=by
 refine returnsInHanded_of_change_and (C:=Tryz.checked) (X:=λw _=>laidMetH Tryz.prog Rows.worldChoicesRow.laid w) (λ_ _ _ gf h=>h.of_heap gf) own started (by kernel_rfl) Tryz.func4
  (ChangeSpec.witness_shaped (enc:=enc) (C:=Tryz.checked) (os:=os) (X:=λw _=>laidMetH Tryz.prog Rows.worldChoicesRow.laid w) false (World.doorLaid Tryz.prog 400 os) #[.string ⟨#[]⟩,.int .i64 0,.int .i64 0] 8 rfl (World.shaped_of_RefB (by kernel_rfl) (by kernel_rfl)) (by kernel_rfl) (by kernel_rfl) (by kernel_rfl) (Ix os _)) ?_
 intro W base args ds gs before qV aR _ _ eK _;have jh:∀(j:Nat) t v,Tryz.f4.params[j]? =some t->args[j]? =some v->Value.okWide Tryz.prog W .any base t v:=qV;have mA:=aR;obtain⟨p,q,qW,rD,rfl,Ce,A6⟩:=aR;have ju:DataW.TrodAll enc Tryz.prog W 0 (λ_=>true) true Tryz.f4.params.toList args.toList ds p:=qW;rw[Tryz.params4]at ju jh;obtain⟨v0,v1,v2,d0,d1,d2,ab,al,am,rfl,rfl,rfl,bh,h1,h2⟩:=trodAll_three ju;obtain⟨rfl,rfl⟩:=trodVars_none rD;clear qW qV;simp only[List.append_nil]at mA;have b':∀x∈ab++al++am,x.block<W.heap.size:=λx ak=>by simpa using mA.lt x ak
 obtain⟨Z,rfl⟩:=Mt (jh 0 9 v0 rfl rfl);obtain⟨an,rfl⟩:=Iu (jh 1 3 v1 rfl rfl);obtain⟨a',rfl⟩:=Iu (jh 2 3 v2 rfl rfl);refine(Iv (Go.Dp.gB.p (aw:=Tryz.prog) (avw (n:=10000000) (Nat.le_refl _) Z an a')) (Iw eK) (.cons (.p .v) (.cons (.p .v) (.cons (.p .v) .nil)))).mono λe tH ⟨he,eO⟩=>?_;subst he;have lu:=Below.trod ZS (by kernel_rfl) (of_decide_eq_true (by kernel_rfl)) bh eO (λx ak=>b' x (by simp[ak]));have ea:=Below.trod ZS (by kernel_rfl) (of_decide_eq_true (by kernel_rfl)) h1 eO (λx ak=>b' x (by simp[ak]));have fN:=Below.trod ZS (by kernel_rfl) (of_decide_eq_true (by kernel_rfl)) h2 eO (λx ak=>b' x (by simp[ak]));exact⟨_,rfl,_,_,_,[],ab++al++am,[],mA,trodAll_mk1 (shut_bool Tryz.underlying4 _),by rw[List.append_assoc];exact trodAll_mk3 lu ea fN,rfl,eO.frame _,λh=>by cases h⟩
end Go.Proofs.YtjfgooffdmnnkaaGreatDoor

/- The claim. -/
import Derived.Test.YtjfgooffdmnnkaaGreatDoorZj0
import Derived.Test.YtjfgooffdmnnkaaGreatDoorZja8
import Derived.Test.YtjfgooffdmnnkaaGreatDoorZjb8
import Derived.Test.YtjfgooffdmnnkaaGreatDoorZc8
set_option linter.all false
namespace Go.Proofs.YtjfgooffdmnnkaaGreatDoor
open Go Go.ChangeShapes Go.WideShapes Go.ChangeAt Go.WideMaps Go.WideElems Go.RowKit
theorem cj{a b:Bool}(a4:a=true)(aF:b=true):(a&&b)=true:=by rw[a4,aF];rfl
theorem ay2:(Rows.worldOddRow.wf (OpenSpec.ofChange Rows.worldOddSpec))=true:=by kernel_rfl
theorem ay3:(Tryz.f8.params.all (Tryz.prog.readableRec ·))=true:=by kernel_rfl
theorem ay4:(namedTie Tryz.prog Rows.worldOddRow.named Rows.worldOddSpec.vars)=true:=by kernel_rfl
theorem ay5:((Rows.worldOddRow.stops==[]))=true:=by kernel_rfl
theorem ay6:((Tryz.prog.stops==[]))=true:=by kernel_rfl
theorem ay7:((Rows.worldOddRow.knobs==[]))=true:=by kernel_rfl
theorem ay8:((Tryz.prog.stopKnobs==[]))=true:=by kernel_rfl
theorem ay9:((Rows.worldOddRow.maps==(Tryz.f8.params.toList++Rows.worldOddSpec.plain.varTypes Tryz.prog).any (Tryz.prog.mapsRec ·)))=true:=by kernel_rfl
theorem aza:((Rows.worldOddRow.ifaces==(Tryz.f8.params.toList++Rows.worldOddSpec.plain.varTypes Tryz.prog).any (Tryz.prog.ifacesRec ·)))=true:=by kernel_rfl
theorem azb:((Rows.worldOddRow.mapsOut==Tryz.prog.mapsAmong Tryz.f8.resultTypes.toList))=true:=by kernel_rfl
theorem azc:((Rows.worldOddRow.loops==(Tryz.f8.params.toList++Rows.worldOddSpec.plain.varTypes Tryz.prog).any (Tryz.prog.loopsFrom ·)))=true:=by kernel_rfl
theorem azd:((Rows.worldOddRow.wideKeys==(Tryz.f8.params.toList++Rows.worldOddSpec.plain.varTypes Tryz.prog++Tryz.f8.resultTypes.toList).any (Tryz.prog.wideKeysFrom ·)))=true:=by kernel_rfl
theorem aze:(Rows.worldOddSpec.vars.all (Tryz.prog.varReadable ·))=true:=by kernel_rfl
theorem azf:(Tryz.f8.resultTypes.all (λt=>Tryz.prog.readableRec t&&decide (t<Tryz.prog.types.size)))=true:=by kernel_rfl
theorem azg:((Rows.worldOddRow.ifacesOut==Tryz.f8.resultTypes.toList.any (Tryz.prog.ifacesRec ·)))=true:=by kernel_rfl
theorem azh:((Rows.worldOddRow.loopsOut==Tryz.f8.resultTypes.toList.any (Tryz.prog.loopsFrom ·)))=true:=by kernel_rfl
theorem azi:((Rows.worldOddRow.plainKeys==Tryz.prog.plainKeys))=true:=by kernel_rfl
theorem azj:(Rows.worldOddRow.shortTexts.isNone)=true:=by kernel_rfl
theorem azk:((Rows.worldOddRow.lifted==Tryz.prog.liftsFinal))=true:=by kernel_rfl
theorem azl:((Tryz.prog.make==some Rows.worldOddRow.make))=true:=by kernel_rfl
theorem azm:((Rows.worldOddRow.kinds==(if Rows.worldOddRow.domain.isEmpty then []else Tryz.f8.params.toList.map λt=>match Tryz.prog.underlying t with|some (.int k)=>some k|_=>none)))=true:=by kernel_rfl
theorem azn:((Rows.worldOddRow.pinned==Rows.worldOddRow.pinnedBy))=true:=by kernel_rfl
theorem azo:((Rows.worldOddRow.veiled==(Tryz.f8.params.toList++Rows.worldOddSpec.plain.varTypes Tryz.prog++Tryz.f8.resultTypes.toList).any (Tryz.prog.veiledRec ·)))=true:=by kernel_rfl
theorem azp:(Rows.worldOddRow.veiledFits Tryz.prog Tryz.f8.params.toList (Tryz.f8.params.toList++Rows.worldOddSpec.plain.varTypes Tryz.prog++Tryz.f8.resultTypes.toList))=true:=by kernel_rfl
set_option maxRecDepth 100000 in
theorem azq:joinedFacts Tryz.pinned.checked.prog 8 Tryz.f8 Rows.worldOddSpec Rows.worldOddRow=true:=
 cj (cj (cj (cj (cj (cj (cj (cj (cj (cj (cj (cj (cj (cj (cj (cj (cj (cj (cj (cj (cj (cj (cj (cj (cj (cj (cj (cj (cj (cj (cj ay2 Iy) Iz) ay3) ay4) ay5) ay6) ay7) ay8) ayY) ayZ) ay0) ay1) ay9) aza) azb) azc) azd) aze) azf) azg) azh) azi) azj) IA) IB) azk) azl) azm) azn) azo) azp
set_option maxRecDepth 100000 in
theorem azr:Rows.WorldOddSaid:=
 OpenClaim.holds_of_wide 8 Tryz.f8 rfl rfl rfl rfl rfl rfl rfl ⟨rfl,rfl,rfl,rfl,rfl⟩ rfl rfl rfl rfl rfl (by kernel_rfl) Tryz.func8 azq
  (of_decide_eq_true (by kernel_rfl)) (by unfold Func.isWrapper;first|(rw[if_pos (by decide+kernel)];kernel_rfl)|(rw[if_neg (by decide+kernel)];exact⟨rfl,rfl⟩))
  (λos started H enc _=>ayX os started H enc)
end Go.Proofs.YtjfgooffdmnnkaaGreatDoor

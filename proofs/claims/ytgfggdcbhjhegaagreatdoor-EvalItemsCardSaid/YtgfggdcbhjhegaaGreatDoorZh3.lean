/-
  The given statement EvalItemsCardSaid: the row
-/
import Derived.Test.YtgfggdcbhjhegaaGreatDoorZj0
import Derived.Test.YtgfggdcbhjhegaaGreatDoorZja3
import Derived.Test.YtgfggdcbhjhegaaGreatDoorZjb3
import Derived.Test.YtgfggdcbhjhegaaGreatDoorZc3
set_option linter.all false
namespace Go.Proofs.YtgfggdcbhjhegaaGreatDoor
open Go Go.ChangeShapes Go.WideShapes Go.ChangeAt Go.WideMaps Go.WideElems Go.RowKit
theorem cm{a b:Bool}(a9:a=true)(aB:b=true):(a&&b)=true:=by rw[a9,aB];rfl
theorem arl:(Rows.evalItemsRow.wf (OpenSpec.ofChange Rows.evalItemsSpec))=true:=by kernel_rfl
theorem arm:(Tryz.f3.params.all (Tryz.prog.readableRec ·))=true:=by kernel_rfl
theorem arn:(namedTie Tryz.prog Rows.evalItemsRow.named Rows.evalItemsSpec.vars)=true:=by kernel_rfl
theorem aro:((Rows.evalItemsRow.stops==[]))=true:=by kernel_rfl
theorem arp:((Tryz.prog.stops==[]))=true:=by kernel_rfl
theorem arq:((Rows.evalItemsRow.knobs==[]))=true:=by kernel_rfl
theorem arr:((Tryz.prog.stopKnobs==[]))=true:=by kernel_rfl
theorem ars:((Rows.evalItemsRow.maps==(Tryz.f3.params.toList++Rows.evalItemsSpec.plain.varTypes Tryz.prog).any (Tryz.prog.mapsRec ·)))=true:=by kernel_rfl
theorem art:((Rows.evalItemsRow.ifaces==(Tryz.f3.params.toList++Rows.evalItemsSpec.plain.varTypes Tryz.prog).any (Tryz.prog.ifacesRec ·)))=true:=by kernel_rfl
theorem aru:((Rows.evalItemsRow.mapsOut==Tryz.prog.mapsAmong Tryz.f3.resultTypes.toList))=true:=by kernel_rfl
theorem arv:((Rows.evalItemsRow.loops==(Tryz.f3.params.toList++Rows.evalItemsSpec.plain.varTypes Tryz.prog).any (Tryz.prog.loopsFrom ·)))=true:=by kernel_rfl
theorem arw:((Rows.evalItemsRow.wideKeys==(Tryz.f3.params.toList++Rows.evalItemsSpec.plain.varTypes Tryz.prog++Tryz.f3.resultTypes.toList).any (Tryz.prog.wideKeysFrom ·)))=true:=by kernel_rfl
theorem arx:(Rows.evalItemsSpec.vars.all (Tryz.prog.varReadable ·))=true:=by kernel_rfl
theorem ary:(Tryz.f3.resultTypes.all (λt=>Tryz.prog.readableRec t&&decide (t<Tryz.prog.types.size)))=true:=by kernel_rfl
theorem arz:((Rows.evalItemsRow.ifacesOut==Tryz.f3.resultTypes.toList.any (Tryz.prog.ifacesRec ·)))=true:=by kernel_rfl
theorem arA:((Rows.evalItemsRow.loopsOut==Tryz.f3.resultTypes.toList.any (Tryz.prog.loopsFrom ·)))=true:=by kernel_rfl
theorem arB:((Rows.evalItemsRow.plainKeys==Tryz.prog.plainKeys))=true:=by kernel_rfl
theorem arC:(Rows.evalItemsRow.shortTexts.isNone)=true:=by kernel_rfl
theorem arD:((Rows.evalItemsRow.lifted==Tryz.prog.liftsFinal))=true:=by kernel_rfl
theorem arE:((Tryz.prog.make==some Rows.evalItemsRow.make))=true:=by kernel_rfl
theorem arF:((Rows.evalItemsRow.kinds==(if Rows.evalItemsRow.domain.isEmpty then []else Tryz.f3.params.toList.map λt=>match Tryz.prog.underlying t with|some (.int k)=>some k|_=>none)))=true:=by kernel_rfl
theorem arG:((Rows.evalItemsRow.pinned==Rows.evalItemsRow.pinnedBy))=true:=by kernel_rfl
theorem arH:((Rows.evalItemsRow.veiled==(Tryz.f3.params.toList++Rows.evalItemsSpec.plain.varTypes Tryz.prog++Tryz.f3.resultTypes.toList).any (Tryz.prog.veiledRec ·)))=true:=by kernel_rfl
theorem arI:(Rows.evalItemsRow.veiledFits Tryz.prog Tryz.f3.params.toList (Tryz.f3.params.toList++Rows.evalItemsSpec.plain.varTypes Tryz.prog++Tryz.f3.resultTypes.toList))=true:=by kernel_rfl
set_option maxRecDepth 100000 in
theorem arJ:joinedFacts Tryz.pinned.checked.prog 3 Tryz.f3 Rows.evalItemsSpec Rows.evalItemsRow=true:=
 cm (cm (cm (cm (cm (cm (cm (cm (cm (cm (cm (cm (cm (cm (cm (cm (cm (cm (cm (cm (cm (cm (cm (cm (cm (cm (cm (cm (cm (cm (cm arl HL) HM) arm) arn) aro) arp) arq) arr) arh) ari) arj) ark) ars) art) aru) arv) arw) arx) ary) arz) arA) arB) arC) HN) HO) arD) arE) arF) arG) arH) arI
set_option maxRecDepth 100000 in
theorem arK:Rows.EvalItemsSaid:=
 OpenClaim.holds_of_wide 3 Tryz.f3 rfl rfl rfl rfl rfl rfl rfl ⟨rfl,rfl,rfl,rfl,rfl⟩ rfl rfl rfl rfl rfl (by kernel_rfl) Tryz.func3 arJ
  (of_decide_eq_true (by kernel_rfl)) (by unfold Func.isWrapper;first|(rw[if_pos (by decide+kernel)];kernel_rfl)|(rw[if_neg (by decide+kernel)];exact⟨rfl,rfl⟩))
  (λos started H enc _=>ara os started H enc)
end Go.Proofs.YtgfggdcbhjhegaaGreatDoor

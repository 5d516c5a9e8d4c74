/-
  The given statement EvalProgramsCardSaid: the row
-/
import Derived.Test.YtgfggdcbhjhegaaGreatDoorZj0
import Derived.Test.YtgfggdcbhjhegaaGreatDoorZja4
import Derived.Test.YtgfggdcbhjhegaaGreatDoorZjb4
import Derived.Test.YtgfggdcbhjhegaaGreatDoorZc4
set_option linter.all false
namespace Go.Proofs.YtgfggdcbhjhegaaGreatDoor
open Go Go.ChangeShapes Go.WideShapes Go.ChangeAt Go.WideMaps Go.WideElems Go.RowKit
theorem cm{a b:Bool}(a9:a=true)(aB:b=true):(a&&b)=true:=by rw[a9,aB];rfl
theorem arP:(Rows.evalProgramsRow.wf (OpenSpec.ofChange Rows.evalProgramsSpec))=true:=by kernel_rfl
theorem arQ:(Tryz.f4.params.all (Tryz.prog.readableRec ·))=true:=by kernel_rfl
theorem arR:(namedTie Tryz.prog Rows.evalProgramsRow.named Rows.evalProgramsSpec.vars)=true:=by kernel_rfl
theorem arS:((Rows.evalProgramsRow.stops==[]))=true:=by kernel_rfl
theorem arT:((Tryz.prog.stops==[]))=true:=by kernel_rfl
theorem arU:((Rows.evalProgramsRow.knobs==[]))=true:=by kernel_rfl
theorem arV:((Tryz.prog.stopKnobs==[]))=true:=by kernel_rfl
theorem arW:((Rows.evalProgramsRow.maps==(Tryz.f4.params.toList++Rows.evalProgramsSpec.plain.varTypes Tryz.prog).any (Tryz.prog.mapsRec ·)))=true:=by kernel_rfl
theorem arX:((Rows.evalProgramsRow.ifaces==(Tryz.f4.params.toList++Rows.evalProgramsSpec.plain.varTypes Tryz.prog).any (Tryz.prog.ifacesRec ·)))=true:=by kernel_rfl
theorem arY:((Rows.evalProgramsRow.mapsOut==Tryz.prog.mapsAmong Tryz.f4.resultTypes.toList))=true:=by kernel_rfl
theorem arZ:((Rows.evalProgramsRow.loops==(Tryz.f4.params.toList++Rows.evalProgramsSpec.plain.varTypes Tryz.prog).any (Tryz.prog.loopsFrom ·)))=true:=by kernel_rfl
theorem ar0:((Rows.evalProgramsRow.wideKeys==(Tryz.f4.params.toList++Rows.evalProgramsSpec.plain.varTypes Tryz.prog++Tryz.f4.resultTypes.toList).any (Tryz.prog.wideKeysFrom ·)))=true:=by kernel_rfl
theorem ar1:(Rows.evalProgramsSpec.vars.all (Tryz.prog.varReadable ·))=true:=by kernel_rfl
theorem ar2:(Tryz.f4.resultTypes.all (λt=>Tryz.prog.readableRec t&&decide (t<Tryz.prog.types.size)))=true:=by kernel_rfl
theorem ar3:((Rows.evalProgramsRow.ifacesOut==Tryz.f4.resultTypes.toList.any (Tryz.prog.ifacesRec ·)))=true:=by kernel_rfl
theorem ar4:((Rows.evalProgramsRow.loopsOut==Tryz.f4.resultTypes.toList.any (Tryz.prog.loopsFrom ·)))=true:=by kernel_rfl
theorem ar5:((Rows.evalProgramsRow.plainKeys==Tryz.prog.plainKeys))=true:=by kernel_rfl
theorem ar6:(Rows.evalProgramsRow.shortTexts.isNone)=true:=by kernel_rfl
theorem ar7:((Rows.evalProgramsRow.lifted==Tryz.prog.liftsFinal))=true:=by kernel_rfl
theorem ar8:((Tryz.prog.make==some Rows.evalProgramsRow.make))=true:=by kernel_rfl
theorem ar9:((Rows.evalProgramsRow.kinds==(if Rows.evalProgramsRow.domain.isEmpty then []else Tryz.f4.params.toList.map λt=>match Tryz.prog.underlying t with|some (.int k)=>some k|_=>none)))=true:=by kernel_rfl
theorem asa:((Rows.evalProgramsRow.pinned==Rows.evalProgramsRow.pinnedBy))=true:=by kernel_rfl
theorem asb:((Rows.evalProgramsRow.veiled==(Tryz.f4.params.toList++Rows.evalProgramsSpec.plain.varTypes Tryz.prog++Tryz.f4.resultTypes.toList).any (Tryz.prog.veiledRec ·)))=true:=by kernel_rfl
theorem asc:(Rows.evalProgramsRow.veiledFits Tryz.prog Tryz.f4.params.toList (Tryz.f4.params.toList++Rows.evalProgramsSpec.plain.varTypes Tryz.prog++Tryz.f4.resultTypes.toList))=true:=by kernel_rfl
set_option maxRecDepth 100000 in
theorem asd:joinedFacts Tryz.pinned.checked.prog 4 Tryz.f4 Rows.evalProgramsSpec Rows.evalProgramsRow=true:=
 cm (cm (cm (cm (cm (cm (cm (cm (cm (cm (cm (cm (cm (cm (cm (cm (cm (cm (cm (cm (cm (cm (cm (cm (cm (cm (cm (cm (cm (cm (cm arP HL) HM) arQ) arR) arS) arT) arU) arV) arL) arM) arN) arO) arW) arX) arY) arZ) ar0) ar1) ar2) ar3) ar4) ar5) ar6) HN) HO) ar7) ar8) ar9) asa) asb) asc
set_option maxRecDepth 100000 in
theorem ase:Rows.EvalProgramsSaid:=
 OpenClaim.holds_of_wide 4 Tryz.f4 rfl rfl rfl rfl rfl rfl rfl ⟨rfl,rfl,rfl,rfl,rfl⟩ rfl rfl rfl rfl rfl (by kernel_rfl) Tryz.func4 asd
  (of_decide_eq_true (by kernel_rfl)) (by unfold Func.isWrapper;first|(rw[if_pos (by decide+kernel)];kernel_rfl)|(rw[if_neg (by decide+kernel)];exact⟨rfl,rfl⟩))
  (λos started H enc _=>arb os started H enc)
end Go.Proofs.YtgfggdcbhjhegaaGreatDoor

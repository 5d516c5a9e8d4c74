/-
  The given statement EvalStepsCardSaid: the row
-/
import Derived.Test.YtgfggdcbhjhegaaGreatDoorZj0
import Derived.Test.YtgfggdcbhjhegaaGreatDoorZja6
import Derived.Test.YtgfggdcbhjhegaaGreatDoorZjb6
import Derived.Test.YtgfggdcbhjhegaaGreatDoorZc6
set_option linter.all false
namespace Go.Proofs.YtgfggdcbhjhegaaGreatDoor
open Go Go.ChangeShapes Go.WideShapes Go.ChangeAt Go.WideMaps Go.WideElems Go.RowKit
theorem cm{a b:Bool}(a9:a=true)(aB:b=true):(a&&b)=true:=by rw[a9,aB];rfl
theorem asO:(Rows.evalStepsRow.wf (OpenSpec.ofChange Rows.evalStepsSpec))=true:=by kernel_rfl
theorem asP:(Tryz.f6.params.all (Tryz.prog.readableRec ·))=true:=by kernel_rfl
theorem asQ:(namedTie Tryz.prog Rows.evalStepsRow.named Rows.evalStepsSpec.vars)=true:=by kernel_rfl
theorem asR:((Rows.evalStepsRow.stops==[]))=true:=by kernel_rfl
theorem asS:((Tryz.prog.stops==[]))=true:=by kernel_rfl
theorem asT:((Rows.evalStepsRow.knobs==[]))=true:=by kernel_rfl
theorem asU:((Tryz.prog.stopKnobs==[]))=true:=by kernel_rfl
theorem asV:((Rows.evalStepsRow.maps==(Tryz.f6.params.toList++Rows.evalStepsSpec.plain.varTypes Tryz.prog).any (Tryz.prog.mapsRec ·)))=true:=by kernel_rfl
theorem asW:((Rows.evalStepsRow.ifaces==(Tryz.f6.params.toList++Rows.evalStepsSpec.plain.varTypes Tryz.prog).any (Tryz.prog.ifacesRec ·)))=true:=by kernel_rfl
theorem asX:((Rows.evalStepsRow.mapsOut==Tryz.prog.mapsAmong Tryz.f6.resultTypes.toList))=true:=by kernel_rfl
theorem asY:((Rows.evalStepsRow.loops==(Tryz.f6.params.toList++Rows.evalStepsSpec.plain.varTypes Tryz.prog).any (Tryz.prog.loopsFrom ·)))=true:=by kernel_rfl
theorem asZ:((Rows.evalStepsRow.wideKeys==(Tryz.f6.params.toList++Rows.evalStepsSpec.plain.varTypes Tryz.prog++Tryz.f6.resultTypes.toList).any (Tryz.prog.wideKeysFrom ·)))=true:=by kernel_rfl
theorem as0:(Rows.evalStepsSpec.vars.all (Tryz.prog.varReadable ·))=true:=by kernel_rfl
theorem as1:(Tryz.f6.resultTypes.all (λt=>Tryz.prog.readableRec t&&decide (t<Tryz.prog.types.size)))=true:=by kernel_rfl
theorem as2:((Rows.evalStepsRow.ifacesOut==Tryz.f6.resultTypes.toList.any (Tryz.prog.ifacesRec ·)))=true:=by kernel_rfl
theorem as3:((Rows.evalStepsRow.loopsOut==Tryz.f6.resultTypes.toList.any (Tryz.prog.loopsFrom ·)))=true:=by kernel_rfl
theorem as4:((Rows.evalStepsRow.plainKeys==Tryz.prog.plainKeys))=true:=by kernel_rfl
theorem as5:(Rows.evalStepsRow.shortTexts.isNone)=true:=by kernel_rfl
theorem as6:((Rows.evalStepsRow.lifted==Tryz.prog.liftsFinal))=true:=by kernel_rfl
theorem as7:((Tryz.prog.make==some Rows.evalStepsRow.make))=true:=by kernel_rfl
theorem as8:((Rows.evalStepsRow.kinds==(if Rows.evalStepsRow.domain.isEmpty then []else Tryz.f6.params.toList.map λt=>match Tryz.prog.underlying t with|some (.int k)=>some k|_=>none)))=true:=by kernel_rfl
theorem as9:((Rows.evalStepsRow.pinned==Rows.evalStepsRow.pinnedBy))=true:=by kernel_rfl
theorem ata:((Rows.evalStepsRow.veiled==(Tryz.f6.params.toList++Rows.evalStepsSpec.plain.varTypes Tryz.prog++Tryz.f6.resultTypes.toList).any (Tryz.prog.veiledRec ·)))=true:=by kernel_rfl
theorem atb:(Rows.evalStepsRow.veiledFits Tryz.prog Tryz.f6.params.toList (Tryz.f6.params.toList++Rows.evalStepsSpec.plain.varTypes Tryz.prog++Tryz.f6.resultTypes.toList))=true:=by kernel_rfl
set_option maxRecDepth 100000 in
theorem atc:joinedFacts Tryz.pinned.checked.prog 6 Tryz.f6 Rows.evalStepsSpec Rows.evalStepsRow=true:=
 cm (cm (cm (cm (cm (cm (cm (cm (cm (cm (cm (cm (cm (cm (cm (cm (cm (cm (cm (cm (cm (cm (cm (cm (cm (cm (cm (cm (cm (cm (cm asO HL) HM) asP) asQ) asR) asS) asT) asU) asK) asL) asM) asN) asV) asW) asX) asY) asZ) as0) as1) as2) as3) as4) as5) HN) HO) as6) as7) as8) as9) ata) atb
set_option maxRecDepth 100000 in
theorem atd:Rows.EvalStepsSaid:=
 OpenClaim.holds_of_wide 6 Tryz.f6 rfl rfl rfl rfl rfl rfl rfl ⟨rfl,rfl,rfl,rfl,rfl⟩ rfl rfl rfl rfl rfl (by kernel_rfl) Tryz.func6 atc
  (of_decide_eq_true (by kernel_rfl)) (by unfold Func.isWrapper;first|(rw[if_pos (by decide+kernel)];kernel_rfl)|(rw[if_neg (by decide+kernel)];exact⟨rfl,rfl⟩))
  (λos started H enc _=>are os started H enc)
end Go.Proofs.YtgfggdcbhjhegaaGreatDoor

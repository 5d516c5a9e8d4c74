/-
  The given statement EvalCallsCardSaid: the row
-/
import Derived.Test.YtgfggdcbhjhegaaGreatDoorZj0
import Derived.Test.YtgfggdcbhjhegaaGreatDoorZja5
import Derived.Test.YtgfggdcbhjhegaaGreatDoorZjb5
import Derived.Test.YtgfggdcbhjhegaaGreatDoorZc5
set_option linter.all false
namespace Go.Proofs.YtgfggdcbhjhegaaGreatDoor
open Go Go.ChangeShapes Go.WideShapes Go.ChangeAt Go.WideMaps Go.WideElems Go.RowKit
theorem cm{a b:Bool}(a9:a=true)(aB:b=true):(a&&b)=true:=by rw[a9,aB];rfl
theorem asj:(Rows.evalCallsRow.wf (OpenSpec.ofChange Rows.evalCallsSpec))=true:=by kernel_rfl
theorem asl:(Tryz.f5.params.all (Tryz.prog.readableRec ·))=true:=by kernel_rfl
theorem asm:(namedTie Tryz.prog Rows.evalCallsRow.named Rows.evalCallsSpec.vars)=true:=by kernel_rfl
theorem asn:((Rows.evalCallsRow.stops==[]))=true:=by kernel_rfl
theorem aso:((Tryz.prog.stops==[]))=true:=by kernel_rfl
theorem asp:((Rows.evalCallsRow.knobs==[]))=true:=by kernel_rfl
theorem asq:((Tryz.prog.stopKnobs==[]))=true:=by kernel_rfl
theorem asr:((Rows.evalCallsRow.maps==(Tryz.f5.params.toList++Rows.evalCallsSpec.plain.varTypes Tryz.prog).any (Tryz.prog.mapsRec ·)))=true:=by kernel_rfl
theorem ass:((Rows.evalCallsRow.ifaces==(Tryz.f5.params.toList++Rows.evalCallsSpec.plain.varTypes Tryz.prog).any (Tryz.prog.ifacesRec ·)))=true:=by kernel_rfl
theorem ast:((Rows.evalCallsRow.mapsOut==Tryz.prog.mapsAmong Tryz.f5.resultTypes.toList))=true:=by kernel_rfl
theorem asu:((Rows.evalCallsRow.loops==(Tryz.f5.params.toList++Rows.evalCallsSpec.plain.varTypes Tryz.prog).any (Tryz.prog.loopsFrom ·)))=true:=by kernel_rfl
theorem asv:((Rows.evalCallsRow.wideKeys==(Tryz.f5.params.toList++Rows.evalCallsSpec.plain.varTypes Tryz.prog++Tryz.f5.resultTypes.toList).any (Tryz.prog.wideKeysFrom ·)))=true:=by kernel_rfl
theorem asw:(Rows.evalCallsSpec.vars.all (Tryz.prog.varReadable ·))=true:=by kernel_rfl
theorem asx:(Tryz.f5.resultTypes.all (λt=>Tryz.prog.readableRec t&&decide (t<Tryz.prog.types.size)))=true:=by kernel_rfl
theorem asy:((Rows.evalCallsRow.ifacesOut==Tryz.f5.resultTypes.toList.any (Tryz.prog.ifacesRec ·)))=true:=by kernel_rfl
theorem asz:((Rows.evalCallsRow.loopsOut==Tryz.f5.resultTypes.toList.any (Tryz.prog.loopsFrom ·)))=true:=by kernel_rfl
theorem asA:((Rows.evalCallsRow.plainKeys==Tryz.prog.plainKeys))=true:=by kernel_rfl
theorem asB:(Rows.evalCallsRow.shortTexts.isNone)=true:=by kernel_rfl
theorem asC:((Rows.evalCallsRow.lifted==Tryz.prog.liftsFinal))=true:=by kernel_rfl
theorem asD:((Tryz.prog.make==some Rows.evalCallsRow.make))=true:=by kernel_rfl
theorem asE:((Rows.evalCallsRow.kinds==(if Rows.evalCallsRow.domain.isEmpty then []else Tryz.f5.params.toList.map λt=>match Tryz.prog.underlying t with|some (.int k)=>some k|_=>none)))=true:=by kernel_rfl
theorem asF:((Rows.evalCallsRow.pinned==Rows.evalCallsRow.pinnedBy))=true:=by kernel_rfl
theorem asG:((Rows.evalCallsRow.veiled==(Tryz.f5.params.toList++Rows.evalCallsSpec.plain.varTypes Tryz.prog++Tryz.f5.resultTypes.toList).any (Tryz.prog.veiledRec ·)))=true:=by kernel_rfl
theorem asH:(Rows.evalCallsRow.veiledFits Tryz.prog Tryz.f5.params.toList (Tryz.f5.params.toList++Rows.evalCallsSpec.plain.varTypes Tryz.prog++Tryz.f5.resultTypes.toList))=true:=by kernel_rfl
set_option maxRecDepth 100000 in
theorem asI:joinedFacts Tryz.pinned.checked.prog 5 Tryz.f5 Rows.evalCallsSpec Rows.evalCallsRow=true:=
 cm (cm (cm (cm (cm (cm (cm (cm (cm (cm (cm (cm (cm (cm (cm (cm (cm (cm (cm (cm (cm (cm (cm (cm (cm (cm (cm (cm (cm (cm (cm asj HL) HM) asl) asm) asn) aso) asp) asq) asf) asg) ash) asi) asr) ass) ast) asu) asv) asw) asx) asy) asz) asA) asB) HN) HO) asC) asD) asE) asF) asG) asH
set_option maxRecDepth 100000 in
theorem asJ:Rows.EvalCallsSaid:=
 OpenClaim.holds_of_wide 5 Tryz.f5 rfl rfl rfl rfl rfl rfl rfl ⟨rfl,rfl,rfl,rfl,rfl⟩ rfl rfl rfl rfl rfl (by kernel_rfl) Tryz.func5 asI
  (of_decide_eq_true (by kernel_rfl)) (by unfold Func.isWrapper;first|(rw[if_pos (by decide+kernel)];kernel_rfl)|(rw[if_neg (by decide+kernel)];exact⟨rfl,rfl⟩))
  (λos started H enc _=>arc os started H enc)
end Go.Proofs.YtgfggdcbhjhegaaGreatDoor

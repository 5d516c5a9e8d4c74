/-
  The given statement EvalExprsCardSaid: the row
-/
import Derived.Test.YtgfggdcbhjhegaaGreatDoorZj0
import Derived.Test.YtgfggdcbhjhegaaGreatDoorZja7
import Derived.Test.YtgfggdcbhjhegaaGreatDoorZjb7
import Derived.Test.YtgfggdcbhjhegaaGreatDoorZc7
set_option linter.all false
namespace Go.Proofs.YtgfggdcbhjhegaaGreatDoor
open Go Go.ChangeShapes Go.WideShapes Go.ChangeAt Go.WideMaps Go.WideElems Go.RowKit
theorem cm{a b:Bool}(a9:a=true)(aB:b=true):(a&&b)=true:=by rw[a9,aB];rfl
theorem ati:(Rows.evalExprsRow.wf (OpenSpec.ofChange Rows.evalExprsSpec))=true:=by kernel_rfl
theorem atj:(Tryz.f7.params.all (Tryz.prog.readableRec ·))=true:=by kernel_rfl
theorem atk:(namedTie Tryz.prog Rows.evalExprsRow.named Rows.evalExprsSpec.vars)=true:=by kernel_rfl
theorem atl:((Rows.evalExprsRow.stops==[]))=true:=by kernel_rfl
theorem atm:((Tryz.prog.stops==[]))=true:=by kernel_rfl
theorem atn:((Rows.evalExprsRow.knobs==[]))=true:=by kernel_rfl
theorem ato:((Tryz.prog.stopKnobs==[]))=true:=by kernel_rfl
theorem atp:((Rows.evalExprsRow.maps==(Tryz.f7.params.toList++Rows.evalExprsSpec.plain.varTypes Tryz.prog).any (Tryz.prog.mapsRec ·)))=true:=by kernel_rfl
theorem atq:((Rows.evalExprsRow.ifaces==(Tryz.f7.params.toList++Rows.evalExprsSpec.plain.varTypes Tryz.prog).any (Tryz.prog.ifacesRec ·)))=true:=by kernel_rfl
theorem atr:((Rows.evalExprsRow.mapsOut==Tryz.prog.mapsAmong Tryz.f7.resultTypes.toList))=true:=by kernel_rfl
theorem ats:((Rows.evalExprsRow.loops==(Tryz.f7.params.toList++Rows.evalExprsSpec.plain.varTypes Tryz.prog).any (Tryz.prog.loopsFrom ·)))=true:=by kernel_rfl
theorem att:((Rows.evalExprsRow.wideKeys==(Tryz.f7.params.toList++Rows.evalExprsSpec.plain.varTypes Tryz.prog++Tryz.f7.resultTypes.toList).any (Tryz.prog.wideKeysFrom ·)))=true:=by kernel_rfl
theorem atu:(Rows.evalExprsSpec.vars.all (Tryz.prog.varReadable ·))=true:=by kernel_rfl
theorem atv:(Tryz.f7.resultTypes.all (λt=>Tryz.prog.readableRec t&&decide (t<Tryz.prog.types.size)))=true:=by kernel_rfl
theorem atw:((Rows.evalExprsRow.ifacesOut==Tryz.f7.resultTypes.toList.any (Tryz.prog.ifacesRec ·)))=true:=by kernel_rfl
theorem atx:((Rows.evalExprsRow.loopsOut==Tryz.f7.resultTypes.toList.any (Tryz.prog.loopsFrom ·)))=true:=by kernel_rfl
theorem aty:((Rows.evalExprsRow.plainKeys==Tryz.prog.plainKeys))=true:=by kernel_rfl
theorem atz:(Rows.evalExprsRow.shortTexts.isNone)=true:=by kernel_rfl
theorem atA:((Rows.evalExprsRow.lifted==Tryz.prog.liftsFinal))=true:=by kernel_rfl
theorem atB:((Tryz.prog.make==some Rows.evalExprsRow.make))=true:=by kernel_rfl
theorem atC:((Rows.evalExprsRow.kinds==(if Rows.evalExprsRow.domain.isEmpty then []else Tryz.f7.params.toList.map λt=>match Tryz.prog.underlying t with|some (.int k)=>some k|_=>none)))=true:=by kernel_rfl
theorem atD:((Rows.evalExprsRow.pinned==Rows.evalExprsRow.pinnedBy))=true:=by kernel_rfl
theorem atE:((Rows.evalExprsRow.veiled==(Tryz.f7.params.toList++Rows.evalExprsSpec.plain.varTypes Tryz.prog++Tryz.f7.resultTypes.toList).any (Tryz.prog.veiledRec ·)))=true:=by kernel_rfl
theorem atF:(Rows.evalExprsRow.veiledFits Tryz.prog Tryz.f7.params.toList (Tryz.f7.params.toList++Rows.evalExprsSpec.plain.varTypes Tryz.prog++Tryz.f7.resultTypes.toList))=true:=by kernel_rfl
set_option maxRecDepth 100000 in
theorem atG:joinedFacts Tryz.pinned.checked.prog 7 Tryz.f7 Rows.evalExprsSpec Rows.evalExprsRow=true:=
 cm (cm (cm (cm (cm (cm (cm (cm (cm (cm (cm (cm (cm (cm (cm (cm (cm (cm (cm (cm (cm (cm (cm (cm (cm (cm (cm (cm (cm (cm (cm ati HL) HM) atj) atk) atl) atm) atn) ato) ate) atf) atg) ath) atp) atq) atr) ats) att) atu) atv) atw) atx) aty) atz) HN) HO) atA) atB) atC) atD) atE) atF
set_option maxRecDepth 100000 in
theorem atH:Rows.EvalExprsSaid:=
 OpenClaim.holds_of_wide 7 Tryz.f7 rfl rfl rfl rfl rfl rfl rfl ⟨rfl,rfl,rfl,rfl,rfl⟩ rfl rfl rfl rfl rfl (by kernel_rfl) Tryz.func7 atG
  (of_decide_eq_true (by kernel_rfl)) (by unfold Func.isWrapper;first|(rw[if_pos (by decide+kernel)];kernel_rfl)|(rw[if_neg (by decide+kernel)];exact⟨rfl,rfl⟩))
  (λos started H enc _=>arf os started H enc)
end Go.Proofs.YtgfggdcbhjhegaaGreatDoor

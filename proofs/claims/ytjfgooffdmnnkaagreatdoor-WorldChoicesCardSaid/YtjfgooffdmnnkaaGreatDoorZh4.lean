/- The claim. -/
import Derived.Test.YtjfgooffdmnnkaaGreatDoorZj0
import Derived.Test.YtjfgooffdmnnkaaGreatDoorZja4
import Derived.Test.YtjfgooffdmnnkaaGreatDoorZjb4
import Derived.Test.YtjfgooffdmnnkaaGreatDoorZc4
set_option linter.all false
namespace Go.Proofs.YtjfgooffdmnnkaaGreatDoor
open Rows renaming worldChoicesRow->R,worldChoicesSpec->S
open Go Go.ChangeShapes Go.WideShapes Go.ChangeAt Go.WideMaps Go.WideElems Go.RowKit
theorem cj{a b:Bool}(a4:a=true)(aF:b=true):(a&&b)=true:=by rw[a4,aF];rfl
theorem awN:(R.wf (OpenSpec.ofChange S))=true:=by kernel_rfl
theorem awO:(Tryz.f4.params.all (Tryz.prog.readableRec ·))=true:=by kernel_rfl
theorem awP:(namedTie Tryz.prog R.named S.vars)=true:=by kernel_rfl
theorem awQ:(R.stops==[])=true:=by kernel_rfl
theorem awR:(Tryz.prog.stops==[])=true:=by kernel_rfl
theorem awS:(R.knobs==[])=true:=by kernel_rfl
theorem awT:(Tryz.prog.stopKnobs==[])=true:=by kernel_rfl
theorem awU:(R.maps==(Tryz.f4.params.toList++S.plain.varTypes Tryz.prog).any (Tryz.prog.mapsRec ·))=true:=by kernel_rfl
theorem awV:(R.ifaces==(Tryz.f4.params.toList++S.plain.varTypes Tryz.prog).any (Tryz.prog.ifacesRec ·))=true:=by kernel_rfl
theorem awW:(R.mapsOut==Tryz.prog.mapsAmong Tryz.f4.resultTypes.toList)=true:=by kernel_rfl
theorem awX:(R.loops==(Tryz.f4.params.toList++S.plain.varTypes Tryz.prog).any (Tryz.prog.loopsFrom ·))=true:=by kernel_rfl
theorem awY:(R.wideKeys==(Tryz.f4.params.toList++S.plain.varTypes Tryz.prog++Tryz.f4.resultTypes.toList).any (Tryz.prog.wideKeysFrom ·))=true:=by kernel_rfl
theorem awZ:(S.vars.all (Tryz.prog.varReadable ·))=true:=by kernel_rfl
theorem aw0:(Tryz.f4.resultTypes.all (λt=>Tryz.prog.readableRec t&&decide (t<Tryz.prog.types.size)))=true:=by kernel_rfl
theorem aw1:(R.ifacesOut==Tryz.f4.resultTypes.toList.any (Tryz.prog.ifacesRec ·))=true:=by kernel_rfl
theorem aw2:(R.loopsOut==Tryz.f4.resultTypes.toList.any (Tryz.prog.loopsFrom ·))=true:=by kernel_rfl
theorem aw3:(R.plainKeys==Tryz.prog.plainKeys)=true:=by kernel_rfl
theorem aw4:(R.shortTexts.isNone)=true:=by kernel_rfl
theorem aw5:(R.lifted==Tryz.prog.liftsFinal)=true:=by kernel_rfl
theorem aw6:(Tryz.prog.make==some R.make)=true:=by kernel_rfl
theorem aw7:(R.kinds==(if R.domain.isEmpty then []else Tryz.f4.params.toList.map λt=>match Tryz.prog.underlying t with|some (.int k)=>some k|_=>none))=true:=by kernel_rfl
theorem aw8:(R.pinned==R.pinnedBy)=true:=by kernel_rfl
theorem aw9:(R.veiled==(Tryz.f4.params.toList++S.plain.varTypes Tryz.prog++Tryz.f4.resultTypes.toList).any (Tryz.prog.veiledRec ·))=true:=by kernel_rfl
theorem axa:(R.veiledFits Tryz.prog Tryz.f4.params.toList (Tryz.f4.params.toList++S.plain.varTypes Tryz.prog++Tryz.f4.resultTypes.toList))=true:=by kernel_rfl
set_option maxRecDepth 100000 in
theorem axb:joinedFacts Tryz.pinned.checked.prog 4 Tryz.f4 S R=true:=
 cj (cj (cj (cj (cj (cj (cj (cj (cj (cj (cj (cj (cj (cj (cj (cj (cj (cj (cj (cj (cj (cj (cj (cj (cj (cj (cj (cj (cj (cj (cj awN Iy) Iz) awO) awP) awQ) awR) awS) awT) awJ) awK) awL) awM) awU) awV) awW) awX) awY) awZ) aw0) aw1) aw2) aw3) aw4) IA) IB) aw5) aw6) aw7) aw8) aw9) axa
set_option maxRecDepth 100000 in
theorem axc:Rows.WorldChoicesSaid:=
 OpenClaim.holds_of_wide 4 Tryz.f4 rfl rfl rfl rfl rfl rfl rfl ⟨rfl,rfl,rfl,rfl,rfl⟩ rfl rfl rfl rfl rfl (by kernel_rfl) Tryz.func4 axb
  (of_decide_eq_true (by kernel_rfl)) (by unfold Func.isWrapper;first|(rw[if_pos (by decide+kernel)];kernel_rfl)|(rw[if_neg (by decide+kernel)];exact⟨rfl,rfl⟩))
  (λos started H enc _=>awI os started H enc)
end Go.Proofs.YtjfgooffdmnnkaaGreatDoor

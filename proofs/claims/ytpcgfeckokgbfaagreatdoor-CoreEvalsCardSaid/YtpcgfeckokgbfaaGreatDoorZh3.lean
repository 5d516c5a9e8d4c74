/-
  The given statement CoreEvalsCardSaid: the row
-/
import Derived.Test.YtpcgfeckokgbfaaGreatDoorZj0
import Derived.Test.YtpcgfeckokgbfaaGreatDoorZja3
import Derived.Test.YtpcgfeckokgbfaaGreatDoorZjb3
import Derived.Test.YtpcgfeckokgbfaaGreatDoorZc3
set_option linter.all false
namespace Go.Proofs.YtpcgfeckokgbfaaGreatDoor
open Go Go.ChangeShapes Go.WideShapes Go.ChangeAt Go.WideMaps Go.WideElems Go.RowKit
theorem andTT {a b : Bool} (ha : a = true) (hb : b = true) : (a && b) = true := by rw [ha, hb]; rfl
theorem jf3_0 : (Rows.coreEvalsRow.wf (OpenSpec.ofChange Rows.coreEvalsSpec)) = true := by kernel_rfl
theorem jf3_3 : (Tryz.f3.params.all (Tryz.prog.readableRec ·)) = true := by kernel_rfl
theorem jf3_4 : (namedTie Tryz.prog Rows.coreEvalsRow.named Rows.coreEvalsSpec.vars) = true := by kernel_rfl
theorem jf3_5 : ((Rows.coreEvalsRow.stops == [])) = true := by kernel_rfl
theorem jf3_6 : ((Tryz.prog.stops == [])) = true := by kernel_rfl
theorem jf3_7 : ((Rows.coreEvalsRow.knobs == [])) = true := by kernel_rfl
theorem jf3_8 : ((Tryz.prog.stopKnobs == [])) = true := by kernel_rfl
theorem jf3_13 : ((Rows.coreEvalsRow.maps == (Tryz.f3.params.toList ++ Rows.coreEvalsSpec.plain.varTypes Tryz.prog).any (Tryz.prog.mapsRec ·))) = true := by kernel_rfl
theorem jf3_14 : ((Rows.coreEvalsRow.ifaces == (Tryz.f3.params.toList ++ Rows.coreEvalsSpec.plain.varTypes Tryz.prog).any (Tryz.prog.ifacesRec ·))) = true := by kernel_rfl
theorem jf3_15 : ((Rows.coreEvalsRow.mapsOut == Tryz.prog.mapsAmong Tryz.f3.resultTypes.toList)) = true := by kernel_rfl
theorem jf3_16 : ((Rows.coreEvalsRow.loops == (Tryz.f3.params.toList ++ Rows.coreEvalsSpec.plain.varTypes Tryz.prog).any (Tryz.prog.loopsFrom ·))) = true := by kernel_rfl
theorem jf3_17 : ((Rows.coreEvalsRow.wideKeys == (Tryz.f3.params.toList ++ Rows.coreEvalsSpec.plain.varTypes Tryz.prog ++ Tryz.f3.resultTypes.toList).any (Tryz.prog.wideKeysFrom ·))) = true := by kernel_rfl
theorem jf3_18 : (Rows.coreEvalsSpec.vars.all (Tryz.prog.varReadable ·)) = true := by kernel_rfl
theorem jf3_19 : (Tryz.f3.resultTypes.all (fun t => Tryz.prog.readableRec t && decide (t < Tryz.prog.types.size))) = true := by kernel_rfl
theorem jf3_20 : ((Rows.coreEvalsRow.ifacesOut == Tryz.f3.resultTypes.toList.any (Tryz.prog.ifacesRec ·))) = true := by kernel_rfl
theorem jf3_21 : ((Rows.coreEvalsRow.loopsOut == Tryz.f3.resultTypes.toList.any (Tryz.prog.loopsFrom ·))) = true := by kernel_rfl
theorem jf3_22 : ((Rows.coreEvalsRow.plainKeys == Tryz.prog.plainKeys)) = true := by kernel_rfl
theorem jf3_23 : (Rows.coreEvalsRow.shortTexts.isNone) = true := by kernel_rfl
theorem jf3_26 : ((Rows.coreEvalsRow.lifted == Tryz.prog.liftsFinal)) = true := by kernel_rfl
theorem jf3_27 : ((Tryz.prog.make == some Rows.coreEvalsRow.make)) = true := by kernel_rfl
theorem jf3_28 : ((Rows.coreEvalsRow.kinds == (if Rows.coreEvalsRow.domain.isEmpty then [] else Tryz.f3.params.toList.map fun t => match Tryz.prog.underlying t with | some (.int k) => some k | _ => none))) = true := by kernel_rfl
theorem jf3_29 : ((Rows.coreEvalsRow.pinned == Rows.coreEvalsRow.pinnedBy)) = true := by kernel_rfl
theorem jf3_30 : ((Rows.coreEvalsRow.veiled == (Tryz.f3.params.toList ++ Rows.coreEvalsSpec.plain.varTypes Tryz.prog ++ Tryz.f3.resultTypes.toList).any (Tryz.prog.veiledRec ·))) = true := by kernel_rfl
theorem jf3_31 : (Rows.coreEvalsRow.veiledFits Tryz.prog Tryz.f3.params.toList (Tryz.f3.params.toList ++ Rows.coreEvalsSpec.plain.varTypes Tryz.prog ++ Tryz.f3.resultTypes.toList)) = true := by kernel_rfl
set_option maxRecDepth 100000 in
theorem jf3 : joinedFacts Tryz.pinned.checked.prog 3 Tryz.f3 Rows.coreEvalsSpec Rows.coreEvalsRow = true :=
  andTT (andTT (andTT (andTT (andTT (andTT (andTT (andTT (andTT (andTT (andTT (andTT (andTT (andTT (andTT (andTT (andTT (andTT (andTT (andTT (andTT (andTT (andTT (andTT (andTT (andTT (andTT (andTT (andTT (andTT (andTT jf3_0 jf0_1) jf0_2) jf3_3) jf3_4) jf3_5) jf3_6) jf3_7) jf3_8) jf3_9) jf3_10) jf3_11) jf3_12) jf3_13) jf3_14) jf3_15) jf3_16) jf3_17) jf3_18) jf3_19) jf3_20) jf3_21) jf3_22) jf3_23) jf0_24) jf0_25) jf3_26) jf3_27) jf3_28) jf3_29) jf3_30) jf3_31
set_option maxRecDepth 100000 in
theorem coreEvals_holds : Rows.CoreEvalsSaid :=
  OpenClaim.holds_of_wide 3 Tryz.f3 rfl rfl rfl rfl rfl rfl rfl ⟨rfl, rfl, rfl, rfl, rfl⟩ rfl rfl rfl rfl rfl (by kernel_rfl) Tryz.func3 jf3
    (of_decide_eq_true (by kernel_rfl)) (by unfold Func.isWrapper; first | (rw [if_pos (by decide +kernel)]; kernel_rfl) | (rw [if_neg (by decide +kernel)]; exact ⟨rfl, rfl⟩))
    (fun os started H enc _ => lifted os started H enc)
end Go.Proofs.YtpcgfeckokgbfaaGreatDoor

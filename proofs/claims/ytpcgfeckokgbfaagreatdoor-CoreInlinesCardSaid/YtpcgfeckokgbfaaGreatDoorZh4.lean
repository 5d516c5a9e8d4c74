/-
  The given statement CoreInlinesCardSaid: the row
-/
import Derived.Test.YtpcgfeckokgbfaaGreatDoorZj0
import Derived.Test.YtpcgfeckokgbfaaGreatDoorZja4
import Derived.Test.YtpcgfeckokgbfaaGreatDoorZjb4
import Derived.Test.YtpcgfeckokgbfaaGreatDoorZc4
set_option linter.all false
namespace Go.Proofs.YtpcgfeckokgbfaaGreatDoor
open Go Go.ChangeShapes Go.WideShapes Go.ChangeAt Go.WideMaps Go.WideElems Go.RowKit
theorem andTT {a b : Bool} (ha : a = true) (hb : b = true) : (a && b) = true := by rw [ha, hb]; rfl
theorem jf4_0 : (Rows.coreInlinesRow.wf (OpenSpec.ofChange Rows.coreInlinesSpec)) = true := by kernel_rfl
theorem jf4_3 : (Tryz.f4.params.all (Tryz.prog.readableRec ·)) = true := by kernel_rfl
theorem jf4_4 : (namedTie Tryz.prog Rows.coreInlinesRow.named Rows.coreInlinesSpec.vars) = true := by kernel_rfl
theorem jf4_5 : ((Rows.coreInlinesRow.stops == [])) = true := by kernel_rfl
theorem jf4_6 : ((Tryz.prog.stops == [])) = true := by kernel_rfl
theorem jf4_7 : ((Rows.coreInlinesRow.knobs == [])) = true := by kernel_rfl
theorem jf4_8 : ((Tryz.prog.stopKnobs == [])) = true := by kernel_rfl
theorem jf4_13 : ((Rows.coreInlinesRow.maps == (Tryz.f4.params.toList ++ Rows.coreInlinesSpec.plain.varTypes Tryz.prog).any (Tryz.prog.mapsRec ·))) = true := by kernel_rfl
theorem jf4_14 : ((Rows.coreInlinesRow.ifaces == (Tryz.f4.params.toList ++ Rows.coreInlinesSpec.plain.varTypes Tryz.prog).any (Tryz.prog.ifacesRec ·))) = true := by kernel_rfl
theorem jf4_15 : ((Rows.coreInlinesRow.mapsOut == Tryz.prog.mapsAmong Tryz.f4.resultTypes.toList)) = true := by kernel_rfl
theorem jf4_16 : ((Rows.coreInlinesRow.loops == (Tryz.f4.params.toList ++ Rows.coreInlinesSpec.plain.varTypes Tryz.prog).any (Tryz.prog.loopsFrom ·))) = true := by kernel_rfl
theorem jf4_17 : ((Rows.coreInlinesRow.wideKeys == (Tryz.f4.params.toList ++ Rows.coreInlinesSpec.plain.varTypes Tryz.prog ++ Tryz.f4.resultTypes.toList).any (Tryz.prog.wideKeysFrom ·))) = true := by kernel_rfl
theorem jf4_18 : (Rows.coreInlinesSpec.vars.all (Tryz.prog.varReadable ·)) = true := by kernel_rfl
theorem jf4_19 : (Tryz.f4.resultTypes.all (fun t => Tryz.prog.readableRec t && decide (t < Tryz.prog.types.size))) = true := by kernel_rfl
theorem jf4_20 : ((Rows.coreInlinesRow.ifacesOut == Tryz.f4.resultTypes.toList.any (Tryz.prog.ifacesRec ·))) = true := by kernel_rfl
theorem jf4_21 : ((Rows.coreInlinesRow.loopsOut == Tryz.f4.resultTypes.toList.any (Tryz.prog.loopsFrom ·))) = true := by kernel_rfl
theorem jf4_22 : ((Rows.coreInlinesRow.plainKeys == Tryz.prog.plainKeys)) = true := by kernel_rfl
theorem jf4_23 : (Rows.coreInlinesRow.shortTexts.isNone) = true := by kernel_rfl
theorem jf4_26 : ((Rows.coreInlinesRow.lifted == Tryz.prog.liftsFinal)) = true := by kernel_rfl
theorem jf4_27 : ((Tryz.prog.make == some Rows.coreInlinesRow.make)) = true := by kernel_rfl
theorem jf4_28 : ((Rows.coreInlinesRow.kinds == (if Rows.coreInlinesRow.domain.isEmpty then [] else Tryz.f4.params.toList.map fun t => match Tryz.prog.underlying t with | some (.int k) => some k | _ => none))) = true := by kernel_rfl
theorem jf4_29 : ((Rows.coreInlinesRow.pinned == Rows.coreInlinesRow.pinnedBy)) = true := by kernel_rfl
theorem jf4_30 : ((Rows.coreInlinesRow.veiled == (Tryz.f4.params.toList ++ Rows.coreInlinesSpec.plain.varTypes Tryz.prog ++ Tryz.f4.resultTypes.toList).any (Tryz.prog.veiledRec ·))) = true := by kernel_rfl
theorem jf4_31 : (Rows.coreInlinesRow.veiledFits Tryz.prog Tryz.f4.params.toList (Tryz.f4.params.toList ++ Rows.coreInlinesSpec.plain.varTypes Tryz.prog ++ Tryz.f4.resultTypes.toList)) = true := by kernel_rfl
set_option maxRecDepth 100000 in
theorem jf4 : joinedFacts Tryz.pinned.checked.prog 4 Tryz.f4 Rows.coreInlinesSpec Rows.coreInlinesRow = true :=
  andTT (andTT (andTT (andTT (andTT (andTT (andTT (andTT (andTT (andTT (andTT (andTT (andTT (andTT (andTT (andTT (andTT (andTT (andTT (andTT (andTT (andTT (andTT (andTT (andTT (andTT (andTT (andTT (andTT (andTT (andTT jf4_0 jf0_1) jf0_2) jf4_3) jf4_4) jf4_5) jf4_6) jf4_7) jf4_8) jf4_9) jf4_10) jf4_11) jf4_12) jf4_13) jf4_14) jf4_15) jf4_16) jf4_17) jf4_18) jf4_19) jf4_20) jf4_21) jf4_22) jf4_23) jf0_24) jf0_25) jf4_26) jf4_27) jf4_28) jf4_29) jf4_30) jf4_31
set_option maxRecDepth 100000 in
theorem coreInlines_holds : Rows.CoreInlinesSaid :=
  OpenClaim.holds_of_wide 4 Tryz.f4 rfl rfl rfl rfl rfl rfl rfl ⟨rfl, rfl, rfl, rfl, rfl⟩ rfl rfl rfl rfl rfl (by kernel_rfl) Tryz.func4 jf4
    (of_decide_eq_true (by kernel_rfl)) (by unfold Func.isWrapper; first | (rw [if_pos (by decide +kernel)]; kernel_rfl) | (rw [if_neg (by decide +kernel)]; exact ⟨rfl, rfl⟩))
    (fun os started H enc _ => lifted4 os started H enc)
end Go.Proofs.YtpcgfeckokgbfaaGreatDoor

/-
  The given statement CoreEarlierCardSaid: the row
-/
import Derived.Test.YtpcgfeckokgbfaaGreatDoorZj0
import Derived.Test.YtpcgfeckokgbfaaGreatDoorZja5
import Derived.Test.YtpcgfeckokgbfaaGreatDoorZjb5
import Derived.Test.YtpcgfeckokgbfaaGreatDoorZc5
set_option linter.all false
namespace Go.Proofs.YtpcgfeckokgbfaaGreatDoor
open Go Go.ChangeShapes Go.WideShapes Go.ChangeAt Go.WideMaps Go.WideElems Go.RowKit
theorem andTT {a b : Bool} (ha : a = true) (hb : b = true) : (a && b) = true := by rw [ha, hb]; rfl
theorem jf5_0 : (Rows.coreEarlierRow.wf (OpenSpec.ofChange Rows.coreEarlierSpec)) = true := by kernel_rfl
theorem jf5_3 : (Tryz.f5.params.all (Tryz.prog.readableRec ·)) = true := by kernel_rfl
theorem jf5_4 : (namedTie Tryz.prog Rows.coreEarlierRow.named Rows.coreEarlierSpec.vars) = true := by kernel_rfl
theorem jf5_5 : ((Rows.coreEarlierRow.stops == [])) = true := by kernel_rfl
theorem jf5_6 : ((Tryz.prog.stops == [])) = true := by kernel_rfl
theorem jf5_7 : ((Rows.coreEarlierRow.knobs == [])) = true := by kernel_rfl
theorem jf5_8 : ((Tryz.prog.stopKnobs == [])) = true := by kernel_rfl
theorem jf5_13 : ((Rows.coreEarlierRow.maps == (Tryz.f5.params.toList ++ Rows.coreEarlierSpec.plain.varTypes Tryz.prog).any (Tryz.prog.mapsRec ·))) = true := by kernel_rfl
theorem jf5_14 : ((Rows.coreEarlierRow.ifaces == (Tryz.f5.params.toList ++ Rows.coreEarlierSpec.plain.varTypes Tryz.prog).any (Tryz.prog.ifacesRec ·))) = true := by kernel_rfl
theorem jf5_15 : ((Rows.coreEarlierRow.mapsOut == Tryz.prog.mapsAmong Tryz.f5.resultTypes.toList)) = true := by kernel_rfl
theorem jf5_16 : ((Rows.coreEarlierRow.loops == (Tryz.f5.params.toList ++ Rows.coreEarlierSpec.plain.varTypes Tryz.prog).any (Tryz.prog.loopsFrom ·))) = true := by kernel_rfl
theorem jf5_17 : ((Rows.coreEarlierRow.wideKeys == (Tryz.f5.params.toList ++ Rows.coreEarlierSpec.plain.varTypes Tryz.prog ++ Tryz.f5.resultTypes.toList).any (Tryz.prog.wideKeysFrom ·))) = true := by kernel_rfl
theorem jf5_18 : (Rows.coreEarlierSpec.vars.all (Tryz.prog.varReadable ·)) = true := by kernel_rfl
theorem jf5_19 : (Tryz.f5.resultTypes.all (fun t => Tryz.prog.readableRec t && decide (t < Tryz.prog.types.size))) = true := by kernel_rfl
theorem jf5_20 : ((Rows.coreEarlierRow.ifacesOut == Tryz.f5.resultTypes.toList.any (Tryz.prog.ifacesRec ·))) = true := by kernel_rfl
theorem jf5_21 : ((Rows.coreEarlierRow.loopsOut == Tryz.f5.resultTypes.toList.any (Tryz.prog.loopsFrom ·))) = true := by kernel_rfl
theorem jf5_22 : ((Rows.coreEarlierRow.plainKeys == Tryz.prog.plainKeys)) = true := by kernel_rfl
theorem jf5_23 : (Rows.coreEarlierRow.shortTexts.isNone) = true := by kernel_rfl
theorem jf5_26 : ((Rows.coreEarlierRow.lifted == Tryz.prog.liftsFinal)) = true := by kernel_rfl
theorem jf5_27 : ((Tryz.prog.make == some Rows.coreEarlierRow.make)) = true := by kernel_rfl
theorem jf5_28 : ((Rows.coreEarlierRow.kinds == (if Rows.coreEarlierRow.domain.isEmpty then [] else Tryz.f5.params.toList.map fun t => match Tryz.prog.underlying t with | some (.int k) => some k | _ => none))) = true := by kernel_rfl
theorem jf5_29 : ((Rows.coreEarlierRow.pinned == Rows.coreEarlierRow.pinnedBy)) = true := by kernel_rfl
theorem jf5_30 : ((Rows.coreEarlierRow.veiled == (Tryz.f5.params.toList ++ Rows.coreEarlierSpec.plain.varTypes Tryz.prog ++ Tryz.f5.resultTypes.toList).any (Tryz.prog.veiledRec ·))) = true := by kernel_rfl
theorem jf5_31 : (Rows.coreEarlierRow.veiledFits Tryz.prog Tryz.f5.params.toList (Tryz.f5.params.toList ++ Rows.coreEarlierSpec.plain.varTypes Tryz.prog ++ Tryz.f5.resultTypes.toList)) = true := by kernel_rfl
set_option maxRecDepth 100000 in
theorem jf5 : joinedFacts Tryz.pinned.checked.prog 5 Tryz.f5 Rows.coreEarlierSpec Rows.coreEarlierRow = true :=
  andTT (andTT (andTT (andTT (andTT (andTT (andTT (andTT (andTT (andTT (andTT (andTT (andTT (andTT (andTT (andTT (andTT (andTT (andTT (andTT (andTT (andTT (andTT (andTT (andTT (andTT (andTT (andTT (andTT (andTT (andTT jf5_0 jf0_1) jf0_2) jf5_3) jf5_4) jf5_5) jf5_6) jf5_7) jf5_8) jf5_9) jf5_10) jf5_11) jf5_12) jf5_13) jf5_14) jf5_15) jf5_16) jf5_17) jf5_18) jf5_19) jf5_20) jf5_21) jf5_22) jf5_23) jf0_24) jf0_25) jf5_26) jf5_27) jf5_28) jf5_29) jf5_30) jf5_31
set_option maxRecDepth 100000 in
theorem coreEarlier_holds : Rows.CoreEarlierSaid :=
  OpenClaim.holds_of_wide 5 Tryz.f5 rfl rfl rfl rfl rfl rfl rfl ⟨rfl, rfl, rfl, rfl, rfl⟩ rfl rfl rfl rfl rfl (by kernel_rfl) Tryz.func5 jf5
    (of_decide_eq_true (by kernel_rfl)) (by unfold Func.isWrapper; first | (rw [if_pos (by decide +kernel)]; kernel_rfl) | (rw [if_neg (by decide +kernel)]; exact ⟨rfl, rfl⟩))
    (fun os started H enc _ => lifted5 os started H enc)
end Go.Proofs.YtpcgfeckokgbfaaGreatDoor

/-
  The given statement SweepStepsSaid: the law answers true for every core, and leaves it as it was. No conditions.
-/
import Derived.Test.YtphmoebiobjfhaaGreatLf
import Derived.Test.YtphmoebiobjfhaaGreatT39
import Derived.ProofKit
import Derived.Carry
set_option linter.all false
namespace Go.Proofs.YtphmoebiobjfhaaGreat
open Go Go.Mi Go.ChangeShapes Go.WideShapes Go.ChangeAt Go.RowKit Tryz Go.Proofs.Tryz
theorem Tryz.own : ownKnob prog.godebug = none := by kernel_rfl
theorem Tryz.laidOut : laidOutB prog = true := by kernel_rfl
set_option maxHeartbeats 1600000 in
set_option maxRecDepth 100000 in
theorem sweepSteps_lifted (os : Os) (started : os.Started) (H : Type) (enc : TypeId × Value → H) :
  ReturnsInHanded {} Tryz.checked os 3 .any (Rows.sweepStepsSpec.pre6 enc prog Tryz.f3 Rows.sweepStepsRow.domain false) (Rows.sweepStepsSpec.post enc prog Tryz.f3 false true false false) := by
 refine returnsInHanded_of_change (C := Tryz.checked) Tryz.own started (by kernel_rfl) func3
  (ChangeSpec.witness6 (enc := enc) (C := Tryz.checked) false ⟨#[], #[.agg #[.slice none 0 0, .slice none 0 0, .slice none 0 0]], []⟩ 8 (by kernel_rfl) (by kernel_rfl) (by kernel_rfl) (by kernel_rfl)) ?_
 intro W base args ds gs before hval0 hW hcnd _;have hval : ∀ (j : Nat) t v, Tryz.f3.params[j]? = some t → args[j]? = some v → Value.okWide prog W .any base t v := hval0;have hW' := hW;obtain ⟨p, q, hA0, hV, rfl, hfz, hnd⟩ := hW;have hA : DataW.TrodAll enc prog W 0 (fun _ => true) true Tryz.f3.params.toList args.toList ds p := hA0;rw [Tryz.params3] at hA hval;obtain ⟨v0, d0, rfl, rfl, h0⟩ := trodAll_one hA;obtain ⟨rfl, rfl⟩ := trodVars_none hV;clear hA0 hval0
 simp only [List.append_nil] at hW'
 have hlt : ∀ x ∈ p, x.block < W.heap.size := fun x hx => by simpa using hW'.lt x hx
 obtain ⟨C, hC⟩ := core_of (hval 0 26 v0 rfl rfl) h0
 refine (f3_c hC).mono fun e W' ⟨he, hB⟩ => ?_
 subst he;have hargs := Below.trod Tryz.laidOut (by kernel_rfl) (of_decide_eq_true (by kernel_rfl)) h0 hB hlt;exact ⟨_, rfl, _, _, _, [], p, [], hW', trodAll_mk1 (shut_bool underlying4 _), trodAll_mk1 hargs, rfl, hB.frame _, fun h => by cases h⟩
theorem sweepSteps_holds : Rows.SweepStepsSaid :=
 OpenClaim.holds_of_wide 3 Tryz.f3 rfl rfl rfl rfl rfl rfl rfl ⟨rfl, rfl, rfl, rfl, rfl⟩ rfl rfl rfl rfl rfl (by kernel_rfl) func3 (by kernel_rfl)
  (of_decide_eq_true (by kernel_rfl)) (by unfold Func.isWrapper; first | (rw [if_pos (by decide +kernel)]; kernel_rfl) | (rw [if_neg (by decide +kernel)]; exact ⟨rfl, rfl⟩))
  (fun os started H enc _ => sweepSteps_lifted os started H enc)
#print axioms sweepSteps_holds
end Go.Proofs.YtphmoebiobjfhaaGreat

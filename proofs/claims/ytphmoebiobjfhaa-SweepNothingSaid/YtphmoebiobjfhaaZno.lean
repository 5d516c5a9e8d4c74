/-
  The given statement SweepNothingSaid: the law answers true for all arguments, and leaves them as they were. No conditions.
-/
import Derived.Test.YtphmoebiobjfhaaLo
import Derived.Test.YtphmoebiobjfhaaT43
import Derived.ProofKit
import Derived.Carry
set_option linter.all false
namespace Go.Proofs.Ytphmoebiobjfhaa
open Go Go.Mi Go.ChangeShapes Go.WideShapes Go.ChangeAt Go.RowKit
theorem Try.own : ownKnob Try.prog.godebug = none := by kernel_rfl
theorem Try.laidOut : laidOutB Try.prog = true := by kernel_rfl
set_option maxHeartbeats 1600000 in
set_option maxRecDepth 100000 in
theorem sweepNothing_lifted (os : Os) (started : os.Started) (H : Type) (enc : TypeId × Value → H) :
  ReturnsInHanded {} Try.checked os 4 .any (Rows.sweepNothingSpec.pre6 enc Try.prog Try.f4 Rows.sweepNothingRow.domain false) (Rows.sweepNothingSpec.post enc Try.prog Try.f4 false true false false) := by
 refine returnsInHanded_of_change (C := Try.checked) Try.own started (by kernel_rfl) Try.func4
  (ChangeSpec.witness6 (enc := enc) (C := Try.checked) false ⟨#[], #[.slice none 0 0], []⟩ 8 (by kernel_rfl) (by kernel_rfl) (by kernel_rfl) (by kernel_rfl)) ?_
 intro W base args ds gs before hval0 hW hcnd _;have hval : ∀ (j : Nat) t v, Try.f4.params[j]? = some t → args[j]? = some v → Value.okWide Try.prog W .any base t v := hval0;have hW' := hW;obtain ⟨p, q, hA0, hV, rfl, hfz, hnd⟩ := hW;have hA : DataW.TrodAll enc Try.prog W 0 (fun _ => true) true Try.f4.params.toList args.toList ds p := hA0;rw [Try.params4] at hA hval;obtain ⟨v0, d0, rfl, rfl, h0⟩ := trodAll_one hA;obtain ⟨rfl, rfl⟩ := trodVars_none hV;clear hA0 hval0
 simp only [List.append_nil] at hW'
 have hlt : ∀ x ∈ p, x.block < W.heap.size := fun x hx => by simpa using hW'.lt x hx
 have h0k := h0;obtain ⟨sa, sn, sc, hsv⟩ := okWide_slice Try.underlying23 (hval 0 23 v0 rfl rfl);obtain ⟨m, hm⟩ := h0
 have hcl : v0.cells.toList = [v0] := by rw [hsv]; rfl
 rw [hcl] at hm;obtain ⟨xs, hxs, hoks⟩ := sl_ok (k := 4) (en := encQ) (ok := okQ) ⟨0, 0, 0, 0⟩ Try.underlying23 (by kernel_rfl) (fun _ => rfl) (by omega) (el_quad Try.underlying60 Try.underlying5 (by kernel_rfl) (by kernel_rfl)) (cell_of Try.underlying23 (hval 0 23 v0 rfl rfl)) hm
 refine (f4_c hxs hoks).mono fun e W' ⟨he, hB⟩ => ?_
 subst he;have a0 := Below.trod Try.laidOut (by kernel_rfl) (of_decide_eq_true (by kernel_rfl)) h0k hB hlt;exact ⟨_, rfl, _, _, _, [], p, [], hW', trodAll_mk1 (shut_bool Try.underlying4 _), trodAll_mk1 a0, rfl, hB.frame _, fun h => by cases h⟩
theorem sweepNothing_holds : Rows.SweepNothingSaid :=
 OpenClaim.holds_of_wide 4 Try.f4 rfl rfl rfl rfl rfl rfl rfl ⟨rfl, rfl, rfl, rfl, rfl⟩ rfl rfl rfl rfl rfl (by kernel_rfl) Try.func4 (by kernel_rfl)
  (of_decide_eq_true (by kernel_rfl)) (by unfold Func.isWrapper; first | (rw [if_pos (by decide +kernel)]; kernel_rfl) | (rw [if_neg (by decide +kernel)]; exact ⟨rfl, rfl⟩))
  (fun os started H enc _ => sweepNothing_lifted os started H enc)
#print axioms sweepNothing_holds
end Go.Proofs.Ytphmoebiobjfhaa

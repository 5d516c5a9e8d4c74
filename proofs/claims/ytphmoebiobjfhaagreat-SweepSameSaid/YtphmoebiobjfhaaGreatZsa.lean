/-
  The given statement SweepSameSaid: the law answers true for all arguments, and leaves them as they were. No conditions.
-/
import Derived.Test.YtphmoebiobjfhaaGreatLo
import Derived.Test.YtphmoebiobjfhaaGreatT47
import Derived.ProofKit
import Derived.Carry
set_option linter.all false
namespace Go.Proofs.YtphmoebiobjfhaaGreat
open Go Go.Mi Go.ChangeShapes Go.WideShapes Go.ChangeAt Go.RowKit
theorem Tryz.own : ownKnob Tryz.prog.godebug = none := by kernel_rfl
theorem Tryz.laidOut : laidOutB Tryz.prog = true := by kernel_rfl
set_option maxHeartbeats 1600000 in
set_option maxRecDepth 100000 in
theorem sweepSame_lifted (os : Os) (started : os.Started) (H : Type) (enc : TypeId × Value → H) :
  ReturnsInHanded {} Tryz.checked os 8 .any (Rows.sweepSameSpec.pre6 enc Tryz.prog Tryz.f8 Rows.sweepSameRow.domain false) (Rows.sweepSameSpec.post enc Tryz.prog Tryz.f8 false true false false) := by
 refine returnsInHanded_of_change (C := Tryz.checked) Tryz.own started (by kernel_rfl) Tryz.func8
  (ChangeSpec.witness6 (enc := enc) (C := Tryz.checked) false ⟨#[], #[.slice none 0 0, .slice none 0 0], []⟩ 8 (by kernel_rfl) (by kernel_rfl) (by kernel_rfl) (by kernel_rfl)) ?_
 intro W base args ds gs before hval0 hW hcnd _;have hval : ∀ (j : Nat) t v, Tryz.f8.params[j]? = some t → args[j]? = some v → Value.okWide Tryz.prog W .any base t v := hval0;have hW' := hW;obtain ⟨p, q, hA0, hV, rfl, hfz, hnd⟩ := hW;have hA : DataW.TrodAll enc Tryz.prog W 0 (fun _ => true) true Tryz.f8.params.toList args.toList ds p := hA0;rw [Tryz.params8] at hA hval;obtain ⟨v0, v1, d0, d1, p0, p1, rfl, rfl, rfl, h0, h1⟩ := trodAll_two hA;obtain ⟨rfl, rfl⟩ := trodVars_none hV;clear hA0 hval0
 simp only [List.append_nil] at hW'
 have hlt : ∀ x ∈ p0 ++ p1, x.block < W.heap.size := fun x hx => by simpa using hW'.lt x hx
 have h0k := h0;have h1k := h1;obtain ⟨sa, sn, sc, hsv⟩ := okWide_slice Tryz.underlying67 (hval 0 67 v0 rfl rfl);obtain ⟨m, hm⟩ := h0
 have hcl : v0.cells.toList = [v0] := by rw [hsv]; rfl
 rw [hcl] at hm;obtain ⟨xs, hxs, hoks⟩ := sl_ok (k := 4) (en := encQ) (ok := okQ) ⟨0, 0, 0, 0⟩ Tryz.underlying67 (by kernel_rfl) (fun _ => rfl) (by omega) (el_quad Tryz.underlying102 Tryz.underlying5 (by kernel_rfl) (by kernel_rfl)) (cell_of Tryz.underlying67 (hval 0 67 v0 rfl rfl)) hm;obtain ⟨ta, tn, tc, htv⟩ := okWide_slice Tryz.underlying57 (hval 1 57 v1 rfl rfl);obtain ⟨m1, hm1⟩ := h1
 have hcl1 : v1.cells.toList = [v1] := by rw [htv]; rfl
 rw [hcl1] at hm1;obtain ⟨ps, hpsl, hpok⟩ := sl_ok (k := 1) (en := encU) (ok := fun y => 0 ≤ y ∧ y ≤ 255) 0 Tryz.underlying57 (by kernel_rfl) (fun _ => rfl) (by omega) (el_byte Tryz.underlying5) (cell_of Tryz.underlying57 (hval 1 57 v1 rfl rfl)) hm1
 refine (f8_c hxs hoks hpsl hpok).mono fun e W' ⟨he, hB⟩ => ?_
 subst he;have a0 := Below.trod Tryz.laidOut (by kernel_rfl) (of_decide_eq_true (by kernel_rfl)) h0k hB (fun x hx => hlt x (List.mem_append_left _ hx));have a1 := Below.trod Tryz.laidOut (by kernel_rfl) (of_decide_eq_true (by kernel_rfl)) h1k hB (fun x hx => hlt x (List.mem_append_right _ hx));exact ⟨_, rfl, _, _, _, [], p0 ++ p1, [], hW', trodAll_mk1 (shut_bool Tryz.underlying4 _), trodAll_mk2 a0 a1, rfl, hB.frame _, fun h => by cases h⟩
theorem sweepSame_holds : Rows.SweepSameSaid :=
 OpenClaim.holds_of_wide 8 Tryz.f8 rfl rfl rfl rfl rfl rfl rfl ⟨rfl, rfl, rfl, rfl, rfl⟩ rfl rfl rfl rfl rfl (by kernel_rfl) Tryz.func8 (by kernel_rfl)
  (of_decide_eq_true (by kernel_rfl)) (by unfold Func.isWrapper; first | (rw [if_pos (by decide +kernel)]; kernel_rfl) | (rw [if_neg (by decide +kernel)]; exact ⟨rfl, rfl⟩))
  (fun os started H enc _ => sweepSame_lifted os started H enc)
#print axioms sweepSame_holds
end Go.Proofs.YtphmoebiobjfhaaGreat

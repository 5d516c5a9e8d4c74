/-
  The given statement SweepReplaysSaid: the law answers true for all arguments, and leaves them as they were. No conditions.
-/
import Derived.Test.YtphmoebiobjfhaaGreatLf
import Derived.Test.YtphmoebiobjfhaaGreatT37
import Derived.ProofKit
import Derived.Carry
set_option linter.all false
namespace Go.Proofs.YtphmoebiobjfhaaGreat
open Go Go.Mi Go.ChangeShapes Go.WideShapes Go.ChangeAt Go.RowKit
theorem Tryz.own : ownKnob Tryz.prog.godebug = none := by kernel_rfl
theorem Tryz.laidOut : laidOutB Tryz.prog = true := by kernel_rfl
theorem el45 {H : Type} {enc : TypeId × Value → H} {w : World} {base : Nat} {spare : Nat → Bool} {held : Bool} (n : Nat) (cs : List Value) (x : DataW H × List MemPlace) (h : DataW.trod enc Tryz.prog w base spare held n 45 cs = some x) : ∃ y : Rw, cs = encR y := by
 obtain ⟨y0, y1, m, _, hl, h0, h1⟩ := trod_struct2 Tryz.underlying45 h
 have e5 : Tryz.prog.cellsOf 5 = 1 := by kernel_rfl
 have e3 : Tryz.prog.cellsOf 3 = 1 := by kernel_rfl
 have e45 : Tryz.prog.cellsOf 45 = 2 := by kernel_rfl
 rw [e45] at hl
 simp only [e5] at h0
 simp only [e3] at h1
 obtain ⟨s, hs, _⟩ := DataW.trod_int Tryz.underlying5 h0;obtain ⟨p, hp, _⟩ := DataW.trod_int Tryz.underlying3 h1
 match cs, hl with
 | [c0, c1], _ =>
  simp only [List.drop_zero, List.take_succ_cons, List.take_zero, List.drop_succ_cons, List.cons.injEq, and_true] at hs hp
  exact ⟨⟨s, p⟩, by rw [hs, hp]; rfl⟩
set_option maxHeartbeats 1600000 in
set_option maxRecDepth 100000 in
theorem sweepReplays_lifted (os : Os) (started : os.Started) (H : Type) (enc : TypeId × Value → H) :
  ReturnsInHanded {} Tryz.checked os 4 .any (Rows.sweepReplaysSpec.pre6 enc Tryz.prog Tryz.f4 Rows.sweepReplaysRow.domain false) (Rows.sweepReplaysSpec.post enc Tryz.prog Tryz.f4 false true false false) := by
 refine returnsInHanded_of_change (C := Tryz.checked) Tryz.own started (by kernel_rfl) Tryz.func4
  (ChangeSpec.witness6 (enc := enc) (C := Tryz.checked) false ⟨#[], #[.agg #[.slice none 0 0, .slice none 0 0, .slice none 0 0], .slice none 0 0], []⟩ 8 (by kernel_rfl) (by kernel_rfl) (by kernel_rfl) (by kernel_rfl)) ?_
 intro W base args ds gs before hval0 hW hcnd _;have hval : ∀ (j : Nat) t v, Tryz.f4.params[j]? = some t → args[j]? = some v → Value.okWide Tryz.prog W .any base t v := hval0;have hW' := hW;obtain ⟨p, q, hA0, hV, rfl, hfz, hnd⟩ := hW;have hA : DataW.TrodAll enc Tryz.prog W 0 (fun _ => true) true Tryz.f4.params.toList args.toList ds p := hA0;rw [Tryz.params4] at hA hval;obtain ⟨v0, v1, d0, d1, p0, p1, rfl, rfl, rfl, h0, h1⟩ := trodAll_two hA;obtain ⟨rfl, rfl⟩ := trodVars_none hV;clear hA0 hval0
 simp only [List.append_nil] at hW'
 have hlt : ∀ x ∈ p0 ++ p1, x.block < W.heap.size := fun x hx => by simpa using hW'.lt x hx
 have h1k := h1;obtain ⟨C, hC⟩ := core_of (hval 0 26 v0 rfl rfl) h0
 have hcw : Cell.okWide Tryz.prog W .any base 30 v1 := by
  have h9 := hval 1 30 v1 rfl rfl
  simp only [Value.okWide, Tryz.underlying30] at h9
  exact h9
 obtain ⟨sa, sn, sc, hsv⟩ := okWide_slice Tryz.underlying30 (hval 1 30 v1 rfl rfl);obtain ⟨m, hm⟩ := h1
 have hcl : v1.cells.toList = [v1] := by rw [hsv]; rfl
 rw [hcl] at hm;obtain ⟨l, hl⟩ := sl_of (k := 2) (en := encR) ⟨0, 0⟩ Tryz.underlying30 (by kernel_rfl) (fun _ => rfl) (by omega) el45 hcw hm
 refine (f4_c hC hl).mono fun e W' ⟨he, hB⟩ => ?_
 subst he;have a0 := Below.trod Tryz.laidOut (by kernel_rfl) (of_decide_eq_true (by kernel_rfl)) h0 hB (fun x hx => hlt x (List.mem_append_left _ hx));have a1 := Below.trod Tryz.laidOut (by kernel_rfl) (of_decide_eq_true (by kernel_rfl)) h1k hB (fun x hx => hlt x (List.mem_append_right _ hx));exact ⟨_, rfl, _, _, _, [], p0 ++ p1, [], hW', trodAll_mk1 (shut_bool Tryz.underlying4 _), trodAll_mk2 a0 a1, rfl, hB.frame _, fun h => by cases h⟩
theorem sweepReplays_holds : Rows.SweepReplaysSaid :=
 OpenClaim.holds_of_wide 4 Tryz.f4 rfl rfl rfl rfl rfl rfl rfl ⟨rfl, rfl, rfl, rfl, rfl⟩ rfl rfl rfl rfl rfl (by kernel_rfl) Tryz.func4 (by kernel_rfl)
  (of_decide_eq_true (by kernel_rfl)) (by unfold Func.isWrapper; first | (rw [if_pos (by decide +kernel)]; kernel_rfl) | (rw [if_neg (by decide +kernel)]; exact ⟨rfl, rfl⟩))
  (fun os started H enc _ => sweepReplays_lifted os started H enc)
#print axioms sweepReplays_holds
end Go.Proofs.YtphmoebiobjfhaaGreat

/-
  The given statement WorldNamesCardSaid: the closed law answers true. No conditions.
-/
import Derived.Test.YtbfhngggbeiedaaGreatDoorK9
import Derived.Test.YtbfhngggbeiedaaGreatDoorZwa
import Derived.Test.YtbfhngggbeiedaaGreatDoorZwb
import Derived.Stop.Joined
namespace Go.Proofs.YtbfhngggbeiedaaGreatDoor
open Go Go.ChangeShapes Go.WideShapes Go.ChangeAt Go.WideMaps Go.WideElems Go.RowKit

theorem call (W : World) (h : laidMetH Tryz.prog Rows.worldNamesRow.laid W) : Calls Tryz.prog 3 #[] W fun e W' => e = .returned (.bool true) ∧ Below W.heap.size W W' := by
  have hc : Go.Dp.CE Tryz.prog 3 [] [] (.p (.v (.bool true))) [] := kn67.2.2
  refine (hc ⟨fun _ => 0, fun b => if b = 6 then 256 else 0, fun _ => .bool false⟩ W [] ⟨gl_of h, fun i o ho => by simp at ho, fun i j b ho => by simp [Go.Dp.own, Go.Dp.ownO] at ho⟩ .nil).mono fun e W' ⟨v, g', r, H', he, ⟨hr, hH⟩, hs, hv⟩ => ?_
  subst hr; subst hH
  have hv' : v = .bool true := hv.vi
  subst hv'
  refine ⟨he, hs.os, hs.tape, hs.output, hs.mo.size, fun k hk => ?_⟩
  exact (hs.blk k hk (fun i ho => by simp [Go.Dp.own, Go.Dp.ownO] at ho)).1

set_option maxRecDepth 100000 in
theorem lifted (os : Os) (started : os.Started) (H : Type) (enc : TypeId × Value → H) :
    ReturnsInHanded {} Tryz.checked os 3 .any (fun w args => (Rows.worldNamesSpec.pre enc Tryz.prog Tryz.f3 [] false w args ∧ laidMetH Tryz.prog Rows.worldNamesRow.laid w) ∧ sizedMet enc Tryz.prog Tryz.f3 (OpenSpec.ofChange Rows.worldNamesSpec) false w args)
      (Rows.worldNamesSpec.post enc Tryz.prog Tryz.f3 false true false false) := by
  refine returnsInHanded_of_change_and (C := Tryz.checked) (X := fun w _ => laidMetH Tryz.prog Rows.worldNamesRow.laid w) (fun _ _ _ hh h => h.of_heap hh) own started (by kernel_rfl) Tryz.func3
    (ChangeSpec.witness_shaped (enc := enc) (C := Tryz.checked) (os := os) (X := fun w _ => laidMetH Tryz.prog Rows.worldNamesRow.laid w) false (World.doorLaid Tryz.prog 400 os) #[] 8 rfl (World.shaped_of_RefB (by kernel_rfl) (by kernel_rfl)) (by kernel_rfl) (by kernel_rfl) (by kernel_rfl) (door_met os _)) ?_
  intro W base args ds gs before _ hW _ _ hL _
  have hW' := hW
  obtain ⟨p, q, hA0, hV, rfl, hfz, hnd⟩ := hW
  have hA : DataW.TrodAll enc Tryz.prog W 0 (fun _ => true) true Tryz.f3.params.toList args.toList ds p := hA0
  rw [Tryz.params3] at hA
  obtain ⟨rfl, rfl, rfl⟩ := trodAll_none hA
  obtain ⟨rfl, rfl⟩ := trodVars_none hV
  clear hA0
  simp only [List.append_nil] at hW'
  refine (call W hL).mono fun e W' ⟨he, hB⟩ => ?_
  subst he
  exact ⟨_, rfl, _, _, _, [], [], [], hW', trodAll_mk1 (shut_bool Tryz.underlying4 _), rfl, rfl, hB.frame _, fun h => by cases h⟩

theorem worldNames_holds : Rows.WorldNamesSaid :=
  OpenClaim.holds_of_wide 3 Tryz.f3 rfl rfl rfl rfl rfl rfl rfl ⟨rfl, rfl, rfl, rfl, rfl⟩ rfl rfl rfl rfl rfl (by kernel_rfl) Tryz.func3 (by kernel_rfl)
    (of_decide_eq_true (by kernel_rfl)) (by unfold Func.isWrapper; first | (rw [if_pos (by decide +kernel)]; kernel_rfl) | (rw [if_neg (by decide +kernel)]; exact ⟨rfl, rfl⟩))
    (fun os started H enc _ => lifted os started H enc)
#print axioms worldNames_holds
end Go.Proofs.YtbfhngggbeiedaaGreatDoor

/-
  The given statement what the condition of the rows gives: what the condition of the row gives (the table strings.asciiSpace).
-/
import Derived.Test.YtpcgfeckokgbfaaGreatDoorOp
import Derived.Test.YtpcgfeckokgbfaaGreatDoorProg
import Derived.Test.YtpcgfeckokgbfaaGreatDoorRows
import Derived.ProofKit
import Derived.LaidMore
import Derived.OpenShut
set_option linter.all false
namespace Go.Proofs.YtpcgfeckokgbfaaGreatDoor
open Go Go.ChangeShapes Go.WideShapes Go.ChangeAt Go.RowKit
theorem own : ownKnob Tryz.prog.godebug = none := by kernel_rfl
theorem gSpace : Tryz.prog.globalNamed "strings.asciiSpace" = some 0 := by kernel_rfl
theorem tSpace : (Tryz.prog.globals[0]?).map (·.type) = some 283 := by kernel_rfl
theorem spD : (Rows.laid_strings_asciiSpace : DataW Unit) = .agg ((List.range 256).map fun i => .lit (.int .u8 (cond (Nat.beq i 32 || (Nat.ble 9 i && Nat.ble i 13)) 1 0))) := by kernel_rfl
theorem laid_one {P : Program} {w : World} {n : String} {d : DataW Unit} : ∀ {l : List (String × DataW Unit)} {ps : List MemPlace}, DataW.LaidVars P w l ps → (n, d) ∈ l →
    ∃ g t cs fuel p, P.globalNamed n = some g ∧ (P.globals[g]?).map (·.type) = some t ∧ w.var? P n = some cs ∧ DataW.trod (fun _ => ()) P w 0 (fun _ => true) false fuel t cs.toList = some (d, p)
  | [], _, _, h => by cases h
  | (m, e) :: r, ps, h, hm => by
    obtain ⟨g, t, cs, fuel, p, q, h1, h2, h3, h4, h5, _⟩ := h
    rcases List.mem_cons.1 hm with e1 | h6
    · cases e1; exact ⟨g, t, cs, fuel, p, h1, h2, h3, h4⟩
    · exact laid_one h5 h6
theorem gl_of {W : World} (h : laidMetH Tryz.prog Rows.coreEvalsRow.laid W) : Go.Dp.GlA (Go.Dp.g0 W) W := by
  rw [MakeChecks.laidMetH_plain _ _ _ (by kernel_rfl)] at h
  obtain ⟨ps, hL, _, _⟩ := h
  obtain ⟨g, t, cs, fuel, p, hg, ht, hv, hd⟩ := laid_one (n := "strings.asciiSpace") (d := Rows.laid_strings_asciiSpace) hL (by
    show _ ∈ [_, _, _, _, _, _, _]
    simp only [List.mem_cons, true_or, or_true])
  obtain rfl := Option.some.inj (gSpace.symm.trans hg)
  obtain rfl := Option.some.inj (tSpace.symm.trans ht)
  obtain ⟨xs, m, rfl, hx, hlen, hn, hel⟩ := DataW.trod_array Tryz.underlying283 hd
  have c5 : Tryz.prog.cellsOf 5 = 1 := by kernel_rfl
  rw [spD] at hx
  simp only [Prod.mk.injEq, DataW.agg.injEq] at hx
  have key : ∀ j, j < 256 → W.cell? ⟨0, j, none⟩ = some (.int .u8 (cond (Nat.beq j 32 || (Nat.ble 9 j && Nat.ble j 13)) 1 0)) := fun j hj => by
    have h1 := hel j hj
    rw [c5, Nat.mul_one] at h1
    have hjx : j < xs.length := by rw [hn]; exact hj
    rw [List.getElem?_eq_getElem hjx] at h1
    obtain ⟨k, e1, e2, _⟩ := DataW.trod_int Tryz.underlying5 h1
    have h2 := congrArg (fun l : List (DataW Unit) => l[j]?) hx.1
    simp only [List.getElem?_map, List.getElem?_range hj, Option.map_some, List.getElem?_eq_getElem hjx, e2, Option.some.injEq, DataW.lit.injEq, Lit.int.injEq, true_and] at h2
    rw [World.var?_cell hg hv j, ← Array.getElem?_toList, h2]
    have h3 := congrArg (fun l : List Value => l[0]?) e1
    simpa [List.getElem?_take, List.getElem?_drop] using h3
  intro q hq
  have : q = (0, (List.range 256).map fun i => .int .u8 (cond (Nat.beq i 32 || (Nat.ble 9 i && Nat.ble i 13)) 1 0)) := by simpa [Go.Dp.GL] using hq
  subst this
  refine ⟨(Go.Dp.bsz_of (key 0 (by omega))).2, ?_, fun j u hu => ?_⟩
  · have := (Go.Dp.bsz_of (key 255 (by omega))).1
    show _ ≤ Go.Dp.bsz W 0
    simp; omega
  · have hj : j < 256 := by
      have := (List.getElem?_eq_some_iff.1 hu).1
      simpa using this
    simp only [List.getElem?_map, List.getElem?_range hj, Option.map_some, Option.some.injEq] at hu
    rw [← hu]; exact key j hj
end Go.Proofs.YtpcgfeckokgbfaaGreatDoor

/-
  The core that a law of this seat is called with, opened into plain words.
-/
import Derived.Test.YtphmoebiobjfhaaGreatLi
import Derived.Test.YtphmoebiobjfhaaGreatRows
set_option linter.all false
namespace Go.Proofs.YtphmoebiobjfhaaGreat
open Go Go.Mi Go.RowKit Go.WideShapes Tryz Go.Proofs.Tryz
section
variable {H : Type} {enc : TypeId × Value → H} {w : World} {base b0 : Nat} {spare : Nat → Bool} {held : Bool} {r : Reach}
theorem el84 (n : Nat) (cs : List Value) (x : DataW H × List MemPlace) (h : DataW.trod enc prog w base spare held n 84 cs = some x) : ∃ y : Ch, cs = encC y := by
 obtain ⟨y0, y1, y2, m, _, hl, h0, h1, h2⟩ := Go.Deep.trod_struct3 underlying84 h
 have e9 : prog.cellsOf 9 = 1 := by kernel_rfl
 have e3 : prog.cellsOf 3 = 1 := by kernel_rfl
 have e84 : prog.cellsOf 84 = 3 := by kernel_rfl
 rw [e84] at hl
 simp only [e9] at h0
 simp only [e3] at h1 h2
 obtain ⟨s, hs, _⟩ := DataW.trod_string underlying9 h0;obtain ⟨p, hp, _⟩ := DataW.trod_int underlying3 h1;obtain ⟨q, hq, _⟩ := DataW.trod_int underlying3 h2
 match cs, hl with
 | [c0, c1, c2], _ =>
  simp only [List.drop_zero, List.take_succ_cons, List.take_zero, List.drop_succ_cons, List.cons.injEq, and_true] at hs hp hq
  exact ⟨⟨s, p, q⟩, by rw [hs, hp, hq]; rfl⟩
theorem el76 (n : Nat) (cs : List Value) (x : DataW H × List MemPlace) (h : DataW.trod enc prog w base spare held n 76 cs = some x) : ∃ y : Ot, cs = encO y := by
 obtain ⟨y0, y1, y2, y3, y4, m, hl, h0, h1, h2, h3, h4⟩ := trod_struct5 underlying76 h
 have e5 : prog.cellsOf 5 = 1 := by kernel_rfl
 have e3 : prog.cellsOf 3 = 1 := by kernel_rfl
 have e76 : prog.cellsOf 76 = 5 := by kernel_rfl
 rw [e76] at hl
 simp only [e5] at h0
 simp only [e3] at h1 h2 h3 h4
 obtain ⟨s, hs, _⟩ := DataW.trod_int underlying5 h0;obtain ⟨p, hp, _⟩ := DataW.trod_int underlying3 h1;obtain ⟨q, hq, _⟩ := DataW.trod_int underlying3 h2;obtain ⟨u, hu, _⟩ := DataW.trod_int underlying3 h3;obtain ⟨t, ht, _⟩ := DataW.trod_int underlying3 h4
 match cs, hl with
 | [c0, c1, c2, c3, c4], _ =>
  simp only [List.drop_zero, List.take_succ_cons, List.take_zero, List.drop_succ_cons, List.cons.injEq, and_true] at hs hp hq hu ht
  exact ⟨⟨s, p, q, u, t⟩, by rw [hs, hp, hq, hu, ht]; rfl⟩
theorem el3 (n : Nat) (cs : List Value) (x : DataW H × List MemPlace) (h : DataW.trod enc prog w base spare held n 3 cs = some x) : ∃ y : Int, cs = encI y := by
 obtain ⟨s, hs, _⟩ := DataW.trod_int underlying3 h;exact ⟨s, hs⟩
set_option maxRecDepth 20000 in
/-- what a law's core reads as -/
theorem core_of {v : Value} {d : DataW H} {p : List MemPlace} (hv : Value.okWide prog w r b0 26 v) (h : DataW.Trod enc prog w base spare held 26 v d p) : ∃ C, CoS w v C := by
 obtain ⟨cs, hcs, ts, hts, _, hc⟩ := okWide_row underlying26 hv
 have c26 : prog.cellsOf 26 = 3 := by kernel_rfl
 have e26 : prog.cellTypes prog.depth 26 = some [22, 23, 24] := by kernel_rfl
 rw [e26] at hts;cases hts;obtain ⟨v0, v1, v2, y0, y1, y2, n, hvv, _, _, h0, h1, h2⟩ := Go.Joins.open_agg3 underlying26 (by kernel_rfl) c26 hv h;subst hvv;cases hcs;obtain ⟨u0, hu0, c0⟩ := hc 0 v0 rfl;obtain ⟨u1, hu1, c1⟩ := hc 1 v1 rfl;obtain ⟨u2, hu2, c2⟩ := hc 2 v2 rfl
 have e0 : (22 : Nat) = u0 := by simpa using hu0
 have e1 : (23 : Nat) = u1 := by simpa using hu1
 have e2 : (24 : Nat) = u2 := by simpa using hu2
 subst e0 e1 e2;obtain ⟨xs, hx⟩ := sl_of (k := 3) (en := encC) ⟨.empty, 0, 0⟩ underlying22 (by kernel_rfl) (fun _ => rfl) (by omega) el84 c0 h0;obtain ⟨ys, hy⟩ := sl_of (k := 5) (en := encO) ⟨0, 0, 0, 0, 0⟩ underlying23 (by kernel_rfl) (fun _ => rfl) (by omega) el76 c1 h1;obtain ⟨zs, hz⟩ := sl_of (k := 1) (en := encI) 0 underlying24 (by kernel_rfl) (fun _ => rfl) (by omega) el3 c2 h2;exact ⟨⟨xs, ys, zs⟩, ⟨v0, v1, v2, rfl, hx, hy, hz⟩⟩
end
end Go.Proofs.YtphmoebiobjfhaaGreat

/- The arguments of the law CoreInlines, opened into deep data: a template. -/
import Derived.Test.YtpcgfeckokgbfaaGreatDoorZo
set_option linter.all false
set_option maxRecDepth 100000
namespace Go.Proofs.YtpcgfeckokgbfaaGreatDoor
open Go Go.Mi Go.RowKit Go.WideShapes Go.Dp
section
variable {H : Type} {enc : TypeId × Value → H} {w : World} {base b0 : Nat} {spare : Nat → Bool} {held : Bool} {r : Reach}
theorem tmpl_of {v : Value} {d : DataW H} {p : List MemPlace} (hv : Value.okWide Tryz.prog w r b0 42 v) (h : DataW.Trod enc Tryz.prog w base spare held 42 v d p) : ∃ C : ApiTemplate, RV (g0 w) w [] (.agg ((eApiTemplate C).map .p)) v := by
  simp only [Value.okWide, Tryz.underlying42] at hv
  obtain ⟨cs, hcs, _, ts, hts, _, hc⟩ := hv
  have c42 : Tryz.prog.cellsOf 42 = 5 := by kernel_rfl
  have c26 : Tryz.prog.cellsOf 26 = 3 := by kernel_rfl
  have e42 : Tryz.prog.cellTypes Tryz.prog.depth 42 = some [9, 3, 22, 23, 24] := by kernel_rfl
  rw [e42] at hts
  cases hts
  subst hcs
  obtain ⟨m, hm⟩ := h
  obtain ⟨xs, m', _, _, hl, hlen, hf⟩ := DataW.trod_struct Tryz.underlying42 hm
  obtain ⟨_, h0⟩ := fld hlen hf 0 9 0 1 rfl (by kernel_rfl)
  obtain ⟨_, h1⟩ := fld hlen hf 1 3 1 1 rfl (by kernel_rfl)
  obtain ⟨_, h2⟩ := fld hlen hf 2 26 2 3 rfl (by kernel_rfl)
  have hcl : (Value.agg cs).cells.toList = cs.toList := rfl
  rw [hcl] at hl h0 h1 h2
  rw [c42] at hl
  obtain ⟨l⟩ := cs
  match l, hl with
  | [v0, v1, v2, v3, v4], _ =>
    obtain ⟨s0, k0, _⟩ := DataW.trod_string Tryz.underlying9 h0
    obtain ⟨s1, k1, _⟩ := DataW.trod_int Tryz.underlying3 h1
    simp only [List.drop_zero, List.take_succ_cons, List.take_zero, List.drop_succ_cons, List.cons.injEq, and_true] at k0 k1 h2
    subst k0 k1
    obtain ⟨ys, m2, _, _, hl2, hlen2, hf2⟩ := DataW.trod_struct Tryz.underlying26 h2
    obtain ⟨_, h3⟩ := fld hlen2 hf2 0 22 0 1 rfl (by kernel_rfl)
    obtain ⟨_, h4⟩ := fld hlen2 hf2 1 23 1 1 rfl (by kernel_rfl)
    obtain ⟨_, h5⟩ := fld hlen2 hf2 2 24 2 1 rfl (by kernel_rfl)
    simp only [List.drop_zero, List.take_succ_cons, List.take_zero, List.drop_succ_cons] at h3 h4 h5
    obtain ⟨u0, hu0, c0⟩ := hc 2 v2 rfl
    obtain ⟨u1, hu1, c1⟩ := hc 3 v3 rfl
    obtain ⟨u2, hu2, c2⟩ := hc 4 v4 rfl
    have e0 : (22 : Nat) = u0 := by simpa using hu0
    have e1 : (23 : Nat) = u1 := by simpa using hu1
    have e2 : (24 : Nat) = u2 := by simpa using hu2
    subst e0 e1 e2
    obtain ⟨xs, hx⟩ := rp_of (k := 3) (en := eApiChoice) Tryz.underlying22 (by kernel_rfl) (fun _ => rfl) (by omega) el_Ch c0 (ok_size Tryz.underlying22 c0) h3
    obtain ⟨ys, hy⟩ := rp_of (k := 5) (en := eApiOp) Tryz.underlying23 (by kernel_rfl) (fun _ => rfl) (by omega) el_Op c1 (ok_size Tryz.underlying23 c1) h4
    obtain ⟨zs, hz⟩ := rp_of (k := 1) (en := eI) Tryz.underlying24 (by kernel_rfl) (fun _ => rfl) (by omega) el_I c2 (ok_size Tryz.underlying24 c2) h5
    exact ⟨⟨s0, s1, ⟨xs, ys, zs⟩⟩, .agg (RPs_rvs (g := g0 w) (RPs_cons .v (RPs_cons .v (RPs_cons hx (RPs_cons hy (RPs_cons hz RPs_nil))))))⟩
end
end Go.Proofs.YtpcgfeckokgbfaaGreatDoor

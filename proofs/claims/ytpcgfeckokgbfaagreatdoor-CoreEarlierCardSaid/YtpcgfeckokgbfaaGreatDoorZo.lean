/- The arguments of the laws of this seat, opened into deep data. -/
import Derived.Test.YtpcgfeckokgbfaaGreatDoorOp
import Derived.Test.YtpcgfeckokgbfaaGreatDoorU0
import Derived.Test.YtpcgfeckokgbfaaGreatDoorRows
set_option linter.all false
set_option maxRecDepth 100000
namespace Go.Proofs.YtpcgfeckokgbfaaGreatDoor
open Go Go.Mi Go.RowKit Go.WideShapes Go.Dp
section
variable {H : Type} {enc : TypeId × Value → H} {w : World} {base b0 : Nat} {spare : Nat → Bool} {held : Bool} {r : Reach}
theorem el_I (n : Nat) (cs : List Value) (x : DataW H × List MemPlace) (h : DataW.trod enc Tryz.prog w base spare held n 3 cs = some x) : ∃ y : Int, RPs (bsz w) w (eI y) cs := by
  obtain ⟨s, hs, _⟩ := DataW.trod_int Tryz.underlying3 h
  exact ⟨s, hs ▸ RPs_vals [.int .i64 s]⟩
theorem el_Ch (n : Nat) (cs : List Value) (x : DataW H × List MemPlace) (h : DataW.trod enc Tryz.prog w base spare held n 72 cs = some x) : ∃ y : ApiChoice, RPs (bsz w) w (eApiChoice y) cs := by
  obtain ⟨xs, m, _, _, hl, hlen, hf⟩ := DataW.trod_struct Tryz.underlying72 h
  obtain ⟨_, h0⟩ := fld hlen hf 0 9 0 1 rfl (by kernel_rfl)
  obtain ⟨_, h1⟩ := fld hlen hf 1 3 1 1 rfl (by kernel_rfl)
  obtain ⟨_, h2⟩ := fld hlen hf 2 3 2 1 rfl (by kernel_rfl)
  have e : Tryz.prog.cellsOf 72 = 3 := by kernel_rfl
  rw [e] at hl
  obtain ⟨s0, g0, _⟩ := DataW.trod_string Tryz.underlying9 h0
  obtain ⟨s1, g1, _⟩ := DataW.trod_int Tryz.underlying3 h1
  obtain ⟨s2, g2, _⟩ := DataW.trod_int Tryz.underlying3 h2
  match cs, hl with
  | [c0, c1, c2], _ =>
    simp only [List.drop_zero, List.take_succ_cons, List.take_zero, List.drop_succ_cons, List.cons.injEq, and_true] at g0 g1 g2
    subst g0 g1 g2
    exact ⟨⟨s0, s1, s2⟩, RPs_vals [.string s0, .int .i64 s1, .int .i64 s2]⟩
theorem el_Op (n : Nat) (cs : List Value) (x : DataW H × List MemPlace) (h : DataW.trod enc Tryz.prog w base spare held n 58 cs = some x) : ∃ y : ApiOp, RPs (bsz w) w (eApiOp y) cs := by
  obtain ⟨xs, m, _, _, hl, hlen, hf⟩ := DataW.trod_struct Tryz.underlying58 h
  obtain ⟨_, h0⟩ := fld hlen hf 0 5 0 1 rfl (by kernel_rfl)
  obtain ⟨_, h1⟩ := fld hlen hf 1 3 1 1 rfl (by kernel_rfl)
  obtain ⟨_, h2⟩ := fld hlen hf 2 3 2 1 rfl (by kernel_rfl)
  obtain ⟨_, h3⟩ := fld hlen hf 3 3 3 1 rfl (by kernel_rfl)
  obtain ⟨_, h4⟩ := fld hlen hf 4 3 4 1 rfl (by kernel_rfl)
  have e : Tryz.prog.cellsOf 58 = 5 := by kernel_rfl
  rw [e] at hl
  obtain ⟨s0, g0, _⟩ := DataW.trod_int Tryz.underlying5 h0
  obtain ⟨s1, g1, _⟩ := DataW.trod_int Tryz.underlying3 h1
  obtain ⟨s2, g2, _⟩ := DataW.trod_int Tryz.underlying3 h2
  obtain ⟨s3, g3, _⟩ := DataW.trod_int Tryz.underlying3 h3
  obtain ⟨s4, g4, _⟩ := DataW.trod_int Tryz.underlying3 h4
  match cs, hl with
  | [c0, c1, c2, c3, c4], _ =>
    simp only [List.drop_zero, List.take_succ_cons, List.take_zero, List.drop_succ_cons, List.cons.injEq, and_true] at g0 g1 g2 g3 g4
    subst g0 g1 g2 g3 g4
    exact ⟨⟨s0, s1, s2, s3, s4⟩, RPs_vals [.int .u8 s0, .int .i64 s1, .int .i64 s2, .int .i64 s3, .int .i64 s4]⟩
set_option maxRecDepth 20000 in
theorem core_of {v : Value} {d : DataW H} {p : List MemPlace} (hv : Value.okWide Tryz.prog w r b0 26 v) (h : DataW.Trod enc Tryz.prog w base spare held 26 v d p) : ∃ C : ApiCore, RV (g0 w) w [] (.agg ((eApiCore C).map .p)) v := by
  have hv' := hv
  simp only [Value.okWide, Tryz.underlying26] at hv'
  obtain ⟨cs, hcs, _, ts, hts, _, hc⟩ := hv'
  have c26 : Tryz.prog.cellsOf 26 = 3 := by kernel_rfl
  have e26 : Tryz.prog.cellTypes Tryz.prog.depth 26 = some [22, 23, 24] := by kernel_rfl
  rw [e26] at hts
  cases hts
  obtain ⟨v0, v1, v2, y0, y1, y2, n, hvv, _, _, h0, h1, h2⟩ := Go.Joins.open_agg3 Tryz.underlying26 (by kernel_rfl) c26 hv h
  subst hvv
  cases hcs
  obtain ⟨u0, hu0, c0⟩ := hc 0 v0 rfl
  obtain ⟨u1, hu1, c1⟩ := hc 1 v1 rfl
  obtain ⟨u2, hu2, c2⟩ := hc 2 v2 rfl
  have e0 : (22 : Nat) = u0 := by simpa using hu0
  have e1 : (23 : Nat) = u1 := by simpa using hu1
  have e2 : (24 : Nat) = u2 := by simpa using hu2
  subst e0 e1 e2
  obtain ⟨xs, hx⟩ := rp_of (k := 3) (en := eApiChoice) Tryz.underlying22 (by kernel_rfl) (fun _ => rfl) (by omega) el_Ch c0 (ok_size Tryz.underlying22 c0) h0
  obtain ⟨ys, hy⟩ := rp_of (k := 5) (en := eApiOp) Tryz.underlying23 (by kernel_rfl) (fun _ => rfl) (by omega) el_Op c1 (ok_size Tryz.underlying23 c1) h1
  obtain ⟨zs, hz⟩ := rp_of (k := 1) (en := eI) Tryz.underlying24 (by kernel_rfl) (fun _ => rfl) (by omega) el_I c2 (ok_size Tryz.underlying24 c2) h2
  exact ⟨⟨xs, ys, zs⟩, .agg (RPs_rvs (g := g0 w) (RPs_cons hx (RPs_cons hy (RPs_cons hz RPs_nil))))⟩
theorem ints_of {v : Value} {d : DataW H} {p : List MemPlace} (hv : Value.okWide Tryz.prog w r b0 24 v) (h : DataW.Trod enc Tryz.prog w base spare held 24 v d p) : ∃ l : List Int, RV (g0 w) w [] (vL 1 eI l) v := by
  have hcw : Cell.okWide Tryz.prog w r b0 24 v := by
    have h9 := hv
    simp only [Value.okWide, Tryz.underlying24] at h9
    exact h9
  obtain ⟨sa, sn, sc, hsv⟩ := okWide_slice Tryz.underlying24 hv
  obtain ⟨m, hm⟩ := h
  have hcl : v.cells.toList = [v] := by rw [hsv]; rfl
  rw [hcl] at hm
  obtain ⟨l, hl⟩ := rp_of (k := 1) (en := eI) Tryz.underlying24 (by kernel_rfl) (fun _ => rfl) (by omega) el_I hcw (ok_size Tryz.underlying24 hcw) hm
  exact ⟨l, .p hl⟩
end
/-- a plain call, from any world in which the variables lie as they are laid -/
theorem run_cp {f : FuncId} {ds : List V} {b : Bool} {W : World} {args : List Value} (hc : CP Tryz.prog f ds (vB b)) (hg : GlA (g0 W) W) (ha : RVs (g0 W) W [] ds args) : Calls Tryz.prog f args.toArray W fun e W' => e = .returned (.bool b) ∧ Below W.heap.size W W' := by
  refine (hc (g0 W) W args (rs_start hg) ha).mono fun e W' ⟨v, g', r, H', he, ⟨hr, hH⟩, hs, hv⟩ => ?_
  subst hr; subst hH
  have hv' : v = .bool b := hv.vi
  subst hv'
  refine ⟨he, hs.os, hs.tape, hs.output, hs.mo.size, fun k hk => ?_⟩
  exact (hs.blk k hk (fun i ho => by simp [Go.Dp.own, Go.Dp.ownO] at ho)).1
end Go.Proofs.YtpcgfeckokgbfaaGreatDoor

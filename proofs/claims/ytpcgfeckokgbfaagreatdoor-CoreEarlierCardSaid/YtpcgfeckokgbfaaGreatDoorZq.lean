/- The arguments of the law CoreEarlier, opened into deep data: recipes and bytes. -/
import Derived.Test.YtpcgfeckokgbfaaGreatDoorZo
import Derived.Test.YtpcgfeckokgbfaaGreatDoorV7
set_option linter.all false
set_option maxRecDepth 100000
namespace Go.Proofs.YtpcgfeckokgbfaaGreatDoor
open Go Go.Mi Go.RowKit Go.WideShapes Go.Dp
section
variable {H : Type} {enc : TypeId × Value → H} {w : World} {base b0 : Nat} {spare : Nat → Bool} {held : Bool} {r : Reach}
theorem wf8 {n : Int} (h : (Lit.int .u8 n).wf = true) : 0 ≤ n ∧ n ≤ 255 := by
  simp [Lit.wf, IntKind.min, IntKind.max, IntKind.signed, IntKind.bits] at h
  omega
theorem bytes_of {k n : Nat} {t : TypeId} {cs : List Value} {x : DataW H × List MemPlace} (ht : Tryz.prog.underlying t = some (.array k 5)) (hk : Tryz.prog.cellsOf t = k) (h : DataW.trod enc Tryz.prog w base spare held n t cs = some x) : cs.length = k ∧ ∀ i : Nat, i < k → ∃ s : Int, cs[i]? = some (.int .u8 s) ∧ 0 ≤ s ∧ s ≤ 255 := by
  obtain ⟨xs, m, _, _, hl, hlen, hf⟩ := DataW.trod_array ht h
  refine ⟨hl.trans hk, fun i hi => ?_⟩
  have h5 := hf i hi
  rw [List.getElem?_eq_getElem (by omega)] at h5
  have c5 : Tryz.prog.cellsOf 5 = 1 := by kernel_rfl
  rw [c5] at h5
  obtain ⟨s, hs, hw⟩ := DataW.trod_int Tryz.underlying5 h5
  refine ⟨s, ?_, wf8 hw.2⟩
  have : ((cs.drop (i * 1)).take 1)[0]? = some (.int .u8 s) := by rw [hs]; rfl
  simpa [List.getElem?_take] using this
theorem el_92 (n : Nat) (cs : List Value) (x : DataW H × List MemPlace) (h : DataW.trod enc Tryz.prog w base spare held n 92 cs = some x) : ∃ y : {z : Anon92 // B92 z}, RPs (bsz w) w (eAnon92 y.1) cs := by
  obtain ⟨hl, hb⟩ := bytes_of Tryz.underlying92 (by kernel_rfl) h
  obtain ⟨s0, h0, b0⟩ := hb 0 (by omega)
  obtain ⟨s1, h1, b1⟩ := hb 1 (by omega)
  obtain ⟨s2, h2, b2⟩ := hb 2 (by omega)
  obtain ⟨s3, h3, b3⟩ := hb 3 (by omega)
  match cs, hl with
  | [c0, c1, c2, c3], _ =>
    simp at h0 h1 h2 h3
    subst h0 h1 h2 h3
    exact ⟨⟨⟨s0, s1, s2, s3⟩, ⟨b0, b1, b2, b3⟩⟩, RPs_vals [.int .u8 s0, .int .u8 s1, .int .u8 s2, .int .u8 s3]⟩
theorem rec_of {v : Value} {d : DataW H} {p : List MemPlace} (hv : Value.okWide Tryz.prog w r b0 50 v) (h : DataW.Trod enc Tryz.prog w base spare held 50 v d p) : ∃ l : List Anon92, (∀ x ∈ l, B92 x) ∧ RV (g0 w) w [] (vL 4 eAnon92 l) v := by
  have hcw : Cell.okWide Tryz.prog w r b0 50 v := by
    have h9 := hv
    simp only [Value.okWide, Tryz.underlying50] at h9
    exact h9
  obtain ⟨sa, sn, sc, hsv⟩ := okWide_slice Tryz.underlying50 hv
  obtain ⟨m, hm⟩ := h
  have hcl : v.cells.toList = [v] := by rw [hsv]; rfl
  rw [hcl] at hm
  obtain ⟨l, hl⟩ := rp_of (k := 4) (en := fun y : {z : Anon92 // B92 z} => eAnon92 y.1) Tryz.underlying50 (by kernel_rfl) (fun _ => rfl) (by omega) el_92 hcw (ok_size Tryz.underlying50 hcw) hm
  refine ⟨l.map (·.1), fun x hx => ?_, ?_⟩
  · obtain ⟨y, _, rfl⟩ := List.mem_map.1 hx
    exact y.2
  · have e : sl 4 (fun y : {z : Anon92 // B92 z} => eAnon92 y.1) l = sl 4 eAnon92 (l.map (·.1)) := by simp [sl, List.flatMap_map]
    rw [e] at hl
    exact .p hl
theorem b51_of {v : Value} {d : DataW H} {p : List MemPlace} (hv : Value.okWide Tryz.prog w r b0 51 v) (h : DataW.Trod enc Tryz.prog w base spare held 51 v d p) : ∃ z : Anon51, B51 z ∧ RV (g0 w) w [] (.agg ((eAnon51 z).map .p)) v := by
  simp only [Value.okWide, Tryz.underlying51] at hv
  obtain ⟨cs, hcs, _, _⟩ := hv
  subst hcs
  obtain ⟨m, hm⟩ := h
  obtain ⟨hl, hb⟩ := bytes_of Tryz.underlying51 (by kernel_rfl) hm
  have hcl : (Value.agg cs).cells.toList = cs.toList := rfl
  rw [hcl] at hl hb
  obtain ⟨s0, h0, b0⟩ := hb 0 (by omega)
  obtain ⟨s1, h1, b1⟩ := hb 1 (by omega)
  obtain ⟨s2, h2, b2⟩ := hb 2 (by omega)
  obtain ⟨l⟩ := cs
  match l, hl with
  | [c0, c1, c2], _ =>
    simp at h0 h1 h2
    subst h0 h1 h2
    exact ⟨⟨s0, s1, s2⟩, ⟨b0, b1, b2⟩, .agg (RPs_rvs (g := g0 w) (RPs_vals [.int .u8 s0, .int .u8 s1, .int .u8 s2]))⟩
end
end Go.Proofs.YtpcgfeckokgbfaaGreatDoor

/- Functions beside the code, printed by a program of the author. -/
import Derived.Test.YtpcgfeckokgbfaaGreatDoorU0
set_option linter.all false
set_option maxRecDepth 100000
set_option maxHeartbeats 4000000
namespace Go.Proofs.YtpcgfeckokgbfaaGreatDoor
open Go Go.Mi Go.RowKit Go.Dp
noncomputable def m7 : Option Bool := some true
theorem c7 {r : Bool} (h : m7 = some r) : CP Tryz.prog 7 [] (vB r) := by
  cases h; exact kn34.2.2
noncomputable def m6 (a0 : ApiCore) : Option Bool := some (((decide (10 < (a0.choices.length : Int))) || (decide (400 < (a0.ops.length : Int)))) || (decide (400 < (a0.roots.length : Int))))
abbrev p6 (r : Bool) (v : V) (H : List Ob) : Prop := v = vB r ∧ H = []
theorem c6 {a0 : ApiCore} {r : Bool} (h : m6 a0 = some r) : CP Tryz.prog 6 [.agg ((eApiCore a0).map .p)] (vB r) := by
  refine CD.ofM (P := p6) h Tryz.func6 rfl Tryz.ntmps6 rfl fun w g => ?_
  refine .seq <| .region <| .bxE (cs := eApiCore a0) rfl rfl rfl rfl <| .sg rfl rfl <| .nil <| .th <| .seq <| .region <| .fE fa26_0 rfl rfl rfl <| .lE Tryz.isAgg22 rfl rfl rfl <| .ln Tryz.runUnderlying22 rfl sls_p rfl <| ?_
  refine .gtr rfl rfl rfl <| .mv rfl rfl <| .or (r := (decide (400 < (a0.ops.length : Int)))) 5 12 7 rfl (fun c => ?_) (fun c => ?_) ?_
  · refine .yes 7 rfl rfl rfl <| .fE fa26_1 rfl rfl rfl <| .yes 7 rfl rfl rfl <| .lE Tryz.isAgg23 rfl rfl rfl <| .yes 7 rfl rfl rfl <| .ln Tryz.runUnderlying23 rfl sls_p rfl <| .yes 7 rfl rfl rfl <| .gtr rfl rfl rfl <| ?_
    exact .pickF rfl rfl rfl <| c _ (.up rfl rfl rfl)
  · exact .no 7 rfl rfl rfl rfl <| .no 7 rfl rfl rfl rfl <| .no 7 rfl rfl rfl rfl <| .no 7 rfl rfl rfl rfl <| .pickT rfl rfl rfl <| c _ (.up rfl rfl rfl)
  · refine .mv rfl rfl <| .or (r := (decide (400 < (a0.roots.length : Int)))) 5 18 13 rfl (fun c => ?_) (fun c => ?_) ?_
    · refine .yes 13 rfl rfl rfl <| .fE fa26_2 rfl rfl rfl <| .yes 13 rfl rfl rfl <| .lE Tryz.isAgg24 rfl rfl rfl <| .yes 13 rfl rfl rfl <| .ln Tryz.runUnderlying24 rfl sls_p rfl <| .yes 13 rfl rfl rfl <| .gtr rfl rfl rfl <| ?_
      exact .pickF rfl rfl rfl <| c _ (.up rfl rfl rfl)
    · exact .no 13 rfl rfl rfl rfl <| .no 13 rfl rfl rfl rfl <| .no 13 rfl rfl rfl rfl <| .no 13 rfl rfl rfl rfl <| .pickT rfl rfl rfl <| c _ (.up rfl rfl rfl)
    · exact .sg rfl rfl <| .nil <| .th <| .ret <| .ret1 (P := p6) (sel := []) ⟨rfl, rfl⟩ rfl rfl (.tmp rfl) .rf .nil rfl
noncomputable def m8 (a0 : ApiCore) : Option ApiCore := (ap ([] : List ApiChoice) a0.choices).bind fun z1 => (ap ([] : List ApiOp) a0.ops).bind fun z2 => (ap ([] : List Int) a0.roots).bind fun z3 => some ⟨z1, z2, z3⟩
abbrev p8 (r : ApiCore) (v : V) (H : List Ob) : Prop := v = .agg ((eApiCore r).map .p) ∧ H = []
theorem c8 {a0 : ApiCore} {r : ApiCore} (h : m8 a0 = some r) : CP Tryz.prog 8 [.agg ((eApiCore a0).map .p)] (.agg ((eApiCore r).map .p)) := by
  refine CD.ofM (P := p8) h Tryz.func8 rfl Tryz.ntmps8 rfl fun w g => ?_
  refine .ext 4 ?_
  refine .seq <| .region <| .bxE (cs := eApiCore a0) rfl rfl rfl rfl <| .al 0 Tryz.zeroValue26 rfl rfl rfl <| .nil <| .th <| .seq <| .any Tryz.mixed <| .bsT 1 ([] : List ApiChoice) eApiChoice Tryz.runUnderlying22 Tryz.sizeOf72 Tryz.zeroValue72 rfl rfl rfl rfl rfl rfl rfl rfl rfl .n <| ?_
  refine .fE fa26_0 rfl rfl .n <| .lE Tryz.isAgg22 rfl rfl .n <| .ap Tryz.under22 info72 rfl (by decide) rfl rfl rfl sls_p eApiChoice_one rfl .n fun z1 => .bsT 2 ([] : List ApiOp) eApiOp Tryz.runUnderlying23 Tryz.sizeOf58 Tryz.zeroValue58 rfl rfl rfl rfl rfl rfl rfl rfl rfl .n <| ?_
  refine .fE fa26_1 rfl rfl .n <| .lE Tryz.isAgg23 rfl rfl .n <| .ap Tryz.under23 info58 rfl (by decide) rfl rfl rfl sls_p eApiOp_one rfl .n fun z2 => .bsT 3 ([] : List Int) eI Tryz.runUnderlying24 Tryz.sizeOf3 Tryz.zeroValue3 rfl rfl rfl rfl rfl rfl rfl rfl rfl .n <| ?_
  refine .fE fa26_2 rfl rfl .n <| .lE Tryz.isAgg24 rfl rfl .n <| .ap Tryz.under24 info3 rfl (by decide) rfl rfl rfl sls_p (fun _ => rfl) rfl .n fun z3 => .bu bu26 rfl rfl rfl .n <| .st Tryz.sizeOf26 rfl rfl rfl rfl rfl rfl .n <| ?_
  exact .nil (by kernel_rfl) <| .th <| .ret <| .ret1 (P := p8) (sel := []) ⟨rfl, rfl⟩ rfl rfl (.cellA rfl rfl Tryz.isAgg26 Tryz.sizeOf26 rfl) (.agg (.c .tkp (.c .tkp (.c .tkp .n)))) .nil rfl
noncomputable def m13_1 (a0 : List Int) (a1 : List Int) : Int → Option (Bool) := Lp fun s5_0 => if (decide (s5_0 < (a0.length : Int))) then (ix a0 s5_0).bind fun z1 => (ix a1 s5_0).bind fun z2 => if (!decide (z1 = z2)) then (some false).map .inr else some (.inl (wi (s5_0 + 1))) else (some true).map .inr
noncomputable def m13 (a0 : List Int) (a1 : List Int) : Option Bool := if (!decide ((a0.length : Int) = (a1.length : Int))) then some false else m13_1 a0 a1 0
abbrev p13 (r : Bool) (v : V) (H : List Ob) : Prop := v = vB r ∧ H = []
theorem c13 {a0 : List Int} {a1 : List Int} {r : Bool} (h : m13 a0 a1 = some r) : CP Tryz.prog 13 [vL 1 eI a0, vL 1 eI a1] (vB r) := by
  refine CD.ofM (P := p13) h Tryz.func13 rfl Tryz.ntmps13 rfl fun w g => ?_
  refine .seq <| .region <| .sg rfl rfl <| .nil <| .th <| .seq <| .seq <| .region <| .mv rfl rfl <| .ln Tryz.runUnderlying24 rfl sls_p rfl <| .mv rfl rfl <| .ln Tryz.runUnderlying24 rfl sls_p rfl <| .neq rfl rfl rfl <| ?_
  refine .nil <| .th <| .cond rfl ?_ ?_
  · exact .seq <| .region <| .sg rfl rfl <| .nil <| .th <| .ret <| .thR <| .ret1 (P := p13) (sel := []) ⟨rfl, rfl⟩ rfl rfl (.tmp rfl) .rf .nil rfl
  · refine .skip <| .th <| .seq <| .seq <| .region <| .sg rfl rfl <| .nil <| .th <| .blk <| .loop (α := (Int)) id (fun s5_0 => [(0, vL 1 eI a0), (1, vL 1 eI a1), (5, vI s5_0)]) (fun s5_0 => []) 0 rfl (.s rfl (.s rfl (.s rfl .n))) rfl ?_
    rintro s5_0 n
    refine .seq <| .seq <| .region <| .mv rfl rfl <| .mv rfl rfl <| .ln Tryz.runUnderlying24 rfl sls_p rfl <| .lss rfl rfl rfl <| .nil <| .th <| .cond rfl ?_ ?_
    · refine .skip <| .th <| .seq <| .blk <| .seq <| .any Tryz.mixed <| .mv rfl .n <| .mv rfl .n <| .ix Tryz.runUnderlying24 Tryz.sizeOf3 rfl rfl sls_p (fun _ => rfl) .n fun z1 => .lE Tryz.isAgg3 rfl rfl .n <| .mv rfl .n <| ?_
      refine .mv rfl .n <| .ix Tryz.runUnderlying24 Tryz.sizeOf3 rfl rfl sls_p (fun _ => rfl) .n fun z2 => .lE Tryz.isAgg3 rfl rfl .n <| .neq rfl rfl .n <| .nil (by kernel_rfl) <| .th <| .cond rfl ?_ ?_
      · exact .seq <| .region <| .sg rfl rfl <| .nil <| .th <| .ret <| .blkR <| .thR <| .lpR <| .blkR <| .thR <| .ret1 (P := p13) (sel := []) ⟨rfl, rfl⟩ rfl rfl (.tmp rfl) .rf .nil rfl
      · exact .skip <| .blk <| .th <| .region <| .mv rfl rfl <| .add rfl rfl rfl <| .sg rfl rfl <| .nil <| .next (wi (s5_0 + 1)) rfl (.s rfl (.s rfl (.s rfl .n))) rfl
    · exact .exit <| .thE <| .lpE <| .blkE <| .th <| .seq <| .region <| .sg rfl rfl <| .nil <| .th <| .ret <| .ret1 (P := p13) (sel := []) ⟨rfl, rfl⟩ rfl rfl (.tmp rfl) .rf .nil rfl
noncomputable def m16_1 (a0 : List ApiValue) (a1 : List ApiValue) : Int → Option (Bool) := Lp fun s5_0 => if (decide (s5_0 < (a0.length : Int))) then (ix a0 s5_0).bind fun z1 => (ix a1 s5_0).bind fun z2 => if (!(decide (z1 = z2))) then (some false).map .inr else some (.inl (wi (s5_0 + 1))) else (some true).map .inr
noncomputable def m16 (a0 : List ApiValue) (a1 : List ApiValue) : Option Bool := if (!decide ((a0.length : Int) = (a1.length : Int))) then some false else m16_1 a0 a1 0
abbrev p16 (r : Bool) (v : V) (H : List Ob) : Prop := v = vB r ∧ H = []
theorem c16 {a0 : List ApiValue} {a1 : List ApiValue} {r : Bool} (h : m16 a0 a1 = some r) : CP Tryz.prog 16 [vL 2 eApiValue a0, vL 2 eApiValue a1] (vB r) := by
  refine CD.ofM (P := p16) h Tryz.func16 rfl Tryz.ntmps16 rfl fun w g => ?_
  refine .seq <| .region <| .sg rfl rfl <| .nil <| .th <| .seq <| .seq <| .region <| .mv rfl rfl <| .ln Tryz.runUnderlying32 rfl sls_p rfl <| .mv rfl rfl <| .ln Tryz.runUnderlying32 rfl sls_p rfl <| .neq rfl rfl rfl <| ?_
  refine .nil <| .th <| .cond rfl ?_ ?_
  · exact .seq <| .region <| .sg rfl rfl <| .nil <| .th <| .ret <| .thR <| .ret1 (P := p16) (sel := []) ⟨rfl, rfl⟩ rfl rfl (.tmp rfl) .rf .nil rfl
  · refine .skip <| .th <| .seq <| .seq <| .region <| .sg rfl rfl <| .nil <| .th <| .blk <| .loop (α := (Int)) id (fun s5_0 => [(0, vL 2 eApiValue a0), (1, vL 2 eApiValue a1), (5, vI s5_0)]) (fun s5_0 => []) 0 rfl (.s rfl (.s rfl (.s rfl .n))) rfl ?_
    rintro s5_0 n
    refine .seq <| .seq <| .region <| .mv rfl rfl <| .mv rfl rfl <| .ln Tryz.runUnderlying32 rfl sls_p rfl <| .lss rfl rfl rfl <| .nil <| .th <| .cond rfl ?_ ?_
    · refine .skip <| .th <| .seq <| .blk <| .seq <| .any Tryz.mixed <| .mv rfl .n <| .mv rfl .n <| .ix Tryz.runUnderlying32 Tryz.sizeOf55 rfl rfl sls_p eApiValue_len .n fun z1 => .lEA Tryz.isAgg55 Tryz.sizeOf55 rfl rfl .n <| ?_
      refine .mv rfl .n <| .mv rfl .n <| .ix Tryz.runUnderlying32 Tryz.sizeOf55 rfl rfl sls_p eApiValue_len .n fun z2 => .lEA Tryz.isAgg55 Tryz.sizeOf55 rfl rfl .n <| .neA _ _ (eqT55 z1 z2) eqG55 rfl rfl .n <| .nil (by kernel_rfl) <| ?_
      refine .th <| .cond rfl ?_ ?_
      · exact .seq <| .region <| .sg rfl rfl <| .nil <| .th <| .ret <| .blkR <| .thR <| .lpR <| .blkR <| .thR <| .ret1 (P := p16) (sel := []) ⟨rfl, rfl⟩ rfl rfl (.tmp rfl) .rf .nil rfl
      · exact .skip <| .blk <| .th <| .region <| .mv rfl rfl <| .add rfl rfl rfl <| .sg rfl rfl <| .nil <| .next (wi (s5_0 + 1)) rfl (.s rfl (.s rfl (.s rfl .n))) rfl
    · exact .exit <| .thE <| .lpE <| .blkE <| .th <| .seq <| .region <| .sg rfl rfl <| .nil <| .th <| .ret <| .ret1 (P := p16) (sel := []) ⟨rfl, rfl⟩ rfl rfl (.tmp rfl) .rf .nil rfl
noncomputable def m8i1 (p0 : ApiCore) : Option ((List ApiChoice) × (List ApiOp) × Nat × (List Int)) := (ap ([] : List ApiChoice) p0.choices).bind fun z1 => (ap ([] : List ApiOp) p0.ops).bind fun z2 => (ap ([] : List Int) p0.roots).bind fun z3 => some (z1, z2, 1, z3)
abbrev p8i1 (p0 : ApiCore) (r : (List ApiChoice) × (List ApiOp) × Nat × (List Int)) (v : V) (H : List Ob) : Prop := v = .agg [vL 3 eApiChoice r.1, tk 5 eApiOp r.2.1 0 r.2.2.1, vL 1 eI r.2.2.2] ∧ H = [.tok 58 5 r.2.2.1]
theorem c8i1 {p0 : ApiCore} {r : (List ApiChoice) × (List ApiOp) × Nat × (List Int)} (h : m8i1 p0 = some r) : CE Tryz.prog 8 [.agg ((eApiCore p0).map .p)] [] (.agg [vL 3 eApiChoice r.1, tk 5 eApiOp r.2.1 0 r.2.2.1, vL 1 eI r.2.2.2]) [.tok 58 5 r.2.2.1] := by
  refine CD.ofM (P := p8i1 p0) h Tryz.func8 rfl Tryz.ntmps8 rfl fun w g => ?_
  refine .ext 4 ?_
  refine .seq <| .region <| .bxE (cs := eApiCore p0) rfl rfl rfl rfl <| .al 0 Tryz.zeroValue26 rfl rfl rfl <| .nil <| .th <| .seq <| .any Tryz.mixed <| .bsT 1 ([] : List ApiChoice) eApiChoice Tryz.runUnderlying22 Tryz.sizeOf72 Tryz.zeroValue72 rfl rfl rfl rfl rfl rfl rfl rfl rfl .n <| ?_
  refine .fE fa26_0 rfl rfl .n <| .lE Tryz.isAgg22 rfl rfl .n <| .ap Tryz.under22 info72 rfl (by decide) rfl rfl rfl sls_p eApiChoice_one rfl .n fun z1 => .bsT 2 ([] : List ApiOp) eApiOp Tryz.runUnderlying23 Tryz.sizeOf58 Tryz.zeroValue58 rfl rfl rfl rfl rfl rfl rfl rfl rfl .n <| ?_
  refine .fE fa26_1 rfl rfl .n <| .lE Tryz.isAgg23 rfl rfl .n <| .ap Tryz.under23 info58 rfl (by decide) rfl rfl rfl sls_p eApiOp_one rfl .n fun z2 => .bsT 3 ([] : List Int) eI Tryz.runUnderlying24 Tryz.sizeOf3 Tryz.zeroValue3 rfl rfl rfl rfl rfl rfl rfl rfl rfl .n <| ?_
  refine .fE fa26_2 rfl rfl .n <| .lE Tryz.isAgg24 rfl rfl .n <| .ap Tryz.under24 info3 rfl (by decide) rfl rfl rfl sls_p (fun _ => rfl) rfl .n fun z3 => .bu bu26 rfl rfl rfl .n <| .st Tryz.sizeOf26 rfl rfl rfl rfl rfl rfl .n <| ?_
  exact .nil (by kernel_rfl) <| .th <| .ret <| .ret1 (P := p8i1 p0) (sel := [2]) ⟨rfl, rfl⟩ rfl rfl (.cellA rfl rfl Tryz.isAgg26 Tryz.sizeOf26 rfl) (.agg (.c .tkp (.c .rf (.c .tkp .n)))) (.of (sel := [2]) rfl (rdc rfl rd0) (by decide) rfl rfl) rfl
noncomputable def m22_1  : (List ApiOp) → Option (ApiCore) := fun c2_1_0 => (dvd (c2_1_0.length : Int) 2).bind fun z1 => some (⟨([⟨(⟨#[97]⟩ : ByteArray), (-2), 3⟩, ⟨(⟨#[98]⟩ : ByteArray), 0, 5⟩] : List ApiChoice), c2_1_0, ([(wi ((c2_1_0.length : Int) - 1)), (wi (z1))] : List Int)⟩)
noncomputable def m22_2 (a0 : List Anon92) : (Int × (List ApiOp)) → Option (ApiCore) := Lp fun (s4_1, c2_1_2) => if ((decide (s4_1 < (a0.length : Int))) && (decide (s4_1 < 40))) then (ix a0 s4_1).bind fun z2 => (md (wi (z2.a1)) (mn (c2_1_2.length : Int) 8)).bind fun z3 => (md (wi (z2.a2)) (mn (c2_1_2.length : Int) 8)).bind fun z4 => (md (wi (z2.a3)) (mn (c2_1_2.length : Int) 8)).bind fun z5 => (md z2.a0 17).bind fun z6 => if (decide ((w8 (1 + z6)) = 1)) then (ap c2_1_2 ([⟨(w8 (1 + z6)), 0, 0, 0, (wi ((wi (z2.a1)) - 100))⟩] : List ApiOp)).bind fun z7 => some (.inl ((wi (s4_1 + 1)), z7)) else if (decide ((w8 (1 + z6)) = 2)) then (md (wi (z2.a1)) 4).bind fun z8 => (ap c2_1_2 ([⟨(w8 (1 + z6)), 0, 0, 0, (wi (1 + z8))⟩] : List ApiOp)).bind fun z9 => some (.inl ((wi (s4_1 + 1)), z9)) else if ((decide ((w8 (1 + z6)) = 3)) || (decide ((w8 (1 + z6)) = 4))) then (md (wi (z2.a1)) 2).bind fun z10 => (ap c2_1_2 ([⟨3, 0, 0, 0, z10⟩] : List ApiOp)).bind fun z11 => some (.inl ((wi (s4_1 + 1)), z11)) else if ((decide ((w8 (1 + z6)) = 5)) || (decide ((w8 (1 + z6)) = 6))) then (ap c2_1_2 ([⟨(w8 (1 + z6)), (wi ((wi ((c2_1_2.length : Int) - 1)) - z3)), 0, 0, 0⟩] : List ApiOp)).bind fun z12 => some (.inl ((wi (s4_1 + 1)), z12)) else if (decide ((w8 (1 + z6)) = 17)) then (ap c2_1_2 ([⟨(w8 (1 + z6)), (wi ((wi ((c2_1_2.length : Int) - 1)) - z3)), (wi ((wi ((c2_1_2.length : Int) - 1)) - z4)), (wi ((wi ((c2_1_2.length : Int) - 1)) - z5)), 0⟩] : List ApiOp)).bind fun z13 => some (.inl ((wi (s4_1 + 1)), z13)) else (ap c2_1_2 ([⟨(w8 (1 + z6)), (wi ((wi ((c2_1_2.length : Int) - 1)) - z3)), (wi ((wi ((c2_1_2.length : Int) - 1)) - z4)), 0, 0⟩] : List ApiOp)).bind fun z14 => some (.inl ((wi (s4_1 + 1)), z14)) else (m22_1 c2_1_2).map .inr
noncomputable def m22 (a0 : List Anon92) : Option ApiCore := m22_2 a0 (0, ([⟨3, 0, 0, 0, 0⟩, ⟨3, 0, 0, 0, 1⟩] : List ApiOp))
abbrev p22 (r : ApiCore) (v : V) (H : List Ob) : Prop := v = .agg ((eApiCore r).map .p) ∧ H = []
theorem c22 {a0 : List Anon92} {r : ApiCore} (h : m22 a0 = some r) : CP Tryz.prog 22 [vL 4 eAnon92 a0] (.agg ((eApiCore r).map .p)) := by
  refine CD.ofM (P := p22) h Tryz.func22 rfl Tryz.ntmps22 rfl fun w g => ?_
  refine .ext 11 ?_
  refine .seq <| .region <| .al 0 Tryz.zeroValue26 rfl rfl rfl <| .nil <| .th <| .seq <| .region <| .bu bu72 rfl rfl rfl rfl <| .bu bu72 rfl rfl rfl rfl <| .bs ([⟨(⟨#[97]⟩ : ByteArray), (-2), 3⟩, ⟨(⟨#[98]⟩ : ByteArray), 0, 5⟩] : List ApiChoice) eApiChoice Tryz.runUnderlying22 Tryz.sizeOf72 Tryz.zeroValue72 rfl rfl rfl rfl rfl rfl rfl rfl <| ?_
  refine .bu bu58 rfl rfl rfl rfl <| .bu bu58 rfl rfl rfl rfl <| .bsT 1 ([⟨3, 0, 0, 0, 0⟩, ⟨3, 0, 0, 0, 1⟩] : List ApiOp) eApiOp Tryz.runUnderlying23 Tryz.sizeOf58 Tryz.zeroValue58 rfl rfl rfl rfl rfl rfl rfl rfl rfl rfl <| ?_
  refine .bu bu26 rfl rfl rfl rfl <| .al 2 Tryz.zeroValue26 rfl rfl rfl <| .st Tryz.sizeOf26 rfl rfl rfl rfl rfl rfl <| .nil <| .th <| .join (β := (((List ApiOp)) × Nat)) (fun (c2_1_0, v1_0) => [(2, .ref 0 0), (3, .ref 2 0)]) (fun (c2_1_0, v1_0) => [.cells 26 [.p (.v (.slice none 0 0)), .p (.v (.slice none 0 0)), .p (.v (.slice none 0 0))], .tok 58 5 v1_0, .cells 26 [vL 3 eApiChoice ([⟨(⟨#[97]⟩ : ByteArray), (-2), 3⟩, ⟨(⟨#[98]⟩ : ByteArray), 0, 5⟩] : List ApiChoice), tk 5 eApiOp c2_1_0 1 v1_0, .p (.v (.slice none 0 0))], .dead, .dead, .dead, .dead, .dead, .dead, .dead, .dead]) ((fun (c2_1_0, v1_0) => m22_1 c2_1_0)) ?_ ?_
  · rintro ⟨c2_1_0, v1_0⟩
    refine .seq <| .region <| .fR fa26_1 rfl rfl <| .lR Tryz.isAgg23 rfl rfl rfl rfl <| .ln Tryz.runUnderlying23 rfl sls_t rfl <| .sb rfl rfl rfl <| .fR fa26_1 rfl rfl <| .lR Tryz.isAgg23 rfl rfl rfl rfl <| .ln Tryz.runUnderlying23 rfl sls_t rfl <| ?_
    refine .quo rfl rfl rfl fun z1 => .bs ([(wi ((c2_1_0.length : Int) - 1)), (wi (z1))] : List Int) eI Tryz.runUnderlying24 Tryz.sizeOf3 Tryz.zeroValue3 rfl rfl rfl rfl rfl rfl rfl rfl <| .fR fa26_2 rfl rfl <| .st Tryz.sizeOf24 rfl rfl rfl rfl rfl rfl <| ?_
    exact .nil <| .th <| .seq <| .region <| .lRA Tryz.isAgg26 Tryz.sizeOf26 rfl rfl rfl rfl <| .st Tryz.sizeOf26 rfl rfl rfl rfl rfl rfl <| .nil <| .th <| .ret <| .ret1 (P := p22) (sel := []) ⟨rfl, rfl⟩ rfl rfl (.cellA rfl rfl Tryz.isAgg26 Tryz.sizeOf26 rfl) (.agg (.c .rf (.c .tkp (.c .rf .n)))) .nil rfl
  · intro j
    refine .seq <| .region <| .sg rfl rfl <| .nil <| .th <| .blk <| .loop (α := ((Int × (List ApiOp)) × Nat)) (·.1) (fun ((s4_1, c2_1_2), v1_2) => [(0, vL 4 eAnon92 a0), (2, .ref 0 0), (3, .ref 2 0), (4, vI s4_1)]) (fun ((s4_1, c2_1_2), v1_2) => [.cells 26 [.p (.v (.slice none 0 0)), .p (.v (.slice none 0 0)), .p (.v (.slice none 0 0))], .tok 58 5 v1_2, .cells 26 [vL 3 eApiChoice ([⟨(⟨#[97]⟩ : ByteArray), (-2), 3⟩, ⟨(⟨#[98]⟩ : ByteArray), 0, 5⟩] : List ApiChoice), tk 5 eApiOp c2_1_2 1 v1_2, .p (.v (.slice none 0 0))], .dead, .dead, .dead, .dead, .dead, .dead, .dead, .dead]) ((0, ([⟨3, 0, 0, 0, 0⟩, ⟨3, 0, 0, 0, 1⟩] : List ApiOp)), 0) rfl (.s rfl (.s rfl (.s rfl (.s rfl .n)))) rfl ?_
    rintro ⟨⟨s4_1, c2_1_2⟩, v1_2⟩ n
    refine .seq <| .seq <| .region <| .mv rfl rfl <| .mv rfl rfl <| .ln Tryz.runUnderlying50 rfl sls_p rfl <| .lss rfl rfl rfl <| .mv rfl rfl <| .and (r := (decide (s4_1 < 40))) 3 24 21 rfl (fun c => ?_) (fun c => ?_) ?_
    · exact .yes 21 rfl rfl rfl <| .mv rfl rfl <| .yes 21 rfl rfl rfl <| .lss rfl rfl rfl <| .pickT rfl rfl rfl <| c _ (.up rfl rfl rfl)
    · exact .no 21 rfl rfl rfl rfl <| .no 21 rfl rfl rfl rfl <| .pickF rfl rfl rfl <| c _ (.up rfl rfl rfl)
    · refine .nil <| .th <| .cond rfl ?_ ?_
      · refine .skip <| .th <| .seq <| .blk <| .seq <| .any Tryz.mixed <| .mv rfl .n <| .mv rfl .n <| .ix Tryz.runUnderlying50 Tryz.sizeOf92 rfl rfl sls_p eAnon92_len .n fun z2 => .lEA Tryz.isAgg92 Tryz.sizeOf92 rfl rfl .n <| ?_
        refine .fR fa26_1 rfl .n <| .lR Tryz.isAgg23 rfl rfl rfl .n <| .ln Tryz.runUnderlying23 rfl sls_t .n <| .al 3 Tryz.zeroValue92 rfl rfl .n <| .st Tryz.sizeOf92 rfl rfl rfl rfl rfl rfl .n <| .sg rfl .n <| .nil (by kernel_rfl) <| ?_
        refine .th <| .seq <| .region <| .bu bu93 rfl rfl rfl rfl <| .al 4 Tryz.zeroValue93 rfl rfl rfl <| .st Tryz.sizeOf93 rfl rfl rfl rfl rfl rfl <| .nil <| .th <| .seq <| .seq <| .region <| .sg rfl rfl <| .nil <| ?_
        refine .th <| .blk <| .unr <| .seq <| .seq <| .region <| .mv rfl rfl <| .lss rfl rfl rfl <| .nil <| .th <| .condT rfl <| .skip <| .th <| .seq <| .blk <| .region <| .mv rfl rfl <| .mv rfl rfl <| .sb rfl rfl rfl <| ?_
        refine .mv rfl rfl <| .add rfl rfl rfl <| .q (i_ixRef Tryz.runUnderlying92 Tryz.sizeOf5 rfl rfl (by decide) (by decide)) rfl <| .lR Tryz.isAgg5 rfl rfl rfl rfl <| .cv Tryz.runUnderlying5 Tryz.runUnderlying3 rfl rfl <| ?_
        refine .mv rfl rfl <| .min rfl rfl rfl <| .rem rfl rfl rfl fun z3 => .sb rfl rfl rfl <| .q (i_ixRef Tryz.runUnderlying93 Tryz.sizeOf3 rfl rfl (by decide) (by decide)) rfl <| .st Tryz.sizeOf3 rfl rfl rfl rfl rfl rfl <| ?_
        refine .nil <| .blk <| .th <| .region <| .mv rfl rfl <| .add rfl rfl rfl <| .sg rfl rfl <| .nil <| .unN <| .seq <| .seq <| .region <| .mv rfl rfl <| .lss rfl rfl rfl <| .nil <| .th <| .condT rfl <| .skip <| .th <| ?_
        refine .seq <| .blk <| .region <| .mv rfl rfl <| .mv rfl rfl <| .sb rfl rfl rfl <| .mv rfl rfl <| .add rfl rfl rfl <| .q (i_ixRef Tryz.runUnderlying92 Tryz.sizeOf5 rfl rfl (by decide) (by decide)) rfl <| .lR Tryz.isAgg5 rfl rfl rfl rfl <| ?_
        refine .cv Tryz.runUnderlying5 Tryz.runUnderlying3 rfl rfl <| .mv rfl rfl <| .min rfl rfl rfl <| .rem rfl rfl rfl fun z4 => .sb rfl rfl rfl <| .q (i_ixRef Tryz.runUnderlying93 Tryz.sizeOf3 rfl rfl (by decide) (by decide)) rfl <| ?_
        refine .st Tryz.sizeOf3 rfl rfl rfl rfl rfl rfl <| .nil <| .blk <| .th <| .region <| .mv rfl rfl <| .add rfl rfl rfl <| .sg rfl rfl <| .nil <| .unN <| .seq <| .seq <| .region <| .mv rfl rfl <| .lss rfl rfl rfl <| ?_
        refine .nil <| .th <| .condT rfl <| .skip <| .th <| .seq <| .blk <| .region <| .mv rfl rfl <| .mv rfl rfl <| .sb rfl rfl rfl <| .mv rfl rfl <| .add rfl rfl rfl <| .q (i_ixRef Tryz.runUnderlying92 Tryz.sizeOf5 rfl rfl (by decide) (by decide)) rfl <| ?_
        refine .lR Tryz.isAgg5 rfl rfl rfl rfl <| .cv Tryz.runUnderlying5 Tryz.runUnderlying3 rfl rfl <| .mv rfl rfl <| .min rfl rfl rfl <| .rem rfl rfl rfl fun z5 => .sb rfl rfl rfl <| .q (i_ixRef Tryz.runUnderlying93 Tryz.sizeOf3 rfl rfl (by decide) (by decide)) rfl <| ?_
        refine .st Tryz.sizeOf3 rfl rfl rfl rfl rfl rfl <| .nil <| .blk <| .th <| .region <| .mv rfl rfl <| .add rfl rfl rfl <| .sg rfl rfl <| .nil <| .unN <| .seq <| .seq <| .region <| .mv rfl rfl <| .lss rfl rfl rfl <| ?_
        refine .nil <| .th <| .condF rfl <| .exit <| .thE <| .unE <| .blkE <| .th <| .seq <| .region <| .q (i_ixRef Tryz.runUnderlying92 Tryz.sizeOf5 rfl rfl (by decide) (by decide)) rfl <| .lR Tryz.isAgg5 rfl rfl rfl rfl <| ?_
        refine .rem rfl rfl rfl fun z6 => .add rfl rfl rfl <| .sg rfl rfl <| .nil <| .th <| .blk <| .seq <| .region <| .mv rfl rfl <| .eql rfl rfl rfl <| .sg rfl rfl <| .nil <| .th <| .cond rfl ?_ ?_
        · refine .region <| .fR fa26_1 rfl rfl <| .lR Tryz.isAgg23 rfl rfl rfl rfl <| .mv rfl rfl <| .q (i_ixRef Tryz.runUnderlying92 Tryz.sizeOf5 rfl rfl (by decide) (by decide)) rfl <| .lR Tryz.isAgg5 rfl rfl rfl rfl <| ?_
          refine .cv Tryz.runUnderlying5 Tryz.runUnderlying3 rfl rfl <| .sb rfl rfl rfl <| .bu bu58 rfl rfl rfl rfl <| .bsT 5 ([⟨(w8 (1 + z6)), 0, 0, 0, (wi ((wi (z2.a1)) - 100))⟩] : List ApiOp) eApiOp Tryz.runUnderlying23 Tryz.sizeOf58 Tryz.zeroValue58 rfl rfl rfl rfl rfl rfl rfl rfl rfl rfl <| ?_
          refine .ap Tryz.under23 info58 rfl (by decide) rfl rfl rfl sls_t eApiOp_one rfl rfl fun z7 => .fR fa26_1 rfl rfl <| .st Tryz.sizeOf23 rfl rfl rfl rfl rfl rfl <| .nil <| .blk <| .blk <| .th <| .region <| .mv rfl rfl <| ?_
          exact .add rfl rfl rfl <| .sg rfl rfl <| .nil <| .nextK [3, 4, 5] (((wi (s4_1 + 1)), z7), v1_2 + 1) rfl (.s rfl (.s rfl (.s rfl (.s rfl .n)))) rfl rfl
        · refine .seq <| .region <| .mv rfl rfl <| .eql rfl rfl rfl <| .sg rfl rfl <| .nil <| .th <| .cond rfl ?_ ?_
          · refine .region <| .fR fa26_1 rfl rfl <| .lR Tryz.isAgg23 rfl rfl rfl rfl <| .mv rfl rfl <| .q (i_ixRef Tryz.runUnderlying92 Tryz.sizeOf5 rfl rfl (by decide) (by decide)) rfl <| .lR Tryz.isAgg5 rfl rfl rfl rfl <| ?_
            refine .cv Tryz.runUnderlying5 Tryz.runUnderlying3 rfl rfl <| .rem rfl rfl rfl fun z8 => .add rfl rfl rfl <| .bu bu58 rfl rfl rfl rfl <| .bsT 6 ([⟨(w8 (1 + z6)), 0, 0, 0, (wi (1 + z8))⟩] : List ApiOp) eApiOp Tryz.runUnderlying23 Tryz.sizeOf58 Tryz.zeroValue58 rfl rfl rfl rfl rfl rfl rfl rfl rfl rfl <| ?_
            refine .ap Tryz.under23 info58 rfl (by decide) rfl rfl rfl sls_t eApiOp_one rfl rfl fun z9 => .fR fa26_1 rfl rfl <| .st Tryz.sizeOf23 rfl rfl rfl rfl rfl rfl <| .nil <| .blk <| .blk <| .th <| .region <| .mv rfl rfl <| ?_
            exact .add rfl rfl rfl <| .sg rfl rfl <| .nil <| .nextK [3, 4, 6] (((wi (s4_1 + 1)), z9), v1_2 + 1) rfl (.s rfl (.s rfl (.s rfl (.s rfl .n)))) rfl rfl
          · refine .seq <| .region <| .mv rfl rfl <| .eql rfl rfl rfl <| .mv rfl rfl <| .or (r := (decide ((w8 (1 + z6)) = 4))) 3 102 99 rfl (fun c => ?_) (fun c => ?_) ?_
            · exact .yes 99 rfl rfl rfl <| .mv rfl rfl <| .yes 99 rfl rfl rfl <| .eql rfl rfl rfl <| .pickF rfl rfl rfl <| c _ (.up rfl rfl rfl)
            · exact .no 99 rfl rfl rfl rfl <| .no 99 rfl rfl rfl rfl <| .pickT rfl rfl rfl <| c _ (.up rfl rfl rfl)
            · refine .sg rfl rfl <| .nil <| .th <| .cond rfl ?_ ?_
              · refine .region <| .fR fa26_1 rfl rfl <| .lR Tryz.isAgg23 rfl rfl rfl rfl <| .q (i_ixRef Tryz.runUnderlying92 Tryz.sizeOf5 rfl rfl (by decide) (by decide)) rfl <| .lR Tryz.isAgg5 rfl rfl rfl rfl <| .cv Tryz.runUnderlying5 Tryz.runUnderlying3 rfl rfl <| ?_
                refine .rem rfl rfl rfl fun z10 => .bu bu58 rfl rfl rfl rfl <| .bsT 7 ([⟨3, 0, 0, 0, z10⟩] : List ApiOp) eApiOp Tryz.runUnderlying23 Tryz.sizeOf58 Tryz.zeroValue58 rfl rfl rfl rfl rfl rfl rfl rfl rfl rfl <| .ap Tryz.under23 info58 rfl (by decide) rfl rfl rfl sls_t eApiOp_one rfl rfl fun z11 => ?_
                exact .fR fa26_1 rfl rfl <| .st Tryz.sizeOf23 rfl rfl rfl rfl rfl rfl <| .nil <| .blk <| .blk <| .th <| .region <| .mv rfl rfl <| .add rfl rfl rfl <| .sg rfl rfl <| .nil <| .nextK [3, 4, 7] (((wi (s4_1 + 1)), z11), v1_2 + 1) rfl (.s rfl (.s rfl (.s rfl (.s rfl .n)))) rfl rfl
              · refine .seq <| .region <| .mv rfl rfl <| .eql rfl rfl rfl <| .mv rfl rfl <| .or (r := (decide ((w8 (1 + z6)) = 6))) 3 119 116 rfl (fun c => ?_) (fun c => ?_) ?_
                · exact .yes 116 rfl rfl rfl <| .mv rfl rfl <| .yes 116 rfl rfl rfl <| .eql rfl rfl rfl <| .pickF rfl rfl rfl <| c _ (.up rfl rfl rfl)
                · exact .no 116 rfl rfl rfl rfl <| .no 116 rfl rfl rfl rfl <| .pickT rfl rfl rfl <| c _ (.up rfl rfl rfl)
                · refine .sg rfl rfl <| .nil <| .th <| .cond rfl ?_ ?_
                  · refine .region <| .fR fa26_1 rfl rfl <| .lR Tryz.isAgg23 rfl rfl rfl rfl <| .mv rfl rfl <| .q (i_ixRef Tryz.runUnderlying93 Tryz.sizeOf3 rfl rfl (by decide) (by decide)) rfl <| .lR Tryz.isAgg3 rfl rfl rfl rfl <| ?_
                    refine .bu bu58 rfl rfl rfl rfl <| .bsT 8 ([⟨(w8 (1 + z6)), (wi ((wi ((c2_1_2.length : Int) - 1)) - z3)), 0, 0, 0⟩] : List ApiOp) eApiOp Tryz.runUnderlying23 Tryz.sizeOf58 Tryz.zeroValue58 rfl rfl rfl rfl rfl rfl rfl rfl rfl rfl <| ?_
                    refine .ap Tryz.under23 info58 rfl (by decide) rfl rfl rfl sls_t eApiOp_one rfl rfl fun z12 => .fR fa26_1 rfl rfl <| .st Tryz.sizeOf23 rfl rfl rfl rfl rfl rfl <| .nil <| .blk <| .blk <| .th <| .region <| .mv rfl rfl <| ?_
                    exact .add rfl rfl rfl <| .sg rfl rfl <| .nil <| .nextK [3, 4, 8] (((wi (s4_1 + 1)), z12), v1_2 + 1) rfl (.s rfl (.s rfl (.s rfl (.s rfl .n)))) rfl rfl
                  · refine .seq <| .region <| .mv rfl rfl <| .eql rfl rfl rfl <| .sg rfl rfl <| .nil <| .th <| .cond rfl ?_ ?_
                    · refine .region <| .fR fa26_1 rfl rfl <| .lR Tryz.isAgg23 rfl rfl rfl rfl <| .mv rfl rfl <| .q (i_ixRef Tryz.runUnderlying93 Tryz.sizeOf3 rfl rfl (by decide) (by decide)) rfl <| .lR Tryz.isAgg3 rfl rfl rfl rfl <| ?_
                      refine .q (i_ixRef Tryz.runUnderlying93 Tryz.sizeOf3 rfl rfl (by decide) (by decide)) rfl <| .lR Tryz.isAgg3 rfl rfl rfl rfl <| .q (i_ixRef Tryz.runUnderlying93 Tryz.sizeOf3 rfl rfl (by decide) (by decide)) rfl <| ?_
                      refine .lR Tryz.isAgg3 rfl rfl rfl rfl <| .bu bu58 rfl rfl rfl rfl <| .bsT 9 ([⟨(w8 (1 + z6)), (wi ((wi ((c2_1_2.length : Int) - 1)) - z3)), (wi ((wi ((c2_1_2.length : Int) - 1)) - z4)), (wi ((wi ((c2_1_2.length : Int) - 1)) - z5)), 0⟩] : List ApiOp) eApiOp Tryz.runUnderlying23 Tryz.sizeOf58 Tryz.zeroValue58 rfl rfl rfl rfl rfl rfl rfl rfl rfl rfl <| ?_
                      refine .ap Tryz.under23 info58 rfl (by decide) rfl rfl rfl sls_t eApiOp_one rfl rfl fun z13 => .fR fa26_1 rfl rfl <| .st Tryz.sizeOf23 rfl rfl rfl rfl rfl rfl <| .nil <| .blk <| .blk <| .th <| .region <| .mv rfl rfl <| ?_
                      exact .add rfl rfl rfl <| .sg rfl rfl <| .nil <| .nextK [3, 4, 9] (((wi (s4_1 + 1)), z13), v1_2 + 1) rfl (.s rfl (.s rfl (.s rfl (.s rfl .n)))) rfl rfl
                    · refine .region <| .fR fa26_1 rfl rfl <| .lR Tryz.isAgg23 rfl rfl rfl rfl <| .mv rfl rfl <| .q (i_ixRef Tryz.runUnderlying93 Tryz.sizeOf3 rfl rfl (by decide) (by decide)) rfl <| .lR Tryz.isAgg3 rfl rfl rfl rfl <| ?_
                      refine .q (i_ixRef Tryz.runUnderlying93 Tryz.sizeOf3 rfl rfl (by decide) (by decide)) rfl <| .lR Tryz.isAgg3 rfl rfl rfl rfl <| .bu bu58 rfl rfl rfl rfl <| .bsT 10 ([⟨(w8 (1 + z6)), (wi ((wi ((c2_1_2.length : Int) - 1)) - z3)), (wi ((wi ((c2_1_2.length : Int) - 1)) - z4)), 0, 0⟩] : List ApiOp) eApiOp Tryz.runUnderlying23 Tryz.sizeOf58 Tryz.zeroValue58 rfl rfl rfl rfl rfl rfl rfl rfl rfl rfl <| ?_
                      refine .ap Tryz.under23 info58 rfl (by decide) rfl rfl rfl sls_t eApiOp_one rfl rfl fun z14 => .fR fa26_1 rfl rfl <| .st Tryz.sizeOf23 rfl rfl rfl rfl rfl rfl <| .nil <| .blk <| .blk <| .th <| .region <| .mv rfl rfl <| ?_
                      exact .add rfl rfl rfl <| .sg rfl rfl <| .nil <| .nextK [3, 4, 10] (((wi (s4_1 + 1)), z14), v1_2 + 1) rfl (.s rfl (.s rfl (.s rfl (.s rfl .n)))) rfl rfl
      · exact .exit <| .thE <| .lpE <| .blkE <| .meet j [] (c2_1_2, v1_2) (.s rfl (.s rfl .n)) rfl rfl
noncomputable def m23 (a0 : ApiCore) : Option ApiCore := (ap ([] : List ApiChoice) a0.choices).bind fun z1 => (ap ([] : List ApiOp) a0.ops).bind fun z2 => (ap ([] : List Int) a0.roots).bind fun z3 => some ⟨z1, z2, z3⟩
abbrev p23 (r : ApiCore) (v : V) (H : List Ob) : Prop := v = .agg ((eApiCore r).map .p) ∧ H = []
theorem c23 {a0 : ApiCore} {r : ApiCore} (h : m23 a0 = some r) : CP Tryz.prog 23 [.agg ((eApiCore a0).map .p)] (.agg ((eApiCore r).map .p)) := by
  refine CD.ofM (P := p23) h Tryz.func23 rfl Tryz.ntmps23 rfl fun w g => ?_
  refine .ext 4 ?_
  refine .seq <| .region <| .bxE (cs := eApiCore a0) rfl rfl rfl rfl <| .al 0 Tryz.zeroValue26 rfl rfl rfl <| .nil <| .th <| .seq <| .any Tryz.mixed <| .bsT 1 ([] : List ApiChoice) eApiChoice Tryz.runUnderlying22 Tryz.sizeOf72 Tryz.zeroValue72 rfl rfl rfl rfl rfl rfl rfl rfl rfl .n <| ?_
  refine .fE fa26_0 rfl rfl .n <| .lE Tryz.isAgg22 rfl rfl .n <| .ap Tryz.under22 info72 rfl (by decide) rfl rfl rfl sls_p eApiChoice_one rfl .n fun z1 => .bsT 2 ([] : List ApiOp) eApiOp Tryz.runUnderlying23 Tryz.sizeOf58 Tryz.zeroValue58 rfl rfl rfl rfl rfl rfl rfl rfl rfl .n <| ?_
  refine .fE fa26_1 rfl rfl .n <| .lE Tryz.isAgg23 rfl rfl .n <| .ap Tryz.under23 info58 rfl (by decide) rfl rfl rfl sls_p eApiOp_one rfl .n fun z2 => .bsT 3 ([] : List Int) eI Tryz.runUnderlying24 Tryz.sizeOf3 Tryz.zeroValue3 rfl rfl rfl rfl rfl rfl rfl rfl rfl .n <| ?_
  refine .fE fa26_2 rfl rfl .n <| .lE Tryz.isAgg24 rfl rfl .n <| .ap Tryz.under24 info3 rfl (by decide) rfl rfl rfl sls_p (fun _ => rfl) rfl .n fun z3 => .bu bu26 rfl rfl rfl .n <| .st Tryz.sizeOf26 rfl rfl rfl rfl rfl rfl .n <| ?_
  exact .nil (by kernel_rfl) <| .th <| .ret <| .ret1 (P := p23) (sel := []) ⟨rfl, rfl⟩ rfl rfl (.cellA rfl rfl Tryz.isAgg26 Tryz.sizeOf26 rfl) (.agg (.c .tkp (.c .tkp (.c .tkp .n)))) .nil rfl
noncomputable def m24 (a0 : List Int) : Option (List Int) := (ap ([] : List Int) a0).bind fun z1 => some z1
abbrev p24 (r : (List Int)) (v : V) (H : List Ob) : Prop := v = vL 1 eI r ∧ H = []
theorem c24 {a0 : List Int} {r : (List Int)} (h : m24 a0 = some r) : CP Tryz.prog 24 [vL 1 eI a0] (vL 1 eI r) := by
  refine CD.ofM (P := p24) h Tryz.func24 rfl Tryz.ntmps24 rfl fun w g => ?_
  refine .ext 1 ?_
  refine .seq <| .region <| .sg rfl rfl <| .nil <| .th <| .seq <| .region <| .bsT 0 ([] : List Int) eI Tryz.runUnderlying24 Tryz.sizeOf3 Tryz.zeroValue3 rfl rfl rfl rfl rfl rfl rfl rfl rfl rfl <| .mv rfl rfl <| ?_
  exact .ap Tryz.under24 info3 rfl (by decide) rfl rfl rfl sls_p (fun _ => rfl) rfl rfl fun z1 => .sg rfl rfl <| .nil <| .th <| .ret <| .ret1 (P := p24) (sel := []) ⟨rfl, rfl⟩ rfl rfl (.tmp rfl) .tkp .nil rfl
noncomputable def m25_1 (a0 : List ApiValue) (a1 : List ApiValue) : Int → Option (Bool) := Lp fun s5_0 => if (decide (s5_0 < (a0.length : Int))) then (ix a0 s5_0).bind fun z1 => (ix a1 s5_0).bind fun z2 => if (!(decide (z1 = z2))) then (some false).map .inr else some (.inl (wi (s5_0 + 1))) else (some true).map .inr
noncomputable def m25 (a0 : List ApiValue) (a1 : List ApiValue) : Option Bool := if (!decide ((a0.length : Int) = (a1.length : Int))) then some false else m25_1 a0 a1 0
abbrev p25 (r : Bool) (v : V) (H : List Ob) : Prop := v = vB r ∧ H = []
theorem c25 {a0 : List ApiValue} {a1 : List ApiValue} {r : Bool} (h : m25 a0 a1 = some r) : CP Tryz.prog 25 [vL 2 eApiValue a0, vL 2 eApiValue a1] (vB r) := by
  refine CD.ofM (P := p25) h Tryz.func25 rfl Tryz.ntmps25 rfl fun w g => ?_
  refine .seq <| .region <| .sg rfl rfl <| .nil <| .th <| .seq <| .seq <| .region <| .mv rfl rfl <| .ln Tryz.runUnderlying32 rfl sls_p rfl <| .mv rfl rfl <| .ln Tryz.runUnderlying32 rfl sls_p rfl <| .neq rfl rfl rfl <| ?_
  refine .nil <| .th <| .cond rfl ?_ ?_
  · exact .seq <| .region <| .sg rfl rfl <| .nil <| .th <| .ret <| .thR <| .ret1 (P := p25) (sel := []) ⟨rfl, rfl⟩ rfl rfl (.tmp rfl) .rf .nil rfl
  · refine .skip <| .th <| .seq <| .seq <| .region <| .sg rfl rfl <| .nil <| .th <| .blk <| .loop (α := (Int)) id (fun s5_0 => [(0, vL 2 eApiValue a0), (1, vL 2 eApiValue a1), (5, vI s5_0)]) (fun s5_0 => []) 0 rfl (.s rfl (.s rfl (.s rfl .n))) rfl ?_
    rintro s5_0 n
    refine .seq <| .seq <| .region <| .mv rfl rfl <| .mv rfl rfl <| .ln Tryz.runUnderlying32 rfl sls_p rfl <| .lss rfl rfl rfl <| .nil <| .th <| .cond rfl ?_ ?_
    · refine .skip <| .th <| .seq <| .blk <| .seq <| .any Tryz.mixed <| .mv rfl .n <| .mv rfl .n <| .ix Tryz.runUnderlying32 Tryz.sizeOf55 rfl rfl sls_p eApiValue_len .n fun z1 => .lEA Tryz.isAgg55 Tryz.sizeOf55 rfl rfl .n <| ?_
      refine .mv rfl .n <| .mv rfl .n <| .ix Tryz.runUnderlying32 Tryz.sizeOf55 rfl rfl sls_p eApiValue_len .n fun z2 => .lEA Tryz.isAgg55 Tryz.sizeOf55 rfl rfl .n <| .neA _ _ (eqT55 z1 z2) eqG55 rfl rfl .n <| .nil (by kernel_rfl) <| ?_
      refine .th <| .cond rfl ?_ ?_
      · exact .seq <| .region <| .sg rfl rfl <| .nil <| .th <| .ret <| .blkR <| .thR <| .lpR <| .blkR <| .thR <| .ret1 (P := p25) (sel := []) ⟨rfl, rfl⟩ rfl rfl (.tmp rfl) .rf .nil rfl
      · exact .skip <| .blk <| .th <| .region <| .mv rfl rfl <| .add rfl rfl rfl <| .sg rfl rfl <| .nil <| .next (wi (s5_0 + 1)) rfl (.s rfl (.s rfl (.s rfl .n))) rfl
    · exact .exit <| .thE <| .lpE <| .blkE <| .th <| .seq <| .region <| .sg rfl rfl <| .nil <| .th <| .ret <| .ret1 (P := p25) (sel := []) ⟨rfl, rfl⟩ rfl rfl (.tmp rfl) .rf .nil rfl
noncomputable def m60i1 (p0 : Int) (p1 : Int) (p2 : Int) : Option Bool := some ((decide (p0 < p1)) || (decide (p2 < p0)))
abbrev p60i1 (p0 : Int) (p1 : Int) (p2 : Int) (r : Bool) (v : V) (H : List Ob) : Prop := v = vB r ∧ H = []
theorem c60i1 {p0 : Int} {p1 : Int} {p2 : Int} {r : Bool} (h : m60i1 p0 p1 p2 = some r) : CE Tryz.prog 60 [vI p0, .el [pI p1], .el [pI p2]] [] (vB r) [] := by
  refine CD.ofM (P := p60i1 p0 p1 p2) h Tryz.func60 rfl Tryz.ntmps60 rfl fun w g => ?_
  refine .seq <| .region <| .sg rfl rfl <| .nil <| .th <| .seq <| .region <| .mv rfl rfl <| .lE Tryz.isAgg3 rfl rfl rfl <| .lss rfl rfl rfl <| .mv rfl rfl <| .or (r := (decide (p2 < p0))) 4 12 8 rfl (fun c => ?_) (fun c => ?_) ?_
  · exact .yes 8 rfl rfl rfl <| .mv rfl rfl <| .yes 8 rfl rfl rfl <| .lE Tryz.isAgg3 rfl rfl rfl <| .yes 8 rfl rfl rfl <| .gtr rfl rfl rfl <| .pickF rfl rfl rfl <| c _ (.up rfl rfl rfl)
  · exact .no 8 rfl rfl rfl rfl <| .no 8 rfl rfl rfl rfl <| .no 8 rfl rfl rfl rfl <| .pickT rfl rfl rfl <| c _ (.up rfl rfl rfl)
  · exact .sg rfl rfl <| .nil <| .th <| .ret <| .ret1 (P := p60i1 p0 p1 p2) (sel := []) ⟨rfl, rfl⟩ rfl rfl (.tmp rfl) .rf .nil rfl
noncomputable def m93i1_1 (p0 : List Int) (p1 : Int) (p2 : Int) : Int → Option (Int) := Lp fun s8_0 => if (decide (s8_0 < (p0.length : Int))) then (ix p0 s8_0).bind fun z1 => (m60i1 z1 p1 p2).bind fun z2 => if z2 then (some s8_0).map .inr else some (.inl (wi (s8_0 + 1))) else (some (-1)).map .inr
noncomputable def m93i1 (p0 : List Int) (p1 : Int) (p2 : Int) : Option Int := m93i1_1 p0 p1 p2 0
abbrev p93i1 (p0 : List Int) (p1 : Int) (p2 : Int) (r : Int) (v : V) (H : List Ob) : Prop := v = vI r ∧ H = []
theorem c93i1 {p0 : List Int} {p1 : Int} {p2 : Int} {r : Int} (h : m93i1 p0 p1 p2 = some r) : CE Tryz.prog 93 [vL 1 eI p0, .fn (.func 60) [] [.el [pI p1], .el [pI p2]]] [] (vI r) [] := by
  refine CD.ofM (P := p93i1 p0 p1 p2) h Tryz.func93 rfl Tryz.ntmps93 rfl fun w g => ?_
  refine .seq <| .region <| .sg rfl rfl <| .nil <| .th <| .seq <| .seq <| .region <| .mv rfl rfl <| .ln Tryz.runUnderlying24 rfl sls_p rfl <| .mv rfl rfl <| .nil <| .th <| .blk <| .loop (α := (Int)) id (fun s8_0 => [(0, vL 1 eI p0), (1, .fn (.func 60) [] [.el [pI p1], .el [pI p2]]), (7, vI (p0.length : Int)), (8, vI s8_0)]) (fun s8_0 => []) 0 rfl (.s rfl (.s rfl (.s rfl (.s rfl .n)))) rfl ?_
  rintro s8_0 n
  refine .seq <| .region <| .lss rfl rfl rfl <| .nil <| .th <| .seq <| .cond rfl ?_ ?_
  · refine .skip <| .th <| .seq <| .blk <| .seq <| .region <| .mv rfl rfl <| .sg rfl rfl <| .nil <| .th <| .seq <| .region <| .mv rfl rfl <| .mv rfl rfl <| .mv rfl rfl <| .ix Tryz.runUnderlying24 Tryz.sizeOf3 rfl rfl sls_p (fun _ => rfl) rfl fun z1 => ?_
    refine .lE Tryz.isAgg3 rfl rfl rfl <| .cf [] [] rfl (fun z h => ⟨c60i1 h, .mk' rfl, rfl, rfl⟩) (fun _ _ => rfl) (.s rfl .n) rfl rd0 rfl fun z2 => .nil <| .th <| .cond rfl ?_ ?_
    · exact .seq <| .region <| .mv rfl rfl <| .sg rfl rfl <| .nil <| .th <| .ret <| .blkR <| .thR <| .lpR <| .blkR <| .thR <| .ret1 (P := p93i1 p0 p1 p2) (sel := []) ⟨rfl, rfl⟩ rfl rfl (.tmp rfl) .rf .nil rfl
    · exact .skip <| .blk <| .th <| .region <| .add rfl rfl rfl <| .mv rfl rfl <| .nil <| .next (wi (s8_0 + 1)) rfl (.s rfl (.s rfl (.s rfl (.s rfl .n)))) rfl
  · exact .exit <| .thE <| .lpE <| .blkE <| .th <| .seq <| .region <| .sg rfl rfl <| .nil <| .th <| .ret <| .ret1 (P := p93i1 p0 p1 p2) (sel := []) ⟨rfl, rfl⟩ rfl rfl (.tmp rfl) .rf .nil rfl
noncomputable def m59i1 (p0 : List Int) (p1 : Int) (p2 : Int) : Option Bool := (m93i1 p0 p1 p2).bind fun z1 => some (decide (0 ≤ z1))
abbrev p59i1 (p0 : List Int) (p1 : Int) (p2 : Int) (r : Bool) (v : V) (H : List Ob) : Prop := v = vB r ∧ H = []
theorem c59i1 {p0 : List Int} {p1 : Int} {p2 : Int} {r : Bool} (h : m59i1 p0 p1 p2 = some r) : CE Tryz.prog 59 [vL 1 eI p0, .fn (.func 60) [] [.el [pI p1], .el [pI p2]]] [] (vB r) [] := by
  refine CD.ofM (P := p59i1 p0 p1 p2) h Tryz.func59 rfl Tryz.ntmps59 rfl fun w g => ?_
  refine .seq <| .region <| .sg rfl rfl <| .nil <| .th <| .seq <| .region <| .mv rfl rfl <| .mv rfl rfl <| .cd [] [] (fun z h => ⟨c93i1 h, .mk' rfl, rfl, rfl⟩) (fun _ _ => rfl) (.s rfl (.s rfl .n)) rd0 rfl fun z1 => ?_
  exact .geq rfl rfl rfl <| .sg rfl rfl <| .nil <| .th <| .ret <| .ret1 (P := p59i1 p0 p1 p2) (sel := []) ⟨rfl, rfl⟩ rfl rfl (.tmp rfl) .rf .nil rfl
noncomputable def m33 (a0 : Int) (a1 : Int) (a2 : List Int) : Option Bool := (m59i1 a2 a0 a1).bind fun z1 => some (!z1)
abbrev p33 (r : Bool) (v : V) (H : List Ob) : Prop := v = vB r ∧ H = []
theorem c33 {a0 : Int} {a1 : Int} {a2 : List Int} {r : Bool} (h : m33 a0 a1 a2 = some r) : CP Tryz.prog 33 [vI a0, vI a1, vL 1 eI a2] (vB r) := by
  refine CD.ofM (P := p33) h Tryz.func33 rfl Tryz.ntmps33 rfl fun w g => ?_
  refine .seq <| .region <| .bxE (cs := [pI a0]) rfl rfl rfl rfl <| .bxE (cs := [pI a1]) rfl rfl rfl rfl <| .sg rfl rfl <| .nil <| .th <| .seq <| .region <| .mv rfl rfl <| .mf rfl rfl rfl <| .cd [] [] (fun z h => ⟨c59i1 h, .mk' rfl, rfl, rfl⟩) (fun _ _ => rfl) (.s rfl (.s rfl .n)) rd0 rfl fun z1 => ?_
  exact .not rfl rfl <| .sg rfl rfl <| .nil <| .th <| .ret <| .ret1 (P := p33) (sel := []) ⟨rfl, rfl⟩ rfl rfl (.tmp rfl) .rf .nil rfl
noncomputable def m36 (a0 : ApiOp) : Option Bool := some (decide (a0.code = 4))
abbrev p36 (r : Bool) (v : V) (H : List Ob) : Prop := v = vB r ∧ H = []
theorem c36 {a0 : ApiOp} {r : Bool} (h : m36 a0 = some r) : CP Tryz.prog 36 [.agg ((eApiOp a0).map .p)] (vB r) := by
  refine CD.ofM (P := p36) h Tryz.func36 rfl Tryz.ntmps36 rfl fun w g => ?_
  refine .seq <| .region <| .bxE (cs := eApiOp a0) rfl rfl rfl rfl <| .sg rfl rfl <| .nil <| .th <| .seq <| .region <| .fE fa58_0 rfl rfl rfl <| .lE Tryz.isAgg5 rfl rfl rfl <| .eql rfl rfl rfl <| .sg rfl rfl <| ?_
  exact .nil <| .th <| .ret <| .ret1 (P := p36) (sel := []) ⟨rfl, rfl⟩ rfl rfl (.tmp rfl) .rf .nil rfl
noncomputable def m65i1 (p0 : ApiChoice) (p1 : Int) : Option Bool := (m33 p0.lo p0.hi ([p1] : List Int)).bind fun z1 => some z1
abbrev p65i1 (p0 : ApiChoice) (p1 : Int) (r : Bool) (v : V) (H : List Ob) : Prop := v = vB r ∧ H = []
theorem c65i1 {p0 : ApiChoice} {p1 : Int} {r : Bool} (h : m65i1 p0 p1 = some r) : CE Tryz.prog 65 [.agg ((eApiChoice p0).map .p), vI p1] [] (vB r) [] := by
  refine CD.ofM (P := p65i1 p0 p1) h Tryz.func65 rfl Tryz.ntmps65 rfl fun w g => ?_
  refine .seq <| .region <| .bxE (cs := eApiChoice p0) rfl rfl rfl rfl <| .sg rfl rfl <| .nil <| .th <| .seq <| .region <| .fE fa72_1 rfl rfl rfl <| .lE Tryz.isAgg3 rfl rfl rfl <| .fE fa72_2 rfl rfl rfl <| .lE Tryz.isAgg3 rfl rfl rfl <| ?_
  refine .mv rfl rfl <| .bs ([p1] : List Int) eI Tryz.runUnderlying24 Tryz.sizeOf3 Tryz.zeroValue3 rfl rfl rfl rfl rfl rfl rfl rfl <| .cw (fun _ => c33) (fun _ _ => rfl) (.s rfl (.s rfl (.s rfl .n))) rfl (fun _ => rfl) rfl fun z1 => ?_
  exact .sg rfl rfl <| .nil <| .th <| .ret <| .ret1 (P := p65i1 p0 p1) (sel := []) ⟨rfl, rfl⟩ rfl rfl (.tmp rfl) .rf .nil rfl
noncomputable def m64i1_1 (p0 : List ApiChoice) (p1 : List Int) : Int → Option (Bool) := Lp fun s17_0 => if (decide (s17_0 < (p0.length : Int))) then (ix p0 s17_0).bind fun z1 => (ix p1 s17_0).bind fun z2 => (m65i1 ⟨z1.name, z1.lo, z1.hi⟩ z2).bind fun z3 => if (!z3) then (some false).map .inr else some (.inl (wi (s17_0 + 1))) else (some true).map .inr
noncomputable def m64i1 (p0 : List ApiChoice) (p1 : List Int) : Option Bool := if (!decide ((p0.length : Int) = (p1.length : Int))) then some false else m64i1_1 p0 p1 0
abbrev p64i1 (p0 : List ApiChoice) (p1 : List Int) (r : Bool) (v : V) (H : List Ob) : Prop := v = vB r ∧ H = []
theorem c64i1 {p0 : List ApiChoice} {p1 : List Int} {r : Bool} (h : m64i1 p0 p1 = some r) : CE Tryz.prog 64 [vL 3 eApiChoice p0, vL 1 eI p1, .p (.v (.func (.func 65) #[] #[]))] [] (vB r) [] := by
  refine CD.ofM (P := p64i1 p0 p1) h Tryz.func64 rfl Tryz.ntmps64 rfl fun w g => ?_
  refine .ext 1 ?_
  refine .seq <| .region <| .sg rfl rfl <| .nil <| .th <| .seq <| .seq <| .region <| .mv rfl rfl <| .ln Tryz.runUnderlying22 rfl sls_p rfl <| .mv rfl rfl <| .ln Tryz.runUnderlying24 rfl sls_p rfl <| .neq rfl rfl rfl <| ?_
  refine .nil <| .th <| .cond rfl ?_ ?_
  · exact .seq <| .region <| .sg rfl rfl <| .nil <| .th <| .ret <| .thR <| .ret1 (P := p64i1 p0 p1) (sel := []) ⟨rfl, rfl⟩ rfl rfl (.tmp rfl) .rf .nil rfl
  · refine .skip <| .th <| .seq <| .seq <| .region <| .mv rfl rfl <| .ln Tryz.runUnderlying22 rfl sls_p rfl <| .mv rfl rfl <| .nil <| .th <| .blk <| .loop (α := (Int)) id (fun s17_0 => [(1, vL 1 eI p1), (2, .p (.v (.func (.func 65) #[] #[]))), (15, vL 3 eApiChoice p0), (16, vI (p0.length : Int)), (17, vI s17_0)]) (fun s17_0 => [.dead]) 0 rfl (.s rfl (.s rfl (.s rfl (.s rfl (.s rfl .n))))) rfl ?_
    rintro s17_0 n
    refine .seq <| .region <| .lss rfl rfl rfl <| .nil <| .th <| .seq <| .cond rfl ?_ ?_
    · refine .skip <| .th <| .seq <| .blk <| .seq <| .region <| .mv rfl rfl <| .ix Tryz.runUnderlying22 Tryz.sizeOf72 rfl rfl sls_p eApiChoice_len rfl fun z1 => .lEA Tryz.isAgg72 Tryz.sizeOf72 rfl rfl rfl <| .al 0 Tryz.zeroValue72 rfl rfl rfl <| ?_
      refine .sg rfl rfl <| .st Tryz.sizeOf72 rfl rfl rfl rfl rfl rfl <| .nil <| .th <| .seq <| .region <| .mv rfl rfl <| .mv rfl rfl <| .ix Tryz.runUnderlying24 Tryz.sizeOf3 rfl rfl sls_p (fun _ => rfl) rfl fun z2 => ?_
      refine .lE Tryz.isAgg3 rfl rfl rfl <| .sg rfl rfl <| .nil <| .th <| .seq <| .region <| .mv rfl rfl <| .lRA Tryz.isAgg72 Tryz.sizeOf72 rfl rfl rfl rfl <| .mv rfl rfl <| .c0 [] [] rfl (fun z h => ⟨c65i1 h, .mk' rfl, rfl, rfl⟩) (fun _ _ => rfl) (.s rfl (.s rfl .n)) rd0 rfl fun z3 => ?_
      refine .not rfl rfl <| .nil <| .th <| .cond rfl ?_ ?_
      · exact .seq <| .region <| .sg rfl rfl <| .nil <| .th <| .ret <| .blkR <| .thR <| .lpR <| .blkR <| .thR <| .ret1 (P := p64i1 p0 p1) (sel := []) ⟨rfl, rfl⟩ rfl rfl (.tmp rfl) .rf .nil rfl
      · exact .skip <| .blk <| .th <| .region <| .add rfl rfl rfl <| .mv rfl rfl <| .nil <| .nextK [0] (wi (s17_0 + 1)) rfl (.s rfl (.s rfl (.s rfl (.s rfl (.s rfl .n))))) rfl rfl
    · exact .exit <| .thE <| .lpE <| .blkE <| .th <| .seq <| .region <| .sg rfl rfl <| .nil <| .th <| .ret <| .ret1 (P := p64i1 p0 p1) (sel := []) ⟨rfl, rfl⟩ rfl rfl (.tmp rfl) .rf .nil rfl
noncomputable def m37 (a0 : ApiCore) (a1 : List Int) : Option Bool := (m64i1 a0.choices a1).bind fun z1 => some z1
abbrev p37 (r : Bool) (v : V) (H : List Ob) : Prop := v = vB r ∧ H = []
theorem c37 {a0 : ApiCore} {a1 : List Int} {r : Bool} (h : m37 a0 a1 = some r) : CP Tryz.prog 37 [.agg ((eApiCore a0).map .p), vL 1 eI a1] (vB r) := by
  refine CD.ofM (P := p37) h Tryz.func37 rfl Tryz.ntmps37 rfl fun w g => ?_
  refine .seq <| .region <| .bxE (cs := eApiCore a0) rfl rfl rfl rfl <| .sg rfl rfl <| .nil <| .th <| .seq <| .region <| .fE fa26_0 rfl rfl rfl <| .lE Tryz.isAgg22 rfl rfl rfl <| .mv rfl rfl <| .cd [] [] (fun z h => ⟨c64i1 h, .mk' rfl, rfl, rfl⟩) (fun _ _ => rfl) (.s rfl (.s rfl (.s rfl .n))) rd0 rfl fun z1 => ?_
  exact .sg rfl rfl <| .nil <| .th <| .ret <| .ret1 (P := p37) (sel := []) ⟨rfl, rfl⟩ rfl rfl (.tmp rfl) .rf .nil rfl
noncomputable def m39 (a0 : Int) (a1 : Int) (a2 : Int) : Option Bool := some ((decide (a1 ≤ a0)) && (decide (a0 ≤ a2)))
abbrev p39 (r : Bool) (v : V) (H : List Ob) : Prop := v = vB r ∧ H = []
theorem c39 {a0 : Int} {a1 : Int} {a2 : Int} {r : Bool} (h : m39 a0 a1 a2 = some r) : CP Tryz.prog 39 [vI a0, vI a1, vI a2] (vB r) := by
  refine CD.ofM (P := p39) h Tryz.func39 rfl Tryz.ntmps39 rfl fun w g => ?_
  refine .seq <| .region <| .sg rfl rfl <| .nil <| .th <| .seq <| .region <| .mv rfl rfl <| .mv rfl rfl <| .geq rfl rfl rfl <| .mv rfl rfl <| .and (r := (decide (a0 ≤ a2))) 4 14 10 rfl (fun c => ?_) (fun c => ?_) ?_
  · exact .yes 10 rfl rfl rfl <| .mv rfl rfl <| .yes 10 rfl rfl rfl <| .mv rfl rfl <| .yes 10 rfl rfl rfl <| .leq rfl rfl rfl <| .pickT rfl rfl rfl <| c _ (.up rfl rfl rfl)
  · exact .no 10 rfl rfl rfl rfl <| .no 10 rfl rfl rfl rfl <| .no 10 rfl rfl rfl rfl <| .pickF rfl rfl rfl <| c _ (.up rfl rfl rfl)
  · exact .sg rfl rfl <| .nil <| .th <| .ret <| .ret1 (P := p39) (sel := []) ⟨rfl, rfl⟩ rfl rfl (.tmp rfl) .rf .nil rfl
noncomputable def m41_1 (a0 : ApiCore) : Int → Option (Bool) := Lp fun s3_0 => if (decide (s3_0 < (a0.ops.length : Int))) then (ix a0.ops s3_0).bind fun z1 => if (decide (z1.code = 4)) then (some true).map .inr else some (.inl (wi (s3_0 + 1))) else (some false).map .inr
noncomputable def m41 (a0 : ApiCore) : Option Bool := m41_1 a0 0
abbrev p41 (r : Bool) (v : V) (H : List Ob) : Prop := v = vB r ∧ H = []
theorem c41 {a0 : ApiCore} {r : Bool} (h : m41 a0 = some r) : CP Tryz.prog 41 [.agg ((eApiCore a0).map .p)] (vB r) := by
  refine CD.ofM (P := p41) h Tryz.func41 rfl Tryz.ntmps41 rfl fun w g => ?_
  refine .seq <| .region <| .bxE (cs := eApiCore a0) rfl rfl rfl rfl <| .sg rfl rfl <| .nil <| .th <| .seq <| .seq <| .region <| .sg rfl rfl <| .nil <| .th <| .blk <| .loop (α := (Int)) id (fun s3_0 => [(1, .el (eApiCore a0)), (3, vI s3_0)]) (fun s3_0 => []) 0 rfl (.s rfl (.s rfl .n)) rfl ?_
  rintro s3_0 n
  refine .seq <| .seq <| .region <| .mv rfl rfl <| .fE fa26_1 rfl rfl rfl <| .lE Tryz.isAgg23 rfl rfl rfl <| .ln Tryz.runUnderlying23 rfl sls_p rfl <| .lss rfl rfl rfl <| .nil <| .th <| .cond rfl ?_ ?_
  · refine .skip <| .th <| .seq <| .blk <| .seq <| .region <| .fE fa26_1 rfl rfl rfl <| .lE Tryz.isAgg23 rfl rfl rfl <| .mv rfl rfl <| .ix Tryz.runUnderlying23 Tryz.sizeOf58 rfl rfl sls_p eApiOp_len rfl fun z1 => ?_
    refine .fE fa58_0 rfl rfl rfl <| .lE Tryz.isAgg5 rfl rfl rfl <| .eql rfl rfl rfl <| .nil <| .th <| .cond rfl ?_ ?_
    · exact .seq <| .region <| .sg rfl rfl <| .nil <| .th <| .ret <| .blkR <| .thR <| .lpR <| .blkR <| .thR <| .ret1 (P := p41) (sel := []) ⟨rfl, rfl⟩ rfl rfl (.tmp rfl) .rf .nil rfl
    · exact .skip <| .blk <| .th <| .region <| .mv rfl rfl <| .add rfl rfl rfl <| .sg rfl rfl <| .nil <| .next (wi (s3_0 + 1)) rfl (.s rfl (.s rfl .n)) rfl
  · exact .exit <| .thE <| .lpE <| .blkE <| .th <| .seq <| .region <| .sg rfl rfl <| .nil <| .th <| .ret <| .ret1 (P := p41) (sel := []) ⟨rfl, rfl⟩ rfl rfl (.tmp rfl) .rf .nil rfl
noncomputable def m42_1 (a1 : List Int) (a0 : ApiCore) : Int → Option (Bool) := Lp fun s5_0 => if ((decide (s5_0 < (a1.length : Int))) && (decide (s5_0 < (a0.choices.length : Int)))) then (ix a1 s5_0).bind fun z1 => (ix a0.choices s5_0).bind fun z2 => (ix a0.choices s5_0).bind fun z3 => (m39 z1 z2.lo z3.hi).bind fun z4 => if (!z4) then (some false).map .inr else some (.inl (wi (s5_0 + 1))) else (some (decide ((a1.length : Int) = (a0.choices.length : Int)))).map .inr
noncomputable def m42 (a0 : ApiCore) (a1 : List Int) : Option Bool := m42_1 a1 a0 0
abbrev p42 (r : Bool) (v : V) (H : List Ob) : Prop := v = vB r ∧ H = []
theorem c42 {a0 : ApiCore} {a1 : List Int} {r : Bool} (h : m42 a0 a1 = some r) : CP Tryz.prog 42 [.agg ((eApiCore a0).map .p), vL 1 eI a1] (vB r) := by
  refine CD.ofM (P := p42) h Tryz.func42 rfl Tryz.ntmps42 rfl fun w g => ?_
  refine .seq <| .region <| .bxE (cs := eApiCore a0) rfl rfl rfl rfl <| .sg rfl rfl <| .nil <| .th <| .seq <| .seq <| .region <| .sg rfl rfl <| .nil <| .th <| .blk <| .loop (α := (Int)) id (fun s5_0 => [(1, vL 1 eI a1), (2, .el (eApiCore a0)), (5, vI s5_0)]) (fun s5_0 => []) 0 rfl (.s rfl (.s rfl (.s rfl .n))) rfl ?_
  rintro s5_0 n
  refine .seq <| .seq <| .region <| .mv rfl rfl <| .mv rfl rfl <| .ln Tryz.runUnderlying24 rfl sls_p rfl <| .lss rfl rfl rfl <| .mv rfl rfl <| .and (r := (decide (s5_0 < (a0.choices.length : Int)))) 6 16 10 rfl (fun c => ?_) (fun c => ?_) ?_
  · refine .yes 10 rfl rfl rfl <| .mv rfl rfl <| .yes 10 rfl rfl rfl <| .fE fa26_0 rfl rfl rfl <| .yes 10 rfl rfl rfl <| .lE Tryz.isAgg22 rfl rfl rfl <| .yes 10 rfl rfl rfl <| .ln Tryz.runUnderlying22 rfl sls_p rfl <| ?_
    exact .yes 10 rfl rfl rfl <| .lss rfl rfl rfl <| .pickT rfl rfl rfl <| c _ (.up rfl rfl rfl)
  · exact .no 10 rfl rfl rfl rfl <| .no 10 rfl rfl rfl rfl <| .no 10 rfl rfl rfl rfl <| .no 10 rfl rfl rfl rfl <| .no 10 rfl rfl rfl rfl <| .pickF rfl rfl rfl <| c _ (.up rfl rfl rfl)
  · refine .nil <| .th <| .cond rfl ?_ ?_
    · refine .skip <| .th <| .seq <| .blk <| .seq <| .any Tryz.mixed <| .mv rfl .n <| .mv rfl .n <| .ix Tryz.runUnderlying24 Tryz.sizeOf3 rfl rfl sls_p (fun _ => rfl) .n fun z1 => .lE Tryz.isAgg3 rfl rfl .n <| .fE fa26_0 rfl rfl .n <| ?_
      refine .lE Tryz.isAgg22 rfl rfl .n <| .mv rfl .n <| .ix Tryz.runUnderlying22 Tryz.sizeOf72 rfl rfl sls_p eApiChoice_len .n fun z2 => .fE fa72_1 rfl rfl .n <| .lE Tryz.isAgg3 rfl rfl .n <| .fE fa26_0 rfl rfl .n <| ?_
      refine .lE Tryz.isAgg22 rfl rfl .n <| .mv rfl .n <| .ix Tryz.runUnderlying22 Tryz.sizeOf72 rfl rfl sls_p eApiChoice_len .n fun z3 => .fE fa72_2 rfl rfl .n <| .lE Tryz.isAgg3 rfl rfl .n <| .cw (fun _ => c39) (fun _ _ => rfl) (.s rfl (.s rfl (.s rfl .n))) rfl (fun _ => rfl) .n fun z4 => ?_
      refine .not rfl .n <| .nil (by kernel_rfl) <| .th <| .cond rfl ?_ ?_
      · exact .seq <| .region <| .sg rfl rfl <| .nil <| .th <| .ret <| .blkR <| .thR <| .lpR <| .blkR <| .thR <| .ret1 (P := p42) (sel := []) ⟨rfl, rfl⟩ rfl rfl (.tmp rfl) .rf .nil rfl
      · exact .skip <| .blk <| .th <| .region <| .mv rfl rfl <| .add rfl rfl rfl <| .sg rfl rfl <| .nil <| .next (wi (s5_0 + 1)) rfl (.s rfl (.s rfl (.s rfl .n))) rfl
    · refine .exit <| .thE <| .lpE <| .blkE <| .th <| .seq <| .region <| .mv rfl rfl <| .ln Tryz.runUnderlying24 rfl sls_p rfl <| .fE fa26_0 rfl rfl rfl <| .lE Tryz.isAgg22 rfl rfl rfl <| .ln Tryz.runUnderlying22 rfl sls_p rfl <| ?_
      exact .eql rfl rfl rfl <| .sg rfl rfl <| .nil <| .th <| .ret <| .ret1 (P := p42) (sel := []) ⟨rfl, rfl⟩ rfl rfl (.tmp rfl) .rf .nil rfl
noncomputable def m75i1 (p0 : ApiOp) (p1 : ApiTemplate) : Option Bool := (m36 p0).bind fun z1 => some (z1 && (decide (p1.params ≤ p0.n)))
abbrev p75i1 (p0 : ApiOp) (p1 : ApiTemplate) (r : Bool) (v : V) (H : List Ob) : Prop := v = vB r ∧ H = []
theorem c75i1 {p0 : ApiOp} {p1 : ApiTemplate} {r : Bool} (h : m75i1 p0 p1 = some r) : CE Tryz.prog 75 [.agg ((eApiOp p0).map .p), .el (eApiTemplate p1)] [] (vB r) [] := by
  refine CD.ofM (P := p75i1 p0 p1) h Tryz.func75 rfl Tryz.ntmps75 rfl fun w g => ?_
  refine .seq <| .region <| .bxE (cs := eApiOp p0) rfl rfl rfl rfl <| .sg rfl rfl <| .nil <| .th <| .seq <| .region <| .lEA Tryz.isAgg58 Tryz.sizeOf58 rfl rfl rfl <| .cw (fun _ => c36) (fun _ _ => rfl) (.s rfl .n) rfl (fun _ => rfl) rfl fun z1 => ?_
  refine .mv rfl rfl <| .and (r := (decide (p1.params ≤ p0.n))) 6 12 6 rfl (fun c => ?_) (fun c => ?_) ?_
  · refine .yes 6 rfl rfl rfl <| .fE fa58_4 rfl rfl rfl <| .yes 6 rfl rfl rfl <| .lE Tryz.isAgg3 rfl rfl rfl <| .yes 6 rfl rfl rfl <| .fE fa42_1 rfl rfl rfl <| .yes 6 rfl rfl rfl <| .lE Tryz.isAgg3 rfl rfl rfl <| ?_
    exact .yes 6 rfl rfl rfl <| .geq rfl rfl rfl <| .pickT rfl rfl rfl <| c _ (.up rfl rfl rfl)
  · exact .no 6 rfl rfl rfl rfl <| .no 6 rfl rfl rfl rfl <| .no 6 rfl rfl rfl rfl <| .no 6 rfl rfl rfl rfl <| .no 6 rfl rfl rfl rfl <| .pickF rfl rfl rfl <| c _ (.up rfl rfl rfl)
  · exact .sg rfl rfl <| .nil <| .th <| .ret <| .ret1 (P := p75i1 p0 p1) (sel := []) ⟨rfl, rfl⟩ rfl rfl (.tmp rfl) .rf .nil rfl
noncomputable def m63i1_1 (p0 : List ApiOp) (p1 : ApiTemplate) : Int → Option (Int) := Lp fun s8_0 => if (decide (s8_0 < (p0.length : Int))) then (ix p0 s8_0).bind fun z1 => (m75i1 z1 p1).bind fun z2 => if z2 then (some s8_0).map .inr else some (.inl (wi (s8_0 + 1))) else (some (-1)).map .inr
noncomputable def m63i1 (p0 : List ApiOp) (p1 : ApiTemplate) : Option Int := m63i1_1 p0 p1 0
abbrev p63i1 (p0 : List ApiOp) (p1 : ApiTemplate) (r : Int) (v : V) (H : List Ob) : Prop := v = vI r ∧ H = []
theorem c63i1 {p0 : List ApiOp} {p1 : ApiTemplate} {r : Int} (h : m63i1 p0 p1 = some r) : CE Tryz.prog 63 [vL 5 eApiOp p0, .fn (.func 75) [] [.el (eApiTemplate p1)]] [] (vI r) [] := by
  refine CD.ofM (P := p63i1 p0 p1) h Tryz.func63 rfl Tryz.ntmps63 rfl fun w g => ?_
  refine .seq <| .region <| .sg rfl rfl <| .nil <| .th <| .seq <| .seq <| .region <| .mv rfl rfl <| .ln Tryz.runUnderlying23 rfl sls_p rfl <| .mv rfl rfl <| .nil <| .th <| .blk <| .loop (α := (Int)) id (fun s8_0 => [(0, vL 5 eApiOp p0), (1, .fn (.func 75) [] [.el (eApiTemplate p1)]), (7, vI (p0.length : Int)), (8, vI s8_0)]) (fun s8_0 => []) 0 rfl (.s rfl (.s rfl (.s rfl (.s rfl .n)))) rfl ?_
  rintro s8_0 n
  refine .seq <| .region <| .lss rfl rfl rfl <| .nil <| .th <| .seq <| .cond rfl ?_ ?_
  · refine .skip <| .th <| .seq <| .blk <| .seq <| .region <| .mv rfl rfl <| .sg rfl rfl <| .nil <| .th <| .seq <| .region <| .mv rfl rfl <| .mv rfl rfl <| .mv rfl rfl <| .ix Tryz.runUnderlying23 Tryz.sizeOf58 rfl rfl sls_p eApiOp_len rfl fun z1 => ?_
    refine .lEA Tryz.isAgg58 Tryz.sizeOf58 rfl rfl rfl <| .cf [] [] rfl (fun z h => ⟨c75i1 h, .mk' rfl, rfl, rfl⟩) (fun _ _ => rfl) (.s rfl .n) rfl rd0 rfl fun z2 => .nil <| .th <| .cond rfl ?_ ?_
    · exact .seq <| .region <| .mv rfl rfl <| .sg rfl rfl <| .nil <| .th <| .ret <| .blkR <| .thR <| .lpR <| .blkR <| .thR <| .ret1 (P := p63i1 p0 p1) (sel := []) ⟨rfl, rfl⟩ rfl rfl (.tmp rfl) .rf .nil rfl
    · exact .skip <| .blk <| .th <| .region <| .add rfl rfl rfl <| .mv rfl rfl <| .nil <| .next (wi (s8_0 + 1)) rfl (.s rfl (.s rfl (.s rfl (.s rfl .n)))) rfl
  · exact .exit <| .thE <| .lpE <| .blkE <| .th <| .seq <| .region <| .sg rfl rfl <| .nil <| .th <| .ret <| .ret1 (P := p63i1 p0 p1) (sel := []) ⟨rfl, rfl⟩ rfl rfl (.tmp rfl) .rf .nil rfl
noncomputable def m35i1 (p0 : List ApiOp) (p1 : ApiTemplate) : Option Bool := (m63i1 p0 p1).bind fun z1 => some (decide (0 ≤ z1))
abbrev p35i1 (p0 : List ApiOp) (p1 : ApiTemplate) (r : Bool) (v : V) (H : List Ob) : Prop := v = vB r ∧ H = []
theorem c35i1 {p0 : List ApiOp} {p1 : ApiTemplate} {r : Bool} (h : m35i1 p0 p1 = some r) : CE Tryz.prog 35 [vL 5 eApiOp p0, .fn (.func 75) [] [.el (eApiTemplate p1)]] [] (vB r) [] := by
  refine CD.ofM (P := p35i1 p0 p1) h Tryz.func35 rfl Tryz.ntmps35 rfl fun w g => ?_
  refine .seq <| .region <| .sg rfl rfl <| .nil <| .th <| .seq <| .region <| .mv rfl rfl <| .mv rfl rfl <| .cd [] [] (fun z h => ⟨c63i1 h, .mk' rfl, rfl, rfl⟩) (fun _ _ => rfl) (.s rfl (.s rfl .n)) rd0 rfl fun z1 => ?_
  exact .geq rfl rfl rfl <| .sg rfl rfl <| .nil <| .th <| .ret <| .ret1 (P := p35i1 p0 p1) (sel := []) ⟨rfl, rfl⟩ rfl rfl (.tmp rfl) .rf .nil rfl
noncomputable def m44 (a0 : ApiTemplate) : Option Bool := if (decide ((a0.core.choices.length : Int) = 0)) then (m33 0 32 ([a0.params] : List Int)).bind fun z1 => if z1 then (m35i1 a0.core.ops a0).bind fun z2 => some (!z2) else some false else some false
abbrev p44 (r : Bool) (v : V) (H : List Ob) : Prop := v = vB r ∧ H = []
theorem c44 {a0 : ApiTemplate} {r : Bool} (h : m44 a0 = some r) : CP Tryz.prog 44 [.agg ((eApiTemplate a0).map .p)] (vB r) := by
  refine CD.ofM (P := p44) h Tryz.func44 rfl Tryz.ntmps44 rfl fun w g => ?_
  refine .seq <| .region <| .bxE (cs := eApiTemplate a0) rfl rfl rfl rfl <| .sg rfl rfl <| .nil <| .th <| .seq <| .region <| .fE fa42_2 rfl rfl rfl <| .fE fa26_0 rfl rfl rfl <| .lE Tryz.isAgg22 rfl rfl rfl <| .ln Tryz.runUnderlying22 rfl sls_p rfl <| ?_
  refine .eql rfl rfl rfl <| .mv rfl rfl <| .fork 8 rfl ?_ ?_
  · refine .yes 8 rfl rfl rfl <| .fE fa42_1 rfl rfl rfl <| .yes 8 rfl rfl rfl <| .lE Tryz.isAgg3 rfl rfl rfl <| .yes 8 rfl rfl rfl <| .bs ([a0.params] : List Int) eI Tryz.runUnderlying24 Tryz.sizeOf3 Tryz.zeroValue3 rfl rfl rfl rfl rfl rfl rfl rfl <| ?_
    refine .yes 8 rfl rfl rfl <| .cw (fun _ => c33) (fun _ _ => rfl) (.s rfl (.s rfl (.s rfl .n))) rfl (fun _ => rfl) rfl fun z1 => .pickT rfl rfl rfl <| .mv rfl rfl <| .fork 14 rfl ?_ ?_
    · refine .yes 14 rfl rfl rfl <| .fE fa42_2 rfl rfl rfl <| .yes 14 rfl rfl rfl <| .fE fa26_1 rfl rfl rfl <| .yes 14 rfl rfl rfl <| .lE Tryz.isAgg23 rfl rfl rfl <| .yes 14 rfl rfl rfl <| .mf rfl rfl rfl <| .yes 14 rfl rfl rfl <| ?_
      refine .cd [] [] (fun z h => ⟨c35i1 h, .mk' rfl, rfl, rfl⟩) (fun _ _ => rfl) (.s rfl (.s rfl .n)) rd0 rfl fun z2 => .yes 14 rfl rfl rfl <| .not rfl rfl <| .pickT rfl rfl rfl <| .sg rfl rfl <| .nil <| .th <| .ret <| ?_
      exact .ret1 (P := p44) (sel := []) ⟨rfl, rfl⟩ rfl rfl (.tmp rfl) .rf .nil rfl
    · refine .no 14 rfl rfl rfl rfl <| .no 14 rfl rfl rfl rfl <| .no 14 rfl rfl rfl rfl <| .no 14 rfl rfl rfl rfl <| .no 14 rfl rfl rfl rfl <| .no 14 rfl rfl rfl rfl <| .pickF rfl rfl rfl <| .sg rfl rfl <| .nil <| .th <| ?_
      exact .ret <| .ret1 (P := p44) (sel := []) ⟨rfl, rfl⟩ rfl rfl (.tmp rfl) .rf .nil rfl
  · refine .no 8 rfl rfl rfl rfl <| .no 8 rfl rfl rfl rfl <| .no 8 rfl rfl rfl rfl <| .no 8 rfl rfl rfl rfl <| .pickF rfl rfl rfl <| .mv rfl rfl <| .no 14 rfl rfl rfl rfl <| .no 14 rfl rfl rfl rfl <| .no 14 rfl rfl rfl rfl <| ?_
    exact .no 14 rfl rfl rfl rfl <| .no 14 rfl rfl rfl rfl <| .no 14 rfl rfl rfl rfl <| .pickF rfl rfl rfl <| .sg rfl rfl <| .nil <| .th <| .ret <| .ret1 (P := p44) (sel := []) ⟨rfl, rfl⟩ rfl rfl (.tmp rfl) .rf .nil rfl
noncomputable def m45 (a0 : List ApiChoice) : Option (List ApiChoice) := (ap ([] : List ApiChoice) a0).bind fun z1 => some z1
abbrev p45 (r : (List ApiChoice)) (v : V) (H : List Ob) : Prop := v = vL 3 eApiChoice r ∧ H = []
theorem c45 {a0 : List ApiChoice} {r : (List ApiChoice)} (h : m45 a0 = some r) : CP Tryz.prog 45 [vL 3 eApiChoice a0] (vL 3 eApiChoice r) := by
  refine CD.ofM (P := p45) h Tryz.func45 rfl Tryz.ntmps45 rfl fun w g => ?_
  refine .ext 1 ?_
  refine .seq <| .region <| .sg rfl rfl <| .nil <| .th <| .seq <| .seq <| .region <| .mv rfl rfl <| .nilQ Tryz.runUnderlying22 rfl rfl ?_ (fun q => ?_)
  · refine .nil <| .th <| .condF rfl <| .skip <| .th <| .seq <| .region <| .bsT 0 ([] : List ApiChoice) eApiChoice Tryz.runUnderlying22 Tryz.sizeOf72 Tryz.zeroValue72 rfl rfl rfl rfl rfl rfl rfl rfl rfl rfl <| .mv rfl rfl <| ?_
    exact .ap Tryz.under22 info72 rfl (by decide) rfl rfl rfl sls_p eApiChoice_one rfl rfl fun z1 => .sg rfl rfl <| .nil <| .th <| .ret <| .ret1 (P := p45) (sel := []) ⟨rfl, rfl⟩ rfl rfl (.tmp rfl) .tkp .nil rfl
  · subst q
    exact .as (m' := some []) rfl <| .nil <| .th <| .condT rfl <| .seq <| .region <| .sg rfl rfl <| .nil <| .th <| .ret <| .thR <| .ret1 (P := p45) (sel := []) ⟨rfl, rfl⟩ rfl rfl (.tmp rfl) .nil .nil rfl
end Go.Proofs.YtpcgfeckokgbfaaGreatDoor

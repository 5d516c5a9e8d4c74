/- Functions beside the code, printed by a program of the author. -/
import Derived.Test.YtpcgfeckokgbfaaGreatDoorU2
set_option linter.all false
set_option maxRecDepth 100000
set_option maxHeartbeats 4000000
namespace Go.Proofs.YtpcgfeckokgbfaaGreatDoor
open Go Go.Mi Go.RowKit Go.Dp
noncomputable def m58i1_1 (p0 : List ApiChoice) : Int → Option (Int) := Lp fun s8_0 => if (decide (s8_0 < (p0.length : Int))) then (ix p0 s8_0).bind fun z1 => (m32i1 z1).bind fun z2 => if z2 then (some s8_0).map .inr else some (.inl (wi (s8_0 + 1))) else (some (-1)).map .inr
noncomputable def m58i1 (p0 : List ApiChoice) : Option Int := m58i1_1 p0 0
abbrev p58i1 (p0 : List ApiChoice) (r : Int) (v : V) (H : List Ob) : Prop := v = vI r ∧ H = []
theorem c58i1 {p0 : List ApiChoice} {r : Int} (h : m58i1 p0 = some r) : CE Tryz.prog 58 [vL 3 eApiChoice p0, .p (.v (.func (.func 32) #[] #[]))] [] (vI r) [] := by
  refine CD.ofM (P := p58i1 p0) h Tryz.func58 rfl Tryz.ntmps58 rfl fun w g => ?_
  refine .seq <| .region <| .sg rfl rfl <| .nil <| .th <| .seq <| .seq <| .region <| .mv rfl rfl <| .ln Tryz.runUnderlying22 rfl sls_p rfl <| .mv rfl rfl <| .nil <| .th <| .blk <| .loop (α := (Int)) id (fun s8_0 => [(0, vL 3 eApiChoice p0), (1, .p (.v (.func (.func 32) #[] #[]))), (7, vI (p0.length : Int)), (8, vI s8_0)]) (fun s8_0 => []) 0 rfl (.s rfl (.s rfl (.s rfl (.s rfl .n)))) rfl ?_
  rintro s8_0 n
  refine .seq <| .region <| .lss rfl rfl rfl <| .nil <| .th <| .seq <| .cond rfl ?_ ?_
  · refine .skip <| .th <| .seq <| .blk <| .seq <| .region <| .mv rfl rfl <| .sg rfl rfl <| .nil <| .th <| .seq <| .region <| .mv rfl rfl <| .mv rfl rfl <| .mv rfl rfl <| .ix Tryz.runUnderlying22 Tryz.sizeOf72 rfl rfl sls_p eApiChoice_len rfl fun z1 => ?_
    refine .lEA Tryz.isAgg72 Tryz.sizeOf72 rfl rfl rfl <| .c0 [] [] rfl (fun z h => ⟨c32i1 h, .mk' rfl, rfl, rfl⟩) (fun _ _ => rfl) (.s rfl .n) rd0 rfl fun z2 => .nil <| .th <| .cond rfl ?_ ?_
    · exact .seq <| .region <| .mv rfl rfl <| .sg rfl rfl <| .nil <| .th <| .ret <| .blkR <| .thR <| .lpR <| .blkR <| .thR <| .ret1 (P := p58i1 p0) (sel := []) ⟨rfl, rfl⟩ rfl rfl (.tmp rfl) .rf .nil rfl
    · exact .skip <| .blk <| .th <| .region <| .add rfl rfl rfl <| .mv rfl rfl <| .nil <| .next (wi (s8_0 + 1)) rfl (.s rfl (.s rfl (.s rfl (.s rfl .n)))) rfl
  · exact .exit <| .thE <| .lpE <| .blkE <| .th <| .seq <| .region <| .sg rfl rfl <| .nil <| .th <| .ret <| .ret1 (P := p58i1 p0) (sel := []) ⟨rfl, rfl⟩ rfl rfl (.tmp rfl) .rf .nil rfl
noncomputable def m31i1 (p0 : List ApiChoice) : Option Bool := (m58i1 p0).bind fun z1 => some (decide (0 ≤ z1))
abbrev p31i1 (p0 : List ApiChoice) (r : Bool) (v : V) (H : List Ob) : Prop := v = vB r ∧ H = []
theorem c31i1 {p0 : List ApiChoice} {r : Bool} (h : m31i1 p0 = some r) : CE Tryz.prog 31 [vL 3 eApiChoice p0, .p (.v (.func (.func 32) #[] #[]))] [] (vB r) [] := by
  refine CD.ofM (P := p31i1 p0) h Tryz.func31 rfl Tryz.ntmps31 rfl fun w g => ?_
  refine .seq <| .region <| .sg rfl rfl <| .nil <| .th <| .seq <| .region <| .mv rfl rfl <| .mv rfl rfl <| .cd [] [] (fun z h => ⟨c58i1 h, .mk' rfl, rfl, rfl⟩) (fun _ _ => rfl) (.s rfl (.s rfl .n)) rd0 rfl fun z1 => ?_
  exact .geq rfl rfl rfl <| .sg rfl rfl <| .nil <| .th <| .ret <| .ret1 (P := p31i1 p0) (sel := []) ⟨rfl, rfl⟩ rfl rfl (.tmp rfl) .rf .nil rfl
noncomputable def m12_2 (a0 : ApiCore) (a1 : ApiCore) : Int → Option (Bool) := Lp fun s6_1 => if (decide (s6_1 < (a0.ops.length : Int))) then (ix a0.ops s6_1).bind fun z2 => (ix a1.ops s6_1).bind fun z3 => if (!(decide (z2 = z3))) then (some false).map .inr else some (.inl (wi (s6_1 + 1))) else (some true).map .inr
noncomputable def m12_1 (a0 : ApiCore) (a1 : ApiCore) : Unit → Option (Bool) := fun _ => m12_2 a0 a1 0
noncomputable def m12_3 (a0 : ApiCore) (a1 : ApiCore) : Int → Option (Bool) := Lp fun s5_2 => if (decide (s5_2 < (a0.choices.length : Int))) then (ix a0.choices s5_2).bind fun z4 => (ix a1.choices s5_2).bind fun z5 => if (!(decide (z4 = z5))) then (some false).map .inr else some (.inl (wi (s5_2 + 1))) else (m12_1 a0 a1 ()).map .inr
noncomputable def m12 (a0 : ApiCore) (a1 : ApiCore) : Option Bool := if ((!decide ((a0.choices.length : Int) = (a1.choices.length : Int))) || (!decide ((a0.ops.length : Int) = (a1.ops.length : Int)))) then some false else (m13 a0.roots a1.roots).bind fun z1 => if (!z1) then some false else m12_3 a0 a1 0
abbrev p12 (r : Bool) (v : V) (H : List Ob) : Prop := v = vB r ∧ H = []
theorem c12 {a0 : ApiCore} {a1 : ApiCore} {r : Bool} (h : m12 a0 a1 = some r) : CP Tryz.prog 12 [.agg ((eApiCore a0).map .p), .agg ((eApiCore a1).map .p)] (vB r) := by
  refine CD.ofM (P := p12) h Tryz.func12 rfl Tryz.ntmps12 rfl fun w g => ?_
  refine .seq <| .region <| .bxE (cs := eApiCore a0) rfl rfl rfl rfl <| .bxE (cs := eApiCore a1) rfl rfl rfl rfl <| .sg rfl rfl <| .nil <| .th <| .seq <| .seq <| .region <| .fE fa26_0 rfl rfl rfl <| .lE Tryz.isAgg22 rfl rfl rfl <| ?_
  refine .ln Tryz.runUnderlying22 rfl sls_p rfl <| .fE fa26_0 rfl rfl rfl <| .lE Tryz.isAgg22 rfl rfl rfl <| .ln Tryz.runUnderlying22 rfl sls_p rfl <| .neq rfl rfl rfl <| .mv rfl rfl <| .or (r := (!decide ((a0.ops.length : Int) = (a1.ops.length : Int)))) 8 22 14 rfl (fun c => ?_) (fun c => ?_) ?_
  · refine .yes 14 rfl rfl rfl <| .fE fa26_1 rfl rfl rfl <| .yes 14 rfl rfl rfl <| .lE Tryz.isAgg23 rfl rfl rfl <| .yes 14 rfl rfl rfl <| .ln Tryz.runUnderlying23 rfl sls_p rfl <| .yes 14 rfl rfl rfl <| .fE fa26_1 rfl rfl rfl <| ?_
    exact .yes 14 rfl rfl rfl <| .lE Tryz.isAgg23 rfl rfl rfl <| .yes 14 rfl rfl rfl <| .ln Tryz.runUnderlying23 rfl sls_p rfl <| .yes 14 rfl rfl rfl <| .neq rfl rfl rfl <| .pickF rfl rfl rfl <| c _ (.up rfl rfl rfl)
  · refine .no 14 rfl rfl rfl rfl <| .no 14 rfl rfl rfl rfl <| .no 14 rfl rfl rfl rfl <| .no 14 rfl rfl rfl rfl <| .no 14 rfl rfl rfl rfl <| .no 14 rfl rfl rfl rfl <| .no 14 rfl rfl rfl rfl <| .pickT rfl rfl rfl <| ?_
    exact c _ (.up rfl rfl rfl)
  · refine .mv rfl rfl <| .fork 23 rfl ?_ ?_
    · refine .no 23 rfl rfl rfl rfl <| .no 23 rfl rfl rfl rfl <| .no 23 rfl rfl rfl rfl <| .no 23 rfl rfl rfl rfl <| .no 23 rfl rfl rfl rfl <| .no 23 rfl rfl rfl rfl <| .pickT rfl rfl rfl <| .nil <| .th <| .condT rfl <| ?_
      exact .seq <| .region <| .sg rfl rfl <| .nil <| .th <| .ret <| .thR <| .ret1 (P := p12) (sel := []) ⟨rfl, rfl⟩ rfl rfl (.tmp rfl) .rf .nil rfl
    · refine .yes 23 rfl rfl rfl <| .fE fa26_2 rfl rfl rfl <| .yes 23 rfl rfl rfl <| .lE Tryz.isAgg24 rfl rfl rfl <| .yes 23 rfl rfl rfl <| .fE fa26_2 rfl rfl rfl <| .yes 23 rfl rfl rfl <| .lE Tryz.isAgg24 rfl rfl rfl <| ?_
      refine .yes 23 rfl rfl rfl <| .cw (fun _ => c13) (fun _ _ => rfl) (.s rfl (.s rfl .n)) rfl (fun _ => rfl) rfl fun z1 => .yes 23 rfl rfl rfl <| .not rfl rfl <| .pickF rfl rfl rfl <| .nil <| .th <| .cond rfl ?_ ?_
      · exact .seq <| .region <| .sg rfl rfl <| .nil <| .th <| .ret <| .thR <| .ret1 (P := p12) (sel := []) ⟨rfl, rfl⟩ rfl rfl (.tmp rfl) .rf .nil rfl
      · refine .skip <| .th <| .join (β := (Unit)) (fun _ => [(2, .el (eApiCore a0)), (3, .el (eApiCore a1))]) (fun _ => []) (m12_1 a0 a1) ?_ ?_
        · rintro ⟨⟩
          refine .seq <| .seq <| .region <| .sg rfl rfl <| .nil <| .th <| .blk <| .loop (α := (Int)) id (fun s6_1 => [(2, .el (eApiCore a0)), (3, .el (eApiCore a1)), (6, vI s6_1)]) (fun s6_1 => []) 0 rfl (.s rfl (.s rfl (.s rfl .n))) rfl ?_
          rintro s6_1 n
          refine .seq <| .seq <| .region <| .mv rfl rfl <| .fE fa26_1 rfl rfl rfl <| .lE Tryz.isAgg23 rfl rfl rfl <| .ln Tryz.runUnderlying23 rfl sls_p rfl <| .lss rfl rfl rfl <| .nil <| .th <| .cond rfl ?_ ?_
          · refine .skip <| .th <| .seq <| .blk <| .seq <| .any Tryz.mixed <| .fE fa26_1 rfl rfl .n <| .lE Tryz.isAgg23 rfl rfl .n <| .mv rfl .n <| .ix Tryz.runUnderlying23 Tryz.sizeOf58 rfl rfl sls_p eApiOp_len .n fun z2 => ?_
            refine .lEA Tryz.isAgg58 Tryz.sizeOf58 rfl rfl .n <| .fE fa26_1 rfl rfl .n <| .lE Tryz.isAgg23 rfl rfl .n <| .mv rfl .n <| .ix Tryz.runUnderlying23 Tryz.sizeOf58 rfl rfl sls_p eApiOp_len .n fun z3 => .lEA Tryz.isAgg58 Tryz.sizeOf58 rfl rfl .n <| ?_
            refine .neA _ _ (eqT58 z2 z3) eqG58 rfl rfl .n <| .nil (by kernel_rfl) <| .th <| .cond rfl ?_ ?_
            · exact .seq <| .region <| .sg rfl rfl <| .nil <| .th <| .ret <| .blkR <| .thR <| .lpR <| .blkR <| .thR <| .ret1 (P := p12) (sel := []) ⟨rfl, rfl⟩ rfl rfl (.tmp rfl) .rf .nil rfl
            · exact .skip <| .blk <| .th <| .region <| .mv rfl rfl <| .add rfl rfl rfl <| .sg rfl rfl <| .nil <| .next (wi (s6_1 + 1)) rfl (.s rfl (.s rfl (.s rfl .n))) rfl
          · exact .exit <| .thE <| .lpE <| .blkE <| .th <| .seq <| .region <| .sg rfl rfl <| .nil <| .th <| .ret <| .ret1 (P := p12) (sel := []) ⟨rfl, rfl⟩ rfl rfl (.tmp rfl) .rf .nil rfl
        · intro j
          refine .seq <| .region <| .sg rfl rfl <| .nil <| .th <| .blk <| .loop (α := (Int)) id (fun s5_2 => [(2, .el (eApiCore a0)), (3, .el (eApiCore a1)), (5, vI s5_2)]) (fun s5_2 => []) 0 rfl (.s rfl (.s rfl (.s rfl .n))) rfl ?_
          rintro s5_2 n
          refine .seq <| .seq <| .region <| .mv rfl rfl <| .fE fa26_0 rfl rfl rfl <| .lE Tryz.isAgg22 rfl rfl rfl <| .ln Tryz.runUnderlying22 rfl sls_p rfl <| .lss rfl rfl rfl <| .nil <| .th <| .cond rfl ?_ ?_
          · refine .skip <| .th <| .seq <| .blk <| .seq <| .any Tryz.mixed <| .fE fa26_0 rfl rfl .n <| .lE Tryz.isAgg22 rfl rfl .n <| .mv rfl .n <| .ix Tryz.runUnderlying22 Tryz.sizeOf72 rfl rfl sls_p eApiChoice_len .n fun z4 => ?_
            refine .lEA Tryz.isAgg72 Tryz.sizeOf72 rfl rfl .n <| .fE fa26_0 rfl rfl .n <| .lE Tryz.isAgg22 rfl rfl .n <| .mv rfl .n <| .ix Tryz.runUnderlying22 Tryz.sizeOf72 rfl rfl sls_p eApiChoice_len .n fun z5 => .lEA Tryz.isAgg72 Tryz.sizeOf72 rfl rfl .n <| ?_
            refine .neA _ _ (eqT72 z4 z5) eqG72 rfl rfl .n <| .nil (by kernel_rfl) <| .th <| .cond rfl ?_ ?_
            · exact .seq <| .region <| .sg rfl rfl <| .nil <| .th <| .ret <| .blkR <| .thR <| .lpR <| .blkR <| .thR <| .ret1 (P := p12) (sel := []) ⟨rfl, rfl⟩ rfl rfl (.tmp rfl) .rf .nil rfl
            · exact .skip <| .blk <| .th <| .region <| .mv rfl rfl <| .add rfl rfl rfl <| .sg rfl rfl <| .nil <| .next (wi (s5_2 + 1)) rfl (.s rfl (.s rfl (.s rfl .n))) rfl
          · exact .exit <| .thE <| .lpE <| .blkE <| .meet j [] () (.s rfl (.s rfl .n)) rfl rfl
noncomputable def m21_2 (a1 : ApiTemplate) (s9_0 : List Int) (z1 : (List ApiChoice) × (List ApiOp) × Nat × (List Int)) (c4_1_0 : List ApiOp) : ((List Int) × Int) → Option (ApiCore × (List Int)) := Lp fun (s10_1, s16_1) => if (decide (s16_1 < (a1.core.roots.length : Int))) then (ix a1.core.roots s16_1).bind fun z2 => (ix s9_0 z2).bind fun z3 => (ap s10_1 ([z3] : List Int)).bind fun z4 => some (.inl (z4, (wi (s16_1 + 1)))) else (some (⟨z1.1, c4_1_0, z1.2.2.2⟩, s10_1)).map .inr
noncomputable def m21_6 (s9_2 : List Int) (c4_1_3 : List ApiOp) (c5_1_3 : Int) (c5_2_4 : Int) (z5 : ApiOp) (s11_2 : Int) : (Int × Int) → Option (((List Int) × Int × (List ApiOp)) ⊕ (ApiCore × (List Int))) := fun (c5_0_5, c5_3_5) => (ap s9_2 ([(c4_1_3.length : Int)] : List Int)).bind fun z9 => (ap c4_1_3 ([⟨c5_0_5, c5_1_3, c5_2_4, c5_3_5, z5.n⟩] : List ApiOp)).bind fun z10 => some (.inl (z9, (wi (s11_2 + 1)), z10))
noncomputable def m21_1 (a1 : ApiTemplate) (z1 : (List ApiChoice) × (List ApiOp) × Nat × (List Int)) : ((List Int) × (List ApiOp)) → Option (ApiCore × (List Int)) := fun (s9_0, c4_1_0) => m21_2 a1 s9_0 z1 c4_1_0 (([] : List Int), 0)
noncomputable def m21_5 (z8 : Int × Int × Int) (s9_2 : List Int) (z5 : ApiOp) (c4_1_3 : List ApiOp) (c5_1_3 : Int) (s11_2 : Int) : (Int × Int) → Option (((List Int) × Int × (List ApiOp)) ⊕ (ApiCore × (List Int))) := fun (c5_0_4, c5_2_4) => if (decide (2 < z8.1)) then (ix s9_2 z5.c).bind fun z11 => m21_6 s9_2 c4_1_3 c5_1_3 c5_2_4 z5 s11_2 (c5_0_4, z11) else m21_6 s9_2 c4_1_3 c5_1_3 c5_2_4 z5 s11_2 (c5_0_4, z5.c)
noncomputable def m21_4 (z8 : Int × Int × Int) (s9_2 : List Int) (z5 : ApiOp) (c4_1_3 : List ApiOp) (s11_2 : Int) : Int → Option (((List Int) × Int × (List ApiOp)) ⊕ (ApiCore × (List Int))) := fun c5_1_3 => if (decide (1 < z8.1)) then (ix s9_2 z5.b).bind fun z12 => m21_5 z8 s9_2 z5 c4_1_3 c5_1_3 s11_2 (z5.code, z12) else m21_5 z8 s9_2 z5 c4_1_3 c5_1_3 s11_2 (z5.code, z5.b)
noncomputable def m21_3 (a1 : ApiTemplate) (a2 : List Int) (z1 : (List ApiChoice) × (List ApiOp) × Nat × (List Int)) : ((List Int) × Int × (List ApiOp)) → Option (ApiCore × (List Int)) := Lp fun (s9_2, s11_2, c4_1_3) => if (decide (s11_2 < (a1.core.ops.length : Int))) then (ix a1.core.ops s11_2).bind fun z5 => if (decide (z5.code = 4)) then (ix a2 z5.n).bind fun z6 => (ap s9_2 ([z6] : List Int)).bind fun z7 => some (.inl (z7, (wi (s11_2 + 1)), c4_1_3)) else (m49 z5.code 0).bind fun z8 => if (decide (0 < z8.1)) then (ix s9_2 z5.a).bind fun z13 => m21_4 z8 s9_2 z5 c4_1_3 s11_2 z13 else m21_4 z8 s9_2 z5 c4_1_3 s11_2 z5.a else (m21_1 a1 z1 (s9_2, c4_1_3)).map .inr
noncomputable def m21 (a0 : ApiCore) (a1 : ApiTemplate) (a2 : List Int) : Option (ApiCore × (List Int)) := (m8i1 a0).bind fun z1 => m21_3 a1 a2 z1 (([] : List Int), 0, z1.2.1)
abbrev p21 (r : ApiCore × (List Int)) (v : V) (H : List Ob) : Prop := v = .tup [.agg ((eApiCore r.1).map .p), vL 1 eI r.2] ∧ H = []
theorem c21 {a0 : ApiCore} {a1 : ApiTemplate} {a2 : List Int} {r : ApiCore × (List Int)} (h : m21 a0 a1 a2 = some r) : CP Tryz.prog 21 [.agg ((eApiCore a0).map .p), .agg ((eApiTemplate a1).map .p), vL 1 eI a2] (.tup [.agg ((eApiCore r.1).map .p), vL 1 eI r.2]) := by
  refine CD.ofM (P := p21) h Tryz.func21 rfl Tryz.ntmps21 rfl fun w g => ?_
  refine .ext 7 ?_
  refine .seq <| .region <| .bxE (cs := eApiCore a0) rfl rfl rfl rfl <| .bxE (cs := eApiTemplate a1) rfl rfl rfl rfl <| .al 0 Tryz.zeroValue26 rfl rfl rfl <| .sg rfl rfl <| .nil <| .th <| .seq <| .region <| .lEA Tryz.isAgg26 Tryz.sizeOf26 rfl rfl rfl <| ?_
  refine .cd [] [1] (fun z h => ⟨c8i1 h, .mk' rfl, rfl, rfl⟩) (fun _ _ => rfl) (.s rfl .n) (rdc rfl rd0) rfl fun z1 => .bsT 2 ([] : List Int) eI Tryz.runUnderlying24 Tryz.sizeOf3 Tryz.zeroValue3 rfl rfl rfl rfl rfl rfl rfl rfl rfl rfl <| ?_
  refine .bsT 3 ([] : List Int) eI Tryz.runUnderlying24 Tryz.sizeOf3 Tryz.zeroValue3 rfl rfl rfl rfl rfl rfl rfl rfl rfl rfl <| .al 4 Tryz.zeroValue26 rfl rfl rfl <| .st Tryz.sizeOf26 rfl rfl rfl rfl rfl rfl <| ?_
  refine .sg rfl rfl <| .sg rfl rfl <| .nil <| .th <| .join (β := (((List Int) × (List ApiOp)) × Nat × Nat)) (fun ((s9_0, c4_1_0), v1_0, v2_0) => [(4, .el (eApiTemplate a1)), (6, .ref 0 0), (8, .ref 4 0), (9, tk 1 eI s9_0 2 v2_0), (10, tk 1 eI ([] : List Int) 3 0)]) (fun ((s9_0, c4_1_0), v1_0, v2_0) => [.cells 26 [.p (.v (.slice none 0 0)), .p (.v (.slice none 0 0)), .p (.v (.slice none 0 0))], .tok 58 5 v1_0, .tok 3 1 v2_0, .tok 3 1 0, .cells 26 [vL 3 eApiChoice z1.1, tk 5 eApiOp c4_1_0 1 v1_0, vL 1 eI z1.2.2.2], .dead, .dead]) ((fun ((s9_0, c4_1_0), v1_0, v2_0) => m21_1 a1 z1 (s9_0, c4_1_0))) ?_ ?_
  · rintro ⟨⟨s9_0, c4_1_0⟩, v1_0, v2_0⟩
    refine .seq <| .seq <| .region <| .sg rfl rfl <| .nil <| .th <| .blk <| .loop (α := (((List Int) × Int) × Nat)) (·.1) (fun ((s10_1, s16_1), v3_1) => [(4, .el (eApiTemplate a1)), (6, .ref 0 0), (8, .ref 4 0), (9, tk 1 eI s9_0 2 v2_0), (10, tk 1 eI s10_1 3 v3_1), (16, vI s16_1)]) (fun ((s10_1, s16_1), v3_1) => [.cells 26 [.p (.v (.slice none 0 0)), .p (.v (.slice none 0 0)), .p (.v (.slice none 0 0))], .tok 58 5 v1_0, .tok 3 1 v2_0, .tok 3 1 v3_1, .cells 26 [vL 3 eApiChoice z1.1, tk 5 eApiOp c4_1_0 1 v1_0, vL 1 eI z1.2.2.2], .dead, .dead]) ((([] : List Int), 0), 0) rfl (.s rfl (.s rfl (.s rfl (.s rfl (.s rfl (.s rfl .n)))))) rfl ?_
    rintro ⟨⟨s10_1, s16_1⟩, v3_1⟩ n
    refine .seq <| .seq <| .region <| .mv rfl rfl <| .fE fa42_2 rfl rfl rfl <| .fE fa26_2 rfl rfl rfl <| .lE Tryz.isAgg24 rfl rfl rfl <| .ln Tryz.runUnderlying24 rfl sls_p rfl <| .lss rfl rfl rfl <| .nil <| .th <| ?_
    refine .cond rfl ?_ ?_
    · refine .skip <| .th <| .seq <| .blk <| .region <| .mv rfl rfl <| .mv rfl rfl <| .fE fa42_2 rfl rfl rfl <| .fE fa26_2 rfl rfl rfl <| .lE Tryz.isAgg24 rfl rfl rfl <| .mv rfl rfl <| .ix Tryz.runUnderlying24 Tryz.sizeOf3 rfl rfl sls_p (fun _ => rfl) rfl fun z2 => ?_
      refine .lE Tryz.isAgg3 rfl rfl rfl <| .ix Tryz.runUnderlying24 Tryz.sizeOf3 rfl rfl sls_t (fun _ => rfl) rfl fun z3 => .lE Tryz.isAgg3 rfl rfl rfl <| .bs ([z3] : List Int) eI Tryz.runUnderlying24 Tryz.sizeOf3 Tryz.zeroValue3 rfl rfl rfl rfl rfl rfl rfl rfl <| ?_
      exact .ap Tryz.under24 info3 rfl (by decide) rfl rfl rfl sls_p (fun _ => rfl) rfl rfl fun z4 => .sg rfl rfl <| .nil <| .blk <| .th <| .region <| .mv rfl rfl <| .add rfl rfl rfl <| .sg rfl rfl <| .nil <| .next ((z4, (wi (s16_1 + 1))), v3_1 + 1) rfl (.s rfl (.s rfl (.s rfl (.s rfl (.s rfl (.s rfl .n)))))) rfl
    · refine .exit <| .thE <| .lpE <| .blkE <| .th <| .seq <| .region <| .lRA Tryz.isAgg26 Tryz.sizeOf26 rfl rfl rfl rfl <| .mv rfl rfl <| .st Tryz.sizeOf26 rfl rfl rfl rfl rfl rfl <| .sg rfl rfl <| .nil <| .th <| .ret <| ?_
      exact .ret2 (P := p21) (sel := []) ⟨rfl, rfl⟩ rfl rfl (.cellA rfl rfl Tryz.isAgg26 Tryz.sizeOf26 rfl) (.tmp rfl) (.agg (.c .rf (.c .tkp (.c .rf .n)))) .tkp .nil rfl
  · intro j
    refine .seq <| .region <| .sg rfl rfl <| .nil <| .th <| .blk <| .loop (α := (((List Int) × Int × (List ApiOp)) × Nat × Nat)) (·.1) (fun ((s9_2, s11_2, c4_1_3), v1_3, v2_2) => [(2, vL 1 eI a2), (4, .el (eApiTemplate a1)), (6, .ref 0 0), (8, .ref 4 0), (9, tk 1 eI s9_2 2 v2_2), (10, tk 1 eI ([] : List Int) 3 0), (11, vI s11_2)]) (fun ((s9_2, s11_2, c4_1_3), v1_3, v2_2) => [.cells 26 [.p (.v (.slice none 0 0)), .p (.v (.slice none 0 0)), .p (.v (.slice none 0 0))], .tok 58 5 v1_3, .tok 3 1 v2_2, .tok 3 1 0, .cells 26 [vL 3 eApiChoice z1.1, tk 5 eApiOp c4_1_3 1 v1_3, vL 1 eI z1.2.2.2], .dead, .dead]) ((([] : List Int), 0, z1.2.1), z1.2.2.1, 0) rfl (.s rfl (.s rfl (.s rfl (.s rfl (.s rfl (.s rfl (.s rfl .n))))))) rfl ?_
    rintro ⟨⟨s9_2, s11_2, c4_1_3⟩, v1_3, v2_2⟩ n
    refine .seq <| .seq <| .region <| .mv rfl rfl <| .fE fa42_2 rfl rfl rfl <| .fE fa26_1 rfl rfl rfl <| .lE Tryz.isAgg23 rfl rfl rfl <| .ln Tryz.runUnderlying23 rfl sls_p rfl <| .lss rfl rfl rfl <| .nil <| .th <| ?_
    refine .cond rfl ?_ ?_
    · refine .skip <| .th <| .seq <| .blk <| .seq <| .region <| .fE fa42_2 rfl rfl rfl <| .fE fa26_1 rfl rfl rfl <| .lE Tryz.isAgg23 rfl rfl rfl <| .mv rfl rfl <| .ix Tryz.runUnderlying23 Tryz.sizeOf58 rfl rfl sls_p eApiOp_len rfl fun z5 => ?_
      refine .lEA Tryz.isAgg58 Tryz.sizeOf58 rfl rfl rfl <| .al 5 Tryz.zeroValue58 rfl rfl rfl <| .st Tryz.sizeOf58 rfl rfl rfl rfl rfl rfl <| .nil <| .th <| .seq <| .seq <| .region <| .fR fa58_0 rfl rfl <| .lR Tryz.isAgg5 rfl rfl rfl rfl <| ?_
      refine .eql rfl rfl rfl <| .nil <| .th <| .cond rfl ?_ ?_
      · refine .seq <| .region <| .mv rfl rfl <| .mv rfl rfl <| .fR fa58_4 rfl rfl <| .lR Tryz.isAgg3 rfl rfl rfl rfl <| .ix Tryz.runUnderlying24 Tryz.sizeOf3 rfl rfl sls_p (fun _ => rfl) rfl fun z6 => .lE Tryz.isAgg3 rfl rfl rfl <| ?_
        refine .bs ([z6] : List Int) eI Tryz.runUnderlying24 Tryz.sizeOf3 Tryz.zeroValue3 rfl rfl rfl rfl rfl rfl rfl rfl <| .ap Tryz.under24 info3 rfl (by decide) rfl rfl rfl sls_p (fun _ => rfl) rfl rfl fun z7 => .sg rfl rfl <| ?_
        exact .nil <| .th <| .exit <| .thE <| .blkE <| .th <| .region <| .mv rfl rfl <| .add rfl rfl rfl <| .sg rfl rfl <| .nil <| .nextK [5] ((z7, (wi (s11_2 + 1)), c4_1_3), v1_3, v2_2 + 1) rfl (.s rfl (.s rfl (.s rfl (.s rfl (.s rfl (.s rfl (.s rfl .n))))))) rfl rfl
      · refine .skip <| .th <| .seq <| .region <| .fR fa58_0 rfl rfl <| .lR Tryz.isAgg5 rfl rfl rfl rfl <| .cw (fun _ => c49) (fun _ _ => rfl) (.s rfl (.s rfl .n)) rfl (fun _ => rfl) rfl fun z8 => .mv rfl rfl <| .xt rfl rfl rfl <| ?_
        refine .xt rfl rfl rfl <| .xt rfl rfl rfl <| .sg rfl rfl <| .sg rfl rfl <| .sg rfl rfl <| .nil <| .th <| .join (β := (Int)) (fun c5_1_3 => [(2, vL 1 eI a2), (4, .el (eApiTemplate a1)), (6, .ref 0 0), (8, .ref 4 0), (9, tk 1 eI s9_2 2 v2_2), (10, tk 1 eI ([] : List Int) 3 0), (11, vI s11_2), (12, .ref 5 0), (13, vI z8.1)]) (fun c5_1_3 => [.cells 26 [.p (.v (.slice none 0 0)), .p (.v (.slice none 0 0)), .p (.v (.slice none 0 0))], .tok 58 5 v1_3, .tok 3 1 v2_2, .tok 3 1 0, .cells 26 [vL 3 eApiChoice z1.1, tk 5 eApiOp c4_1_3 1 v1_3, vL 1 eI z1.2.2.2], .cells 58 [v8 z5.code, vI c5_1_3, vI z5.b, vI z5.c, vI z5.n], .dead]) (m21_4 z8 s9_2 z5 c4_1_3 s11_2) ?_ ?_
        · rintro c5_1_3
          refine .join (β := (Int × Int)) (fun (c5_0_4, c5_2_4) => [(2, vL 1 eI a2), (4, .el (eApiTemplate a1)), (6, .ref 0 0), (8, .ref 4 0), (9, tk 1 eI s9_2 2 v2_2), (10, tk 1 eI ([] : List Int) 3 0), (11, vI s11_2), (12, .ref 5 0), (13, vI z8.1)]) (fun (c5_0_4, c5_2_4) => [.cells 26 [.p (.v (.slice none 0 0)), .p (.v (.slice none 0 0)), .p (.v (.slice none 0 0))], .tok 58 5 v1_3, .tok 3 1 v2_2, .tok 3 1 0, .cells 26 [vL 3 eApiChoice z1.1, tk 5 eApiOp c4_1_3 1 v1_3, vL 1 eI z1.2.2.2], .cells 58 [v8 c5_0_4, vI c5_1_3, vI c5_2_4, vI z5.c, vI z5.n], .dead]) (m21_5 z8 s9_2 z5 c4_1_3 c5_1_3 s11_2) ?_ ?_
          · rintro ⟨c5_0_4, c5_2_4⟩
            refine .join (β := (Int × Int)) (fun (c5_0_5, c5_3_5) => [(2, vL 1 eI a2), (4, .el (eApiTemplate a1)), (6, .ref 0 0), (8, .ref 4 0), (9, tk 1 eI s9_2 2 v2_2), (10, tk 1 eI ([] : List Int) 3 0), (11, vI s11_2), (12, .ref 5 0)]) (fun (c5_0_5, c5_3_5) => [.cells 26 [.p (.v (.slice none 0 0)), .p (.v (.slice none 0 0)), .p (.v (.slice none 0 0))], .tok 58 5 v1_3, .tok 3 1 v2_2, .tok 3 1 0, .cells 26 [vL 3 eApiChoice z1.1, tk 5 eApiOp c4_1_3 1 v1_3, vL 1 eI z1.2.2.2], .cells 58 [v8 c5_0_5, vI c5_1_3, vI c5_2_4, vI c5_3_5, vI z5.n], .dead]) (m21_6 s9_2 c4_1_3 c5_1_3 c5_2_4 z5 s11_2) ?_ ?_
            · rintro ⟨c5_0_5, c5_3_5⟩
              refine .seq <| .region <| .mv rfl rfl <| .fR fa26_1 rfl rfl <| .lR Tryz.isAgg23 rfl rfl rfl rfl <| .ln Tryz.runUnderlying23 rfl sls_t rfl <| .bs ([(c4_1_3.length : Int)] : List Int) eI Tryz.runUnderlying24 Tryz.sizeOf3 Tryz.zeroValue3 rfl rfl rfl rfl rfl rfl rfl rfl <| ?_
              refine .ap Tryz.under24 info3 rfl (by decide) rfl rfl rfl sls_p (fun _ => rfl) rfl rfl fun z9 => .sg rfl rfl <| .nil <| .th <| .region <| .fR fa26_1 rfl rfl <| .lR Tryz.isAgg23 rfl rfl rfl rfl <| .lRA Tryz.isAgg58 Tryz.sizeOf58 rfl rfl rfl rfl <| ?_
              refine .bsT 6 ([⟨c5_0_5, c5_1_3, c5_2_4, c5_3_5, z5.n⟩] : List ApiOp) eApiOp Tryz.runUnderlying23 Tryz.sizeOf58 Tryz.zeroValue58 rfl rfl rfl rfl rfl rfl rfl rfl rfl rfl <| .ap Tryz.under23 info58 rfl (by decide) rfl rfl rfl sls_t eApiOp_one rfl rfl fun z10 => ?_
              exact .fR fa26_1 rfl rfl <| .st Tryz.sizeOf23 rfl rfl rfl rfl rfl rfl <| .nil <| .blk <| .th <| .region <| .mv rfl rfl <| .add rfl rfl rfl <| .sg rfl rfl <| .nil <| .nextK [5, 6] ((z9, (wi (s11_2 + 1)), z10), v1_3 + 1, v2_2 + 1) rfl (.s rfl (.s rfl (.s rfl (.s rfl (.s rfl (.s rfl (.s rfl .n))))))) rfl rfl
            · intro j
              refine .seq <| .region <| .mv rfl rfl <| .gtr rfl rfl rfl <| .nil <| .th <| .cond rfl ?_ ?_
              · refine .region <| .mv rfl rfl <| .fR fa58_3 rfl rfl <| .lR Tryz.isAgg3 rfl rfl rfl rfl <| .ix Tryz.runUnderlying24 Tryz.sizeOf3 rfl rfl sls_t (fun _ => rfl) rfl fun z11 => .lE Tryz.isAgg3 rfl rfl rfl <| .fR fa58_3 rfl rfl <| ?_
                exact .st Tryz.sizeOf3 rfl rfl rfl rfl rfl rfl <| .nil <| .meet j [] (c5_0_4, z11) (.s rfl (.s rfl (.s rfl (.s rfl (.s rfl (.s rfl (.s rfl (.s rfl .n)))))))) rfl rfl
              · exact .skip <| .meet j [] (c5_0_4, z5.c) (.s rfl (.s rfl (.s rfl (.s rfl (.s rfl (.s rfl (.s rfl (.s rfl .n)))))))) rfl rfl
          · intro j
            refine .seq <| .region <| .mv rfl rfl <| .gtr rfl rfl rfl <| .nil <| .th <| .cond rfl ?_ ?_
            · refine .region <| .mv rfl rfl <| .fR fa58_2 rfl rfl <| .lR Tryz.isAgg3 rfl rfl rfl rfl <| .ix Tryz.runUnderlying24 Tryz.sizeOf3 rfl rfl sls_t (fun _ => rfl) rfl fun z12 => .lE Tryz.isAgg3 rfl rfl rfl <| .fR fa58_2 rfl rfl <| ?_
              exact .st Tryz.sizeOf3 rfl rfl rfl rfl rfl rfl <| .nil <| .meet j [] (z5.code, z12) (.s rfl (.s rfl (.s rfl (.s rfl (.s rfl (.s rfl (.s rfl (.s rfl (.s rfl .n))))))))) rfl rfl
            · exact .skip <| .meet j [] (z5.code, z5.b) (.s rfl (.s rfl (.s rfl (.s rfl (.s rfl (.s rfl (.s rfl (.s rfl (.s rfl .n))))))))) rfl rfl
        · intro j
          refine .seq <| .region <| .mv rfl rfl <| .gtr rfl rfl rfl <| .nil <| .th <| .cond rfl ?_ ?_
          · refine .region <| .mv rfl rfl <| .fR fa58_1 rfl rfl <| .lR Tryz.isAgg3 rfl rfl rfl rfl <| .ix Tryz.runUnderlying24 Tryz.sizeOf3 rfl rfl sls_t (fun _ => rfl) rfl fun z13 => .lE Tryz.isAgg3 rfl rfl rfl <| .fR fa58_1 rfl rfl <| ?_
            exact .st Tryz.sizeOf3 rfl rfl rfl rfl rfl rfl <| .nil <| .meet j [] z13 (.s rfl (.s rfl (.s rfl (.s rfl (.s rfl (.s rfl (.s rfl (.s rfl (.s rfl .n))))))))) rfl rfl
          · exact .skip <| .meet j [] z5.a (.s rfl (.s rfl (.s rfl (.s rfl (.s rfl (.s rfl (.s rfl (.s rfl (.s rfl .n))))))))) rfl rfl
    · exact .exit <| .thE <| .lpE <| .blkE <| .meet j [] ((s9_2, c4_1_3), v1_3, v2_2) (.s rfl (.s rfl (.s rfl (.s rfl (.s rfl .n))))) rfl rfl
noncomputable def m32 (a0 : ApiChoice) : Option Bool := (m33 (-9999) 9999 ([a0.lo, a0.hi] : List Int)).bind fun z1 => if (!z1) then some true else (m33 1 12 ([(wi ((wi (a0.hi - a0.lo)) + 1))] : List Int)).bind fun z2 => some (!z2)
abbrev p32 (r : Bool) (v : V) (H : List Ob) : Prop := v = vB r ∧ H = []
noncomputable def m34 (a0 : ApiCore) (a1 : Int) : Option Bool := (ix a0.ops a1).bind fun z1 => if ((decide (z1.code < 1)) || (decide (17 < z1.code))) then some false else (m61 a0 ⟨z1.code, z1.a, z1.b, z1.c, z1.n⟩).bind fun z2 => if (!z2) then some false else (m62 ⟨z1.code, z1.a, z1.b, z1.c, z1.n⟩).bind fun z3 => (m48 z1.code).bind fun z4 => (lx ([z3.a0, z3.a1, z3.a2] : List Int) 0 z4).bind fun z5 => (m33 0 (wi (a1 - 1)) z5).bind fun z6 => if z6 then (lx ([z3.a0, z3.a1, z3.a2] : List Int) z4 3).bind fun z7 => (m33 0 0 z7).bind fun z8 => some z8 else some false
abbrev p34 (r : Bool) (v : V) (H : List Ob) : Prop := v = vB r ∧ H = []
theorem c34 {a0 : ApiCore} {a1 : Int} {r : Bool} (h : m34 a0 a1 = some r) : CP Tryz.prog 34 [.agg ((eApiCore a0).map .p), vI a1] (vB r) := by
  refine CD.ofM (P := p34) h Tryz.func34 rfl Tryz.ntmps34 rfl fun w g => ?_
  refine .ext 2 ?_
  refine .seq <| .region <| .bxE (cs := eApiCore a0) rfl rfl rfl rfl <| .sg rfl rfl <| .nil <| .th <| .seq <| .region <| .fE fa26_1 rfl rfl rfl <| .lE Tryz.isAgg23 rfl rfl rfl <| .mv rfl rfl <| .ix Tryz.runUnderlying23 Tryz.sizeOf58 rfl rfl sls_p eApiOp_len rfl fun z1 => ?_
  refine .lEA Tryz.isAgg58 Tryz.sizeOf58 rfl rfl rfl <| .al 0 Tryz.zeroValue58 rfl rfl rfl <| .st Tryz.sizeOf58 rfl rfl rfl rfl rfl rfl <| .nil <| .th <| .seq <| .seq <| .region <| .fR fa58_0 rfl rfl <| .lR Tryz.isAgg5 rfl rfl rfl rfl <| ?_
  refine .lss rfl rfl rfl <| .mv rfl rfl <| .or (r := (decide (17 < z1.code))) 4 20 16 rfl (fun c => ?_) (fun c => ?_) ?_
  · exact .yes 16 rfl rfl rfl <| .fR fa58_0 rfl rfl <| .yes 16 rfl rfl rfl <| .lR Tryz.isAgg5 rfl rfl rfl rfl <| .yes 16 rfl rfl rfl <| .gtr rfl rfl rfl <| .pickF rfl rfl rfl <| c _ (.up rfl rfl rfl)
  · exact .no 16 rfl rfl rfl rfl <| .no 16 rfl rfl rfl rfl <| .no 16 rfl rfl rfl rfl <| .pickT rfl rfl rfl <| c _ (.up rfl rfl rfl)
  · refine .mv rfl rfl <| .fork 21 rfl ?_ ?_
    · refine .no 21 rfl rfl rfl rfl <| .no 21 rfl rfl rfl rfl <| .no 21 rfl rfl rfl rfl <| .no 21 rfl rfl rfl rfl <| .pickT rfl rfl rfl <| .nil <| .th <| .condT rfl <| .seq <| .region <| .sg rfl rfl <| .nil <| .th <| ?_
      exact .ret <| .thR <| .ret1 (P := p34) (sel := []) ⟨rfl, rfl⟩ rfl rfl (.tmp rfl) .rf .nil rfl
    · refine .yes 21 rfl rfl rfl <| .lEA Tryz.isAgg26 Tryz.sizeOf26 rfl rfl rfl <| .yes 21 rfl rfl rfl <| .lRA Tryz.isAgg58 Tryz.sizeOf58 rfl rfl rfl rfl <| .yes 21 rfl rfl rfl <| .cw (fun _ => c61) (fun _ _ => rfl) (.s rfl (.s rfl .n)) rfl (fun _ => rfl) rfl fun z2 => ?_
      refine .yes 21 rfl rfl rfl <| .not rfl rfl <| .pickF rfl rfl rfl <| .nil <| .th <| .cond rfl ?_ ?_
      · exact .seq <| .region <| .sg rfl rfl <| .nil <| .th <| .ret <| .thR <| .ret1 (P := p34) (sel := []) ⟨rfl, rfl⟩ rfl rfl (.tmp rfl) .rf .nil rfl
      · refine .skip <| .th <| .seq <| .any Tryz.mixed <| .lRA Tryz.isAgg58 Tryz.sizeOf58 rfl rfl rfl .n <| .cw (fun _ => c62) (fun _ _ => rfl) (.s rfl .n) rfl (fun _ => rfl) .n fun z3 => .fR fa58_0 rfl .n <| .lR Tryz.isAgg5 rfl rfl rfl .n <| ?_
        refine .cw (fun _ => c48) (fun _ _ => rfl) (.s rfl .n) rfl (fun _ => rfl) .n fun z4 => .al 1 Tryz.zeroValue93 rfl rfl .n <| .st Tryz.sizeOf93 rfl rfl rfl rfl rfl rfl .n <| .sg rfl .n <| .nil (by kernel_rfl) <| ?_
        refine .th <| .seq <| .region <| .mv rfl rfl <| .sb rfl rfl rfl <| .mv rfl rfl <| .slF (xs := ([z3.a0, z3.a1, z3.a2] : List Int)) (c := pI) eI (fun _ => rfl) Tryz.runUnderlying93 Tryz.sizeOf3 rfl rfl rfl (fun y hy => by cases hy) (fun _ => rfl) (fun y hy => by cases hy; exact ⟨_, rfl⟩) (fun q => by cases q) rfl fun z5 => ?_
        refine .cw (fun _ => c33) (fun _ _ => rfl) (.s rfl (.s rfl (.s rfl .n))) rfl (fun _ => rfl) rfl fun z6 => .mv rfl rfl <| .fork 37 rfl ?_ ?_
        · refine .yes 37 rfl rfl rfl <| .mv rfl rfl <| .yes 37 rfl rfl rfl <| .slG (xs := ([z3.a0, z3.a1, z3.a2] : List Int)) (c := pI) eI (fun _ => rfl) Tryz.runUnderlying93 Tryz.sizeOf3 rfl rfl rfl (fun y hy => by cases hy; exact ⟨_, rfl⟩) (fun q => by cases q) (fun y hy => by cases hy) (fun _ => rfl) rfl fun z7 => ?_
          exact .yes 37 rfl rfl rfl <| .cw (fun _ => c33) (fun _ _ => rfl) (.s rfl (.s rfl (.s rfl .n))) rfl (fun _ => rfl) rfl fun z8 => .pickT rfl rfl rfl <| .sg rfl rfl <| .nil <| .th <| .ret <| .ret1 (P := p34) (sel := []) ⟨rfl, rfl⟩ rfl rfl (.tmp rfl) .rf .nil rfl
        · exact .no 37 rfl rfl rfl rfl <| .no 37 rfl rfl rfl rfl <| .no 37 rfl rfl rfl rfl <| .pickF rfl rfl rfl <| .sg rfl rfl <| .nil <| .th <| .ret <| .ret1 (P := p34) (sel := []) ⟨rfl, rfl⟩ rfl rfl (.tmp rfl) .rf .nil rfl
noncomputable def m40_1 (z1 : Int × Int × Int) (a0 : ApiOp) (a1 : Int) : Int → Option (Bool) := Lp fun s11_0 => if (decide (s11_0 < 3)) then if (decide (s11_0 < z1.1)) then (ix ([a0.a, a0.b, a0.c] : List Int) s11_0).bind fun z3 => (m39 z3 0 (wi (a1 - 1))).bind fun z4 => if (!z4) then (some false).map .inr else if (decide (z1.1 ≤ s11_0)) then (ix ([a0.a, a0.b, a0.c] : List Int) s11_0).bind fun z5 => if (!decide (z5 = 0)) then (some false).map .inr else some (.inl (wi (s11_0 + 1))) else some (.inl (wi (s11_0 + 1))) else if (decide (z1.1 ≤ s11_0)) then (ix ([a0.a, a0.b, a0.c] : List Int) s11_0).bind fun z6 => if (!decide (z6 = 0)) then (some false).map .inr else some (.inl (wi (s11_0 + 1))) else some (.inl (wi (s11_0 + 1))) else (some true).map .inr
noncomputable def m40 (a0 : ApiOp) (a1 : Int) (a2 : Int) : Option Bool := (m49 a0.code a2).bind fun z1 => (m39 a0.n z1.2.1 z1.2.2).bind fun z2 => if (!z2) then some false else m40_1 z1 a0 a1 0
abbrev p40 (r : Bool) (v : V) (H : List Ob) : Prop := v = vB r ∧ H = []
theorem c40 {a0 : ApiOp} {a1 : Int} {a2 : Int} {r : Bool} (h : m40 a0 a1 a2 = some r) : CP Tryz.prog 40 [.agg ((eApiOp a0).map .p), vI a1, vI a2] (vB r) := by
  refine CD.ofM (P := p40) h Tryz.func40 rfl Tryz.ntmps40 rfl fun w g => ?_
  refine .seq <| .region <| .bxE (cs := eApiOp a0) rfl rfl rfl rfl <| .sg rfl rfl <| .nil <| .th <| .seq <| .region <| .fE fa58_0 rfl rfl rfl <| .lE Tryz.isAgg5 rfl rfl rfl <| .mv rfl rfl <| .cw (fun _ => c49) (fun _ _ => rfl) (.s rfl (.s rfl .n)) rfl (fun _ => rfl) rfl fun z1 => ?_
  refine .mv rfl rfl <| .xt rfl rfl rfl <| .xt rfl rfl rfl <| .xt rfl rfl rfl <| .sg rfl rfl <| .sg rfl rfl <| .sg rfl rfl <| .nil <| .th <| .seq <| .seq <| .region <| .fE fa58_4 rfl rfl rfl <| .lE Tryz.isAgg3 rfl rfl rfl <| ?_
  refine .mv rfl rfl <| .mv rfl rfl <| .cw (fun _ => c39) (fun _ _ => rfl) (.s rfl (.s rfl (.s rfl .n))) rfl (fun _ => rfl) rfl fun z2 => .not rfl rfl <| .nil <| .th <| .cond rfl ?_ ?_
  · exact .seq <| .region <| .sg rfl rfl <| .nil <| .th <| .ret <| .thR <| .ret1 (P := p40) (sel := []) ⟨rfl, rfl⟩ rfl rfl (.tmp rfl) .rf .nil rfl
  · refine .skip <| .th <| .seq <| .region <| .fE fa58_1 rfl rfl rfl <| .lE Tryz.isAgg3 rfl rfl rfl <| .fE fa58_2 rfl rfl rfl <| .lE Tryz.isAgg3 rfl rfl rfl <| .fE fa58_3 rfl rfl rfl <| .lE Tryz.isAgg3 rfl rfl rfl <| ?_
    refine .bs ([a0.a, a0.b, a0.c] : List Int) eI Tryz.runUnderlying24 Tryz.sizeOf3 Tryz.zeroValue3 rfl rfl rfl rfl rfl rfl rfl rfl <| .sg rfl rfl <| .nil <| .th <| .seq <| .seq <| .region <| .sg rfl rfl <| .nil <| ?_
    refine .th <| .blk <| .loop (α := (Int)) id (fun s11_0 => [(1, vI a1), (7, vI z1.1), (10, vL 1 eI ([a0.a, a0.b, a0.c] : List Int)), (11, vI s11_0)]) (fun s11_0 => []) 0 rfl (.s rfl (.s rfl (.s rfl (.s rfl .n)))) rfl ?_
    rintro s11_0 n
    refine .seq <| .seq <| .region <| .mv rfl rfl <| .lss rfl rfl rfl <| .nil <| .th <| .cond rfl ?_ ?_
    · refine .skip <| .th <| .seq <| .blk <| .seq <| .region <| .mv rfl rfl <| .mv rfl rfl <| .lss rfl rfl rfl <| .mv rfl rfl <| .fork 40 rfl ?_ ?_
      · refine .yes 40 rfl rfl rfl <| .mv rfl rfl <| .yes 40 rfl rfl rfl <| .mv rfl rfl <| .yes 40 rfl rfl rfl <| .ix Tryz.runUnderlying24 Tryz.sizeOf3 rfl rfl sls_p (fun _ => rfl) rfl fun z3 => .yes 40 rfl rfl rfl <| ?_
        refine .lE Tryz.isAgg3 rfl rfl rfl <| .yes 40 rfl rfl rfl <| .mv rfl rfl <| .yes 40 rfl rfl rfl <| .sb rfl rfl rfl <| .yes 40 rfl rfl rfl <| .cw (fun _ => c39) (fun _ _ => rfl) (.s rfl (.s rfl (.s rfl .n))) rfl (fun _ => rfl) rfl fun z4 => ?_
        refine .yes 40 rfl rfl rfl <| .not rfl rfl <| .pickT rfl rfl rfl <| .mv rfl rfl <| .fork 50 rfl ?_ ?_
        · refine .no 50 rfl rfl rfl rfl <| .no 50 rfl rfl rfl rfl <| .no 50 rfl rfl rfl rfl <| .no 50 rfl rfl rfl rfl <| .noU 54 rfl rfl rfl <| .noU 54 rfl rfl rfl <| .noU 54 rfl rfl rfl <| .noU 54 rfl rfl rfl <| .noU 54 rfl rfl rfl <| ?_
          exact .no 50 rfl rfl rfl rfl <| .pickT rfl rfl rfl <| .nil <| .th <| .condT rfl <| .seq <| .region <| .sg rfl rfl <| .nil <| .th <| .ret <| .blkR <| .thR <| .lpR <| .blkR <| .thR <| .ret1 (P := p40) (sel := []) ⟨rfl, rfl⟩ rfl rfl (.tmp rfl) .rf .nil rfl
        · refine .yes 50 rfl rfl rfl <| .mv rfl rfl <| .yes 50 rfl rfl rfl <| .mv rfl rfl <| .yes 50 rfl rfl rfl <| .geq rfl rfl rfl <| .yes 50 rfl rfl rfl <| .mv rfl rfl <| .fork 54 rfl ?_ ?_
          · refine .yes 54 rfl rfl rfl <| .mv rfl rfl <| .yes 54 rfl rfl rfl <| .mv rfl rfl <| .yes 54 rfl rfl rfl <| .ix Tryz.runUnderlying24 Tryz.sizeOf3 rfl rfl sls_p (fun _ => rfl) rfl fun z5 => .yes 54 rfl rfl rfl <| ?_
            refine .lE Tryz.isAgg3 rfl rfl rfl <| .yes 54 rfl rfl rfl <| .neq rfl rfl rfl <| .yes 50 rfl rfl rfl <| .pickT rfl rfl rfl <| .pickF rfl rfl rfl <| .nil <| .th <| .cond rfl ?_ ?_
            · exact .seq <| .region <| .sg rfl rfl <| .nil <| .th <| .ret <| .blkR <| .thR <| .lpR <| .blkR <| .thR <| .ret1 (P := p40) (sel := []) ⟨rfl, rfl⟩ rfl rfl (.tmp rfl) .rf .nil rfl
            · exact .skip <| .blk <| .th <| .region <| .mv rfl rfl <| .add rfl rfl rfl <| .sg rfl rfl <| .nil <| .next (wi (s11_0 + 1)) rfl (.s rfl (.s rfl (.s rfl (.s rfl .n)))) rfl
          · refine .no 54 rfl rfl rfl rfl <| .no 54 rfl rfl rfl rfl <| .no 54 rfl rfl rfl rfl <| .no 54 rfl rfl rfl rfl <| .no 54 rfl rfl rfl rfl <| .yes 50 rfl rfl rfl <| .pickF rfl rfl rfl <| .pickF rfl rfl rfl <| .nil <| ?_
            exact .th <| .condF rfl <| .skip <| .blk <| .th <| .region <| .mv rfl rfl <| .add rfl rfl rfl <| .sg rfl rfl <| .nil <| .next (wi (s11_0 + 1)) rfl (.s rfl (.s rfl (.s rfl (.s rfl .n)))) rfl
      · refine .no 40 rfl rfl rfl rfl <| .no 40 rfl rfl rfl rfl <| .no 40 rfl rfl rfl rfl <| .no 40 rfl rfl rfl rfl <| .no 40 rfl rfl rfl rfl <| .no 40 rfl rfl rfl rfl <| .no 40 rfl rfl rfl rfl <| .no 40 rfl rfl rfl rfl <| ?_
        refine .pickF rfl rfl rfl <| .mv rfl rfl <| .yes 50 rfl rfl rfl <| .mv rfl rfl <| .yes 50 rfl rfl rfl <| .mv rfl rfl <| .yes 50 rfl rfl rfl <| .geq rfl rfl rfl <| .yes 50 rfl rfl rfl <| .mv rfl rfl <| .fork 54 rfl ?_ ?_
        · refine .yes 54 rfl rfl rfl <| .mv rfl rfl <| .yes 54 rfl rfl rfl <| .mv rfl rfl <| .yes 54 rfl rfl rfl <| .ix Tryz.runUnderlying24 Tryz.sizeOf3 rfl rfl sls_p (fun _ => rfl) rfl fun z6 => .yes 54 rfl rfl rfl <| ?_
          refine .lE Tryz.isAgg3 rfl rfl rfl <| .yes 54 rfl rfl rfl <| .neq rfl rfl rfl <| .yes 50 rfl rfl rfl <| .pickT rfl rfl rfl <| .pickF rfl rfl rfl <| .nil <| .th <| .cond rfl ?_ ?_
          · exact .seq <| .region <| .sg rfl rfl <| .nil <| .th <| .ret <| .blkR <| .thR <| .lpR <| .blkR <| .thR <| .ret1 (P := p40) (sel := []) ⟨rfl, rfl⟩ rfl rfl (.tmp rfl) .rf .nil rfl
          · exact .skip <| .blk <| .th <| .region <| .mv rfl rfl <| .add rfl rfl rfl <| .sg rfl rfl <| .nil <| .next (wi (s11_0 + 1)) rfl (.s rfl (.s rfl (.s rfl (.s rfl .n)))) rfl
        · refine .no 54 rfl rfl rfl rfl <| .no 54 rfl rfl rfl rfl <| .no 54 rfl rfl rfl rfl <| .no 54 rfl rfl rfl rfl <| .no 54 rfl rfl rfl rfl <| .yes 50 rfl rfl rfl <| .pickF rfl rfl rfl <| .pickF rfl rfl rfl <| .nil <| ?_
          exact .th <| .condF rfl <| .skip <| .blk <| .th <| .region <| .mv rfl rfl <| .add rfl rfl rfl <| .sg rfl rfl <| .nil <| .next (wi (s11_0 + 1)) rfl (.s rfl (.s rfl (.s rfl (.s rfl .n)))) rfl
    · exact .exit <| .thE <| .lpE <| .blkE <| .th <| .seq <| .region <| .sg rfl rfl <| .nil <| .th <| .ret <| .ret1 (P := p40) (sel := []) ⟨rfl, rfl⟩ rfl rfl (.tmp rfl) .rf .nil rfl
noncomputable def m66 (a0 : Int) : Option ApiValue := (m94 (-9999) 9999 ([a0] : List Int)).bind fun z1 => if (!z1) then (m95 2).bind fun z2 => some ⟨z2.fault, z2.n⟩ else some ⟨0, a0⟩
abbrev p66 (r : ApiValue) (v : V) (H : List Ob) : Prop := v = .agg ((eApiValue r).map .p) ∧ H = []
theorem c66 {a0 : Int} {r : ApiValue} (h : m66 a0 = some r) : CP Tryz.prog 66 [vI a0] (.agg ((eApiValue r).map .p)) := by
  refine CD.ofM (P := p66) h Tryz.func66 rfl Tryz.ntmps66 rfl fun w g => ?_
  refine .ext 1 ?_
  refine .seq <| .region <| .al 0 Tryz.zeroValue55 rfl rfl rfl <| .nil <| .th <| .seq <| .seq <| .region <| .mv rfl rfl <| .bs ([a0] : List Int) eI Tryz.runUnderlying24 Tryz.sizeOf3 Tryz.zeroValue3 rfl rfl rfl rfl rfl rfl rfl rfl <| ?_
  refine .cw (fun _ => c94) (fun _ _ => rfl) (.s rfl (.s rfl (.s rfl .n))) rfl (fun _ => rfl) rfl fun z1 => .not rfl rfl <| .nil <| .th <| .cond rfl ?_ ?_
  · exact .seq <| .region <| .cw (fun _ => c95) (fun _ _ => rfl) (.s rfl .n) rfl (fun _ => rfl) rfl fun z2 => .st Tryz.sizeOf55 rfl rfl rfl rfl rfl rfl <| .nil <| .th <| .ret <| .thR <| .ret1 (P := p66) (sel := []) ⟨rfl, rfl⟩ rfl rfl (.cellA rfl rfl Tryz.isAgg55 Tryz.sizeOf55 rfl) .rf .nil rfl
  · exact .skip <| .th <| .seq <| .region <| .mv rfl rfl <| .bu bu55 rfl rfl rfl rfl <| .st Tryz.sizeOf55 rfl rfl rfl rfl rfl rfl <| .nil <| .th <| .ret <| .ret1 (P := p66) (sel := []) ⟨rfl, rfl⟩ rfl rfl (.cellA rfl rfl Tryz.isAgg55 Tryz.sizeOf55 rfl) .rf .nil rfl
noncomputable def m68 (a0 : ApiValue) (a1 : ApiValue) (a2 : ApiValue) : Option (ApiValue × Int) := (m99 ([a0, a1, a2] : List ApiValue)).bind fun z1 => if (!z1) then some (⟨0, 0⟩, 2) else if (!decide (a0.fault = 0)) then some (⟨a0.fault, a0.n⟩, 0) else if (decide (a0.n = 0)) then some (⟨a2.fault, a2.n⟩, 0) else some (⟨a1.fault, a1.n⟩, 0)
abbrev p68 (r : ApiValue × Int) (v : V) (H : List Ob) : Prop := v = .tup [.agg ((eApiValue r.1).map .p), vI r.2] ∧ H = []
theorem c68 {a0 : ApiValue} {a1 : ApiValue} {a2 : ApiValue} {r : ApiValue × Int} (h : m68 a0 a1 a2 = some r) : CP Tryz.prog 68 [.agg ((eApiValue a0).map .p), .agg ((eApiValue a1).map .p), .agg ((eApiValue a2).map .p)] (.tup [.agg ((eApiValue r.1).map .p), vI r.2]) := by
  refine CD.ofM (P := p68) h Tryz.func68 rfl Tryz.ntmps68 rfl fun w g => ?_
  refine .ext 1 ?_
  refine .seq <| .region <| .bxE (cs := eApiValue a0) rfl rfl rfl rfl <| .bxE (cs := eApiValue a1) rfl rfl rfl rfl <| .bxE (cs := eApiValue a2) rfl rfl rfl rfl <| .al 0 Tryz.zeroValue55 rfl rfl rfl <| .sg rfl rfl <| ?_
  refine .nil <| .th <| .seq <| .blk <| .seq <| .region <| .lEA Tryz.isAgg55 Tryz.sizeOf55 rfl rfl rfl <| .lEA Tryz.isAgg55 Tryz.sizeOf55 rfl rfl rfl <| .lEA Tryz.isAgg55 Tryz.sizeOf55 rfl rfl rfl <| .bs ([a0, a1, a2] : List ApiValue) eApiValue Tryz.runUnderlying32 Tryz.sizeOf55 Tryz.zeroValue55 rfl rfl rfl rfl rfl rfl rfl rfl <| ?_
  refine .cw (fun _ => c99) (fun _ _ => rfl) (.s rfl .n) rfl (fun _ => rfl) rfl fun z1 => .not rfl rfl <| .sg rfl rfl <| .nil <| .th <| .cond rfl ?_ ?_
  · exact .seq <| .region <| .bu bu55 rfl rfl rfl rfl <| .st Tryz.sizeOf55 rfl rfl rfl rfl rfl rfl <| .sg rfl rfl <| .nil <| .th <| .ret <| .blkR <| .thR <| .ret2 (P := p68) (sel := []) ⟨rfl, rfl⟩ rfl rfl (.cellA rfl rfl Tryz.isAgg55 Tryz.sizeOf55 rfl) (.tmp rfl) .rf .rf .nil rfl
  · refine .seq <| .region <| .fE fa55_0 rfl rfl rfl <| .lE Tryz.isAgg5 rfl rfl rfl <| .neq rfl rfl rfl <| .sg rfl rfl <| .nil <| .th <| .cond rfl ?_ ?_
    · exact .seq <| .region <| .lEA Tryz.isAgg55 Tryz.sizeOf55 rfl rfl rfl <| .st Tryz.sizeOf55 rfl rfl rfl rfl rfl rfl <| .sg rfl rfl <| .nil <| .th <| .ret <| .blkR <| .thR <| .ret2 (P := p68) (sel := []) ⟨rfl, rfl⟩ rfl rfl (.cellA rfl rfl Tryz.isAgg55 Tryz.sizeOf55 rfl) (.tmp rfl) .rf .rf .nil rfl
    · refine .seq <| .region <| .fE fa55_1 rfl rfl rfl <| .lE Tryz.isAgg3 rfl rfl rfl <| .eql rfl rfl rfl <| .sg rfl rfl <| .nil <| .th <| .cond rfl ?_ ?_
      · exact .seq <| .region <| .lEA Tryz.isAgg55 Tryz.sizeOf55 rfl rfl rfl <| .st Tryz.sizeOf55 rfl rfl rfl rfl rfl rfl <| .sg rfl rfl <| .nil <| .th <| .ret <| .blkR <| .thR <| .ret2 (P := p68) (sel := []) ⟨rfl, rfl⟩ rfl rfl (.cellA rfl rfl Tryz.isAgg55 Tryz.sizeOf55 rfl) (.tmp rfl) .rf .rf .nil rfl
      · exact .skip <| .blk <| .th <| .seq <| .region <| .lEA Tryz.isAgg55 Tryz.sizeOf55 rfl rfl rfl <| .st Tryz.sizeOf55 rfl rfl rfl rfl rfl rfl <| .sg rfl rfl <| .nil <| .th <| .ret <| .ret2 (P := p68) (sel := []) ⟨rfl, rfl⟩ rfl rfl (.cellA rfl rfl Tryz.isAgg55 Tryz.sizeOf55 rfl) (.tmp rfl) .rf .rf .nil rfl
noncomputable def m73 (a0 : Int) (a1 : ApiValue) : Option ApiValue := if (decide (0 < a1.fault)) then some ⟨a1.fault, a1.n⟩ else if (decide (a0 = 5)) then (m70 (wi (-a1.n))).bind fun z1 => some ⟨z1.fault, z1.n⟩ else (m101 (decide (a1.n = 0))).bind fun z2 => some ⟨z2.fault, z2.n⟩
abbrev p73 (r : ApiValue) (v : V) (H : List Ob) : Prop := v = .agg ((eApiValue r).map .p) ∧ H = []
theorem c73 {a0 : Int} {a1 : ApiValue} {r : ApiValue} (h : m73 a0 a1 = some r) : CP Tryz.prog 73 [v8 a0, .agg ((eApiValue a1).map .p)] (.agg ((eApiValue r).map .p)) := by
  refine CD.ofM (P := p73) h Tryz.func73 rfl Tryz.ntmps73 rfl fun w g => ?_
  refine .ext 1 ?_
  refine .seq <| .region <| .bxE (cs := eApiValue a1) rfl rfl rfl rfl <| .al 0 Tryz.zeroValue55 rfl rfl rfl <| .nil <| .th <| .seq <| .blk <| .seq <| .region <| .fE fa55_0 rfl rfl rfl <| .lE Tryz.isAgg5 rfl rfl rfl <| ?_
  refine .gtr rfl rfl rfl <| .sg rfl rfl <| .nil <| .th <| .cond rfl ?_ ?_
  · exact .seq <| .region <| .lEA Tryz.isAgg55 Tryz.sizeOf55 rfl rfl rfl <| .st Tryz.sizeOf55 rfl rfl rfl rfl rfl rfl <| .nil <| .th <| .ret <| .blkR <| .thR <| .ret1 (P := p73) (sel := []) ⟨rfl, rfl⟩ rfl rfl (.cellA rfl rfl Tryz.isAgg55 Tryz.sizeOf55 rfl) .rf .nil rfl
  · refine .seq <| .region <| .mv rfl rfl <| .eql rfl rfl rfl <| .sg rfl rfl <| .nil <| .th <| .cond rfl ?_ ?_
    · refine .seq <| .region <| .fE fa55_1 rfl rfl rfl <| .lE Tryz.isAgg3 rfl rfl rfl <| .neg rfl rfl <| .cw (fun _ => c70) (fun _ _ => rfl) (.s rfl .n) rfl (fun _ => rfl) rfl fun z1 => .st Tryz.sizeOf55 rfl rfl rfl rfl rfl rfl <| ?_
      exact .nil <| .th <| .ret <| .blkR <| .thR <| .ret1 (P := p73) (sel := []) ⟨rfl, rfl⟩ rfl rfl (.cellA rfl rfl Tryz.isAgg55 Tryz.sizeOf55 rfl) .rf .nil rfl
    · refine .skip <| .blk <| .th <| .seq <| .region <| .fE fa55_1 rfl rfl rfl <| .lE Tryz.isAgg3 rfl rfl rfl <| .eql rfl rfl rfl <| .cw (fun _ => c101) (fun _ _ => rfl) (.s rfl .n) rfl (fun _ => rfl) rfl fun z2 => ?_
      exact .st Tryz.sizeOf55 rfl rfl rfl rfl rfl rfl <| .nil <| .th <| .ret <| .ret1 (P := p73) (sel := []) ⟨rfl, rfl⟩ rfl rfl (.cellA rfl rfl Tryz.isAgg55 Tryz.sizeOf55 rfl) .rf .nil rfl
noncomputable def m74 (a0 : Int) (a1 : ApiValue) (a2 : ApiValue) : Option ApiValue := if (decide (0 < a1.fault)) then some ⟨a1.fault, a1.n⟩ else if ((decide (a0 = 15)) && (decide (a1.n = 0))) then some ⟨a1.fault, a1.n⟩ else if ((decide (a0 = 16)) && (!decide (a1.n = 0))) then (m70 1).bind fun z1 => some ⟨z1.fault, z1.n⟩ else if ((decide (a0 = 15)) || (decide (a0 = 16))) then some ⟨a2.fault, a2.n⟩ else if (decide (0 < a2.fault)) then some ⟨a2.fault, a2.n⟩ else if (decide (a0 = 7)) then (m102 (wi (a1.n + a2.n))).bind fun z2 => some ⟨z2.fault, z2.n⟩ else if (decide (a0 = 8)) then (m102 (wi (a1.n - a2.n))).bind fun z3 => some ⟨z3.fault, z3.n⟩ else if (decide (a0 = 9)) then (m102 (wi (a1.n * a2.n))).bind fun z4 => some ⟨z4.fault, z4.n⟩ else if (decide (a0 = 12)) then (m101 (decide (a1.n = a2.n))).bind fun z5 => some ⟨z5.fault, z5.n⟩ else if (decide (a0 = 13)) then (m101 (decide (a1.n < a2.n))).bind fun z6 => some ⟨z6.fault, z6.n⟩ else if (decide (a0 = 14)) then (m101 (decide (a1.n ≤ a2.n))).bind fun z7 => some ⟨z7.fault, z7.n⟩ else if (decide (a2.n = 0)) then (m71 1).bind fun z8 => some ⟨z8.fault, z8.n⟩ else (m103 a1.n a2.n).bind fun z9 => if (decide (a0 = 10)) then (m70 z9).bind fun z10 => some ⟨z10.fault, z10.n⟩ else (m70 (wi (a1.n - (wi (a2.n * z9))))).bind fun z11 => some ⟨z11.fault, z11.n⟩
abbrev p74 (r : ApiValue) (v : V) (H : List Ob) : Prop := v = .agg ((eApiValue r).map .p) ∧ H = []
theorem c74 {a0 : Int} {a1 : ApiValue} {a2 : ApiValue} {r : ApiValue} (h : m74 a0 a1 a2 = some r) : CP Tryz.prog 74 [v8 a0, .agg ((eApiValue a1).map .p), .agg ((eApiValue a2).map .p)] (.agg ((eApiValue r).map .p)) := by
  refine CD.ofM (P := p74) h Tryz.func74 rfl Tryz.ntmps74 rfl fun w g => ?_
  refine .ext 1 ?_
  refine .seq <| .region <| .bxE (cs := eApiValue a1) rfl rfl rfl rfl <| .bxE (cs := eApiValue a2) rfl rfl rfl rfl <| .al 0 Tryz.zeroValue55 rfl rfl rfl <| .nil <| .th <| .seq <| .blk <| .seq <| .region <| .fE fa55_0 rfl rfl rfl <| ?_
  refine .lE Tryz.isAgg5 rfl rfl rfl <| .gtr rfl rfl rfl <| .sg rfl rfl <| .nil <| .th <| .cond rfl ?_ ?_
  · exact .seq <| .region <| .lEA Tryz.isAgg55 Tryz.sizeOf55 rfl rfl rfl <| .st Tryz.sizeOf55 rfl rfl rfl rfl rfl rfl <| .nil <| .th <| .ret <| .blkR <| .thR <| .ret1 (P := p74) (sel := []) ⟨rfl, rfl⟩ rfl rfl (.cellA rfl rfl Tryz.isAgg55 Tryz.sizeOf55 rfl) .rf .nil rfl
  · refine .seq <| .region <| .mv rfl rfl <| .eql rfl rfl rfl <| .mv rfl rfl <| .and (r := (decide (a1.n = 0))) 4 20 16 rfl (fun c => ?_) (fun c => ?_) ?_
    · exact .yes 16 rfl rfl rfl <| .fE fa55_1 rfl rfl rfl <| .yes 16 rfl rfl rfl <| .lE Tryz.isAgg3 rfl rfl rfl <| .yes 16 rfl rfl rfl <| .eql rfl rfl rfl <| .pickT rfl rfl rfl <| c _ (.up rfl rfl rfl)
    · exact .no 16 rfl rfl rfl rfl <| .no 16 rfl rfl rfl rfl <| .no 16 rfl rfl rfl rfl <| .pickF rfl rfl rfl <| c _ (.up rfl rfl rfl)
    · refine .sg rfl rfl <| .nil <| .th <| .cond rfl ?_ ?_
      · exact .seq <| .region <| .lEA Tryz.isAgg55 Tryz.sizeOf55 rfl rfl rfl <| .st Tryz.sizeOf55 rfl rfl rfl rfl rfl rfl <| .nil <| .th <| .ret <| .blkR <| .thR <| .ret1 (P := p74) (sel := []) ⟨rfl, rfl⟩ rfl rfl (.cellA rfl rfl Tryz.isAgg55 Tryz.sizeOf55 rfl) .rf .nil rfl
      · refine .seq <| .region <| .mv rfl rfl <| .eql rfl rfl rfl <| .mv rfl rfl <| .and (r := (!decide (a1.n = 0))) 4 29 25 rfl (fun c => ?_) (fun c => ?_) ?_
        · exact .yes 25 rfl rfl rfl <| .fE fa55_1 rfl rfl rfl <| .yes 25 rfl rfl rfl <| .lE Tryz.isAgg3 rfl rfl rfl <| .yes 25 rfl rfl rfl <| .neq rfl rfl rfl <| .pickT rfl rfl rfl <| c _ (.up rfl rfl rfl)
        · exact .no 25 rfl rfl rfl rfl <| .no 25 rfl rfl rfl rfl <| .no 25 rfl rfl rfl rfl <| .pickF rfl rfl rfl <| c _ (.up rfl rfl rfl)
        · refine .sg rfl rfl <| .nil <| .th <| .cond rfl ?_ ?_
          · exact .seq <| .region <| .cw (fun _ => c70) (fun _ _ => rfl) (.s rfl .n) rfl (fun _ => rfl) rfl fun z1 => .st Tryz.sizeOf55 rfl rfl rfl rfl rfl rfl <| .nil <| .th <| .ret <| .blkR <| .thR <| .ret1 (P := p74) (sel := []) ⟨rfl, rfl⟩ rfl rfl (.cellA rfl rfl Tryz.isAgg55 Tryz.sizeOf55 rfl) .rf .nil rfl
          · refine .seq <| .region <| .mv rfl rfl <| .eql rfl rfl rfl <| .mv rfl rfl <| .or (r := (decide (a0 = 16))) 3 37 34 rfl (fun c => ?_) (fun c => ?_) ?_
            · exact .yes 34 rfl rfl rfl <| .mv rfl rfl <| .yes 34 rfl rfl rfl <| .eql rfl rfl rfl <| .pickF rfl rfl rfl <| c _ (.up rfl rfl rfl)
            · exact .no 34 rfl rfl rfl rfl <| .no 34 rfl rfl rfl rfl <| .pickT rfl rfl rfl <| c _ (.up rfl rfl rfl)
            · refine .sg rfl rfl <| .nil <| .th <| .cond rfl ?_ ?_
              · exact .seq <| .region <| .lEA Tryz.isAgg55 Tryz.sizeOf55 rfl rfl rfl <| .st Tryz.sizeOf55 rfl rfl rfl rfl rfl rfl <| .nil <| .th <| .ret <| .blkR <| .thR <| .ret1 (P := p74) (sel := []) ⟨rfl, rfl⟩ rfl rfl (.cellA rfl rfl Tryz.isAgg55 Tryz.sizeOf55 rfl) .rf .nil rfl
              · refine .seq <| .region <| .fE fa55_0 rfl rfl rfl <| .lE Tryz.isAgg5 rfl rfl rfl <| .gtr rfl rfl rfl <| .sg rfl rfl <| .nil <| .th <| .cond rfl ?_ ?_
                · exact .seq <| .region <| .lEA Tryz.isAgg55 Tryz.sizeOf55 rfl rfl rfl <| .st Tryz.sizeOf55 rfl rfl rfl rfl rfl rfl <| .nil <| .th <| .ret <| .blkR <| .thR <| .ret1 (P := p74) (sel := []) ⟨rfl, rfl⟩ rfl rfl (.cellA rfl rfl Tryz.isAgg55 Tryz.sizeOf55 rfl) .rf .nil rfl
                · refine .skip <| .blk <| .th <| .seq <| .seq <| .region <| .mv rfl rfl <| .nil <| .th <| .blk <| .seq <| .region <| .eql rfl rfl rfl <| .sg rfl rfl <| .nil <| .th <| .cond rfl ?_ ?_
                  · refine .seq <| .region <| .fE fa55_1 rfl rfl rfl <| .lE Tryz.isAgg3 rfl rfl rfl <| .fE fa55_1 rfl rfl rfl <| .lE Tryz.isAgg3 rfl rfl rfl <| .add rfl rfl rfl <| .cw (fun _ => c102) (fun _ _ => rfl) (.s rfl .n) rfl (fun _ => rfl) rfl fun z2 => ?_
                    exact .st Tryz.sizeOf55 rfl rfl rfl rfl rfl rfl <| .nil <| .th <| .ret <| .blkR <| .thR <| .ret1 (P := p74) (sel := []) ⟨rfl, rfl⟩ rfl rfl (.cellA rfl rfl Tryz.isAgg55 Tryz.sizeOf55 rfl) .rf .nil rfl
                  · refine .seq <| .region <| .eql rfl rfl rfl <| .sg rfl rfl <| .nil <| .th <| .cond rfl ?_ ?_
                    · refine .seq <| .region <| .fE fa55_1 rfl rfl rfl <| .lE Tryz.isAgg3 rfl rfl rfl <| .fE fa55_1 rfl rfl rfl <| .lE Tryz.isAgg3 rfl rfl rfl <| .sb rfl rfl rfl <| .cw (fun _ => c102) (fun _ _ => rfl) (.s rfl .n) rfl (fun _ => rfl) rfl fun z3 => ?_
                      exact .st Tryz.sizeOf55 rfl rfl rfl rfl rfl rfl <| .nil <| .th <| .ret <| .blkR <| .thR <| .ret1 (P := p74) (sel := []) ⟨rfl, rfl⟩ rfl rfl (.cellA rfl rfl Tryz.isAgg55 Tryz.sizeOf55 rfl) .rf .nil rfl
                    · refine .seq <| .region <| .eql rfl rfl rfl <| .sg rfl rfl <| .nil <| .th <| .cond rfl ?_ ?_
                      · refine .seq <| .region <| .fE fa55_1 rfl rfl rfl <| .lE Tryz.isAgg3 rfl rfl rfl <| .fE fa55_1 rfl rfl rfl <| .lE Tryz.isAgg3 rfl rfl rfl <| .mul rfl rfl rfl <| .cw (fun _ => c102) (fun _ _ => rfl) (.s rfl .n) rfl (fun _ => rfl) rfl fun z4 => ?_
                        exact .st Tryz.sizeOf55 rfl rfl rfl rfl rfl rfl <| .nil <| .th <| .ret <| .blkR <| .thR <| .ret1 (P := p74) (sel := []) ⟨rfl, rfl⟩ rfl rfl (.cellA rfl rfl Tryz.isAgg55 Tryz.sizeOf55 rfl) .rf .nil rfl
                      · refine .seq <| .region <| .eql rfl rfl rfl <| .sg rfl rfl <| .nil <| .th <| .cond rfl ?_ ?_
                        · refine .seq <| .region <| .fE fa55_1 rfl rfl rfl <| .lE Tryz.isAgg3 rfl rfl rfl <| .fE fa55_1 rfl rfl rfl <| .lE Tryz.isAgg3 rfl rfl rfl <| .eql rfl rfl rfl <| .cw (fun _ => c101) (fun _ _ => rfl) (.s rfl .n) rfl (fun _ => rfl) rfl fun z5 => ?_
                          exact .st Tryz.sizeOf55 rfl rfl rfl rfl rfl rfl <| .nil <| .th <| .ret <| .blkR <| .thR <| .ret1 (P := p74) (sel := []) ⟨rfl, rfl⟩ rfl rfl (.cellA rfl rfl Tryz.isAgg55 Tryz.sizeOf55 rfl) .rf .nil rfl
                        · refine .seq <| .region <| .eql rfl rfl rfl <| .sg rfl rfl <| .nil <| .th <| .cond rfl ?_ ?_
                          · refine .seq <| .region <| .fE fa55_1 rfl rfl rfl <| .lE Tryz.isAgg3 rfl rfl rfl <| .fE fa55_1 rfl rfl rfl <| .lE Tryz.isAgg3 rfl rfl rfl <| .lss rfl rfl rfl <| .cw (fun _ => c101) (fun _ _ => rfl) (.s rfl .n) rfl (fun _ => rfl) rfl fun z6 => ?_
                            exact .st Tryz.sizeOf55 rfl rfl rfl rfl rfl rfl <| .nil <| .th <| .ret <| .blkR <| .thR <| .ret1 (P := p74) (sel := []) ⟨rfl, rfl⟩ rfl rfl (.cellA rfl rfl Tryz.isAgg55 Tryz.sizeOf55 rfl) .rf .nil rfl
                          · refine .seq <| .region <| .eql rfl rfl rfl <| .sg rfl rfl <| .nil <| .th <| .cond rfl ?_ ?_
                            · refine .seq <| .region <| .fE fa55_1 rfl rfl rfl <| .lE Tryz.isAgg3 rfl rfl rfl <| .fE fa55_1 rfl rfl rfl <| .lE Tryz.isAgg3 rfl rfl rfl <| .leq rfl rfl rfl <| .cw (fun _ => c101) (fun _ _ => rfl) (.s rfl .n) rfl (fun _ => rfl) rfl fun z7 => ?_
                              exact .st Tryz.sizeOf55 rfl rfl rfl rfl rfl rfl <| .nil <| .th <| .ret <| .blkR <| .thR <| .ret1 (P := p74) (sel := []) ⟨rfl, rfl⟩ rfl rfl (.cellA rfl rfl Tryz.isAgg55 Tryz.sizeOf55 rfl) .rf .nil rfl
                            · refine .skip <| .blk <| .th <| .seq <| .seq <| .region <| .fE fa55_1 rfl rfl rfl <| .lE Tryz.isAgg3 rfl rfl rfl <| .eql rfl rfl rfl <| .nil <| .th <| .cond rfl ?_ ?_
                              · exact .seq <| .region <| .cw (fun _ => c71) (fun _ _ => rfl) (.s rfl .n) rfl (fun _ => rfl) rfl fun z8 => .st Tryz.sizeOf55 rfl rfl rfl rfl rfl rfl <| .nil <| .th <| .ret <| .thR <| .ret1 (P := p74) (sel := []) ⟨rfl, rfl⟩ rfl rfl (.cellA rfl rfl Tryz.isAgg55 Tryz.sizeOf55 rfl) .rf .nil rfl
                              · refine .skip <| .th <| .seq <| .region <| .fE fa55_1 rfl rfl rfl <| .lE Tryz.isAgg3 rfl rfl rfl <| .fE fa55_1 rfl rfl rfl <| .lE Tryz.isAgg3 rfl rfl rfl <| .cw (fun _ => c103) (fun _ _ => rfl) (.s rfl (.s rfl .n)) rfl (fun _ => rfl) rfl fun z9 => ?_
                                refine .sg rfl rfl <| .nil <| .th <| .seq <| .seq <| .region <| .mv rfl rfl <| .eql rfl rfl rfl <| .nil <| .th <| .cond rfl ?_ ?_
                                · exact .seq <| .region <| .mv rfl rfl <| .cw (fun _ => c70) (fun _ _ => rfl) (.s rfl .n) rfl (fun _ => rfl) rfl fun z10 => .st Tryz.sizeOf55 rfl rfl rfl rfl rfl rfl <| .nil <| .th <| .ret <| .thR <| .ret1 (P := p74) (sel := []) ⟨rfl, rfl⟩ rfl rfl (.cellA rfl rfl Tryz.isAgg55 Tryz.sizeOf55 rfl) .rf .nil rfl
                                · refine .skip <| .th <| .seq <| .region <| .fE fa55_1 rfl rfl rfl <| .lE Tryz.isAgg3 rfl rfl rfl <| .fE fa55_1 rfl rfl rfl <| .lE Tryz.isAgg3 rfl rfl rfl <| .mv rfl rfl <| .mul rfl rfl rfl <| .sb rfl rfl rfl <| ?_
                                  exact .cw (fun _ => c70) (fun _ _ => rfl) (.s rfl .n) rfl (fun _ => rfl) rfl fun z11 => .st Tryz.sizeOf55 rfl rfl rfl rfl rfl rfl <| .nil <| .th <| .ret <| .ret1 (P := p74) (sel := []) ⟨rfl, rfl⟩ rfl rfl (.cellA rfl rfl Tryz.isAgg55 Tryz.sizeOf55 rfl) .rf .nil rfl
noncomputable def m136 (a0 : Int) : Option ApiValue := (m66 (wi (-a0))).bind fun z1 => some ⟨z1.fault, z1.n⟩
abbrev p136 (r : ApiValue) (v : V) (H : List Ob) : Prop := v = .agg ((eApiValue r).map .p) ∧ H = []
theorem c136 {a0 : Int} {r : ApiValue} (h : m136 a0 = some r) : CP Tryz.prog 136 [vI a0] (.agg ((eApiValue r).map .p)) := by
  refine CD.ofM (P := p136) h Tryz.func136 rfl Tryz.ntmps136 rfl fun w g => ?_
  refine .ext 1 ?_
  refine .seq <| .region <| .al 0 Tryz.zeroValue55 rfl rfl rfl <| .nil <| .th <| .seq <| .region <| .mv rfl rfl <| .neg rfl rfl <| .cw (fun _ => c66) (fun _ _ => rfl) (.s rfl .n) rfl (fun _ => rfl) rfl fun z1 => ?_
  exact .st Tryz.sizeOf55 rfl rfl rfl rfl rfl rfl <| .nil <| .th <| .ret <| .ret1 (P := p136) (sel := []) ⟨rfl, rfl⟩ rfl rfl (.cellA rfl rfl Tryz.isAgg55 Tryz.sizeOf55 rfl) .rf .nil rfl
noncomputable def m138 (a0 : Bool) : Option ApiValue := if a0 then (m66 1).bind fun z1 => some ⟨z1.fault, z1.n⟩ else (m66 0).bind fun z2 => some ⟨z2.fault, z2.n⟩
abbrev p138 (r : ApiValue) (v : V) (H : List Ob) : Prop := v = .agg ((eApiValue r).map .p) ∧ H = []
theorem c138 {a0 : Bool} {r : ApiValue} (h : m138 a0 = some r) : CP Tryz.prog 138 [vB a0] (.agg ((eApiValue r).map .p)) := by
  refine CD.ofM (P := p138) h Tryz.func138 rfl Tryz.ntmps138 rfl fun w g => ?_
  refine .ext 1 ?_
  refine .seq <| .region <| .al 0 Tryz.zeroValue55 rfl rfl rfl <| .nil <| .th <| .seq <| .seq <| .region <| .mv rfl rfl <| .nil <| .th <| .cond rfl ?_ ?_
  · exact .seq <| .region <| .cw (fun _ => c66) (fun _ _ => rfl) (.s rfl .n) rfl (fun _ => rfl) rfl fun z1 => .st Tryz.sizeOf55 rfl rfl rfl rfl rfl rfl <| .nil <| .th <| .ret <| .thR <| .ret1 (P := p138) (sel := []) ⟨rfl, rfl⟩ rfl rfl (.cellA rfl rfl Tryz.isAgg55 Tryz.sizeOf55 rfl) .rf .nil rfl
  · exact .skip <| .th <| .seq <| .region <| .cw (fun _ => c66) (fun _ _ => rfl) (.s rfl .n) rfl (fun _ => rfl) rfl fun z2 => .st Tryz.sizeOf55 rfl rfl rfl rfl rfl rfl <| .nil <| .th <| .ret <| .ret1 (P := p138) (sel := []) ⟨rfl, rfl⟩ rfl rfl (.cellA rfl rfl Tryz.isAgg55 Tryz.sizeOf55 rfl) .rf .nil rfl
noncomputable def m143 (a0 : Int) (a1 : Int) : Option ApiValue := (m66 (wi (a0 + a1))).bind fun z1 => some ⟨z1.fault, z1.n⟩
abbrev p143 (r : ApiValue) (v : V) (H : List Ob) : Prop := v = .agg ((eApiValue r).map .p) ∧ H = []
theorem c143 {a0 : Int} {a1 : Int} {r : ApiValue} (h : m143 a0 a1 = some r) : CP Tryz.prog 143 [vI a0, vI a1] (.agg ((eApiValue r).map .p)) := by
  refine CD.ofM (P := p143) h Tryz.func143 rfl Tryz.ntmps143 rfl fun w g => ?_
  refine .ext 1 ?_
  refine .seq <| .region <| .al 0 Tryz.zeroValue55 rfl rfl rfl <| .nil <| .th <| .seq <| .region <| .mv rfl rfl <| .mv rfl rfl <| .add rfl rfl rfl <| .cw (fun _ => c66) (fun _ _ => rfl) (.s rfl .n) rfl (fun _ => rfl) rfl fun z1 => ?_
  exact .st Tryz.sizeOf55 rfl rfl rfl rfl rfl rfl <| .nil <| .th <| .ret <| .ret1 (P := p143) (sel := []) ⟨rfl, rfl⟩ rfl rfl (.cellA rfl rfl Tryz.isAgg55 Tryz.sizeOf55 rfl) .rf .nil rfl
end Go.Proofs.YtpcgfeckokgbfaaGreatDoor

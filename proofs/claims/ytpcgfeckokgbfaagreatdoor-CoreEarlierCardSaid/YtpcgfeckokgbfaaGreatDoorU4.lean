/- Functions beside the code, printed by a program of the author. -/
import Derived.Test.YtpcgfeckokgbfaaGreatDoorU3
set_option linter.all false
set_option maxRecDepth 100000
set_option maxHeartbeats 4000000
namespace Go.Proofs.YtpcgfeckokgbfaaGreatDoor
open Go Go.Mi Go.RowKit Go.Dp
noncomputable def m144 (a0 : Int) (a1 : Int) : Option ApiValue := (m66 (wi (a0 - a1))).bind fun z1 => some ⟨z1.fault, z1.n⟩
abbrev p144 (r : ApiValue) (v : V) (H : List Ob) : Prop := v = .agg ((eApiValue r).map .p) ∧ H = []
theorem c144 {a0 : Int} {a1 : Int} {r : ApiValue} (h : m144 a0 a1 = some r) : CP Tryz.prog 144 [vI a0, vI a1] (.agg ((eApiValue r).map .p)) := by
  refine CD.ofM (P := p144) h Tryz.func144 rfl Tryz.ntmps144 rfl fun w g => ?_
  refine .ext 1 ?_
  refine .seq <| .region <| .al 0 Tryz.zeroValue55 rfl rfl rfl <| .nil <| .th <| .seq <| .region <| .mv rfl rfl <| .mv rfl rfl <| .sb rfl rfl rfl <| .cw (fun _ => c66) (fun _ _ => rfl) (.s rfl .n) rfl (fun _ => rfl) rfl fun z1 => ?_
  exact .st Tryz.sizeOf55 rfl rfl rfl rfl rfl rfl <| .nil <| .th <| .ret <| .ret1 (P := p144) (sel := []) ⟨rfl, rfl⟩ rfl rfl (.cellA rfl rfl Tryz.isAgg55 Tryz.sizeOf55 rfl) .rf .nil rfl
noncomputable def m145 (a0 : Int) (a1 : Int) : Option ApiValue := (m66 (wi (a0 * a1))).bind fun z1 => some ⟨z1.fault, z1.n⟩
abbrev p145 (r : ApiValue) (v : V) (H : List Ob) : Prop := v = .agg ((eApiValue r).map .p) ∧ H = []
theorem c145 {a0 : Int} {a1 : Int} {r : ApiValue} (h : m145 a0 a1 = some r) : CP Tryz.prog 145 [vI a0, vI a1] (.agg ((eApiValue r).map .p)) := by
  refine CD.ofM (P := p145) h Tryz.func145 rfl Tryz.ntmps145 rfl fun w g => ?_
  refine .ext 1 ?_
  refine .seq <| .region <| .al 0 Tryz.zeroValue55 rfl rfl rfl <| .nil <| .th <| .seq <| .region <| .mv rfl rfl <| .mv rfl rfl <| .mul rfl rfl rfl <| .cw (fun _ => c66) (fun _ _ => rfl) (.s rfl .n) rfl (fun _ => rfl) rfl fun z1 => ?_
  exact .st Tryz.sizeOf55 rfl rfl rfl rfl rfl rfl <| .nil <| .th <| .ret <| .ret1 (P := p145) (sel := []) ⟨rfl, rfl⟩ rfl rfl (.cellA rfl rfl Tryz.isAgg55 Tryz.sizeOf55 rfl) .rf .nil rfl
noncomputable def m9_1 (a0 : ApiCore) : Int → Option (Int) := Lp fun s33_0 => if (decide (s33_0 < (a0.ops.length : Int))) then (m34 a0 s33_0).bind fun z3 => if (!z3) then (some 4).map .inr else some (.inl (wi (s33_0 + 1))) else (some 0).map .inr
noncomputable def m9 (a0 : ApiCore) : Option Int := if ((decide (6 < (a0.choices.length : Int))) || ((decide (3000 < (a0.ops.length : Int))) || (decide (3000 < (a0.roots.length : Int))))) then some 5 else (m31i1 a0.choices).bind fun z1 => if z1 then some 3 else (m33 0 (wi ((a0.ops.length : Int) - 1)) a0.roots).bind fun z2 => if (!z2) then some 4 else m9_1 a0 0
abbrev p9 (r : Int) (v : V) (H : List Ob) : Prop := v = vI r ∧ H = []
theorem c9 {a0 : ApiCore} {r : Int} (h : m9 a0 = some r) : CP Tryz.prog 9 [.agg ((eApiCore a0).map .p)] (vI r) := by
  refine CD.ofM (P := p9) h Tryz.func9 rfl Tryz.ntmps9 rfl fun w g => ?_
  refine .seq <| .region <| .bxE (cs := eApiCore a0) rfl rfl rfl rfl <| .sg rfl rfl <| .nil <| .th <| .seq <| .blk <| .seq <| .seq <| .region <| .fE fa26_0 rfl rfl rfl <| .lE Tryz.isAgg22 rfl rfl rfl <| .ln Tryz.runUnderlying22 rfl sls_p rfl <| ?_
  refine .gtr rfl rfl rfl <| .sg rfl rfl <| .nil <| .th <| .or (r := ((decide (3000 < (a0.ops.length : Int))) || (decide (3000 < (a0.roots.length : Int))))) rfl (fun c => ?_) ?_
  · refine .seq <| .region <| .fE fa26_1 rfl rfl rfl <| .lE Tryz.isAgg23 rfl rfl rfl <| .ln Tryz.runUnderlying23 rfl sls_p rfl <| .gtr rfl rfl rfl <| .sg rfl rfl <| .nil <| .th <| .or (r := (decide (3000 < (a0.roots.length : Int)))) rfl (fun c => ?_) ?_
    · exact .region <| .fE fa26_2 rfl rfl rfl <| .lE Tryz.isAgg24 rfl rfl rfl <| .ln Tryz.runUnderlying24 rfl sls_p rfl <| .gtr rfl rfl rfl <| .sg rfl rfl <| .nil <| c _ (.up rfl rfl rfl)
    · exact c _ (.up rfl rfl rfl)
  · refine .th <| .cond rfl ?_ ?_
    · exact .seq <| .region <| .sg rfl rfl <| .nil <| .th <| .ret <| .blkR <| .thR <| .ret1 (P := p9) (sel := []) ⟨rfl, rfl⟩ rfl rfl (.tmp rfl) .rf .nil rfl
    · refine .seq <| .region <| .fE fa26_0 rfl rfl rfl <| .lE Tryz.isAgg22 rfl rfl rfl <| .cd [] [] (fun z h => ⟨c31i1 h, .mk' rfl, rfl, rfl⟩) (fun _ _ => rfl) (.s rfl (.s rfl .n)) rd0 rfl fun z1 => .sg rfl rfl <| .nil <| ?_
      refine .th <| .cond rfl ?_ ?_
      · exact .seq <| .region <| .sg rfl rfl <| .nil <| .th <| .ret <| .blkR <| .thR <| .ret1 (P := p9) (sel := []) ⟨rfl, rfl⟩ rfl rfl (.tmp rfl) .rf .nil rfl
      · refine .seq <| .region <| .fE fa26_1 rfl rfl rfl <| .lE Tryz.isAgg23 rfl rfl rfl <| .ln Tryz.runUnderlying23 rfl sls_p rfl <| .sb rfl rfl rfl <| .fE fa26_2 rfl rfl rfl <| .lE Tryz.isAgg24 rfl rfl rfl <| .cw (fun _ => c33) (fun _ _ => rfl) (.s rfl (.s rfl (.s rfl .n))) rfl (fun _ => rfl) rfl fun z2 => ?_
        refine .not rfl rfl <| .sg rfl rfl <| .nil <| .th <| .cond rfl ?_ ?_
        · exact .seq <| .region <| .sg rfl rfl <| .nil <| .th <| .ret <| .blkR <| .thR <| .ret1 (P := p9) (sel := []) ⟨rfl, rfl⟩ rfl rfl (.tmp rfl) .rf .nil rfl
        · refine .skip <| .blk <| .th <| .seq <| .seq <| .region <| .fE fa26_1 rfl rfl rfl <| .lE Tryz.isAgg23 rfl rfl rfl <| .ln Tryz.runUnderlying23 rfl sls_p rfl <| .mv rfl rfl <| .nil <| .th <| .blk <| .loop (α := (Int)) id (fun s33_0 => [(1, .el (eApiCore a0)), (32, vI (a0.ops.length : Int)), (33, vI s33_0)]) (fun s33_0 => []) 0 rfl (.s rfl (.s rfl (.s rfl .n))) rfl ?_
          rintro s33_0 n
          refine .seq <| .region <| .lss rfl rfl rfl <| .nil <| .th <| .seq <| .cond rfl ?_ ?_
          · refine .skip <| .th <| .seq <| .blk <| .seq <| .region <| .mv rfl rfl <| .sg rfl rfl <| .nil <| .th <| .seq <| .region <| .lEA Tryz.isAgg26 Tryz.sizeOf26 rfl rfl rfl <| .mv rfl rfl <| .cw (fun _ => c34) (fun _ _ => rfl) (.s rfl (.s rfl .n)) rfl (fun _ => rfl) rfl fun z3 => ?_
            refine .not rfl rfl <| .nil <| .th <| .cond rfl ?_ ?_
            · exact .seq <| .region <| .sg rfl rfl <| .nil <| .th <| .ret <| .blkR <| .thR <| .lpR <| .blkR <| .thR <| .ret1 (P := p9) (sel := []) ⟨rfl, rfl⟩ rfl rfl (.tmp rfl) .rf .nil rfl
            · exact .skip <| .blk <| .th <| .region <| .add rfl rfl rfl <| .mv rfl rfl <| .nil <| .next (wi (s33_0 + 1)) rfl (.s rfl (.s rfl (.s rfl .n))) rfl
          · exact .exit <| .thE <| .lpE <| .blkE <| .th <| .seq <| .region <| .sg rfl rfl <| .nil <| .th <| .ret <| .ret1 (P := p9) (sel := []) ⟨rfl, rfl⟩ rfl rfl (.tmp rfl) .rf .nil rfl
noncomputable def m63i2_1 (p0 : List ApiOp) : Int → Option (Int) := Lp fun s8_0 => if (decide (s8_0 < (p0.length : Int))) then (ix p0 s8_0).bind fun z1 => (m36 z1).bind fun z2 => if z2 then (some s8_0).map .inr else some (.inl (wi (s8_0 + 1))) else (some (-1)).map .inr
noncomputable def m63i2 (p0 : List ApiOp) : Option Int := m63i2_1 p0 0
abbrev p63i2 (p0 : List ApiOp) (r : Int) (v : V) (H : List Ob) : Prop := v = vI r ∧ H = []
theorem c63i2 {p0 : List ApiOp} {r : Int} (h : m63i2 p0 = some r) : CE Tryz.prog 63 [vL 5 eApiOp p0, .p (.v (.func (.func 36) #[] #[]))] [] (vI r) [] := by
  refine CD.ofM (P := p63i2 p0) h Tryz.func63 rfl Tryz.ntmps63 rfl fun w g => ?_
  refine .seq <| .region <| .sg rfl rfl <| .nil <| .th <| .seq <| .seq <| .region <| .mv rfl rfl <| .ln Tryz.runUnderlying23 rfl sls_p rfl <| .mv rfl rfl <| .nil <| .th <| .blk <| .loop (α := (Int)) id (fun s8_0 => [(0, vL 5 eApiOp p0), (1, .p (.v (.func (.func 36) #[] #[]))), (7, vI (p0.length : Int)), (8, vI s8_0)]) (fun s8_0 => []) 0 rfl (.s rfl (.s rfl (.s rfl (.s rfl .n)))) rfl ?_
  rintro s8_0 n
  refine .seq <| .region <| .lss rfl rfl rfl <| .nil <| .th <| .seq <| .cond rfl ?_ ?_
  · refine .skip <| .th <| .seq <| .blk <| .seq <| .region <| .mv rfl rfl <| .sg rfl rfl <| .nil <| .th <| .seq <| .region <| .mv rfl rfl <| .mv rfl rfl <| .mv rfl rfl <| .ix Tryz.runUnderlying23 Tryz.sizeOf58 rfl rfl sls_p eApiOp_len rfl fun z1 => ?_
    refine .lEA Tryz.isAgg58 Tryz.sizeOf58 rfl rfl rfl <| .fv rfl (fun _ h => .c0 (c36 h) (fun _ _ => rfl) rfl rfl rfl) (.s rfl .n) rfl fun z2 => .nil <| .th <| .cond rfl ?_ ?_
    · exact .seq <| .region <| .mv rfl rfl <| .sg rfl rfl <| .nil <| .th <| .ret <| .blkR <| .thR <| .lpR <| .blkR <| .thR <| .ret1 (P := p63i2 p0) (sel := []) ⟨rfl, rfl⟩ rfl rfl (.tmp rfl) .rf .nil rfl
    · exact .skip <| .blk <| .th <| .region <| .add rfl rfl rfl <| .mv rfl rfl <| .nil <| .next (wi (s8_0 + 1)) rfl (.s rfl (.s rfl (.s rfl (.s rfl .n)))) rfl
  · exact .exit <| .thE <| .lpE <| .blkE <| .th <| .seq <| .region <| .sg rfl rfl <| .nil <| .th <| .ret <| .ret1 (P := p63i2 p0) (sel := []) ⟨rfl, rfl⟩ rfl rfl (.tmp rfl) .rf .nil rfl
noncomputable def m35i2 (p0 : List ApiOp) : Option Bool := (m63i2 p0).bind fun z1 => some (decide (0 ≤ z1))
abbrev p35i2 (p0 : List ApiOp) (r : Bool) (v : V) (H : List Ob) : Prop := v = vB r ∧ H = []
theorem c35i2 {p0 : List ApiOp} {r : Bool} (h : m35i2 p0 = some r) : CE Tryz.prog 35 [vL 5 eApiOp p0, .p (.v (.func (.func 36) #[] #[]))] [] (vB r) [] := by
  refine CD.ofM (P := p35i2 p0) h Tryz.func35 rfl Tryz.ntmps35 rfl fun w g => ?_
  refine .seq <| .region <| .sg rfl rfl <| .nil <| .th <| .seq <| .region <| .mv rfl rfl <| .mv rfl rfl <| .cd [] [] (fun z h => ⟨c63i2 h, .mk' rfl, rfl, rfl⟩) (fun _ _ => rfl) (.s rfl (.s rfl .n)) rd0 rfl fun z1 => ?_
  exact .geq rfl rfl rfl <| .sg rfl rfl <| .nil <| .th <| .ret <| .ret1 (P := p35i2 p0) (sel := []) ⟨rfl, rfl⟩ rfl rfl (.tmp rfl) .rf .nil rfl
noncomputable def m14_3 (a0 : ApiCore) : Int → Option (Int) := Lp fun s6_2 => if (decide (s6_2 < (a0.roots.length : Int))) then (ix a0.roots s6_2).bind fun z1 => (m39 z1 0 (wi ((a0.ops.length : Int) - 1))).bind fun z2 => if (!z2) then (some 4).map .inr else some (.inl (wi (s6_2 + 1))) else (some 0).map .inr
noncomputable def m14_2 (a0 : ApiCore) : Unit → Option (Int) := fun _ => m14_3 a0 0
noncomputable def m14_4 (a0 : ApiCore) : Int → Option (Int) := Lp fun s5_3 => if (decide (s5_3 < (a0.ops.length : Int))) then (ix a0.ops s5_3).bind fun z3 => (m40 z3 s5_3 (a0.choices.length : Int)).bind fun z4 => if (!z4) then (some 4).map .inr else some (.inl (wi (s5_3 + 1))) else (m14_2 a0 ()).map .inr
noncomputable def m14_1 (a0 : ApiCore) : Unit → Option (Int) := fun _ => m14_4 a0 0
noncomputable def m14_5 (a0 : ApiCore) : Int → Option (Int) := Lp fun s3_4 => if (decide (s3_4 < (a0.choices.length : Int))) then (ix a0.choices s3_4).bind fun z5 => (m39 z5.lo (-9999) z5.hi).bind fun z6 => if (((!z6) || (decide (9999 < z5.hi))) || (decide (12 ≤ (wi (z5.hi - z5.lo))))) then (some 3).map .inr else some (.inl (wi (s3_4 + 1))) else (m14_1 a0 ()).map .inr
noncomputable def m14 (a0 : ApiCore) : Option Int := if (((decide (6 < (a0.choices.length : Int))) || (decide (3000 < (a0.ops.length : Int)))) || (decide (3000 < (a0.roots.length : Int)))) then some 5 else m14_5 a0 0
abbrev p14 (r : Int) (v : V) (H : List Ob) : Prop := v = vI r ∧ H = []
theorem c14 {a0 : ApiCore} {r : Int} (h : m14 a0 = some r) : CP Tryz.prog 14 [.agg ((eApiCore a0).map .p)] (vI r) := by
  refine CD.ofM (P := p14) h Tryz.func14 rfl Tryz.ntmps14 rfl fun w g => ?_
  refine .ext 1 ?_
  refine .seq <| .region <| .bxE (cs := eApiCore a0) rfl rfl rfl rfl <| .sg rfl rfl <| .nil <| .th <| .seq <| .seq <| .region <| .fE fa26_0 rfl rfl rfl <| .lE Tryz.isAgg22 rfl rfl rfl <| .ln Tryz.runUnderlying22 rfl sls_p rfl <| ?_
  refine .gtr rfl rfl rfl <| .mv rfl rfl <| .or (r := (decide (3000 < (a0.ops.length : Int)))) 5 16 11 rfl (fun c => ?_) (fun c => ?_) ?_
  · refine .yes 11 rfl rfl rfl <| .fE fa26_1 rfl rfl rfl <| .yes 11 rfl rfl rfl <| .lE Tryz.isAgg23 rfl rfl rfl <| .yes 11 rfl rfl rfl <| .ln Tryz.runUnderlying23 rfl sls_p rfl <| .yes 11 rfl rfl rfl <| .gtr rfl rfl rfl <| ?_
    exact .pickF rfl rfl rfl <| c _ (.up rfl rfl rfl)
  · exact .no 11 rfl rfl rfl rfl <| .no 11 rfl rfl rfl rfl <| .no 11 rfl rfl rfl rfl <| .no 11 rfl rfl rfl rfl <| .pickT rfl rfl rfl <| c _ (.up rfl rfl rfl)
  · refine .mv rfl rfl <| .or (r := (decide (3000 < (a0.roots.length : Int)))) 5 22 17 rfl (fun c => ?_) (fun c => ?_) ?_
    · refine .yes 17 rfl rfl rfl <| .fE fa26_2 rfl rfl rfl <| .yes 17 rfl rfl rfl <| .lE Tryz.isAgg24 rfl rfl rfl <| .yes 17 rfl rfl rfl <| .ln Tryz.runUnderlying24 rfl sls_p rfl <| .yes 17 rfl rfl rfl <| .gtr rfl rfl rfl <| ?_
      exact .pickF rfl rfl rfl <| c _ (.up rfl rfl rfl)
    · exact .no 17 rfl rfl rfl rfl <| .no 17 rfl rfl rfl rfl <| .no 17 rfl rfl rfl rfl <| .no 17 rfl rfl rfl rfl <| .pickT rfl rfl rfl <| c _ (.up rfl rfl rfl)
    · refine .nil <| .th <| .cond rfl ?_ ?_
      · exact .seq <| .region <| .sg rfl rfl <| .nil <| .th <| .ret <| .thR <| .ret1 (P := p14) (sel := []) ⟨rfl, rfl⟩ rfl rfl (.tmp rfl) .rf .nil rfl
      · refine .skip <| .th <| .join (β := (Unit)) (fun _ => [(1, .el (eApiCore a0))]) (fun _ => [.dead]) (m14_1 a0) ?_ ?_
        · rintro ⟨⟩
          refine .join (β := (Unit)) (fun _ => [(1, .el (eApiCore a0))]) (fun _ => [.dead]) (m14_2 a0) ?_ ?_
          · rintro ⟨⟩
            refine .seq <| .seq <| .region <| .sg rfl rfl <| .nil <| .th <| .blk <| .loop (α := (Int)) id (fun s6_2 => [(1, .el (eApiCore a0)), (6, vI s6_2)]) (fun s6_2 => [.dead]) 0 rfl (.s rfl (.s rfl .n)) rfl ?_
            rintro s6_2 n
            refine .seq <| .seq <| .region <| .mv rfl rfl <| .fE fa26_2 rfl rfl rfl <| .lE Tryz.isAgg24 rfl rfl rfl <| .ln Tryz.runUnderlying24 rfl sls_p rfl <| .lss rfl rfl rfl <| .nil <| .th <| .cond rfl ?_ ?_
            · refine .skip <| .th <| .seq <| .blk <| .seq <| .any Tryz.mixed <| .fE fa26_2 rfl rfl .n <| .lE Tryz.isAgg24 rfl rfl .n <| .mv rfl .n <| .ix Tryz.runUnderlying24 Tryz.sizeOf3 rfl rfl sls_p (fun _ => rfl) .n fun z1 => ?_
              refine .lE Tryz.isAgg3 rfl rfl .n <| .fE fa26_1 rfl rfl .n <| .lE Tryz.isAgg23 rfl rfl .n <| .ln Tryz.runUnderlying23 rfl sls_p .n <| .sb rfl rfl .n <| .cw (fun _ => c39) (fun _ _ => rfl) (.s rfl (.s rfl (.s rfl .n))) rfl (fun _ => rfl) .n fun z2 => ?_
              refine .not rfl .n <| .nil (by kernel_rfl) <| .th <| .cond rfl ?_ ?_
              · exact .seq <| .region <| .sg rfl rfl <| .nil <| .th <| .ret <| .blkR <| .thR <| .lpR <| .blkR <| .thR <| .ret1 (P := p14) (sel := []) ⟨rfl, rfl⟩ rfl rfl (.tmp rfl) .rf .nil rfl
              · exact .skip <| .blk <| .th <| .region <| .mv rfl rfl <| .add rfl rfl rfl <| .sg rfl rfl <| .nil <| .next (wi (s6_2 + 1)) rfl (.s rfl (.s rfl .n)) rfl
            · exact .exit <| .thE <| .lpE <| .blkE <| .th <| .seq <| .region <| .sg rfl rfl <| .nil <| .th <| .ret <| .ret1 (P := p14) (sel := []) ⟨rfl, rfl⟩ rfl rfl (.tmp rfl) .rf .nil rfl
          · intro j
            refine .seq <| .region <| .sg rfl rfl <| .nil <| .th <| .blk <| .loop (α := (Int)) id (fun s5_3 => [(1, .el (eApiCore a0)), (5, vI s5_3)]) (fun s5_3 => [.dead]) 0 rfl (.s rfl (.s rfl .n)) rfl ?_
            rintro s5_3 n
            refine .seq <| .seq <| .region <| .mv rfl rfl <| .fE fa26_1 rfl rfl rfl <| .lE Tryz.isAgg23 rfl rfl rfl <| .ln Tryz.runUnderlying23 rfl sls_p rfl <| .lss rfl rfl rfl <| .nil <| .th <| .cond rfl ?_ ?_
            · refine .skip <| .th <| .seq <| .blk <| .seq <| .any Tryz.mixed <| .fE fa26_1 rfl rfl .n <| .lE Tryz.isAgg23 rfl rfl .n <| .mv rfl .n <| .ix Tryz.runUnderlying23 Tryz.sizeOf58 rfl rfl sls_p eApiOp_len .n fun z3 => ?_
              refine .lEA Tryz.isAgg58 Tryz.sizeOf58 rfl rfl .n <| .mv rfl .n <| .fE fa26_0 rfl rfl .n <| .lE Tryz.isAgg22 rfl rfl .n <| .ln Tryz.runUnderlying22 rfl sls_p .n <| .cw (fun _ => c40) (fun _ _ => rfl) (.s rfl (.s rfl (.s rfl .n))) rfl (fun _ => rfl) .n fun z4 => ?_
              refine .not rfl .n <| .nil (by kernel_rfl) <| .th <| .cond rfl ?_ ?_
              · exact .seq <| .region <| .sg rfl rfl <| .nil <| .th <| .ret <| .blkR <| .thR <| .lpR <| .blkR <| .thR <| .ret1 (P := p14) (sel := []) ⟨rfl, rfl⟩ rfl rfl (.tmp rfl) .rf .nil rfl
              · exact .skip <| .blk <| .th <| .region <| .mv rfl rfl <| .add rfl rfl rfl <| .sg rfl rfl <| .nil <| .next (wi (s5_3 + 1)) rfl (.s rfl (.s rfl .n)) rfl
            · exact .exit <| .thE <| .lpE <| .blkE <| .meet j [] () (.s rfl .n) rfl rfl
        · intro j
          refine .seq <| .region <| .sg rfl rfl <| .nil <| .th <| .blk <| .loop (α := (Int)) id (fun s3_4 => [(1, .el (eApiCore a0)), (3, vI s3_4)]) (fun s3_4 => [.dead]) 0 rfl (.s rfl (.s rfl .n)) rfl ?_
          rintro s3_4 n
          refine .seq <| .seq <| .region <| .mv rfl rfl <| .fE fa26_0 rfl rfl rfl <| .lE Tryz.isAgg22 rfl rfl rfl <| .ln Tryz.runUnderlying22 rfl sls_p rfl <| .lss rfl rfl rfl <| .nil <| .th <| .cond rfl ?_ ?_
          · refine .skip <| .th <| .seq <| .blk <| .seq <| .region <| .fE fa26_0 rfl rfl rfl <| .lE Tryz.isAgg22 rfl rfl rfl <| .mv rfl rfl <| .ix Tryz.runUnderlying22 Tryz.sizeOf72 rfl rfl sls_p eApiChoice_len rfl fun z5 => ?_
            refine .lEA Tryz.isAgg72 Tryz.sizeOf72 rfl rfl rfl <| .al 0 Tryz.zeroValue72 rfl rfl rfl <| .st Tryz.sizeOf72 rfl rfl rfl rfl rfl rfl <| .nil <| .th <| .seq <| .region <| .fR fa72_1 rfl rfl <| .lR Tryz.isAgg3 rfl rfl rfl rfl <| ?_
            refine .fR fa72_2 rfl rfl <| .lR Tryz.isAgg3 rfl rfl rfl rfl <| .cw (fun _ => c39) (fun _ _ => rfl) (.s rfl (.s rfl (.s rfl .n))) rfl (fun _ => rfl) rfl fun z6 => .not rfl rfl <| .mv rfl rfl <| .or (r := (decide (9999 < z5.hi))) 4 45 41 rfl (fun c => ?_) (fun c => ?_) ?_
            · exact .yes 41 rfl rfl rfl <| .fR fa72_2 rfl rfl <| .yes 41 rfl rfl rfl <| .lR Tryz.isAgg3 rfl rfl rfl rfl <| .yes 41 rfl rfl rfl <| .gtr rfl rfl rfl <| .pickF rfl rfl rfl <| c _ (.up rfl rfl rfl)
            · exact .no 41 rfl rfl rfl rfl <| .no 41 rfl rfl rfl rfl <| .no 41 rfl rfl rfl rfl <| .pickT rfl rfl rfl <| c _ (.up rfl rfl rfl)
            · refine .mv rfl rfl <| .or (r := (decide (12 ≤ (wi (z5.hi - z5.lo))))) 7 53 46 rfl (fun c => ?_) (fun c => ?_) ?_
              · refine .yes 46 rfl rfl rfl <| .fR fa72_2 rfl rfl <| .yes 46 rfl rfl rfl <| .lR Tryz.isAgg3 rfl rfl rfl rfl <| .yes 46 rfl rfl rfl <| .fR fa72_1 rfl rfl <| .yes 46 rfl rfl rfl <| .lR Tryz.isAgg3 rfl rfl rfl rfl <| ?_
                exact .yes 46 rfl rfl rfl <| .sb rfl rfl rfl <| .yes 46 rfl rfl rfl <| .geq rfl rfl rfl <| .pickF rfl rfl rfl <| c _ (.up rfl rfl rfl)
              · exact .no 46 rfl rfl rfl rfl <| .no 46 rfl rfl rfl rfl <| .no 46 rfl rfl rfl rfl <| .no 46 rfl rfl rfl rfl <| .no 46 rfl rfl rfl rfl <| .no 46 rfl rfl rfl rfl <| .pickT rfl rfl rfl <| c _ (.up rfl rfl rfl)
              · refine .nil <| .th <| .cond rfl ?_ ?_
                · exact .seq <| .region <| .sg rfl rfl <| .nil <| .th <| .ret <| .blkR <| .thR <| .lpR <| .blkR <| .thR <| .ret1 (P := p14) (sel := []) ⟨rfl, rfl⟩ rfl rfl (.tmp rfl) .rf .nil rfl
                · exact .skip <| .blk <| .th <| .region <| .mv rfl rfl <| .add rfl rfl rfl <| .sg rfl rfl <| .nil <| .nextK [0] (wi (s3_4 + 1)) rfl (.s rfl (.s rfl .n)) rfl rfl
          · exact .exit <| .thE <| .lpE <| .blkE <| .meet j [] () (.s rfl .n) rfl rfl
noncomputable def m15 (a0 : ApiCore) (a1 : List Int) : Option Int := (m14 a0).bind fun z1 => if (!decide (z1 = 0)) then some z1 else (m41 a0).bind fun z2 => if z2 then some 9 else (m42 a0 a1).bind fun z3 => if (!z3) then some 3 else some 0
abbrev p15 (r : Int) (v : V) (H : List Ob) : Prop := v = vI r ∧ H = []
theorem c15 {a0 : ApiCore} {a1 : List Int} {r : Int} (h : m15 a0 a1 = some r) : CP Tryz.prog 15 [.agg ((eApiCore a0).map .p), vL 1 eI a1] (vI r) := by
  refine CD.ofM (P := p15) h Tryz.func15 rfl Tryz.ntmps15 rfl fun w g => ?_
  refine .seq <| .region <| .bxE (cs := eApiCore a0) rfl rfl rfl rfl <| .sg rfl rfl <| .nil <| .th <| .seq <| .seq <| .region <| .lEA Tryz.isAgg26 Tryz.sizeOf26 rfl rfl rfl <| .cw (fun _ => c14) (fun _ _ => rfl) (.s rfl .n) rfl (fun _ => rfl) rfl fun z1 => ?_
  refine .sg rfl rfl <| .nil <| .th <| .blk <| .seq <| .region <| .mv rfl rfl <| .neq rfl rfl rfl <| .sg rfl rfl <| .nil <| .th <| .cond rfl ?_ ?_
  · exact .seq <| .region <| .mv rfl rfl <| .sg rfl rfl <| .nil <| .th <| .ret <| .blkR <| .thR <| .ret1 (P := p15) (sel := []) ⟨rfl, rfl⟩ rfl rfl (.tmp rfl) .rf .nil rfl
  · refine .seq <| .region <| .lEA Tryz.isAgg26 Tryz.sizeOf26 rfl rfl rfl <| .cw (fun _ => c41) (fun _ _ => rfl) (.s rfl .n) rfl (fun _ => rfl) rfl fun z2 => .sg rfl rfl <| .nil <| .th <| .cond rfl ?_ ?_
    · exact .seq <| .region <| .sg rfl rfl <| .nil <| .th <| .ret <| .blkR <| .thR <| .ret1 (P := p15) (sel := []) ⟨rfl, rfl⟩ rfl rfl (.tmp rfl) .rf .nil rfl
    · refine .seq <| .region <| .lEA Tryz.isAgg26 Tryz.sizeOf26 rfl rfl rfl <| .mv rfl rfl <| .cw (fun _ => c42) (fun _ _ => rfl) (.s rfl (.s rfl .n)) rfl (fun _ => rfl) rfl fun z3 => .not rfl rfl <| .sg rfl rfl <| ?_
      refine .nil <| .th <| .cond rfl ?_ ?_
      · exact .seq <| .region <| .sg rfl rfl <| .nil <| .th <| .ret <| .blkR <| .thR <| .ret1 (P := p15) (sel := []) ⟨rfl, rfl⟩ rfl rfl (.tmp rfl) .rf .nil rfl
      · exact .skip <| .blk <| .th <| .seq <| .region <| .sg rfl rfl <| .nil <| .th <| .ret <| .ret1 (P := p15) (sel := []) ⟨rfl, rfl⟩ rfl rfl (.tmp rfl) .rf .nil rfl
noncomputable def m46i1 (p0 : List ApiOp) : Option ((List ApiOp) × Nat) := (ap ([] : List ApiOp) p0).bind fun z1 => some (z1, 1)
abbrev p46i1 (p0 : List ApiOp) (r : (List ApiOp) × Nat) (v : V) (H : List Ob) : Prop := v = tk 5 eApiOp r.1 0 r.2 ∧ H = [.tok 58 5 r.2]
theorem c46i1 {p0 : List ApiOp} {r : (List ApiOp) × Nat} (h : m46i1 p0 = some r) : CE Tryz.prog 46 [vL 5 eApiOp p0] [] (tk 5 eApiOp r.1 0 r.2) [.tok 58 5 r.2] := by
  refine CD.ofM (P := p46i1 p0) h Tryz.func46 rfl Tryz.ntmps46 rfl fun w g => ?_
  refine .ext 2 ?_
  refine .seq <| .region <| .sg rfl rfl <| .nil <| .th <| .seq <| .seq <| .region <| .mv rfl rfl <| .nilQ Tryz.runUnderlying23 rfl rfl ?_ (fun q => ?_)
  · refine .nil <| .th <| .condF rfl <| .skip <| .th <| .seq <| .region <| .bsT 0 ([] : List ApiOp) eApiOp Tryz.runUnderlying23 Tryz.sizeOf58 Tryz.zeroValue58 rfl rfl rfl rfl rfl rfl rfl rfl rfl rfl <| .mv rfl rfl <| ?_
    exact .ap Tryz.under23 info58 rfl (by decide) rfl rfl rfl sls_p eApiOp_one rfl rfl fun z1 => .sg rfl rfl <| .nil <| .th <| .ret <| .ret1 (P := p46i1 p0) (sel := [0]) ⟨rfl, rfl⟩ rfl rfl (.tmp rfl) .rf (.of (sel := [0]) rfl (rdc rfl rd0) (by decide) rfl rfl) rfl
  · subst q
    exact .as (m' := some ([], 1)) rfl <| .nil <| .th <| .condT rfl <| .seq <| .region <| .sg rfl rfl <| .nil <| .th <| .ret <| .thR <| .nilV eApiOp 58 5 1 2 1 rfl rfl <| .ret1 (P := p46i1 ([] : List ApiOp)) (sel := [1]) ⟨rfl, rfl⟩ rfl rfl (.tmp rfl) .rf (.of (sel := [1]) rfl (rdc rfl rd0) (by decide) rfl rfl) rfl
noncomputable def m19_3 (a1 : ApiTemplate) (s11_1 : List Int) (z3 : (List ApiChoice)) (c0_1_1 : List ApiOp) (z5 : (List Int)) : ((List Int) × Int) → Option (ApiCore × (List Int) × Int) := Lp fun (s16_2, s126_2) => if (decide (s126_2 < (a1.core.roots.length : Int))) then (ix a1.core.roots s126_2).bind fun z6 => (ix s11_1 z6).bind fun z7 => (ap s16_2 ([z7] : List Int)).bind fun z8 => some (.inl (z8, (wi (s126_2 + 1)))) else (some (⟨z3, c0_1_1, z5⟩, s16_2, 0)).map .inr
noncomputable def m19_5 (s11_3 : List Int) (c0_1_4 : List ApiOp) (z9 : ApiOp) (s66_3 : Int) : (Int × Int × Int) → Option (((List Int) × Int × (List ApiOp)) ⊕ (ApiCore × (List Int) × Int)) := fun (c4_1_4, c4_2_4, c4_3_4) => (ap s11_3 ([(c0_1_4.length : Int)] : List Int)).bind fun z13 => (ap c0_1_4 ([⟨z9.code, c4_1_4, c4_2_4, c4_3_4, z9.n⟩] : List ApiOp)).bind fun z14 => some (.inl (z13, (wi (s66_3 + 1)), z14))
noncomputable def m19_2 (a1 : ApiTemplate) (z3 : (List ApiChoice)) (z5 : (List Int)) : ((List Int) × (List ApiOp)) → Option (ApiCore × (List Int) × Int) := fun (s11_1, c0_1_1) => if (decide (3000 < (c0_1_1.length : Int))) then some (⟨[], [], []⟩, [], 5) else m19_3 a1 s11_1 z3 c0_1_1 z5 ([], 0)
noncomputable def m19_4 (a1 : ApiTemplate) (a2 : List Int) (z3 : (List ApiChoice)) (z5 : (List Int)) : ((List Int) × Int × (List ApiOp)) → Option (ApiCore × (List Int) × Int) := Lp fun (s11_3, s66_3, c0_1_4) => if (decide (s66_3 < (a1.core.ops.length : Int))) then (ix a1.core.ops s66_3).bind fun z9 => (m36 ⟨z9.code, z9.a, z9.b, z9.c, z9.n⟩).bind fun z10 => if z10 then (ix a2 z9.n).bind fun z11 => (ap s11_3 ([z11] : List Int)).bind fun z12 => some (.inl (z12, (wi (s66_3 + 1)), c0_1_4)) else (m48 z9.code).bind fun z15 => if (decide (0 < z15)) then (ix s11_3 z9.a).bind fun z16 => (m48 z9.code).bind fun z17 => if (decide (1 < z17)) then (ix s11_3 z9.b).bind fun z18 => (m48 z9.code).bind fun z19 => if (decide (2 < z19)) then (ix s11_3 z9.c).bind fun z20 => m19_5 s11_3 c0_1_4 z9 s66_3 (z16, z18, z20) else m19_5 s11_3 c0_1_4 z9 s66_3 (z16, z18, z9.c) else (m48 z9.code).bind fun z21 => if (decide (2 < z21)) then (ix s11_3 z9.c).bind fun z22 => m19_5 s11_3 c0_1_4 z9 s66_3 (z16, z9.b, z22) else m19_5 s11_3 c0_1_4 z9 s66_3 (z16, z9.b, z9.c) else (m48 z9.code).bind fun z23 => if (decide (1 < z23)) then (ix s11_3 z9.b).bind fun z24 => (m48 z9.code).bind fun z25 => if (decide (2 < z25)) then (ix s11_3 z9.c).bind fun z26 => m19_5 s11_3 c0_1_4 z9 s66_3 (z9.a, z24, z26) else m19_5 s11_3 c0_1_4 z9 s66_3 (z9.a, z24, z9.c) else (m48 z9.code).bind fun z27 => if (decide (2 < z27)) then (ix s11_3 z9.c).bind fun z28 => m19_5 s11_3 c0_1_4 z9 s66_3 (z9.a, z9.b, z28) else m19_5 s11_3 c0_1_4 z9 s66_3 (z9.a, z9.b, z9.c) else (m19_2 a1 z3 z5 (s11_3, c0_1_4)).map .inr
noncomputable def m19_1 (a0 : ApiCore) (a1 : ApiTemplate) (a2 : List Int) : Unit → Option (ApiCore × (List Int) × Int) := fun _ => (m45 a0.choices).bind fun z3 => (m46i1 a0.ops).bind fun z4 => (m47 a0.roots).bind fun z5 => m19_4 a1 a2 z3 z5 ([], 0, z4.1)
noncomputable def m19 (a0 : ApiCore) (a1 : ApiTemplate) (a2 : List Int) : Option (ApiCore × (List Int) × Int) := (m9 ⟨a0.choices, a0.ops, a0.roots⟩).bind fun z1 => if (!decide (z1 = 0)) then some (⟨[], [], []⟩, [], z1) else (m9 a1.core).bind fun z2 => if (!decide (z2 = 0)) then some (⟨[], [], []⟩, [], z2) else (m44 a1).bind fun z29 => if (!z29) then some (⟨[], [], []⟩, [], 4) else if (!decide ((a2.length : Int) = a1.params)) then if (!decide ((a2.length : Int) = a1.params)) then some (⟨[], [], []⟩, [], 2) else m19_1 a0 a1 a2 () else (m33 0 (wi ((a0.ops.length : Int) - 1)) a2).bind fun z30 => if (!z30) then some (⟨[], [], []⟩, [], 2) else m19_1 a0 a1 a2 ()
abbrev p19 (r : ApiCore × (List Int) × Int) (v : V) (H : List Ob) : Prop := v = .tup [.agg ((eApiCore r.1).map .p), vL 1 eI r.2.1, vI r.2.2] ∧ H = []
theorem c19 {a0 : ApiCore} {a1 : ApiTemplate} {a2 : List Int} {r : ApiCore × (List Int) × Int} (h : m19 a0 a1 a2 = some r) : CP Tryz.prog 19 [.agg ((eApiCore a0).map .p), .agg ((eApiTemplate a1).map .p), vL 1 eI a2] (.tup [.agg ((eApiCore r.1).map .p), vL 1 eI r.2.1, vI r.2.2]) := by
  refine CD.ofM (P := p19) h Tryz.func19 rfl Tryz.ntmps19 rfl fun w g => ?_
  refine .ext 7 ?_
  refine .seq <| .region <| .bx 0 rfl rfl rfl rfl <| .bxE (cs := eApiTemplate a1) rfl rfl rfl rfl <| .al 1 Tryz.zeroValue26 rfl rfl rfl <| .sg rfl rfl <| .sg rfl rfl <| .nil <| .th <| .seq <| .seq <| .region <| ?_
  refine .lRA Tryz.isAgg26 Tryz.sizeOf26 rfl rfl rfl rfl <| .cw (fun _ => c9) (fun _ _ => rfl) (.s rfl .n) rfl (fun _ => rfl) rfl fun z1 => .sg rfl rfl <| .nil <| .th <| .seq <| .region <| .mv rfl rfl <| .neq rfl rfl rfl <| ?_
  refine .nil <| .th <| .cond rfl ?_ ?_
  · exact .seq <| .region <| .bu bu26 rfl rfl rfl rfl <| .mv rfl rfl <| .st Tryz.sizeOf26 rfl rfl rfl rfl rfl rfl <| .sg rfl rfl <| .sg rfl rfl <| .nil <| .th <| .ret <| .thR <| .ret3 (P := p19) (sel := []) ⟨rfl, rfl⟩ rfl rfl (.cellA rfl rfl Tryz.isAgg26 Tryz.sizeOf26 rfl) (.tmp rfl) (.tmp rfl) (.agg (.c .nil (.c .nil (.c .nil .n)))) .nil .rf .nil rfl
  · refine .skip <| .th <| .seq <| .region <| .fE fa42_2 rfl rfl rfl <| .lEA Tryz.isAgg26 Tryz.sizeOf26 rfl rfl rfl <| .cw (fun _ => c9) (fun _ _ => rfl) (.s rfl .n) rfl (fun _ => rfl) rfl fun z2 => .sg rfl rfl <| ?_
    refine .nil <| .th <| .join (β := (Unit)) (fun _ => [(2, vL 1 eI a2), (3, .ref 0 0), (4, .el (eApiTemplate a1)), (6, .ref 1 0)]) (fun _ => [.cells 26 [vL 3 eApiChoice a0.choices, vL 5 eApiOp a0.ops, vL 1 eI a0.roots], .cells 26 [.p (.v (.slice none 0 0)), .p (.v (.slice none 0 0)), .p (.v (.slice none 0 0))], .dead, .dead, .dead, .dead, .dead]) (m19_1 a0 a1 a2) ?_ ?_
    · rintro ⟨⟩
      refine .seq <| .any Tryz.mixed <| .fR fa26_0 rfl .n <| .lR Tryz.isAgg22 rfl rfl rfl .n <| .cw (fun _ => c45) (fun _ _ => rfl) (.s rfl .n) rfl (fun _ => rfl) .n fun z3 => .fR fa26_1 rfl .n <| .lR Tryz.isAgg23 rfl rfl rfl .n <| ?_
      refine .cd [] [2] (fun z h => ⟨c46i1 h, .mk' rfl, rfl, rfl⟩) (fun _ _ => rfl) (.s rfl .n) (rdc rfl rd0) (fun _ => rfl) .n fun z4 => .fR fa26_2 rfl .n <| .lR Tryz.isAgg24 rfl rfl rfl .n <| .cw (fun _ => c47) (fun _ _ => rfl) (.s rfl .n) rfl (fun _ => rfl) .n fun z5 => ?_
      refine .bu bu26 rfl rfl rfl .n <| .st Tryz.sizeOf26 rfl rfl rfl rfl rfl rfl .n <| .nil (by kernel_rfl) <| .th <| .seq <| .region <| .sg rfl rfl <| .nil <| .th <| .join (β := (((List Int) × (List ApiOp)) × Nat × Nat)) (fun ((s11_1, c0_1_1), v2_1, v3_1) => [(3, .ref 0 0), (4, .el (eApiTemplate a1)), (6, .ref 1 0), (11, tk 1 eI s11_1 3 v3_1)]) (fun ((s11_1, c0_1_1), v2_1, v3_1) => [.cells 26 [vL 3 eApiChoice z3, tk 5 eApiOp c0_1_1 2 v2_1, vL 1 eI z5], .cells 26 [.p (.v (.slice none 0 0)), .p (.v (.slice none 0 0)), .p (.v (.slice none 0 0))], .tok 58 5 v2_1, .tok 3 1 v3_1, .dead, .dead, .dead]) ((fun ((s11_1, c0_1_1), v2_1, v3_1) => m19_2 a1 z3 z5 (s11_1, c0_1_1))) ?_ ?_
      · rintro ⟨⟨s11_1, c0_1_1⟩, v2_1, v3_1⟩
        refine .seq <| .seq <| .region <| .fR fa26_1 rfl rfl <| .lR Tryz.isAgg23 rfl rfl rfl rfl <| .ln Tryz.runUnderlying23 rfl sls_t rfl <| .gtr rfl rfl rfl <| .nil <| .th <| .cond rfl ?_ ?_
        · exact .seq <| .region <| .bu bu26 rfl rfl rfl rfl <| .st Tryz.sizeOf26 rfl rfl rfl rfl rfl rfl <| .sg rfl rfl <| .sg rfl rfl <| .nil <| .th <| .ret <| .thR <| .ret3 (P := p19) (sel := []) ⟨rfl, rfl⟩ rfl rfl (.cellA rfl rfl Tryz.isAgg26 Tryz.sizeOf26 rfl) (.tmp rfl) (.tmp rfl) (.agg (.c .nil (.c .nil (.c .nil .n)))) .nil .rf .nil rfl
        · refine .skip <| .th <| .seq <| .region <| .sg rfl rfl <| .nil <| .th <| .seq <| .seq <| .region <| .fE fa42_2 rfl rfl rfl <| .fE fa26_2 rfl rfl rfl <| .lE Tryz.isAgg24 rfl rfl rfl <| .ln Tryz.runUnderlying24 rfl sls_p rfl <| ?_
          refine .mv rfl rfl <| .nil <| .th <| .blk <| .nilL eI 3 1 4 16 rfl rfl <| .loop (α := (((List Int) × Int) × Nat)) (·.1) (fun ((s16_2, s126_2), v4_2) => [(3, .ref 0 0), (6, .ref 1 0), (11, tk 1 eI s11_1 3 v3_1), (16, tk 1 eI s16_2 4 v4_2), (124, vL 1 eI a1.core.roots), (125, vI (a1.core.roots.length : Int)), (126, vI s126_2)]) (fun ((s16_2, s126_2), v4_2) => [.cells 26 [vL 3 eApiChoice z3, tk 5 eApiOp c0_1_1 2 v2_1, vL 1 eI z5], .cells 26 [.p (.v (.slice none 0 0)), .p (.v (.slice none 0 0)), .p (.v (.slice none 0 0))], .tok 58 5 v2_1, .tok 3 1 v3_1, .tok 3 1 v4_2, .dead, .dead]) (([], 0), 0) rfl (.s rfl (.s rfl (.s rfl (.s rfl (.s rfl (.s rfl (.s rfl .n))))))) rfl ?_
          rintro ⟨⟨s16_2, s126_2⟩, v4_2⟩ n
          refine .seq <| .region <| .lss rfl rfl rfl <| .nil <| .th <| .seq <| .cond rfl ?_ ?_
          · refine .skip <| .th <| .seq <| .blk <| .seq <| .region <| .ix Tryz.runUnderlying24 Tryz.sizeOf3 rfl rfl sls_p (fun _ => rfl) rfl fun z6 => .lE Tryz.isAgg3 rfl rfl rfl <| .sg rfl rfl <| .nil <| .th <| .region <| ?_
            refine .mv rfl rfl <| .mv rfl rfl <| .mv rfl rfl <| .ix Tryz.runUnderlying24 Tryz.sizeOf3 rfl rfl sls_t (fun _ => rfl) rfl fun z7 => .lE Tryz.isAgg3 rfl rfl rfl <| .bs ([z7] : List Int) eI Tryz.runUnderlying24 Tryz.sizeOf3 Tryz.zeroValue3 rfl rfl rfl rfl rfl rfl rfl rfl <| ?_
            exact .ap Tryz.under24 info3 rfl (by decide) rfl rfl rfl sls_p (fun _ => rfl) rfl rfl fun z8 => .sg rfl rfl <| .nil <| .blk <| .th <| .region <| .add rfl rfl rfl <| .mv rfl rfl <| .nil <| .next ((z8, (wi (s126_2 + 1))), v4_2 + 1) rfl (.s rfl (.s rfl (.s rfl (.s rfl (.s rfl (.s rfl (.s rfl .n))))))) rfl
          · refine .exit <| .thE <| .lpE <| .blkE <| .th <| .seq <| .region <| .lRA Tryz.isAgg26 Tryz.sizeOf26 rfl rfl rfl rfl <| .mv rfl rfl <| .st Tryz.sizeOf26 rfl rfl rfl rfl rfl rfl <| .sg rfl rfl <| .sg rfl rfl <| .nil <| ?_
            exact .th <| .ret <| .ret3 (P := p19) (sel := []) ⟨rfl, rfl⟩ rfl rfl (.cellA rfl rfl Tryz.isAgg26 Tryz.sizeOf26 rfl) (.tmp rfl) (.tmp rfl) (.agg (.c .rf (.c .tkp (.c .rf .n)))) .tkp .rf .nil rfl
      · intro j
        refine .seq <| .region <| .fE fa42_2 rfl rfl rfl <| .fE fa26_1 rfl rfl rfl <| .lE Tryz.isAgg23 rfl rfl rfl <| .ln Tryz.runUnderlying23 rfl sls_p rfl <| .mv rfl rfl <| .nil <| .th <| .blk <| .nilL eI 3 1 3 11 rfl rfl <| ?_
        refine .loop (α := (((List Int) × Int × (List ApiOp)) × Nat × Nat)) (·.1) (fun ((s11_3, s66_3, c0_1_4), v2_4, v3_3) => [(2, vL 1 eI a2), (3, .ref 0 0), (4, .el (eApiTemplate a1)), (6, .ref 1 0), (11, tk 1 eI s11_3 3 v3_3), (64, vL 5 eApiOp a1.core.ops), (65, vI (a1.core.ops.length : Int)), (66, vI s66_3)]) (fun ((s11_3, s66_3, c0_1_4), v2_4, v3_3) => [.cells 26 [vL 3 eApiChoice z3, tk 5 eApiOp c0_1_4 2 v2_4, vL 1 eI z5], .cells 26 [.p (.v (.slice none 0 0)), .p (.v (.slice none 0 0)), .p (.v (.slice none 0 0))], .tok 58 5 v2_4, .tok 3 1 v3_3, .dead, .dead, .dead]) (([], 0, z4.1), z4.2, 0) rfl (.s rfl (.s rfl (.s rfl (.s rfl (.s rfl (.s rfl (.s rfl (.s rfl .n)))))))) rfl ?_
        rintro ⟨⟨s11_3, s66_3, c0_1_4⟩, v2_4, v3_3⟩ n
        refine .seq <| .region <| .lss rfl rfl rfl <| .nil <| .th <| .seq <| .cond rfl ?_ ?_
        · refine .skip <| .th <| .seq <| .blk <| .seq <| .region <| .ix Tryz.runUnderlying23 Tryz.sizeOf58 rfl rfl sls_p eApiOp_len rfl fun z9 => .lEA Tryz.isAgg58 Tryz.sizeOf58 rfl rfl rfl <| .al 4 Tryz.zeroValue58 rfl rfl rfl <| ?_
          refine .st Tryz.sizeOf58 rfl rfl rfl rfl rfl rfl <| .nil <| .th <| .seq <| .seq <| .region <| .lRA Tryz.isAgg58 Tryz.sizeOf58 rfl rfl rfl rfl <| .cw (fun _ => c36) (fun _ _ => rfl) (.s rfl .n) rfl (fun _ => rfl) rfl fun z10 => ?_
          refine .nil <| .th <| .cond rfl ?_ ?_
          · refine .seq <| .region <| .mv rfl rfl <| .mv rfl rfl <| .fR fa58_4 rfl rfl <| .lR Tryz.isAgg3 rfl rfl rfl rfl <| .ix Tryz.runUnderlying24 Tryz.sizeOf3 rfl rfl sls_p (fun _ => rfl) rfl fun z11 => .lE Tryz.isAgg3 rfl rfl rfl <| ?_
            refine .bs ([z11] : List Int) eI Tryz.runUnderlying24 Tryz.sizeOf3 Tryz.zeroValue3 rfl rfl rfl rfl rfl rfl rfl rfl <| .ap Tryz.under24 info3 rfl (by decide) rfl rfl rfl sls_p (fun _ => rfl) rfl rfl fun z12 => ?_
            exact .sg rfl rfl <| .nil <| .th <| .exit <| .thE <| .blkE <| .th <| .region <| .add rfl rfl rfl <| .mv rfl rfl <| .nil <| .nextK [4] ((z12, (wi (s66_3 + 1)), c0_1_4), v2_4, v3_3 + 1) rfl (.s rfl (.s rfl (.s rfl (.s rfl (.s rfl (.s rfl (.s rfl (.s rfl .n)))))))) rfl rfl
          · refine .skip <| .th <| .join (β := (Int × Int × Int)) (fun (c4_1_4, c4_2_4, c4_3_4) => [(2, vL 1 eI a2), (3, .ref 0 0), (4, .el (eApiTemplate a1)), (6, .ref 1 0), (11, tk 1 eI s11_3 3 v3_3), (13, .ref 4 0), (64, vL 5 eApiOp a1.core.ops), (65, vI (a1.core.ops.length : Int)), (66, vI s66_3)]) (fun (c4_1_4, c4_2_4, c4_3_4) => [.cells 26 [vL 3 eApiChoice z3, tk 5 eApiOp c0_1_4 2 v2_4, vL 1 eI z5], .cells 26 [.p (.v (.slice none 0 0)), .p (.v (.slice none 0 0)), .p (.v (.slice none 0 0))], .tok 58 5 v2_4, .tok 3 1 v3_3, .cells 58 [v8 z9.code, vI c4_1_4, vI c4_2_4, vI c4_3_4, vI z9.n], .cells 87 [.ref 4 1, .ref 4 2, .ref 4 3], .dead]) (m19_5 s11_3 c0_1_4 z9 s66_3) ?_ ?_
            · rintro ⟨c4_1_4, c4_2_4, c4_3_4⟩
              refine .any Tryz.mixed <| .mv rfl .n <| .fR fa26_1 rfl .n <| .lR Tryz.isAgg23 rfl rfl rfl .n <| .ln Tryz.runUnderlying23 rfl sls_t .n <| .bs ([(c0_1_4.length : Int)] : List Int) eI Tryz.runUnderlying24 Tryz.sizeOf3 Tryz.zeroValue3 rfl rfl rfl rfl rfl rfl rfl .n <| ?_
              refine .ap Tryz.under24 info3 rfl (by decide) rfl rfl rfl sls_p (fun _ => rfl) rfl .n fun z13 => .fR fa26_1 rfl .n <| .lR Tryz.isAgg23 rfl rfl rfl .n <| .lRA Tryz.isAgg58 Tryz.sizeOf58 rfl rfl rfl .n <| .bsT 6 ([⟨z9.code, c4_1_4, c4_2_4, c4_3_4, z9.n⟩] : List ApiOp) eApiOp Tryz.runUnderlying23 Tryz.sizeOf58 Tryz.zeroValue58 rfl rfl rfl rfl rfl rfl rfl rfl rfl .n <| ?_
              refine .ap Tryz.under23 info58 rfl (by decide) rfl rfl rfl sls_t eApiOp_one rfl .n fun z14 => .sg rfl .n <| .fR fa26_1 rfl .n <| .st Tryz.sizeOf23 rfl rfl rfl rfl rfl rfl .n <| .nil (by kernel_rfl) <| .blk <| ?_
              exact .th <| .region <| .add rfl rfl rfl <| .mv rfl rfl <| .nil <| .nextK [5, 6, 4] ((z13, (wi (s66_3 + 1)), z14), v2_4 + 1, v3_3 + 1) rfl (.s rfl (.s rfl (.s rfl (.s rfl (.s rfl (.s rfl (.s rfl (.s rfl .n)))))))) rfl rfl
            · intro j
              refine .seq <| .region <| .fR fa58_1 rfl rfl <| .fR fa58_2 rfl rfl <| .fR fa58_3 rfl rfl <| .it (i_bsA (i := 5) Tryz.runUnderlying88 Tryz.sizeOf87 Tryz.zeroValue87 rfl rfl rfl rfl (by decide)) (rd1 rfl) rfl <| ?_
              refine .lnA Tryz.runUnderlying88 rfl rfl <| .mv rfl rfl <| .nil <| .th <| .blk <| .unr <| .seq <| .region <| .lss rfl rfl rfl <| .nil <| .th <| .seq <| .condT rfl <| .skip <| .th <| .seq <| .blk <| .seq <| .region <| ?_
              refine .mv rfl rfl <| .q (i_ixArr Tryz.runUnderlying88 Tryz.sizeOf87 rfl rfl (by decide) (by decide)) rfl <| .lR Tryz.isAgg87 rfl rfl rfl rfl <| .sg rfl rfl <| .sg rfl rfl <| .nil <| .th <| .seq <| .region <| ?_
              refine .mv rfl rfl <| .fR fa58_0 rfl rfl <| .lR Tryz.isAgg5 rfl rfl rfl rfl <| .cw (fun _ => c48) (fun _ _ => rfl) (.s rfl .n) rfl (fun _ => rfl) rfl fun z15 => .lss rfl rfl rfl <| .nil <| .th <| .cond rfl ?_ ?_
              · refine .region <| .mv rfl rfl <| .mv rfl rfl <| .mv rfl rfl <| .nc rfl rfl <| .lR Tryz.isAgg3 rfl rfl rfl rfl <| .ix Tryz.runUnderlying24 Tryz.sizeOf3 rfl rfl sls_t (fun _ => rfl) rfl fun z16 => .lE Tryz.isAgg3 rfl rfl rfl <| ?_
                refine .nc rfl rfl <| .st Tryz.sizeOf3 rfl rfl rfl rfl rfl rfl <| .nil <| .blk <| .th <| .region <| .add rfl rfl rfl <| .mv rfl rfl <| .nil <| .unN <| .seq <| .region <| .lss rfl rfl rfl <| .nil <| .th <| .seq <| ?_
                refine .condT rfl <| .skip <| .th <| .seq <| .blk <| .seq <| .region <| .mv rfl rfl <| .q (i_ixArr Tryz.runUnderlying88 Tryz.sizeOf87 rfl rfl (by decide) (by decide)) rfl <| .lR Tryz.isAgg87 rfl rfl rfl rfl <| ?_
                refine .sg rfl rfl <| .sg rfl rfl <| .nil <| .th <| .seq <| .region <| .mv rfl rfl <| .fR fa58_0 rfl rfl <| .lR Tryz.isAgg5 rfl rfl rfl rfl <| .cw (fun _ => c48) (fun _ _ => rfl) (.s rfl .n) rfl (fun _ => rfl) rfl fun z17 => ?_
                refine .lss rfl rfl rfl <| .nil <| .th <| .cond rfl ?_ ?_
                · refine .region <| .mv rfl rfl <| .mv rfl rfl <| .mv rfl rfl <| .nc rfl rfl <| .lR Tryz.isAgg3 rfl rfl rfl rfl <| .ix Tryz.runUnderlying24 Tryz.sizeOf3 rfl rfl sls_t (fun _ => rfl) rfl fun z18 => .lE Tryz.isAgg3 rfl rfl rfl <| ?_
                  refine .nc rfl rfl <| .st Tryz.sizeOf3 rfl rfl rfl rfl rfl rfl <| .nil <| .blk <| .th <| .region <| .add rfl rfl rfl <| .mv rfl rfl <| .nil <| .unN <| .seq <| .region <| .lss rfl rfl rfl <| .nil <| .th <| .seq <| ?_
                  refine .condT rfl <| .skip <| .th <| .seq <| .blk <| .seq <| .region <| .mv rfl rfl <| .q (i_ixArr Tryz.runUnderlying88 Tryz.sizeOf87 rfl rfl (by decide) (by decide)) rfl <| .lR Tryz.isAgg87 rfl rfl rfl rfl <| ?_
                  refine .sg rfl rfl <| .sg rfl rfl <| .nil <| .th <| .seq <| .region <| .mv rfl rfl <| .fR fa58_0 rfl rfl <| .lR Tryz.isAgg5 rfl rfl rfl rfl <| .cw (fun _ => c48) (fun _ _ => rfl) (.s rfl .n) rfl (fun _ => rfl) rfl fun z19 => ?_
                  refine .lss rfl rfl rfl <| .nil <| .th <| .cond rfl ?_ ?_
                  · refine .region <| .mv rfl rfl <| .mv rfl rfl <| .mv rfl rfl <| .nc rfl rfl <| .lR Tryz.isAgg3 rfl rfl rfl rfl <| .ix Tryz.runUnderlying24 Tryz.sizeOf3 rfl rfl sls_t (fun _ => rfl) rfl fun z20 => .lE Tryz.isAgg3 rfl rfl rfl <| ?_
                    refine .nc rfl rfl <| .st Tryz.sizeOf3 rfl rfl rfl rfl rfl rfl <| .nil <| .blk <| .th <| .region <| .add rfl rfl rfl <| .mv rfl rfl <| .nil <| .unN <| .seq <| .region <| .lss rfl rfl rfl <| .nil <| .th <| .seq <| ?_
                    exact .condF rfl <| .exit <| .thE <| .unE <| .blkE <| .meet j [] (z16, z18, z20) (.s rfl (.s rfl (.s rfl (.s rfl (.s rfl (.s rfl (.s rfl (.s rfl (.s rfl .n))))))))) rfl rfl
                  · exact .skip <| .blk <| .th <| .region <| .add rfl rfl rfl <| .mv rfl rfl <| .nil <| .unN <| .seq <| .region <| .lss rfl rfl rfl <| .nil <| .th <| .seq <| .condF rfl <| .exit <| .thE <| .unE <| .blkE <| .meet j [] (z16, z18, z9.c) (.s rfl (.s rfl (.s rfl (.s rfl (.s rfl (.s rfl (.s rfl (.s rfl (.s rfl .n))))))))) rfl rfl
                · refine .skip <| .blk <| .th <| .region <| .add rfl rfl rfl <| .mv rfl rfl <| .nil <| .unN <| .seq <| .region <| .lss rfl rfl rfl <| .nil <| .th <| .seq <| .condT rfl <| .skip <| .th <| .seq <| .blk <| .seq <| ?_
                  refine .region <| .mv rfl rfl <| .q (i_ixArr Tryz.runUnderlying88 Tryz.sizeOf87 rfl rfl (by decide) (by decide)) rfl <| .lR Tryz.isAgg87 rfl rfl rfl rfl <| .sg rfl rfl <| .sg rfl rfl <| .nil <| .th <| .seq <| ?_
                  refine .region <| .mv rfl rfl <| .fR fa58_0 rfl rfl <| .lR Tryz.isAgg5 rfl rfl rfl rfl <| .cw (fun _ => c48) (fun _ _ => rfl) (.s rfl .n) rfl (fun _ => rfl) rfl fun z21 => .lss rfl rfl rfl <| .nil <| .th <| .cond rfl ?_ ?_
                  · refine .region <| .mv rfl rfl <| .mv rfl rfl <| .mv rfl rfl <| .nc rfl rfl <| .lR Tryz.isAgg3 rfl rfl rfl rfl <| .ix Tryz.runUnderlying24 Tryz.sizeOf3 rfl rfl sls_t (fun _ => rfl) rfl fun z22 => .lE Tryz.isAgg3 rfl rfl rfl <| ?_
                    refine .nc rfl rfl <| .st Tryz.sizeOf3 rfl rfl rfl rfl rfl rfl <| .nil <| .blk <| .th <| .region <| .add rfl rfl rfl <| .mv rfl rfl <| .nil <| .unN <| .seq <| .region <| .lss rfl rfl rfl <| .nil <| .th <| .seq <| ?_
                    exact .condF rfl <| .exit <| .thE <| .unE <| .blkE <| .meet j [] (z16, z9.b, z22) (.s rfl (.s rfl (.s rfl (.s rfl (.s rfl (.s rfl (.s rfl (.s rfl (.s rfl .n))))))))) rfl rfl
                  · exact .skip <| .blk <| .th <| .region <| .add rfl rfl rfl <| .mv rfl rfl <| .nil <| .unN <| .seq <| .region <| .lss rfl rfl rfl <| .nil <| .th <| .seq <| .condF rfl <| .exit <| .thE <| .unE <| .blkE <| .meet j [] (z16, z9.b, z9.c) (.s rfl (.s rfl (.s rfl (.s rfl (.s rfl (.s rfl (.s rfl (.s rfl (.s rfl .n))))))))) rfl rfl
              · refine .skip <| .blk <| .th <| .region <| .add rfl rfl rfl <| .mv rfl rfl <| .nil <| .unN <| .seq <| .region <| .lss rfl rfl rfl <| .nil <| .th <| .seq <| .condT rfl <| .skip <| .th <| .seq <| .blk <| .seq <| ?_
                refine .region <| .mv rfl rfl <| .q (i_ixArr Tryz.runUnderlying88 Tryz.sizeOf87 rfl rfl (by decide) (by decide)) rfl <| .lR Tryz.isAgg87 rfl rfl rfl rfl <| .sg rfl rfl <| .sg rfl rfl <| .nil <| .th <| .seq <| ?_
                refine .region <| .mv rfl rfl <| .fR fa58_0 rfl rfl <| .lR Tryz.isAgg5 rfl rfl rfl rfl <| .cw (fun _ => c48) (fun _ _ => rfl) (.s rfl .n) rfl (fun _ => rfl) rfl fun z23 => .lss rfl rfl rfl <| .nil <| .th <| .cond rfl ?_ ?_
                · refine .region <| .mv rfl rfl <| .mv rfl rfl <| .mv rfl rfl <| .nc rfl rfl <| .lR Tryz.isAgg3 rfl rfl rfl rfl <| .ix Tryz.runUnderlying24 Tryz.sizeOf3 rfl rfl sls_t (fun _ => rfl) rfl fun z24 => .lE Tryz.isAgg3 rfl rfl rfl <| ?_
                  refine .nc rfl rfl <| .st Tryz.sizeOf3 rfl rfl rfl rfl rfl rfl <| .nil <| .blk <| .th <| .region <| .add rfl rfl rfl <| .mv rfl rfl <| .nil <| .unN <| .seq <| .region <| .lss rfl rfl rfl <| .nil <| .th <| .seq <| ?_
                  refine .condT rfl <| .skip <| .th <| .seq <| .blk <| .seq <| .region <| .mv rfl rfl <| .q (i_ixArr Tryz.runUnderlying88 Tryz.sizeOf87 rfl rfl (by decide) (by decide)) rfl <| .lR Tryz.isAgg87 rfl rfl rfl rfl <| ?_
                  refine .sg rfl rfl <| .sg rfl rfl <| .nil <| .th <| .seq <| .region <| .mv rfl rfl <| .fR fa58_0 rfl rfl <| .lR Tryz.isAgg5 rfl rfl rfl rfl <| .cw (fun _ => c48) (fun _ _ => rfl) (.s rfl .n) rfl (fun _ => rfl) rfl fun z25 => ?_
                  refine .lss rfl rfl rfl <| .nil <| .th <| .cond rfl ?_ ?_
                  · refine .region <| .mv rfl rfl <| .mv rfl rfl <| .mv rfl rfl <| .nc rfl rfl <| .lR Tryz.isAgg3 rfl rfl rfl rfl <| .ix Tryz.runUnderlying24 Tryz.sizeOf3 rfl rfl sls_t (fun _ => rfl) rfl fun z26 => .lE Tryz.isAgg3 rfl rfl rfl <| ?_
                    refine .nc rfl rfl <| .st Tryz.sizeOf3 rfl rfl rfl rfl rfl rfl <| .nil <| .blk <| .th <| .region <| .add rfl rfl rfl <| .mv rfl rfl <| .nil <| .unN <| .seq <| .region <| .lss rfl rfl rfl <| .nil <| .th <| .seq <| ?_
                    exact .condF rfl <| .exit <| .thE <| .unE <| .blkE <| .meet j [] (z9.a, z24, z26) (.s rfl (.s rfl (.s rfl (.s rfl (.s rfl (.s rfl (.s rfl (.s rfl (.s rfl .n))))))))) rfl rfl
                  · exact .skip <| .blk <| .th <| .region <| .add rfl rfl rfl <| .mv rfl rfl <| .nil <| .unN <| .seq <| .region <| .lss rfl rfl rfl <| .nil <| .th <| .seq <| .condF rfl <| .exit <| .thE <| .unE <| .blkE <| .meet j [] (z9.a, z24, z9.c) (.s rfl (.s rfl (.s rfl (.s rfl (.s rfl (.s rfl (.s rfl (.s rfl (.s rfl .n))))))))) rfl rfl
                · refine .skip <| .blk <| .th <| .region <| .add rfl rfl rfl <| .mv rfl rfl <| .nil <| .unN <| .seq <| .region <| .lss rfl rfl rfl <| .nil <| .th <| .seq <| .condT rfl <| .skip <| .th <| .seq <| .blk <| .seq <| ?_
                  refine .region <| .mv rfl rfl <| .q (i_ixArr Tryz.runUnderlying88 Tryz.sizeOf87 rfl rfl (by decide) (by decide)) rfl <| .lR Tryz.isAgg87 rfl rfl rfl rfl <| .sg rfl rfl <| .sg rfl rfl <| .nil <| .th <| .seq <| ?_
                  refine .region <| .mv rfl rfl <| .fR fa58_0 rfl rfl <| .lR Tryz.isAgg5 rfl rfl rfl rfl <| .cw (fun _ => c48) (fun _ _ => rfl) (.s rfl .n) rfl (fun _ => rfl) rfl fun z27 => .lss rfl rfl rfl <| .nil <| .th <| .cond rfl ?_ ?_
                  · refine .region <| .mv rfl rfl <| .mv rfl rfl <| .mv rfl rfl <| .nc rfl rfl <| .lR Tryz.isAgg3 rfl rfl rfl rfl <| .ix Tryz.runUnderlying24 Tryz.sizeOf3 rfl rfl sls_t (fun _ => rfl) rfl fun z28 => .lE Tryz.isAgg3 rfl rfl rfl <| ?_
                    refine .nc rfl rfl <| .st Tryz.sizeOf3 rfl rfl rfl rfl rfl rfl <| .nil <| .blk <| .th <| .region <| .add rfl rfl rfl <| .mv rfl rfl <| .nil <| .unN <| .seq <| .region <| .lss rfl rfl rfl <| .nil <| .th <| .seq <| ?_
                    exact .condF rfl <| .exit <| .thE <| .unE <| .blkE <| .meet j [] (z9.a, z9.b, z28) (.s rfl (.s rfl (.s rfl (.s rfl (.s rfl (.s rfl (.s rfl (.s rfl (.s rfl .n))))))))) rfl rfl
                  · exact .skip <| .blk <| .th <| .region <| .add rfl rfl rfl <| .mv rfl rfl <| .nil <| .unN <| .seq <| .region <| .lss rfl rfl rfl <| .nil <| .th <| .seq <| .condF rfl <| .exit <| .thE <| .unE <| .blkE <| .meet j [] (z9.a, z9.b, z9.c) (.s rfl (.s rfl (.s rfl (.s rfl (.s rfl (.s rfl (.s rfl (.s rfl (.s rfl .n))))))))) rfl rfl
        · exact .exit <| .thE <| .lpE <| .blkE <| .meet j [] ((s11_3, c0_1_4), v2_4, v3_3) (.s rfl (.s rfl (.s rfl (.s rfl .n)))) rfl rfl
    · intro j
      refine .blk <| .seq <| .region <| .mv rfl rfl <| .neq rfl rfl rfl <| .sg rfl rfl <| .nil <| .th <| .cond rfl ?_ ?_
      · exact .seq <| .region <| .bu bu26 rfl rfl rfl rfl <| .mv rfl rfl <| .st Tryz.sizeOf26 rfl rfl rfl rfl rfl rfl <| .sg rfl rfl <| .sg rfl rfl <| .nil <| .th <| .ret <| .blkR <| .thR <| .ret3 (P := p19) (sel := []) ⟨rfl, rfl⟩ rfl rfl (.cellA rfl rfl Tryz.isAgg26 Tryz.sizeOf26 rfl) (.tmp rfl) (.tmp rfl) (.agg (.c .nil (.c .nil (.c .nil .n)))) .nil .rf .nil rfl
      · refine .seq <| .region <| .lEA Tryz.isAgg42 Tryz.sizeOf42 rfl rfl rfl <| .cw (fun _ => c44) (fun _ _ => rfl) (.s rfl .n) rfl (fun _ => rfl) rfl fun z29 => .not rfl rfl <| .sg rfl rfl <| .nil <| .th <| .cond rfl ?_ ?_
        · exact .seq <| .region <| .bu bu26 rfl rfl rfl rfl <| .st Tryz.sizeOf26 rfl rfl rfl rfl rfl rfl <| .sg rfl rfl <| .sg rfl rfl <| .nil <| .th <| .ret <| .blkR <| .thR <| .ret3 (P := p19) (sel := []) ⟨rfl, rfl⟩ rfl rfl (.cellA rfl rfl Tryz.isAgg26 Tryz.sizeOf26 rfl) (.tmp rfl) (.tmp rfl) (.agg (.c .nil (.c .nil (.c .nil .n)))) .nil .rf .nil rfl
        · refine .seq <| .seq <| .region <| .mv rfl rfl <| .ln Tryz.runUnderlying24 rfl sls_p rfl <| .fE fa42_1 rfl rfl rfl <| .lE Tryz.isAgg3 rfl rfl rfl <| .neq rfl rfl rfl <| .sg rfl rfl <| .nil <| .th <| .cond rfl ?_ ?_
          · refine .skip <| .th <| .cond rfl ?_ ?_
            · exact .seq <| .region <| .bu bu26 rfl rfl rfl rfl <| .st Tryz.sizeOf26 rfl rfl rfl rfl rfl rfl <| .sg rfl rfl <| .sg rfl rfl <| .nil <| .th <| .ret <| .blkR <| .thR <| .ret3 (P := p19) (sel := []) ⟨rfl, rfl⟩ rfl rfl (.cellA rfl rfl Tryz.isAgg26 Tryz.sizeOf26 rfl) (.tmp rfl) (.tmp rfl) (.agg (.c .nil (.c .nil (.c .nil .n)))) .nil .rf .nil rfl
            · exact .skip <| .blk <| .meet j [] () (.s rfl (.s rfl (.s rfl (.s rfl .n)))) rfl rfl
          · refine .region <| .fR fa26_1 rfl rfl <| .lR Tryz.isAgg23 rfl rfl rfl rfl <| .ln Tryz.runUnderlying23 rfl sls_p rfl <| .sb rfl rfl rfl <| .mv rfl rfl <| .cw (fun _ => c33) (fun _ _ => rfl) (.s rfl (.s rfl (.s rfl .n))) rfl (fun _ => rfl) rfl fun z30 => ?_
            refine .not rfl rfl <| .sg rfl rfl <| .nil <| .th <| .cond rfl ?_ ?_
            · exact .seq <| .region <| .bu bu26 rfl rfl rfl rfl <| .st Tryz.sizeOf26 rfl rfl rfl rfl rfl rfl <| .sg rfl rfl <| .sg rfl rfl <| .nil <| .th <| .ret <| .blkR <| .thR <| .ret3 (P := p19) (sel := []) ⟨rfl, rfl⟩ rfl rfl (.cellA rfl rfl Tryz.isAgg26 Tryz.sizeOf26 rfl) (.tmp rfl) (.tmp rfl) (.agg (.c .nil (.c .nil (.c .nil .n)))) .nil .rf .nil rfl
            · exact .skip <| .blk <| .meet j [] () (.s rfl (.s rfl (.s rfl (.s rfl .n)))) rfl rfl
noncomputable def m20_2 (a2 : List Int) (a1 : ApiTemplate) (a0 : ApiCore) (s9_0 : Int) : Unit → Option (Int) := fun _ => if (!decide ((a2.length : Int) = a1.params)) then some 2 else if (decide (3000 < (wi ((a0.ops.length : Int) + s9_0)))) then some 5 else some 0
noncomputable def m20_3 (a2 : List Int) (a0 : ApiCore) (a1 : ApiTemplate) (s9_0 : Int) : Int → Option (Int) := Lp fun s11_2 => if (decide (s11_2 < (a2.length : Int))) then (ix a2 s11_2).bind fun z4 => (m39 z4 0 (wi ((a0.ops.length : Int) - 1))).bind fun z5 => if (!z5) then (some 2).map .inr else some (.inl (wi (s11_2 + 1))) else (m20_2 a2 a1 a0 s9_0 ()).map .inr
noncomputable def m20_1 (a2 : List Int) (a0 : ApiCore) (a1 : ApiTemplate) : Int → Option (Int) := fun s9_0 => m20_3 a2 a0 a1 s9_0 0
noncomputable def m20_4 (a1 : ApiTemplate) (a2 : List Int) (a0 : ApiCore) : (Int × Int) → Option (Int) := Lp fun (s9_3, s10_3) => if (decide (s10_3 < (a1.core.ops.length : Int))) then (ix a1.core.ops s10_3).bind fun z6 => if (!decide (z6.code = 4)) then some (.inl ((wi (s9_3 + 1)), (wi (s10_3 + 1)))) else (ix a1.core.ops s10_3).bind fun z7 => if (decide (a1.params ≤ z7.n)) then (some 4).map .inr else some (.inl (s9_3, (wi (s10_3 + 1)))) else (m20_1 a2 a0 a1 s9_3).map .inr
noncomputable def m20 (a0 : ApiCore) (a1 : ApiTemplate) (a2 : List Int) : Option Int := (m14 a0).bind fun z1 => if (!decide (z1 = 0)) then some z1 else (m14 a1.core).bind fun z2 => if (!decide (z2 = 0)) then some z2 else if (decide (0 < (a1.core.choices.length : Int))) then some 4 else (m39 a1.params 0 32).bind fun z3 => if (!z3) then some 4 else m20_4 a1 a2 a0 (0, 0)
abbrev p20 (r : Int) (v : V) (H : List Ob) : Prop := v = vI r ∧ H = []
theorem c20 {a0 : ApiCore} {a1 : ApiTemplate} {a2 : List Int} {r : Int} (h : m20 a0 a1 a2 = some r) : CP Tryz.prog 20 [.agg ((eApiCore a0).map .p), .agg ((eApiTemplate a1).map .p), vL 1 eI a2] (vI r) := by
  refine CD.ofM (P := p20) h Tryz.func20 rfl Tryz.ntmps20 rfl fun w g => ?_
  refine .seq <| .region <| .bxE (cs := eApiCore a0) rfl rfl rfl rfl <| .bxE (cs := eApiTemplate a1) rfl rfl rfl rfl <| .sg rfl rfl <| .nil <| .th <| .seq <| .seq <| .region <| .lEA Tryz.isAgg26 Tryz.sizeOf26 rfl rfl rfl <| ?_
  refine .cw (fun _ => c14) (fun _ _ => rfl) (.s rfl .n) rfl (fun _ => rfl) rfl fun z1 => .sg rfl rfl <| .nil <| .th <| .seq <| .region <| .mv rfl rfl <| .neq rfl rfl rfl <| .nil <| .th <| .cond rfl ?_ ?_
  · exact .seq <| .region <| .mv rfl rfl <| .sg rfl rfl <| .nil <| .th <| .ret <| .thR <| .ret1 (P := p20) (sel := []) ⟨rfl, rfl⟩ rfl rfl (.tmp rfl) .rf .nil rfl
  · refine .skip <| .th <| .seq <| .seq <| .region <| .fE fa42_2 rfl rfl rfl <| .lEA Tryz.isAgg26 Tryz.sizeOf26 rfl rfl rfl <| .cw (fun _ => c14) (fun _ _ => rfl) (.s rfl .n) rfl (fun _ => rfl) rfl fun z2 => .sg rfl rfl <| ?_
    refine .nil <| .th <| .seq <| .region <| .mv rfl rfl <| .neq rfl rfl rfl <| .nil <| .th <| .cond rfl ?_ ?_
    · exact .seq <| .region <| .mv rfl rfl <| .sg rfl rfl <| .nil <| .th <| .ret <| .thR <| .ret1 (P := p20) (sel := []) ⟨rfl, rfl⟩ rfl rfl (.tmp rfl) .rf .nil rfl
    · refine .skip <| .th <| .seq <| .seq <| .region <| .fE fa42_2 rfl rfl rfl <| .fE fa26_0 rfl rfl rfl <| .lE Tryz.isAgg22 rfl rfl rfl <| .ln Tryz.runUnderlying22 rfl sls_p rfl <| .gtr rfl rfl rfl <| .mv rfl rfl <| ?_
      refine .fork 28 rfl ?_ ?_
      · refine .no 28 rfl rfl rfl rfl <| .no 28 rfl rfl rfl rfl <| .no 28 rfl rfl rfl rfl <| .no 28 rfl rfl rfl rfl <| .pickT rfl rfl rfl <| .nil <| .th <| .condT rfl <| .seq <| .region <| .sg rfl rfl <| .nil <| .th <| ?_
        exact .ret <| .thR <| .ret1 (P := p20) (sel := []) ⟨rfl, rfl⟩ rfl rfl (.tmp rfl) .rf .nil rfl
      · refine .yes 28 rfl rfl rfl <| .fE fa42_1 rfl rfl rfl <| .yes 28 rfl rfl rfl <| .lE Tryz.isAgg3 rfl rfl rfl <| .yes 28 rfl rfl rfl <| .cw (fun _ => c39) (fun _ _ => rfl) (.s rfl (.s rfl (.s rfl .n))) rfl (fun _ => rfl) rfl fun z3 => ?_
        refine .yes 28 rfl rfl rfl <| .not rfl rfl <| .pickF rfl rfl rfl <| .nil <| .th <| .cond rfl ?_ ?_
        · exact .seq <| .region <| .sg rfl rfl <| .nil <| .th <| .ret <| .thR <| .ret1 (P := p20) (sel := []) ⟨rfl, rfl⟩ rfl rfl (.tmp rfl) .rf .nil rfl
        · refine .skip <| .th <| .seq <| .region <| .sg rfl rfl <| .nil <| .th <| .join (β := (Int)) (fun s9_0 => [(2, vL 1 eI a2), (3, .el (eApiCore a0)), (4, .el (eApiTemplate a1)), (9, vI s9_0)]) (fun s9_0 => []) (m20_1 a2 a0 a1) ?_ ?_
          · rintro s9_0
            refine .join (β := (Unit)) (fun _ => [(2, vL 1 eI a2), (3, .el (eApiCore a0)), (4, .el (eApiTemplate a1)), (9, vI s9_0)]) (fun _ => []) (m20_2 a2 a1 a0 s9_0) ?_ ?_
            · rintro ⟨⟩
              refine .seq <| .blk <| .seq <| .region <| .mv rfl rfl <| .ln Tryz.runUnderlying24 rfl sls_p rfl <| .fE fa42_1 rfl rfl rfl <| .lE Tryz.isAgg3 rfl rfl rfl <| .neq rfl rfl rfl <| .sg rfl rfl <| .nil <| .th <| .cond rfl ?_ ?_
              · exact .seq <| .region <| .sg rfl rfl <| .nil <| .th <| .ret <| .blkR <| .thR <| .ret1 (P := p20) (sel := []) ⟨rfl, rfl⟩ rfl rfl (.tmp rfl) .rf .nil rfl
              · refine .seq <| .region <| .fE fa26_1 rfl rfl rfl <| .lE Tryz.isAgg23 rfl rfl rfl <| .ln Tryz.runUnderlying23 rfl sls_p rfl <| .mv rfl rfl <| .add rfl rfl rfl <| .gtr rfl rfl rfl <| .sg rfl rfl <| .nil <| .th <| ?_
                refine .cond rfl ?_ ?_
                · exact .seq <| .region <| .sg rfl rfl <| .nil <| .th <| .ret <| .blkR <| .thR <| .ret1 (P := p20) (sel := []) ⟨rfl, rfl⟩ rfl rfl (.tmp rfl) .rf .nil rfl
                · exact .skip <| .blk <| .th <| .seq <| .region <| .sg rfl rfl <| .nil <| .th <| .ret <| .ret1 (P := p20) (sel := []) ⟨rfl, rfl⟩ rfl rfl (.tmp rfl) .rf .nil rfl
            · intro j
              refine .seq <| .region <| .sg rfl rfl <| .nil <| .th <| .blk <| .loop (α := (Int)) id (fun s11_2 => [(2, vL 1 eI a2), (3, .el (eApiCore a0)), (4, .el (eApiTemplate a1)), (9, vI s9_0), (11, vI s11_2)]) (fun s11_2 => []) 0 rfl (.s rfl (.s rfl (.s rfl (.s rfl (.s rfl .n))))) rfl ?_
              rintro s11_2 n
              refine .seq <| .seq <| .region <| .mv rfl rfl <| .mv rfl rfl <| .ln Tryz.runUnderlying24 rfl sls_p rfl <| .lss rfl rfl rfl <| .nil <| .th <| .cond rfl ?_ ?_
              · refine .skip <| .th <| .seq <| .blk <| .seq <| .any Tryz.mixed <| .mv rfl .n <| .mv rfl .n <| .ix Tryz.runUnderlying24 Tryz.sizeOf3 rfl rfl sls_p (fun _ => rfl) .n fun z4 => .lE Tryz.isAgg3 rfl rfl .n <| .fE fa26_1 rfl rfl .n <| ?_
                refine .lE Tryz.isAgg23 rfl rfl .n <| .ln Tryz.runUnderlying23 rfl sls_p .n <| .sb rfl rfl .n <| .cw (fun _ => c39) (fun _ _ => rfl) (.s rfl (.s rfl (.s rfl .n))) rfl (fun _ => rfl) .n fun z5 => .not rfl .n <| ?_
                refine .nil (by kernel_rfl) <| .th <| .cond rfl ?_ ?_
                · exact .seq <| .region <| .sg rfl rfl <| .nil <| .th <| .ret <| .blkR <| .thR <| .lpR <| .blkR <| .thR <| .ret1 (P := p20) (sel := []) ⟨rfl, rfl⟩ rfl rfl (.tmp rfl) .rf .nil rfl
                · exact .skip <| .blk <| .th <| .region <| .mv rfl rfl <| .add rfl rfl rfl <| .sg rfl rfl <| .nil <| .next (wi (s11_2 + 1)) rfl (.s rfl (.s rfl (.s rfl (.s rfl (.s rfl .n))))) rfl
              · exact .exit <| .thE <| .lpE <| .blkE <| .meet j [] () (.s rfl (.s rfl (.s rfl (.s rfl .n)))) rfl rfl
          · intro j
            refine .seq <| .region <| .sg rfl rfl <| .nil <| .th <| .blk <| .loop (α := (Int × Int)) id (fun (s9_3, s10_3) => [(2, vL 1 eI a2), (3, .el (eApiCore a0)), (4, .el (eApiTemplate a1)), (9, vI s9_3), (10, vI s10_3)]) (fun (s9_3, s10_3) => []) (0, 0) rfl (.s rfl (.s rfl (.s rfl (.s rfl (.s rfl .n))))) rfl ?_
            rintro ⟨s9_3, s10_3⟩ n
            refine .seq <| .seq <| .region <| .mv rfl rfl <| .fE fa42_2 rfl rfl rfl <| .fE fa26_1 rfl rfl rfl <| .lE Tryz.isAgg23 rfl rfl rfl <| .ln Tryz.runUnderlying23 rfl sls_p rfl <| .lss rfl rfl rfl <| .nil <| .th <| ?_
            refine .cond rfl ?_ ?_
            · refine .skip <| .th <| .seq <| .blk <| .seq <| .region <| .fE fa42_2 rfl rfl rfl <| .fE fa26_1 rfl rfl rfl <| .lE Tryz.isAgg23 rfl rfl rfl <| .mv rfl rfl <| .ix Tryz.runUnderlying23 Tryz.sizeOf58 rfl rfl sls_p eApiOp_len rfl fun z6 => ?_
              refine .fE fa58_0 rfl rfl rfl <| .lE Tryz.isAgg5 rfl rfl rfl <| .neq rfl rfl rfl <| .nil <| .th <| .cond rfl ?_ ?_
              · exact .region <| .mv rfl rfl <| .add rfl rfl rfl <| .sg rfl rfl <| .nil <| .blk <| .th <| .region <| .mv rfl rfl <| .add rfl rfl rfl <| .sg rfl rfl <| .nil <| .next ((wi (s9_3 + 1)), (wi (s10_3 + 1))) rfl (.s rfl (.s rfl (.s rfl (.s rfl (.s rfl .n))))) rfl
              · refine .seq <| .any Tryz.mixed <| .fE fa42_2 rfl rfl .n <| .fE fa26_1 rfl rfl .n <| .lE Tryz.isAgg23 rfl rfl .n <| .mv rfl .n <| .ix Tryz.runUnderlying23 Tryz.sizeOf58 rfl rfl sls_p eApiOp_len .n fun z7 => .fE fa58_4 rfl rfl .n <| ?_
                refine .lE Tryz.isAgg3 rfl rfl .n <| .fE fa42_1 rfl rfl .n <| .lE Tryz.isAgg3 rfl rfl .n <| .geq rfl rfl .n <| .nil (by kernel_rfl) <| .th <| .cond rfl ?_ ?_
                · exact .seq <| .region <| .sg rfl rfl <| .nil <| .th <| .ret <| .blkR <| .thR <| .lpR <| .blkR <| .thR <| .ret1 (P := p20) (sel := []) ⟨rfl, rfl⟩ rfl rfl (.tmp rfl) .rf .nil rfl
                · exact .skip <| .blk <| .th <| .region <| .mv rfl rfl <| .add rfl rfl rfl <| .sg rfl rfl <| .nil <| .next (s9_3, (wi (s10_3 + 1))) rfl (.s rfl (.s rfl (.s rfl (.s rfl (.s rfl .n))))) rfl
            · exact .exit <| .thE <| .lpE <| .blkE <| .meet j [] s9_3 (.s rfl (.s rfl (.s rfl (.s rfl .n)))) rfl rfl
end Go.Proofs.YtpcgfeckokgbfaaGreatDoor

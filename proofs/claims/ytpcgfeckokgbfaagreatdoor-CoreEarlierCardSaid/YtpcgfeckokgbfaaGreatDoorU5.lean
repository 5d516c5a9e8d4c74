/- Functions beside the code, printed by a program of the author. -/
import Derived.Test.YtpcgfeckokgbfaaGreatDoorU4
set_option linter.all false
set_option maxRecDepth 100000
set_option maxHeartbeats 4000000
namespace Go.Proofs.YtpcgfeckokgbfaaGreatDoor
open Go Go.Mi Go.RowKit Go.Dp
noncomputable def m43 (a0 : ApiOp) (a1 : List ApiValue) (a2 : List Int) : Option ApiValue := if (decide (a0.code = 1)) then (m70 a0.n).bind fun z1 => some ⟨z1.fault, z1.n⟩ else if (decide (a0.code = 2)) then (m71 (w8 (a0.n))).bind fun z2 => some ⟨z2.fault, z2.n⟩ else if (decide (a0.code = 3)) then (ix a2 a0.n).bind fun z3 => (m70 z3).bind fun z4 => some ⟨z4.fault, z4.n⟩ else if (decide (a0.code = 17)) then (ix a1 a0.a).bind fun z5 => (ix a1 a0.b).bind fun z6 => (ix a1 a0.c).bind fun z7 => (m72 z5 z6 z7).bind fun z8 => some ⟨z8.fault, z8.n⟩ else if ((decide (a0.code = 5)) || (decide (a0.code = 6))) then (ix a1 a0.a).bind fun z9 => (m73 a0.code z9).bind fun z10 => some ⟨z10.fault, z10.n⟩ else (ix a1 a0.a).bind fun z11 => (ix a1 a0.b).bind fun z12 => (m74 a0.code z11 z12).bind fun z13 => some ⟨z13.fault, z13.n⟩
abbrev p43 (r : ApiValue) (v : V) (H : List Ob) : Prop := v = .agg ((eApiValue r).map .p) ∧ H = []
theorem c43 {a0 : ApiOp} {a1 : List ApiValue} {a2 : List Int} {r : ApiValue} (h : m43 a0 a1 a2 = some r) : CP Tryz.prog 43 [.agg ((eApiOp a0).map .p), vL 2 eApiValue a1, vL 1 eI a2] (.agg ((eApiValue r).map .p)) := by
  refine CD.ofM (P := p43) h Tryz.func43 rfl Tryz.ntmps43 rfl fun w g => ?_
  refine .ext 1 ?_
  refine .seq <| .region <| .bxE (cs := eApiOp a0) rfl rfl rfl rfl <| .al 0 Tryz.zeroValue55 rfl rfl rfl <| .nil <| .th <| .seq <| .blk <| .seq <| .region <| .fE fa58_0 rfl rfl rfl <| .lE Tryz.isAgg5 rfl rfl rfl <| ?_
  refine .eql rfl rfl rfl <| .sg rfl rfl <| .nil <| .th <| .cond rfl ?_ ?_
  · refine .seq <| .region <| .fE fa58_4 rfl rfl rfl <| .lE Tryz.isAgg3 rfl rfl rfl <| .cw (fun _ => c70) (fun _ _ => rfl) (.s rfl .n) rfl (fun _ => rfl) rfl fun z1 => .st Tryz.sizeOf55 rfl rfl rfl rfl rfl rfl <| ?_
    exact .nil <| .th <| .ret <| .blkR <| .thR <| .ret1 (P := p43) (sel := []) ⟨rfl, rfl⟩ rfl rfl (.cellA rfl rfl Tryz.isAgg55 Tryz.sizeOf55 rfl) .rf .nil rfl
  · refine .seq <| .region <| .fE fa58_0 rfl rfl rfl <| .lE Tryz.isAgg5 rfl rfl rfl <| .eql rfl rfl rfl <| .sg rfl rfl <| .nil <| .th <| .cond rfl ?_ ?_
    · refine .seq <| .region <| .fE fa58_4 rfl rfl rfl <| .lE Tryz.isAgg3 rfl rfl rfl <| .cv Tryz.runUnderlying3 Tryz.runUnderlying5 rfl rfl <| .cw (fun _ => c71) (fun _ _ => rfl) (.s rfl .n) rfl (fun _ => rfl) rfl fun z2 => ?_
      exact .st Tryz.sizeOf55 rfl rfl rfl rfl rfl rfl <| .nil <| .th <| .ret <| .blkR <| .thR <| .ret1 (P := p43) (sel := []) ⟨rfl, rfl⟩ rfl rfl (.cellA rfl rfl Tryz.isAgg55 Tryz.sizeOf55 rfl) .rf .nil rfl
    · refine .seq <| .region <| .fE fa58_0 rfl rfl rfl <| .lE Tryz.isAgg5 rfl rfl rfl <| .eql rfl rfl rfl <| .sg rfl rfl <| .nil <| .th <| .cond rfl ?_ ?_
      · refine .seq <| .region <| .mv rfl rfl <| .fE fa58_4 rfl rfl rfl <| .lE Tryz.isAgg3 rfl rfl rfl <| .ix Tryz.runUnderlying24 Tryz.sizeOf3 rfl rfl sls_p (fun _ => rfl) rfl fun z3 => .lE Tryz.isAgg3 rfl rfl rfl <| ?_
        exact .cw (fun _ => c70) (fun _ _ => rfl) (.s rfl .n) rfl (fun _ => rfl) rfl fun z4 => .st Tryz.sizeOf55 rfl rfl rfl rfl rfl rfl <| .nil <| .th <| .ret <| .blkR <| .thR <| .ret1 (P := p43) (sel := []) ⟨rfl, rfl⟩ rfl rfl (.cellA rfl rfl Tryz.isAgg55 Tryz.sizeOf55 rfl) .rf .nil rfl
      · refine .seq <| .region <| .fE fa58_0 rfl rfl rfl <| .lE Tryz.isAgg5 rfl rfl rfl <| .eql rfl rfl rfl <| .sg rfl rfl <| .nil <| .th <| .cond rfl ?_ ?_
        · refine .seq <| .any Tryz.mixed <| .mv rfl .n <| .fE fa58_1 rfl rfl .n <| .lE Tryz.isAgg3 rfl rfl .n <| .ix Tryz.runUnderlying32 Tryz.sizeOf55 rfl rfl sls_p eApiValue_len .n fun z5 => .lEA Tryz.isAgg55 Tryz.sizeOf55 rfl rfl .n <| ?_
          refine .mv rfl .n <| .fE fa58_2 rfl rfl .n <| .lE Tryz.isAgg3 rfl rfl .n <| .ix Tryz.runUnderlying32 Tryz.sizeOf55 rfl rfl sls_p eApiValue_len .n fun z6 => .lEA Tryz.isAgg55 Tryz.sizeOf55 rfl rfl .n <| .mv rfl .n <| ?_
          refine .fE fa58_3 rfl rfl .n <| .lE Tryz.isAgg3 rfl rfl .n <| .ix Tryz.runUnderlying32 Tryz.sizeOf55 rfl rfl sls_p eApiValue_len .n fun z7 => .lEA Tryz.isAgg55 Tryz.sizeOf55 rfl rfl .n <| .cw (fun _ => c72) (fun _ _ => rfl) (.s rfl (.s rfl (.s rfl .n))) rfl (fun _ => rfl) .n fun z8 => ?_
          exact .st Tryz.sizeOf55 rfl rfl rfl rfl rfl rfl .n <| .nil (by kernel_rfl) <| .th <| .ret <| .blkR <| .thR <| .ret1 (P := p43) (sel := []) ⟨rfl, rfl⟩ rfl rfl (.cellA rfl rfl Tryz.isAgg55 Tryz.sizeOf55 rfl) .rf .nil rfl
        · refine .seq <| .region <| .fE fa58_0 rfl rfl rfl <| .lE Tryz.isAgg5 rfl rfl rfl <| .eql rfl rfl rfl <| .mv rfl rfl <| .or (r := (decide (a0.code = 6))) 4 60 56 rfl (fun c => ?_) (fun c => ?_) ?_
          · exact .yes 56 rfl rfl rfl <| .fE fa58_0 rfl rfl rfl <| .yes 56 rfl rfl rfl <| .lE Tryz.isAgg5 rfl rfl rfl <| .yes 56 rfl rfl rfl <| .eql rfl rfl rfl <| .pickF rfl rfl rfl <| c _ (.up rfl rfl rfl)
          · exact .no 56 rfl rfl rfl rfl <| .no 56 rfl rfl rfl rfl <| .no 56 rfl rfl rfl rfl <| .pickT rfl rfl rfl <| c _ (.up rfl rfl rfl)
          · refine .sg rfl rfl <| .nil <| .th <| .cond rfl ?_ ?_
            · refine .seq <| .any Tryz.mixed <| .fE fa58_0 rfl rfl .n <| .lE Tryz.isAgg5 rfl rfl .n <| .mv rfl .n <| .fE fa58_1 rfl rfl .n <| .lE Tryz.isAgg3 rfl rfl .n <| .ix Tryz.runUnderlying32 Tryz.sizeOf55 rfl rfl sls_p eApiValue_len .n fun z9 => ?_
              refine .lEA Tryz.isAgg55 Tryz.sizeOf55 rfl rfl .n <| .cw (fun _ => c73) (fun _ _ => rfl) (.s rfl (.s rfl .n)) rfl (fun _ => rfl) .n fun z10 => .st Tryz.sizeOf55 rfl rfl rfl rfl rfl rfl .n <| .nil (by kernel_rfl) <| ?_
              exact .th <| .ret <| .blkR <| .thR <| .ret1 (P := p43) (sel := []) ⟨rfl, rfl⟩ rfl rfl (.cellA rfl rfl Tryz.isAgg55 Tryz.sizeOf55 rfl) .rf .nil rfl
            · refine .skip <| .blk <| .th <| .seq <| .any Tryz.mixed <| .fE fa58_0 rfl rfl .n <| .lE Tryz.isAgg5 rfl rfl .n <| .mv rfl .n <| .fE fa58_1 rfl rfl .n <| .lE Tryz.isAgg3 rfl rfl .n <| .ix Tryz.runUnderlying32 Tryz.sizeOf55 rfl rfl sls_p eApiValue_len .n fun z11 => ?_
              refine .lEA Tryz.isAgg55 Tryz.sizeOf55 rfl rfl .n <| .mv rfl .n <| .fE fa58_2 rfl rfl .n <| .lE Tryz.isAgg3 rfl rfl .n <| .ix Tryz.runUnderlying32 Tryz.sizeOf55 rfl rfl sls_p eApiValue_len .n fun z12 => .lEA Tryz.isAgg55 Tryz.sizeOf55 rfl rfl .n <| ?_
              exact .cw (fun _ => c74) (fun _ _ => rfl) (.s rfl (.s rfl (.s rfl .n))) rfl (fun _ => rfl) .n fun z13 => .st Tryz.sizeOf55 rfl rfl rfl rfl rfl rfl .n <| .nil (by kernel_rfl) <| .th <| .ret <| .ret1 (P := p43) (sel := []) ⟨rfl, rfl⟩ rfl rfl (.cellA rfl rfl Tryz.isAgg55 Tryz.sizeOf55 rfl) .rf .nil rfl
noncomputable def m189i1 (p0 : Int) (p1 : Int) : Option ApiValue := if (decide (p1 = 0)) then (m95 1).bind fun z1 => some ⟨z1.fault, z1.n⟩ else (m190 p0 p1).bind fun z2 => (m147 z2.1 z2.2).bind fun z3 => (m66 z3).bind fun z4 => some ⟨z4.fault, z4.n⟩
abbrev p189i1 (p0 : Int) (p1 : Int) (r : ApiValue) (v : V) (H : List Ob) : Prop := v = .agg ((eApiValue r).map .p) ∧ H = []
theorem c189i1 {p0 : Int} {p1 : Int} {r : ApiValue} (h : m189i1 p0 p1 = some r) : CE Tryz.prog 189 [vI p0, vI p1, .el [.v (.func (.func 147) #[] #[])]] [] (.agg ((eApiValue r).map .p)) [] := by
  refine CD.ofM (P := p189i1 p0 p1) h Tryz.func189 rfl Tryz.ntmps189 rfl fun w g => ?_
  refine .ext 1 ?_
  refine .seq <| .region <| .al 0 Tryz.zeroValue55 rfl rfl rfl <| .nil <| .th <| .seq <| .seq <| .region <| .mv rfl rfl <| .eql rfl rfl rfl <| .nil <| .th <| .cond rfl ?_ ?_
  · exact .seq <| .region <| .cw (fun _ => c95) (fun _ _ => rfl) (.s rfl .n) rfl (fun _ => rfl) rfl fun z1 => .st Tryz.sizeOf55 rfl rfl rfl rfl rfl rfl <| .nil <| .th <| .ret <| .thR <| .ret1 (P := p189i1 p0 p1) (sel := []) ⟨rfl, rfl⟩ rfl rfl (.cellA rfl rfl Tryz.isAgg55 Tryz.sizeOf55 rfl) .rf .nil rfl
  · refine .skip <| .th <| .seq <| .any Tryz.mixed <| .lE Tryz.isAgg170 rfl rfl .n <| .mv rfl .n <| .mv rfl .n <| .cw (fun _ => c190) (fun _ _ => rfl) (.s rfl (.s rfl .n)) rfl (fun _ => rfl) .n fun z2 => .xt rfl rfl .n <| ?_
    refine .xt rfl rfl .n <| .fv rfl (fun _ h => .c0 (c147 h) (fun _ _ => rfl) rfl rfl rfl) (.s rfl (.s rfl .n)) .n fun z3 => .cw (fun _ => c66) (fun _ _ => rfl) (.s rfl .n) rfl (fun _ => rfl) .n fun z4 => .st Tryz.sizeOf55 rfl rfl rfl rfl rfl rfl .n <| ?_
    exact .nil (by kernel_rfl) <| .th <| .ret <| .ret1 (P := p189i1 p0 p1) (sel := []) ⟨rfl, rfl⟩ rfl rfl (.cellA rfl rfl Tryz.isAgg55 Tryz.sizeOf55 rfl) .rf .nil rfl
noncomputable def m189i2 (p0 : Int) (p1 : Int) : Option ApiValue := if (decide (p1 = 0)) then (m95 1).bind fun z1 => some ⟨z1.fault, z1.n⟩ else (m190 p0 p1).bind fun z2 => (m148 z2.1 z2.2).bind fun z3 => (m66 z3).bind fun z4 => some ⟨z4.fault, z4.n⟩
abbrev p189i2 (p0 : Int) (p1 : Int) (r : ApiValue) (v : V) (H : List Ob) : Prop := v = .agg ((eApiValue r).map .p) ∧ H = []
theorem c189i2 {p0 : Int} {p1 : Int} {r : ApiValue} (h : m189i2 p0 p1 = some r) : CE Tryz.prog 189 [vI p0, vI p1, .el [.v (.func (.func 148) #[] #[])]] [] (.agg ((eApiValue r).map .p)) [] := by
  refine CD.ofM (P := p189i2 p0 p1) h Tryz.func189 rfl Tryz.ntmps189 rfl fun w g => ?_
  refine .ext 1 ?_
  refine .seq <| .region <| .al 0 Tryz.zeroValue55 rfl rfl rfl <| .nil <| .th <| .seq <| .seq <| .region <| .mv rfl rfl <| .eql rfl rfl rfl <| .nil <| .th <| .cond rfl ?_ ?_
  · exact .seq <| .region <| .cw (fun _ => c95) (fun _ _ => rfl) (.s rfl .n) rfl (fun _ => rfl) rfl fun z1 => .st Tryz.sizeOf55 rfl rfl rfl rfl rfl rfl <| .nil <| .th <| .ret <| .thR <| .ret1 (P := p189i2 p0 p1) (sel := []) ⟨rfl, rfl⟩ rfl rfl (.cellA rfl rfl Tryz.isAgg55 Tryz.sizeOf55 rfl) .rf .nil rfl
  · refine .skip <| .th <| .seq <| .any Tryz.mixed <| .lE Tryz.isAgg170 rfl rfl .n <| .mv rfl .n <| .mv rfl .n <| .cw (fun _ => c190) (fun _ _ => rfl) (.s rfl (.s rfl .n)) rfl (fun _ => rfl) .n fun z2 => .xt rfl rfl .n <| ?_
    refine .xt rfl rfl .n <| .fv rfl (fun _ h => .c0 (c148 h) (fun _ _ => rfl) rfl rfl rfl) (.s rfl (.s rfl .n)) .n fun z3 => .cw (fun _ => c66) (fun _ _ => rfl) (.s rfl .n) rfl (fun _ => rfl) .n fun z4 => .st Tryz.sizeOf55 rfl rfl rfl rfl rfl rfl .n <| ?_
    exact .nil (by kernel_rfl) <| .th <| .ret <| .ret1 (P := p189i2 p0 p1) (sel := []) ⟨rfl, rfl⟩ rfl rfl (.cellA rfl rfl Tryz.isAgg55 Tryz.sizeOf55 rfl) .rf .nil rfl
noncomputable def m191i1 (p0 : Int) (p1 : Int) : Option ApiValue := (m192 p0 p1).bind fun z1 => (m150 z1).bind fun z2 => (m138 z2).bind fun z3 => some ⟨z3.fault, z3.n⟩
abbrev p191i1 (p0 : Int) (p1 : Int) (r : ApiValue) (v : V) (H : List Ob) : Prop := v = .agg ((eApiValue r).map .p) ∧ H = []
theorem c191i1 {p0 : Int} {p1 : Int} {r : ApiValue} (h : m191i1 p0 p1 = some r) : CE Tryz.prog 191 [vI p0, vI p1, .el [.v (.func (.func 150) #[] #[])]] [] (.agg ((eApiValue r).map .p)) [] := by
  refine CD.ofM (P := p191i1 p0 p1) h Tryz.func191 rfl Tryz.ntmps191 rfl fun w g => ?_
  refine .ext 1 ?_
  refine .seq <| .region <| .al 0 Tryz.zeroValue55 rfl rfl rfl <| .nil <| .th <| .seq <| .any Tryz.mixed <| .lE Tryz.isAgg105 rfl rfl .n <| .mv rfl .n <| .mv rfl .n <| .cw (fun _ => c192) (fun _ _ => rfl) (.s rfl (.s rfl .n)) rfl (fun _ => rfl) .n fun z1 => ?_
  refine .fv rfl (fun _ h => .c0 (c150 h) (fun _ _ => rfl) rfl rfl rfl) (.s rfl .n) .n fun z2 => .cw (fun _ => c138) (fun _ _ => rfl) (.s rfl .n) rfl (fun _ => rfl) .n fun z3 => .st Tryz.sizeOf55 rfl rfl rfl rfl rfl rfl .n <| ?_
  exact .nil (by kernel_rfl) <| .th <| .ret <| .ret1 (P := p191i1 p0 p1) (sel := []) ⟨rfl, rfl⟩ rfl rfl (.cellA rfl rfl Tryz.isAgg55 Tryz.sizeOf55 rfl) .rf .nil rfl
noncomputable def m191i2 (p0 : Int) (p1 : Int) : Option ApiValue := (m192 p0 p1).bind fun z1 => (m151 z1).bind fun z2 => (m138 z2).bind fun z3 => some ⟨z3.fault, z3.n⟩
abbrev p191i2 (p0 : Int) (p1 : Int) (r : ApiValue) (v : V) (H : List Ob) : Prop := v = .agg ((eApiValue r).map .p) ∧ H = []
theorem c191i2 {p0 : Int} {p1 : Int} {r : ApiValue} (h : m191i2 p0 p1 = some r) : CE Tryz.prog 191 [vI p0, vI p1, .el [.v (.func (.func 151) #[] #[])]] [] (.agg ((eApiValue r).map .p)) [] := by
  refine CD.ofM (P := p191i2 p0 p1) h Tryz.func191 rfl Tryz.ntmps191 rfl fun w g => ?_
  refine .ext 1 ?_
  refine .seq <| .region <| .al 0 Tryz.zeroValue55 rfl rfl rfl <| .nil <| .th <| .seq <| .any Tryz.mixed <| .lE Tryz.isAgg105 rfl rfl .n <| .mv rfl .n <| .mv rfl .n <| .cw (fun _ => c192) (fun _ _ => rfl) (.s rfl (.s rfl .n)) rfl (fun _ => rfl) .n fun z1 => ?_
  refine .fv rfl (fun _ h => .c0 (c151 h) (fun _ _ => rfl) rfl rfl rfl) (.s rfl .n) .n fun z2 => .cw (fun _ => c138) (fun _ _ => rfl) (.s rfl .n) rfl (fun _ => rfl) .n fun z3 => .st Tryz.sizeOf55 rfl rfl rfl rfl rfl rfl .n <| ?_
  exact .nil (by kernel_rfl) <| .th <| .ret <| .ret1 (P := p191i2 p0 p1) (sel := []) ⟨rfl, rfl⟩ rfl rfl (.cellA rfl rfl Tryz.isAgg55 Tryz.sizeOf55 rfl) .rf .nil rfl
noncomputable def m191i3 (p0 : Int) (p1 : Int) : Option ApiValue := (m192 p0 p1).bind fun z1 => (m152 z1).bind fun z2 => (m138 z2).bind fun z3 => some ⟨z3.fault, z3.n⟩
abbrev p191i3 (p0 : Int) (p1 : Int) (r : ApiValue) (v : V) (H : List Ob) : Prop := v = .agg ((eApiValue r).map .p) ∧ H = []
theorem c191i3 {p0 : Int} {p1 : Int} {r : ApiValue} (h : m191i3 p0 p1 = some r) : CE Tryz.prog 191 [vI p0, vI p1, .el [.v (.func (.func 152) #[] #[])]] [] (.agg ((eApiValue r).map .p)) [] := by
  refine CD.ofM (P := p191i3 p0 p1) h Tryz.func191 rfl Tryz.ntmps191 rfl fun w g => ?_
  refine .ext 1 ?_
  refine .seq <| .region <| .al 0 Tryz.zeroValue55 rfl rfl rfl <| .nil <| .th <| .seq <| .any Tryz.mixed <| .lE Tryz.isAgg105 rfl rfl .n <| .mv rfl .n <| .mv rfl .n <| .cw (fun _ => c192) (fun _ _ => rfl) (.s rfl (.s rfl .n)) rfl (fun _ => rfl) .n fun z1 => ?_
  refine .fv rfl (fun _ h => .c0 (c152 h) (fun _ _ => rfl) rfl rfl rfl) (.s rfl .n) .n fun z2 => .cw (fun _ => c138) (fun _ _ => rfl) (.s rfl .n) rfl (fun _ => rfl) .n fun z3 => .st Tryz.sizeOf55 rfl rfl rfl rfl rfl rfl .n <| ?_
  exact .nil (by kernel_rfl) <| .th <| .ret <| .ret1 (P := p191i3 p0 p1) (sel := []) ⟨rfl, rfl⟩ rfl rfl (.cellA rfl rfl Tryz.isAgg55 Tryz.sizeOf55 rfl) .rf .nil rfl
noncomputable def md167 (z : Nat) (a0 : Int) (a1 : Int) : Option ApiValue := if z = 1 then m143 a0 a1 else if z = 2 then m144 a0 a1 else if z = 3 then m145 a0 a1 else if z = 4 then m189i1 a0 a1 else if z = 5 then m189i2 a0 a1 else if z = 6 then m191i1 a0 a1 else if z = 7 then m191i2 a0 a1 else if z = 8 then m191i3 a0 a1 else none
theorem dsp167 {z : Nat} {a0 : Int} {a1 : Int} {r : ApiValue} (h : md167 z a0 a1 = some r) : FnCall Tryz.prog (vF167 z) [vI a0, vI a1] (.agg ((eApiValue r).map .p)) := by
  unfold md167 at h
  by_cases e : z = 1
  · subst e; rw [if_pos rfl] at h; exact .c0 (c143 h) (fun _ _ => rfl) rfl rfl rfl
  rw [if_neg e] at h
  by_cases e : z = 2
  · subst e; rw [if_pos rfl] at h; exact .c0 (c144 h) (fun _ _ => rfl) rfl rfl rfl
  rw [if_neg e] at h
  by_cases e : z = 3
  · subst e; rw [if_pos rfl] at h; exact .c0 (c145 h) (fun _ _ => rfl) rfl rfl rfl
  rw [if_neg e] at h
  by_cases e : z = 4
  · subst e; rw [if_pos rfl] at h; exact .cf (c189i1 h) (fun _ _ => rfl) rfl rfl rfl
  rw [if_neg e] at h
  by_cases e : z = 5
  · subst e; rw [if_pos rfl] at h; exact .cf (c189i2 h) (fun _ _ => rfl) rfl rfl rfl
  rw [if_neg e] at h
  by_cases e : z = 6
  · subst e; rw [if_pos rfl] at h; exact .cf (c191i1 h) (fun _ _ => rfl) rfl rfl rfl
  rw [if_neg e] at h
  by_cases e : z = 7
  · subst e; rw [if_pos rfl] at h; exact .cf (c191i2 h) (fun _ _ => rfl) rfl rfl rfl
  rw [if_neg e] at h
  by_cases e : z = 8
  · subst e; rw [if_pos rfl] at h; exact .cf (c191i3 h) (fun _ _ => rfl) rfl rfl rfl
  rw [if_neg e] at h
  cases h
noncomputable def m69 (a0 : Int) (a1 : ApiValue) (a2 : ApiValue) : Option (ApiValue × Int) := if (decide (a0 = 15)) then (m66 0).bind fun z1 => (m68 a1 a2 z1).bind fun z2 => some (⟨z2.1.fault, z2.1.n⟩, z2.2) else if (decide (a0 = 16)) then (m66 1).bind fun z3 => (m68 a1 z3 a2).bind fun z4 => some (⟨z4.1.fault, z4.1.n⟩, z4.2) else (m100 a0).bind fun z5 => if (decide (z5 = 0)) then some (⟨0, 0⟩, 2) else (m99 ([a1, a2] : List ApiValue)).bind fun z6 => if (!z6) then some (⟨0, 0⟩, 2) else (m98 ([a1, a2] : List ApiValue)).bind fun z7 => if z7.2 then some (⟨z7.1.fault, z7.1.n⟩, 0) else (md167 z5 a1.n a2.n).bind fun z8 => some (⟨z8.fault, z8.n⟩, 0)
abbrev p69 (r : ApiValue × Int) (v : V) (H : List Ob) : Prop := v = .tup [.agg ((eApiValue r.1).map .p), vI r.2] ∧ H = []
theorem c69 {a0 : Int} {a1 : ApiValue} {a2 : ApiValue} {r : ApiValue × Int} (h : m69 a0 a1 a2 = some r) : CP Tryz.prog 69 [v8 a0, .agg ((eApiValue a1).map .p), .agg ((eApiValue a2).map .p)] (.tup [.agg ((eApiValue r.1).map .p), vI r.2]) := by
  refine CD.ofM (P := p69) h Tryz.func69 rfl Tryz.ntmps69 rfl fun w g => ?_
  refine .ext 2 ?_
  refine .seq <| .region <| .bxE (cs := eApiValue a1) rfl rfl rfl rfl <| .bxE (cs := eApiValue a2) rfl rfl rfl rfl <| .al 0 Tryz.zeroValue55 rfl rfl rfl <| .sg rfl rfl <| .nil <| .th <| .seq <| .seq <| .region <| ?_
  refine .mv rfl rfl <| .nil <| .th <| .blk <| .seq <| .region <| .eql rfl rfl rfl <| .sg rfl rfl <| .nil <| .th <| .cond rfl ?_ ?_
  · refine .seq <| .any Tryz.mixed <| .lEA Tryz.isAgg55 Tryz.sizeOf55 rfl rfl .n <| .lEA Tryz.isAgg55 Tryz.sizeOf55 rfl rfl .n <| .cw (fun _ => c66) (fun _ _ => rfl) (.s rfl .n) rfl (fun _ => rfl) .n fun z1 => .cw (fun _ => c68) (fun _ _ => rfl) (.s rfl (.s rfl (.s rfl .n))) rfl (fun _ => rfl) .n fun z2 => ?_
    exact .xt rfl rfl .n <| .xt rfl rfl .n <| .st Tryz.sizeOf55 rfl rfl rfl rfl rfl rfl .n <| .sg rfl .n <| .nil (by kernel_rfl) <| .th <| .ret <| .blkR <| .thR <| .ret2 (P := p69) (sel := []) ⟨rfl, rfl⟩ rfl rfl (.cellA rfl rfl Tryz.isAgg55 Tryz.sizeOf55 rfl) (.tmp rfl) .rf .rf .nil rfl
  · refine .seq <| .region <| .eql rfl rfl rfl <| .sg rfl rfl <| .nil <| .th <| .cond rfl ?_ ?_
    · refine .seq <| .any Tryz.mixed <| .lEA Tryz.isAgg55 Tryz.sizeOf55 rfl rfl .n <| .cw (fun _ => c66) (fun _ _ => rfl) (.s rfl .n) rfl (fun _ => rfl) .n fun z3 => .lEA Tryz.isAgg55 Tryz.sizeOf55 rfl rfl .n <| .cw (fun _ => c68) (fun _ _ => rfl) (.s rfl (.s rfl (.s rfl .n))) rfl (fun _ => rfl) .n fun z4 => ?_
      exact .xt rfl rfl .n <| .xt rfl rfl .n <| .st Tryz.sizeOf55 rfl rfl rfl rfl rfl rfl .n <| .sg rfl .n <| .nil (by kernel_rfl) <| .th <| .ret <| .blkR <| .thR <| .ret2 (P := p69) (sel := []) ⟨rfl, rfl⟩ rfl rfl (.cellA rfl rfl Tryz.isAgg55 Tryz.sizeOf55 rfl) (.tmp rfl) .rf .rf .nil rfl
    · refine .skip <| .blk <| .th <| .seq <| .region <| .mv rfl rfl <| .cw (fun _ => c100) (fun _ _ => rfl) (.s rfl .n) rfl (fun z => vFren167 z _) rfl fun z5 => .sg rfl rfl <| .nil <| .th <| .seq <| .seq <| .region <| ?_
      refine .mv rfl rfl <| .q (i_eqF Tryz.runUnderlying167 rfl rfl (isF167 _)) rfl <| .mv rfl rfl <| .fork 32 rfl ?_ ?_
      · refine .no 32 rfl rfl rfl rfl <| .no 32 rfl rfl rfl rfl <| .no 32 rfl rfl rfl rfl <| .no 32 rfl rfl rfl rfl <| .no 32 rfl rfl rfl rfl <| .pickT rfl rfl rfl <| .nil <| .th <| .condT rfl <| .seq <| .region <| .bu bu55 rfl rfl rfl rfl <| ?_
        exact .st Tryz.sizeOf55 rfl rfl rfl rfl rfl rfl <| .sg rfl rfl <| .nil <| .th <| .ret <| .thR <| .ret2 (P := p69) (sel := []) ⟨rfl, rfl⟩ rfl rfl (.cellA rfl rfl Tryz.isAgg55 Tryz.sizeOf55 rfl) (.tmp rfl) .rf .rf .nil rfl
      · refine .yes 32 rfl rfl rfl <| .lEA Tryz.isAgg55 Tryz.sizeOf55 rfl rfl rfl <| .yes 32 rfl rfl rfl <| .lEA Tryz.isAgg55 Tryz.sizeOf55 rfl rfl rfl <| .yes 32 rfl rfl rfl <| .bs ([a1, a2] : List ApiValue) eApiValue Tryz.runUnderlying32 Tryz.sizeOf55 Tryz.zeroValue55 rfl rfl rfl rfl rfl rfl rfl rfl <| ?_
        refine .yes 32 rfl rfl rfl <| .cw (fun _ => c99) (fun _ _ => rfl) (.s rfl .n) rfl (fun _ => rfl) rfl fun z6 => .yes 32 rfl rfl rfl <| .not rfl rfl <| .pickF rfl rfl rfl <| .nil <| .th <| .cond rfl ?_ ?_
        · exact .seq <| .region <| .bu bu55 rfl rfl rfl rfl <| .st Tryz.sizeOf55 rfl rfl rfl rfl rfl rfl <| .sg rfl rfl <| .nil <| .th <| .ret <| .thR <| .ret2 (P := p69) (sel := []) ⟨rfl, rfl⟩ rfl rfl (.cellA rfl rfl Tryz.isAgg55 Tryz.sizeOf55 rfl) (.tmp rfl) .rf .rf .nil rfl
        · refine .skip <| .th <| .seq <| .seq <| .region <| .lEA Tryz.isAgg55 Tryz.sizeOf55 rfl rfl rfl <| .lEA Tryz.isAgg55 Tryz.sizeOf55 rfl rfl rfl <| .bs ([a1, a2] : List ApiValue) eApiValue Tryz.runUnderlying32 Tryz.sizeOf55 Tryz.zeroValue55 rfl rfl rfl rfl rfl rfl rfl rfl <| ?_
          refine .cw (fun _ => c98) (fun _ _ => rfl) (.s rfl .n) rfl (fun _ => rfl) rfl fun z7 => .mv rfl rfl <| .xt rfl rfl rfl <| .xt rfl rfl rfl <| .al 1 Tryz.zeroValue55 rfl rfl rfl <| .st Tryz.sizeOf55 rfl rfl rfl rfl rfl rfl <| ?_
          refine .sg rfl rfl <| .nil <| .th <| .seq <| .region <| .mv rfl rfl <| .nil <| .th <| .cond rfl ?_ ?_
          · exact .seq <| .region <| .lRA Tryz.isAgg55 Tryz.sizeOf55 rfl rfl rfl rfl <| .st Tryz.sizeOf55 rfl rfl rfl rfl rfl rfl <| .sg rfl rfl <| .nil <| .th <| .ret <| .thR <| .ret2 (P := p69) (sel := []) ⟨rfl, rfl⟩ rfl rfl (.cellA rfl rfl Tryz.isAgg55 Tryz.sizeOf55 rfl) (.tmp rfl) .rf .rf .nil rfl
          · refine .skip <| .th <| .seq <| .region <| .mv rfl rfl <| .fE fa55_1 rfl rfl rfl <| .lE Tryz.isAgg3 rfl rfl rfl <| .fE fa55_1 rfl rfl rfl <| .lE Tryz.isAgg3 rfl rfl rfl <| .fv rfl (fun _ h => dsp167 h) (.s rfl (.s rfl .n)) rfl fun z8 => ?_
            exact .st Tryz.sizeOf55 rfl rfl rfl rfl rfl rfl <| .sg rfl rfl <| .nil <| .th <| .ret <| .ret2 (P := p69) (sel := []) ⟨rfl, rfl⟩ rfl rfl (.cellA rfl rfl Tryz.isAgg55 Tryz.sizeOf55 rfl) (.tmp rfl) .rf .rf .nil rfl
noncomputable def m137 (a0 : Int) : Option ApiValue := (m138 (decide (a0 = 0))).bind fun z1 => some ⟨z1.fault, z1.n⟩
abbrev p137 (r : ApiValue) (v : V) (H : List Ob) : Prop := v = .agg ((eApiValue r).map .p) ∧ H = []
theorem c137 {a0 : Int} {r : ApiValue} (h : m137 a0 = some r) : CP Tryz.prog 137 [vI a0] (.agg ((eApiValue r).map .p)) := by
  refine CD.ofM (P := p137) h Tryz.func137 rfl Tryz.ntmps137 rfl fun w g => ?_
  refine .ext 1 ?_
  refine .seq <| .region <| .al 0 Tryz.zeroValue55 rfl rfl rfl <| .nil <| .th <| .seq <| .region <| .mv rfl rfl <| .eql rfl rfl rfl <| .cw (fun _ => c138) (fun _ _ => rfl) (.s rfl .n) rfl (fun _ => rfl) rfl fun z1 => ?_
  exact .st Tryz.sizeOf55 rfl rfl rfl rfl rfl rfl <| .nil <| .th <| .ret <| .ret1 (P := p137) (sel := []) ⟨rfl, rfl⟩ rfl rfl (.cellA rfl rfl Tryz.isAgg55 Tryz.sizeOf55 rfl) .rf .nil rfl
noncomputable def m4 (a0 : ApiCore) (a1 : ApiTemplate) (a2 : List Int) : Option Bool := (m6 a0).bind fun z1 => if z1 then (m7 ).bind fun z2 => some z2 else (m6 a1.core).bind fun z3 => if ((z3 || (decide (50 < (a2.length : Int)))) || (decide (40 < (a1.name.size : Int)))) then (m7 ).bind fun z4 => some z4 else (m8 a0).bind fun z5 => (m8 a1.core).bind fun z6 => (ap ([] : List Int) a2).bind fun z7 => (m19 ⟨z5.choices, z5.ops, z5.roots⟩ (⟨a1.name, a1.params, (⟨z6.choices, z6.ops, z6.roots⟩ : ApiCore)⟩) z7).bind fun z8 => (m12 ⟨z5.choices, z5.ops, z5.roots⟩ a0).bind fun z9 => if (!z9) then some false else (m12 ⟨z6.choices, z6.ops, z6.roots⟩ a1.core).bind fun z10 => if (!z10) then some false else (m13 z7 a2).bind fun z11 => if (!z11) then some false else (m20 a0 a1 a2).bind fun z12 => if (!decide (z12 = 0)) then if (decide (z8.2.2 = z12)) then (m12 ⟨z8.1.choices, z8.1.ops, z8.1.roots⟩ ⟨[], [], []⟩).bind fun z13 => if (z13 && (decide ((z8.2.1.length : Int) = 0))) then (m7 ).bind fun z14 => some z14 else some false else some false else (m21 a0 a1 a2).bind fun z15 => if (decide (z8.2.2 = 0)) then (m12 ⟨z8.1.choices, z8.1.ops, z8.1.roots⟩ ⟨z15.1.choices, z15.1.ops, z15.1.roots⟩).bind fun z16 => if z16 then (m13 z8.2.1 z15.2).bind fun z17 => if z17 then (m7 ).bind fun z18 => some z18 else some false else some false else some false
abbrev p4 (r : Bool) (v : V) (H : List Ob) : Prop := v = vB r ∧ H = []
theorem c4 {a0 : ApiCore} {a1 : ApiTemplate} {a2 : List Int} {r : Bool} (h : m4 a0 a1 a2 = some r) : CP Tryz.prog 4 [.agg ((eApiCore a0).map .p), .agg ((eApiTemplate a1).map .p), vL 1 eI a2] (vB r) := by
  refine CD.ofM (P := p4) h Tryz.func4 rfl Tryz.ntmps4 rfl fun w g => ?_
  refine .ext 5 ?_
  refine .seq <| .region <| .bxE (cs := eApiCore a0) rfl rfl rfl rfl <| .bxE (cs := eApiTemplate a1) rfl rfl rfl rfl <| .sg rfl rfl <| .nil <| .th <| .seq <| .seq <| .region <| .lEA Tryz.isAgg26 Tryz.sizeOf26 rfl rfl rfl <| ?_
  refine .cw (fun _ => c6) (fun _ _ => rfl) (.s rfl .n) rfl (fun _ => rfl) rfl fun z1 => .mv rfl rfl <| .fork 18 rfl ?_ ?_
  · refine .no 18 rfl rfl rfl rfl <| .no 18 rfl rfl rfl rfl <| .no 18 rfl rfl rfl rfl <| .pickT rfl rfl rfl <| .mv rfl rfl <| .no 23 rfl rfl rfl rfl <| .no 23 rfl rfl rfl rfl <| .no 23 rfl rfl rfl rfl <| .pickT rfl rfl rfl <| ?_
    refine .mv rfl rfl <| .no 28 rfl rfl rfl rfl <| .no 28 rfl rfl rfl rfl <| .no 28 rfl rfl rfl rfl <| .no 28 rfl rfl rfl rfl <| .pickT rfl rfl rfl <| .nil <| .th <| .condT rfl <| .seq <| .region <| .cw (fun _ => c7) (fun _ _ => rfl) .n rfl (fun _ => rfl) rfl fun z2 => ?_
    exact .sg rfl rfl <| .nil <| .th <| .ret <| .thR <| .ret1 (P := p4) (sel := []) ⟨rfl, rfl⟩ rfl rfl (.tmp rfl) .rf .nil rfl
  · refine .yes 18 rfl rfl rfl <| .fE fa42_2 rfl rfl rfl <| .yes 18 rfl rfl rfl <| .lEA Tryz.isAgg26 Tryz.sizeOf26 rfl rfl rfl <| .yes 18 rfl rfl rfl <| .cw (fun _ => c6) (fun _ _ => rfl) (.s rfl .n) rfl (fun _ => rfl) rfl fun z3 => ?_
    refine .pickF rfl rfl rfl <| .mv rfl rfl <| .or (r := (decide (50 < (a2.length : Int)))) 4 27 23 rfl (fun c => ?_) (fun c => ?_) ?_
    · exact .yes 23 rfl rfl rfl <| .mv rfl rfl <| .yes 23 rfl rfl rfl <| .ln Tryz.runUnderlying24 rfl sls_p rfl <| .yes 23 rfl rfl rfl <| .gtr rfl rfl rfl <| .pickF rfl rfl rfl <| c _ (.up rfl rfl rfl)
    · exact .no 23 rfl rfl rfl rfl <| .no 23 rfl rfl rfl rfl <| .no 23 rfl rfl rfl rfl <| .pickT rfl rfl rfl <| c _ (.up rfl rfl rfl)
    · refine .mv rfl rfl <| .or (r := (decide (40 < (a1.name.size : Int)))) 5 33 28 rfl (fun c => ?_) (fun c => ?_) ?_
      · refine .yes 28 rfl rfl rfl <| .fE fa42_0 rfl rfl rfl <| .yes 28 rfl rfl rfl <| .lE Tryz.isAgg9 rfl rfl rfl <| .yes 28 rfl rfl rfl <| .lnS Tryz.runUnderlying9 rfl rfl <| .yes 28 rfl rfl rfl <| .gtr rfl rfl rfl <| ?_
        exact .pickF rfl rfl rfl <| c _ (.up rfl rfl rfl)
      · exact .no 28 rfl rfl rfl rfl <| .no 28 rfl rfl rfl rfl <| .no 28 rfl rfl rfl rfl <| .no 28 rfl rfl rfl rfl <| .pickT rfl rfl rfl <| c _ (.up rfl rfl rfl)
      · refine .nil <| .th <| .cond rfl ?_ ?_
        · exact .seq <| .region <| .cw (fun _ => c7) (fun _ _ => rfl) .n rfl (fun _ => rfl) rfl fun z4 => .sg rfl rfl <| .nil <| .th <| .ret <| .thR <| .ret1 (P := p4) (sel := []) ⟨rfl, rfl⟩ rfl rfl (.tmp rfl) .rf .nil rfl
        · refine .skip <| .th <| .seq <| .any Tryz.mixed <| .lEA Tryz.isAgg26 Tryz.sizeOf26 rfl rfl .n <| .cw (fun _ => c8) (fun _ _ => rfl) (.s rfl .n) rfl (fun _ => rfl) .n fun z5 => .fE fa42_0 rfl rfl .n <| .lE Tryz.isAgg9 rfl rfl .n <| ?_
          refine .fE fa42_1 rfl rfl .n <| .lE Tryz.isAgg3 rfl rfl .n <| .fE fa42_2 rfl rfl .n <| .lEA Tryz.isAgg26 Tryz.sizeOf26 rfl rfl .n <| .cw (fun _ => c8) (fun _ _ => rfl) (.s rfl .n) rfl (fun _ => rfl) .n fun z6 => ?_
          refine .bu bu42 rfl rfl rfl .n <| .bsT 0 ([] : List Int) eI Tryz.runUnderlying24 Tryz.sizeOf3 Tryz.zeroValue3 rfl rfl rfl rfl rfl rfl rfl rfl rfl .n <| .mv rfl .n <| .ap Tryz.under24 info3 rfl (by decide) rfl rfl rfl sls_p (fun _ => rfl) rfl .n fun z7 => ?_
          refine .al 1 Tryz.zeroValue26 rfl rfl .n <| .al 2 Tryz.zeroValue42 rfl rfl .n <| .st Tryz.sizeOf26 rfl rfl rfl rfl rfl rfl .n <| .st Tryz.sizeOf42 rfl rfl rfl rfl rfl rfl .n <| .sg rfl .n <| .nil (by kernel_rfl) <| ?_
          refine .th <| .seq <| .region <| .lRA Tryz.isAgg26 Tryz.sizeOf26 rfl rfl rfl rfl <| .lRA Tryz.isAgg42 Tryz.sizeOf42 rfl rfl rfl rfl <| .mv rfl rfl <| .cw (fun _ => c19) (fun _ _ => rfl) (.s rfl (.s rfl (.c rfl .tkp .n))) rfl (fun _ => rfl) rfl fun z8 => ?_
          refine .mv rfl rfl <| .xt rfl rfl rfl <| .xt rfl rfl rfl <| .xt rfl rfl rfl <| .al 3 Tryz.zeroValue26 rfl rfl rfl <| .st Tryz.sizeOf26 rfl rfl rfl rfl rfl rfl <| .sg rfl rfl <| .sg rfl rfl <| .nil <| .th <| .seq <| ?_
          refine .seq <| .region <| .lRA Tryz.isAgg26 Tryz.sizeOf26 rfl rfl rfl rfl <| .lEA Tryz.isAgg26 Tryz.sizeOf26 rfl rfl rfl <| .cw (fun _ => c12) (fun _ _ => rfl) (.s rfl (.s rfl .n)) rfl (fun _ => rfl) rfl fun z9 => ?_
          refine .not rfl rfl <| .mv rfl rfl <| .fork 60 rfl ?_ ?_
          · refine .no 60 rfl rfl rfl rfl <| .no 60 rfl rfl rfl rfl <| .no 60 rfl rfl rfl rfl <| .no 60 rfl rfl rfl rfl <| .no 60 rfl rfl rfl rfl <| .no 60 rfl rfl rfl rfl <| .pickT rfl rfl rfl <| .mv rfl rfl <| .no 68 rfl rfl rfl rfl <| ?_
            exact .no 68 rfl rfl rfl rfl <| .no 68 rfl rfl rfl rfl <| .no 68 rfl rfl rfl rfl <| .pickT rfl rfl rfl <| .nil <| .th <| .condT rfl <| .seq <| .region <| .sg rfl rfl <| .nil <| .th <| .ret <| .thR <| .ret1 (P := p4) (sel := []) ⟨rfl, rfl⟩ rfl rfl (.tmp rfl) .rf .nil rfl
          · refine .yes 60 rfl rfl rfl <| .fR fa42_2 rfl rfl <| .yes 60 rfl rfl rfl <| .lRA Tryz.isAgg26 Tryz.sizeOf26 rfl rfl rfl rfl <| .yes 60 rfl rfl rfl <| .fE fa42_2 rfl rfl rfl <| .yes 60 rfl rfl rfl <| .lEA Tryz.isAgg26 Tryz.sizeOf26 rfl rfl rfl <| ?_
            refine .yes 60 rfl rfl rfl <| .cw (fun _ => c12) (fun _ _ => rfl) (.s rfl (.s rfl .n)) rfl (fun _ => rfl) rfl fun z10 => .yes 60 rfl rfl rfl <| .not rfl rfl <| .pickF rfl rfl rfl <| .mv rfl rfl <| .fork 68 rfl ?_ ?_
            · refine .no 68 rfl rfl rfl rfl <| .no 68 rfl rfl rfl rfl <| .no 68 rfl rfl rfl rfl <| .no 68 rfl rfl rfl rfl <| .pickT rfl rfl rfl <| .nil <| .th <| .condT rfl <| .seq <| .region <| .sg rfl rfl <| .nil <| .th <| ?_
              exact .ret <| .thR <| .ret1 (P := p4) (sel := []) ⟨rfl, rfl⟩ rfl rfl (.tmp rfl) .rf .nil rfl
            · refine .yes 68 rfl rfl rfl <| .mv rfl rfl <| .yes 68 rfl rfl rfl <| .mv rfl rfl <| .yes 68 rfl rfl rfl <| .cw (fun _ => c13) (fun _ _ => rfl) (.c rfl .tkp (.s rfl .n)) rfl (fun _ => rfl) rfl fun z11 => .yes 68 rfl rfl rfl <| ?_
              refine .not rfl rfl <| .pickF rfl rfl rfl <| .nil <| .th <| .cond rfl ?_ ?_
              · exact .seq <| .region <| .sg rfl rfl <| .nil <| .th <| .ret <| .thR <| .ret1 (P := p4) (sel := []) ⟨rfl, rfl⟩ rfl rfl (.tmp rfl) .rf .nil rfl
              · refine .skip <| .th <| .seq <| .seq <| .region <| .lEA Tryz.isAgg26 Tryz.sizeOf26 rfl rfl rfl <| .lEA Tryz.isAgg42 Tryz.sizeOf42 rfl rfl rfl <| .mv rfl rfl <| .cw (fun _ => c20) (fun _ _ => rfl) (.s rfl (.s rfl (.s rfl .n))) rfl (fun _ => rfl) rfl fun z12 => ?_
                refine .sg rfl rfl <| .nil <| .th <| .seq <| .region <| .mv rfl rfl <| .neq rfl rfl rfl <| .nil <| .th <| .cond rfl ?_ ?_
                · refine .seq <| .region <| .mv rfl rfl <| .mv rfl rfl <| .eql rfl rfl rfl <| .mv rfl rfl <| .fork 83 rfl ?_ ?_
                  · refine .yes 83 rfl rfl rfl <| .lRA Tryz.isAgg26 Tryz.sizeOf26 rfl rfl rfl rfl <| .yes 83 rfl rfl rfl <| .bu bu26 rfl rfl rfl rfl <| .yes 83 rfl rfl rfl <| .cw (fun _ => c12) (fun _ _ => rfl) (.s rfl (.c rfl (.agg (.c .nil (.c .nil (.c .nil .n)))) .n)) rfl (fun _ => rfl) rfl fun z13 => ?_
                    refine .pickT rfl rfl rfl <| .mv rfl rfl <| .and (r := (decide ((z8.2.1.length : Int) = 0))) 4 92 88 rfl (fun c => ?_) (fun c => ?_) ?_
                    · exact .yes 88 rfl rfl rfl <| .mv rfl rfl <| .yes 88 rfl rfl rfl <| .ln Tryz.runUnderlying24 rfl sls_p rfl <| .yes 88 rfl rfl rfl <| .eql rfl rfl rfl <| .pickT rfl rfl rfl <| c _ (.up rfl rfl rfl)
                    · exact .no 88 rfl rfl rfl rfl <| .no 88 rfl rfl rfl rfl <| .no 88 rfl rfl rfl rfl <| .pickF rfl rfl rfl <| c _ (.up rfl rfl rfl)
                    · refine .mv rfl rfl <| .fork 93 rfl ?_ ?_
                      · exact .yes 93 rfl rfl rfl <| .cw (fun _ => c7) (fun _ _ => rfl) .n rfl (fun _ => rfl) rfl fun z14 => .pickT rfl rfl rfl <| .sg rfl rfl <| .nil <| .th <| .ret <| .thR <| .ret1 (P := p4) (sel := []) ⟨rfl, rfl⟩ rfl rfl (.tmp rfl) .rf .nil rfl
                      · exact .no 93 rfl rfl rfl rfl <| .pickF rfl rfl rfl <| .sg rfl rfl <| .nil <| .th <| .ret <| .thR <| .ret1 (P := p4) (sel := []) ⟨rfl, rfl⟩ rfl rfl (.tmp rfl) .rf .nil rfl
                  · refine .no 83 rfl rfl rfl rfl <| .no 83 rfl rfl rfl rfl <| .no 83 rfl rfl rfl rfl <| .pickF rfl rfl rfl <| .mv rfl rfl <| .no 88 rfl rfl rfl rfl <| .no 88 rfl rfl rfl rfl <| .no 88 rfl rfl rfl rfl <| .pickF rfl rfl rfl <| ?_
                    exact .mv rfl rfl <| .no 93 rfl rfl rfl rfl <| .pickF rfl rfl rfl <| .sg rfl rfl <| .nil <| .th <| .ret <| .thR <| .ret1 (P := p4) (sel := []) ⟨rfl, rfl⟩ rfl rfl (.tmp rfl) .rf .nil rfl
                · refine .skip <| .th <| .seq <| .region <| .lEA Tryz.isAgg26 Tryz.sizeOf26 rfl rfl rfl <| .lEA Tryz.isAgg42 Tryz.sizeOf42 rfl rfl rfl <| .mv rfl rfl <| .cw (fun _ => c21) (fun _ _ => rfl) (.s rfl (.s rfl (.s rfl .n))) rfl (fun _ => rfl) rfl fun z15 => ?_
                  refine .mv rfl rfl <| .xt rfl rfl rfl <| .xt rfl rfl rfl <| .al 4 Tryz.zeroValue26 rfl rfl rfl <| .st Tryz.sizeOf26 rfl rfl rfl rfl rfl rfl <| .sg rfl rfl <| .nil <| .th <| .seq <| .region <| .mv rfl rfl <| .eql rfl rfl rfl <| ?_
                  refine .mv rfl rfl <| .fork 105 rfl ?_ ?_
                  · refine .yes 105 rfl rfl rfl <| .lRA Tryz.isAgg26 Tryz.sizeOf26 rfl rfl rfl rfl <| .yes 105 rfl rfl rfl <| .lRA Tryz.isAgg26 Tryz.sizeOf26 rfl rfl rfl rfl <| .yes 105 rfl rfl rfl <| .cw (fun _ => c12) (fun _ _ => rfl) (.s rfl (.s rfl .n)) rfl (fun _ => rfl) rfl fun z16 => ?_
                    refine .pickT rfl rfl rfl <| .mv rfl rfl <| .fork 110 rfl ?_ ?_
                    · refine .yes 110 rfl rfl rfl <| .mv rfl rfl <| .yes 110 rfl rfl rfl <| .mv rfl rfl <| .yes 110 rfl rfl rfl <| .cw (fun _ => c13) (fun _ _ => rfl) (.s rfl (.s rfl .n)) rfl (fun _ => rfl) rfl fun z17 => .pickT rfl rfl rfl <| ?_
                      refine .mv rfl rfl <| .fork 115 rfl ?_ ?_
                      · exact .yes 115 rfl rfl rfl <| .cw (fun _ => c7) (fun _ _ => rfl) .n rfl (fun _ => rfl) rfl fun z18 => .pickT rfl rfl rfl <| .sg rfl rfl <| .nil <| .th <| .ret <| .ret1 (P := p4) (sel := []) ⟨rfl, rfl⟩ rfl rfl (.tmp rfl) .rf .nil rfl
                      · exact .no 115 rfl rfl rfl rfl <| .pickF rfl rfl rfl <| .sg rfl rfl <| .nil <| .th <| .ret <| .ret1 (P := p4) (sel := []) ⟨rfl, rfl⟩ rfl rfl (.tmp rfl) .rf .nil rfl
                    · refine .no 110 rfl rfl rfl rfl <| .no 110 rfl rfl rfl rfl <| .no 110 rfl rfl rfl rfl <| .pickF rfl rfl rfl <| .mv rfl rfl <| .no 115 rfl rfl rfl rfl <| .pickF rfl rfl rfl <| .sg rfl rfl <| .nil <| .th <| .ret <| ?_
                      exact .ret1 (P := p4) (sel := []) ⟨rfl, rfl⟩ rfl rfl (.tmp rfl) .rf .nil rfl
                  · refine .no 105 rfl rfl rfl rfl <| .no 105 rfl rfl rfl rfl <| .no 105 rfl rfl rfl rfl <| .pickF rfl rfl rfl <| .mv rfl rfl <| .no 110 rfl rfl rfl rfl <| .no 110 rfl rfl rfl rfl <| .no 110 rfl rfl rfl rfl <| .pickF rfl rfl rfl <| ?_
                    exact .mv rfl rfl <| .no 115 rfl rfl rfl rfl <| .pickF rfl rfl rfl <| .sg rfl rfl <| .nil <| .th <| .ret <| .ret1 (P := p4) (sel := []) ⟨rfl, rfl⟩ rfl rfl (.tmp rfl) .rf .nil rfl
noncomputable def m17_1 (a0 : ApiCore) (a1 : List Int) : ((List ApiValue) × Int) → Option ((List ApiValue)) := Lp fun (s5_0, s6_0) => if (decide (s6_0 < (a0.ops.length : Int))) then (ix a0.ops s6_0).bind fun z1 => (m43 z1 s5_0 a1).bind fun z2 => (ap s5_0 ([z2] : List ApiValue)).bind fun z3 => some (.inl (z3, (wi (s6_0 + 1)))) else (some s5_0).map .inr
noncomputable def m17 (a0 : ApiCore) (a1 : List Int) : Option (List ApiValue) := m17_1 a0 a1 (([] : List ApiValue), 0)
abbrev p17 (r : (List ApiValue)) (v : V) (H : List Ob) : Prop := v = vL 2 eApiValue r ∧ H = []
theorem c17 {a0 : ApiCore} {a1 : List Int} {r : (List ApiValue)} (h : m17 a0 a1 = some r) : CP Tryz.prog 17 [.agg ((eApiCore a0).map .p), vL 1 eI a1] (vL 2 eApiValue r) := by
  refine CD.ofM (P := p17) h Tryz.func17 rfl Tryz.ntmps17 rfl fun w g => ?_
  refine .ext 1 ?_
  refine .seq <| .region <| .bxE (cs := eApiCore a0) rfl rfl rfl rfl <| .sg rfl rfl <| .nil <| .th <| .seq <| .region <| .bsT 0 ([] : List ApiValue) eApiValue Tryz.runUnderlying32 Tryz.sizeOf55 Tryz.zeroValue55 rfl rfl rfl rfl rfl rfl rfl rfl rfl rfl <| ?_
  refine .sg rfl rfl <| .nil <| .th <| .seq <| .seq <| .region <| .sg rfl rfl <| .nil <| .th <| .blk <| .loop (α := (((List ApiValue) × Int) × Nat)) (·.1) (fun ((s5_0, s6_0), v0_0) => [(1, vL 1 eI a1), (2, .el (eApiCore a0)), (5, tk 2 eApiValue s5_0 0 v0_0), (6, vI s6_0)]) (fun ((s5_0, s6_0), v0_0) => [.tok 55 2 v0_0]) ((([] : List ApiValue), 0), 0) rfl (.s rfl (.s rfl (.s rfl (.s rfl .n)))) rfl ?_
  rintro ⟨⟨s5_0, s6_0⟩, v0_0⟩ n
  refine .seq <| .seq <| .region <| .mv rfl rfl <| .fE fa26_1 rfl rfl rfl <| .lE Tryz.isAgg23 rfl rfl rfl <| .ln Tryz.runUnderlying23 rfl sls_p rfl <| .lss rfl rfl rfl <| .nil <| .th <| .cond rfl ?_ ?_
  · refine .skip <| .th <| .seq <| .blk <| .region <| .mv rfl rfl <| .fE fa26_1 rfl rfl rfl <| .lE Tryz.isAgg23 rfl rfl rfl <| .mv rfl rfl <| .ix Tryz.runUnderlying23 Tryz.sizeOf58 rfl rfl sls_p eApiOp_len rfl fun z1 => ?_
    refine .lEA Tryz.isAgg58 Tryz.sizeOf58 rfl rfl rfl <| .mv rfl rfl <| .mv rfl rfl <| .cw (fun _ => c43) (fun _ _ => rfl) (.s rfl (.c rfl .tkp (.s rfl .n))) rfl (fun _ => rfl) rfl fun z2 => .bs ([z2] : List ApiValue) eApiValue Tryz.runUnderlying32 Tryz.sizeOf55 Tryz.zeroValue55 rfl rfl rfl rfl rfl rfl rfl rfl <| ?_
    exact .ap Tryz.under32 info55 rfl (by decide) rfl rfl rfl sls_p eApiValue_one rfl rfl fun z3 => .sg rfl rfl <| .nil <| .blk <| .th <| .region <| .mv rfl rfl <| .add rfl rfl rfl <| .sg rfl rfl <| .nil <| .next ((z3, (wi (s6_0 + 1))), v0_0 + 1) rfl (.s rfl (.s rfl (.s rfl (.s rfl .n)))) rfl
  · exact .exit <| .thE <| .lpE <| .blkE <| .th <| .seq <| .region <| .mv rfl rfl <| .sg rfl rfl <| .nil <| .th <| .ret <| .ret1 (P := p17) (sel := []) ⟨rfl, rfl⟩ rfl rfl (.tmp rfl) .tkp .nil rfl
noncomputable def m18_1 (a0 : ApiCore) (z1 : (List ApiValue)) : ((List ApiValue) × Int) → Option ((List ApiValue)) := Lp fun (s6_0, s7_0) => if (decide (s7_0 < (a0.roots.length : Int))) then (ix a0.roots s7_0).bind fun z2 => (ix z1 z2).bind fun z3 => (ap s6_0 ([z3] : List ApiValue)).bind fun z4 => some (.inl (z4, (wi (s7_0 + 1)))) else (some s6_0).map .inr
noncomputable def m18 (a0 : ApiCore) (a1 : List Int) : Option (List ApiValue) := (m17 a0 a1).bind fun z1 => m18_1 a0 z1 (([] : List ApiValue), 0)
abbrev p18 (r : (List ApiValue)) (v : V) (H : List Ob) : Prop := v = vL 2 eApiValue r ∧ H = []
theorem c18 {a0 : ApiCore} {a1 : List Int} {r : (List ApiValue)} (h : m18 a0 a1 = some r) : CP Tryz.prog 18 [.agg ((eApiCore a0).map .p), vL 1 eI a1] (vL 2 eApiValue r) := by
  refine CD.ofM (P := p18) h Tryz.func18 rfl Tryz.ntmps18 rfl fun w g => ?_
  refine .ext 1 ?_
  refine .seq <| .region <| .bxE (cs := eApiCore a0) rfl rfl rfl rfl <| .sg rfl rfl <| .nil <| .th <| .seq <| .region <| .lEA Tryz.isAgg26 Tryz.sizeOf26 rfl rfl rfl <| .mv rfl rfl <| .cw (fun _ => c17) (fun _ _ => rfl) (.s rfl (.s rfl .n)) rfl (fun _ => rfl) rfl fun z1 => ?_
  refine .bsT 0 ([] : List ApiValue) eApiValue Tryz.runUnderlying32 Tryz.sizeOf55 Tryz.zeroValue55 rfl rfl rfl rfl rfl rfl rfl rfl rfl rfl <| .sg rfl rfl <| .sg rfl rfl <| .nil <| .th <| .seq <| .seq <| .region <| ?_
  refine .sg rfl rfl <| .nil <| .th <| .blk <| .loop (α := (((List ApiValue) × Int) × Nat)) (·.1) (fun ((s6_0, s7_0), v0_0) => [(2, .el (eApiCore a0)), (5, vL 2 eApiValue z1), (6, tk 2 eApiValue s6_0 0 v0_0), (7, vI s7_0)]) (fun ((s6_0, s7_0), v0_0) => [.tok 55 2 v0_0]) ((([] : List ApiValue), 0), 0) rfl (.s rfl (.s rfl (.s rfl (.s rfl .n)))) rfl ?_
  rintro ⟨⟨s6_0, s7_0⟩, v0_0⟩ n
  refine .seq <| .seq <| .region <| .mv rfl rfl <| .fE fa26_2 rfl rfl rfl <| .lE Tryz.isAgg24 rfl rfl rfl <| .ln Tryz.runUnderlying24 rfl sls_p rfl <| .lss rfl rfl rfl <| .nil <| .th <| .cond rfl ?_ ?_
  · refine .skip <| .th <| .seq <| .blk <| .region <| .mv rfl rfl <| .mv rfl rfl <| .fE fa26_2 rfl rfl rfl <| .lE Tryz.isAgg24 rfl rfl rfl <| .mv rfl rfl <| .ix Tryz.runUnderlying24 Tryz.sizeOf3 rfl rfl sls_p (fun _ => rfl) rfl fun z2 => ?_
    refine .lE Tryz.isAgg3 rfl rfl rfl <| .ix Tryz.runUnderlying32 Tryz.sizeOf55 rfl rfl sls_p eApiValue_len rfl fun z3 => .lEA Tryz.isAgg55 Tryz.sizeOf55 rfl rfl rfl <| .bs ([z3] : List ApiValue) eApiValue Tryz.runUnderlying32 Tryz.sizeOf55 Tryz.zeroValue55 rfl rfl rfl rfl rfl rfl rfl rfl <| ?_
    exact .ap Tryz.under32 info55 rfl (by decide) rfl rfl rfl sls_p eApiValue_one rfl rfl fun z4 => .sg rfl rfl <| .nil <| .blk <| .th <| .region <| .mv rfl rfl <| .add rfl rfl rfl <| .sg rfl rfl <| .nil <| .next ((z4, (wi (s7_0 + 1))), v0_0 + 1) rfl (.s rfl (.s rfl (.s rfl (.s rfl .n)))) rfl
  · exact .exit <| .thE <| .lpE <| .blkE <| .th <| .seq <| .region <| .mv rfl rfl <| .sg rfl rfl <| .nil <| .th <| .ret <| .ret1 (P := p18) (sel := []) ⟨rfl, rfl⟩ rfl rfl (.tmp rfl) .tkp .nil rfl
noncomputable def md160 (z : Nat) (a0 : Int) : Option ApiValue := if z = 1 then m136 a0 else if z = 2 then m137 a0 else none
theorem dsp160 {z : Nat} {a0 : Int} {r : ApiValue} (h : md160 z a0 = some r) : FnCall Tryz.prog (vF160 z) [vI a0] (.agg ((eApiValue r).map .p)) := by
  unfold md160 at h
  by_cases e : z = 1
  · subst e; rw [if_pos rfl] at h; exact .c0 (c136 h) (fun _ _ => rfl) rfl rfl rfl
  rw [if_neg e] at h
  by_cases e : z = 2
  · subst e; rw [if_pos rfl] at h; exact .c0 (c137 h) (fun _ _ => rfl) rfl rfl rfl
  rw [if_neg e] at h
  cases h
noncomputable def m67 (a0 : Int) (a1 : ApiValue) : Option (ApiValue × Int) := (m96 a0).bind fun z1 => if (decide (z1 = 0)) then some (⟨0, 0⟩, 2) else (m97 a1).bind fun z2 => if (!z2) then some (⟨0, 0⟩, 2) else (m98 ([a1] : List ApiValue)).bind fun z3 => if z3.2 then some (⟨z3.1.fault, z3.1.n⟩, 0) else (md160 z1 a1.n).bind fun z4 => some (⟨z4.fault, z4.n⟩, 0)
abbrev p67 (r : ApiValue × Int) (v : V) (H : List Ob) : Prop := v = .tup [.agg ((eApiValue r.1).map .p), vI r.2] ∧ H = []
theorem c67 {a0 : Int} {a1 : ApiValue} {r : ApiValue × Int} (h : m67 a0 a1 = some r) : CP Tryz.prog 67 [v8 a0, .agg ((eApiValue a1).map .p)] (.tup [.agg ((eApiValue r.1).map .p), vI r.2]) := by
  refine CD.ofM (P := p67) h Tryz.func67 rfl Tryz.ntmps67 rfl fun w g => ?_
  refine .ext 2 ?_
  refine .seq <| .region <| .bxE (cs := eApiValue a1) rfl rfl rfl rfl <| .al 0 Tryz.zeroValue55 rfl rfl rfl <| .sg rfl rfl <| .nil <| .th <| .seq <| .region <| .mv rfl rfl <| .cw (fun _ => c96) (fun _ _ => rfl) (.s rfl .n) rfl (fun z => vFren160 z _) rfl fun z1 => ?_
  refine .sg rfl rfl <| .nil <| .th <| .seq <| .seq <| .region <| .mv rfl rfl <| .q (i_eqF Tryz.runUnderlying160 rfl rfl (isF160 _)) rfl <| .mv rfl rfl <| .fork 13 rfl ?_ ?_
  · refine .no 13 rfl rfl rfl rfl <| .no 13 rfl rfl rfl rfl <| .no 13 rfl rfl rfl rfl <| .pickT rfl rfl rfl <| .nil <| .th <| .condT rfl <| .seq <| .region <| .bu bu55 rfl rfl rfl rfl <| .st Tryz.sizeOf55 rfl rfl rfl rfl rfl rfl <| ?_
    exact .sg rfl rfl <| .nil <| .th <| .ret <| .thR <| .ret2 (P := p67) (sel := []) ⟨rfl, rfl⟩ rfl rfl (.cellA rfl rfl Tryz.isAgg55 Tryz.sizeOf55 rfl) (.tmp rfl) .rf .rf .nil rfl
  · refine .yes 13 rfl rfl rfl <| .lEA Tryz.isAgg55 Tryz.sizeOf55 rfl rfl rfl <| .yes 13 rfl rfl rfl <| .cw (fun _ => c97) (fun _ _ => rfl) (.s rfl .n) rfl (fun _ => rfl) rfl fun z2 => .yes 13 rfl rfl rfl <| .not rfl rfl <| ?_
    refine .pickF rfl rfl rfl <| .nil <| .th <| .cond rfl ?_ ?_
    · exact .seq <| .region <| .bu bu55 rfl rfl rfl rfl <| .st Tryz.sizeOf55 rfl rfl rfl rfl rfl rfl <| .sg rfl rfl <| .nil <| .th <| .ret <| .thR <| .ret2 (P := p67) (sel := []) ⟨rfl, rfl⟩ rfl rfl (.cellA rfl rfl Tryz.isAgg55 Tryz.sizeOf55 rfl) (.tmp rfl) .rf .rf .nil rfl
    · refine .skip <| .th <| .seq <| .seq <| .region <| .lEA Tryz.isAgg55 Tryz.sizeOf55 rfl rfl rfl <| .bs ([a1] : List ApiValue) eApiValue Tryz.runUnderlying32 Tryz.sizeOf55 Tryz.zeroValue55 rfl rfl rfl rfl rfl rfl rfl rfl <| ?_
      refine .cw (fun _ => c98) (fun _ _ => rfl) (.s rfl .n) rfl (fun _ => rfl) rfl fun z3 => .mv rfl rfl <| .xt rfl rfl rfl <| .xt rfl rfl rfl <| .al 1 Tryz.zeroValue55 rfl rfl rfl <| .st Tryz.sizeOf55 rfl rfl rfl rfl rfl rfl <| ?_
      refine .sg rfl rfl <| .nil <| .th <| .seq <| .region <| .mv rfl rfl <| .nil <| .th <| .cond rfl ?_ ?_
      · exact .seq <| .region <| .lRA Tryz.isAgg55 Tryz.sizeOf55 rfl rfl rfl rfl <| .st Tryz.sizeOf55 rfl rfl rfl rfl rfl rfl <| .sg rfl rfl <| .nil <| .th <| .ret <| .thR <| .ret2 (P := p67) (sel := []) ⟨rfl, rfl⟩ rfl rfl (.cellA rfl rfl Tryz.isAgg55 Tryz.sizeOf55 rfl) (.tmp rfl) .rf .rf .nil rfl
      · refine .skip <| .th <| .seq <| .region <| .mv rfl rfl <| .fE fa55_1 rfl rfl rfl <| .lE Tryz.isAgg3 rfl rfl rfl <| .fv rfl (fun _ h => dsp160 h) (.s rfl .n) rfl fun z4 => .st Tryz.sizeOf55 rfl rfl rfl rfl rfl rfl <| ?_
        exact .sg rfl rfl <| .nil <| .th <| .ret <| .ret2 (P := p67) (sel := []) ⟨rfl, rfl⟩ rfl rfl (.cellA rfl rfl Tryz.isAgg55 Tryz.sizeOf55 rfl) (.tmp rfl) .rf .rf .nil rfl
noncomputable def m38 (a0 : ApiOp) (a1 : List Int) (a2 : List ApiValue) : Option ApiValue := if (decide (a0.code = 1)) then (m66 a0.n).bind fun z1 => some ⟨z1.fault, z1.n⟩ else if (decide (a0.code = 2)) then some ⟨(w8 (a0.n)), 0⟩ else if (decide (a0.code = 3)) then (ix a1 a0.n).bind fun z2 => (m66 z2).bind fun z3 => some ⟨z3.fault, z3.n⟩ else if ((decide (a0.code = 5)) || (decide (a0.code = 6))) then (ix a2 a0.a).bind fun z4 => (m67 a0.code z4).bind fun z5 => some ⟨z5.1.fault, z5.1.n⟩ else if (decide (a0.code = 17)) then (ix a2 a0.a).bind fun z6 => (ix a2 a0.b).bind fun z7 => (ix a2 a0.c).bind fun z8 => (m68 z6 z7 z8).bind fun z9 => some ⟨z9.1.fault, z9.1.n⟩ else (ix a2 a0.a).bind fun z10 => (ix a2 a0.b).bind fun z11 => (m69 a0.code z10 z11).bind fun z12 => some ⟨z12.1.fault, z12.1.n⟩
abbrev p38 (r : ApiValue) (v : V) (H : List Ob) : Prop := v = .agg ((eApiValue r).map .p) ∧ H = []
theorem c38 {a0 : ApiOp} {a1 : List Int} {a2 : List ApiValue} {r : ApiValue} (h : m38 a0 a1 a2 = some r) : CP Tryz.prog 38 [.agg ((eApiOp a0).map .p), vL 1 eI a1, vL 2 eApiValue a2] (.agg ((eApiValue r).map .p)) := by
  refine CD.ofM (P := p38) h Tryz.func38 rfl Tryz.ntmps38 rfl fun w g => ?_
  refine .ext 1 ?_
  refine .seq <| .region <| .bxE (cs := eApiOp a0) rfl rfl rfl rfl <| .al 0 Tryz.zeroValue55 rfl rfl rfl <| .nil <| .th <| .seq <| .seq <| .region <| .fE fa58_0 rfl rfl rfl <| .lE Tryz.isAgg5 rfl rfl rfl <| .nil <| ?_
  refine .th <| .blk <| .seq <| .region <| .eql rfl rfl rfl <| .sg rfl rfl <| .nil <| .th <| .cond rfl ?_ ?_
  · refine .seq <| .region <| .fE fa58_4 rfl rfl rfl <| .lE Tryz.isAgg3 rfl rfl rfl <| .cw (fun _ => c66) (fun _ _ => rfl) (.s rfl .n) rfl (fun _ => rfl) rfl fun z1 => .st Tryz.sizeOf55 rfl rfl rfl rfl rfl rfl <| ?_
    exact .nil <| .th <| .ret <| .blkR <| .thR <| .ret1 (P := p38) (sel := []) ⟨rfl, rfl⟩ rfl rfl (.cellA rfl rfl Tryz.isAgg55 Tryz.sizeOf55 rfl) .rf .nil rfl
  · refine .seq <| .region <| .eql rfl rfl rfl <| .sg rfl rfl <| .nil <| .th <| .cond rfl ?_ ?_
    · refine .seq <| .region <| .fE fa58_4 rfl rfl rfl <| .lE Tryz.isAgg3 rfl rfl rfl <| .cv Tryz.runUnderlying3 Tryz.runUnderlying5 rfl rfl <| .bu bu55 rfl rfl rfl rfl <| .st Tryz.sizeOf55 rfl rfl rfl rfl rfl rfl <| ?_
      exact .nil <| .th <| .ret <| .blkR <| .thR <| .ret1 (P := p38) (sel := []) ⟨rfl, rfl⟩ rfl rfl (.cellA rfl rfl Tryz.isAgg55 Tryz.sizeOf55 rfl) .rf .nil rfl
    · refine .seq <| .region <| .eql rfl rfl rfl <| .sg rfl rfl <| .nil <| .th <| .cond rfl ?_ ?_
      · refine .seq <| .region <| .mv rfl rfl <| .fE fa58_4 rfl rfl rfl <| .lE Tryz.isAgg3 rfl rfl rfl <| .ix Tryz.runUnderlying24 Tryz.sizeOf3 rfl rfl sls_p (fun _ => rfl) rfl fun z2 => .lE Tryz.isAgg3 rfl rfl rfl <| ?_
        exact .cw (fun _ => c66) (fun _ _ => rfl) (.s rfl .n) rfl (fun _ => rfl) rfl fun z3 => .st Tryz.sizeOf55 rfl rfl rfl rfl rfl rfl <| .nil <| .th <| .ret <| .blkR <| .thR <| .ret1 (P := p38) (sel := []) ⟨rfl, rfl⟩ rfl rfl (.cellA rfl rfl Tryz.isAgg55 Tryz.sizeOf55 rfl) .rf .nil rfl
      · refine .seq <| .seq <| .region <| .eql rfl rfl rfl <| .sg rfl rfl <| .nil <| .th <| .or (r := (decide (a0.code = 6))) rfl (fun c => ?_) ?_
        · exact .region <| .eql rfl rfl rfl <| .sg rfl rfl <| .nil <| c _ (.up rfl rfl rfl)
        · refine .th <| .cond rfl ?_ ?_
          · refine .any Tryz.mixed <| .fE fa58_0 rfl rfl .n <| .lE Tryz.isAgg5 rfl rfl .n <| .mv rfl .n <| .fE fa58_1 rfl rfl .n <| .lE Tryz.isAgg3 rfl rfl .n <| .ix Tryz.runUnderlying32 Tryz.sizeOf55 rfl rfl sls_p eApiValue_len .n fun z4 => ?_
            refine .lEA Tryz.isAgg55 Tryz.sizeOf55 rfl rfl .n <| .cw (fun _ => c67) (fun _ _ => rfl) (.s rfl (.s rfl .n)) rfl (fun _ => rfl) .n fun z5 => .mv rfl .n <| .xt rfl rfl .n <| .xt rfl rfl .n <| .st Tryz.sizeOf55 rfl rfl rfl rfl rfl rfl .n <| ?_
            exact .nil (by kernel_rfl) <| .blk <| .th <| .seq <| .region <| .lRA Tryz.isAgg55 Tryz.sizeOf55 rfl rfl rfl rfl <| .st Tryz.sizeOf55 rfl rfl rfl rfl rfl rfl <| .nil <| .th <| .ret <| .ret1 (P := p38) (sel := []) ⟨rfl, rfl⟩ rfl rfl (.cellA rfl rfl Tryz.isAgg55 Tryz.sizeOf55 rfl) .rf .nil rfl
          · refine .seq <| .region <| .eql rfl rfl rfl <| .sg rfl rfl <| .nil <| .th <| .cond rfl ?_ ?_
            · refine .any Tryz.mixed <| .mv rfl .n <| .fE fa58_1 rfl rfl .n <| .lE Tryz.isAgg3 rfl rfl .n <| .ix Tryz.runUnderlying32 Tryz.sizeOf55 rfl rfl sls_p eApiValue_len .n fun z6 => .lEA Tryz.isAgg55 Tryz.sizeOf55 rfl rfl .n <| ?_
              refine .mv rfl .n <| .fE fa58_2 rfl rfl .n <| .lE Tryz.isAgg3 rfl rfl .n <| .ix Tryz.runUnderlying32 Tryz.sizeOf55 rfl rfl sls_p eApiValue_len .n fun z7 => .lEA Tryz.isAgg55 Tryz.sizeOf55 rfl rfl .n <| .mv rfl .n <| ?_
              refine .fE fa58_3 rfl rfl .n <| .lE Tryz.isAgg3 rfl rfl .n <| .ix Tryz.runUnderlying32 Tryz.sizeOf55 rfl rfl sls_p eApiValue_len .n fun z8 => .lEA Tryz.isAgg55 Tryz.sizeOf55 rfl rfl .n <| .cw (fun _ => c68) (fun _ _ => rfl) (.s rfl (.s rfl (.s rfl .n))) rfl (fun _ => rfl) .n fun z9 => ?_
              refine .mv rfl .n <| .xt rfl rfl .n <| .xt rfl rfl .n <| .st Tryz.sizeOf55 rfl rfl rfl rfl rfl rfl .n <| .nil (by kernel_rfl) <| .blk <| .th <| .seq <| .region <| .lRA Tryz.isAgg55 Tryz.sizeOf55 rfl rfl rfl rfl <| ?_
              exact .st Tryz.sizeOf55 rfl rfl rfl rfl rfl rfl <| .nil <| .th <| .ret <| .ret1 (P := p38) (sel := []) ⟨rfl, rfl⟩ rfl rfl (.cellA rfl rfl Tryz.isAgg55 Tryz.sizeOf55 rfl) .rf .nil rfl
            · refine .any Tryz.mixed <| .fE fa58_0 rfl rfl .n <| .lE Tryz.isAgg5 rfl rfl .n <| .mv rfl .n <| .fE fa58_1 rfl rfl .n <| .lE Tryz.isAgg3 rfl rfl .n <| .ix Tryz.runUnderlying32 Tryz.sizeOf55 rfl rfl sls_p eApiValue_len .n fun z10 => ?_
              refine .lEA Tryz.isAgg55 Tryz.sizeOf55 rfl rfl .n <| .mv rfl .n <| .fE fa58_2 rfl rfl .n <| .lE Tryz.isAgg3 rfl rfl .n <| .ix Tryz.runUnderlying32 Tryz.sizeOf55 rfl rfl sls_p eApiValue_len .n fun z11 => .lEA Tryz.isAgg55 Tryz.sizeOf55 rfl rfl .n <| ?_
              refine .cw (fun _ => c69) (fun _ _ => rfl) (.s rfl (.s rfl (.s rfl .n))) rfl (fun _ => rfl) .n fun z12 => .mv rfl .n <| .xt rfl rfl .n <| .xt rfl rfl .n <| .st Tryz.sizeOf55 rfl rfl rfl rfl rfl rfl .n <| .nil (by kernel_rfl) <| ?_
              exact .blk <| .th <| .seq <| .region <| .lRA Tryz.isAgg55 Tryz.sizeOf55 rfl rfl rfl rfl <| .st Tryz.sizeOf55 rfl rfl rfl rfl rfl rfl <| .nil <| .th <| .ret <| .ret1 (P := p38) (sel := []) ⟨rfl, rfl⟩ rfl rfl (.cellA rfl rfl Tryz.isAgg55 Tryz.sizeOf55 rfl) .rf .nil rfl
noncomputable def m10_1 (a0 : ApiCore) (a1 : List Int) : ((List ApiValue) × Int) → Option ((List ApiValue) × Int) := Lp fun (s4_0, s26_0) => if (decide (s26_0 < (a0.ops.length : Int))) then (ix a0.ops s26_0).bind fun z4 => (m38 ⟨z4.code, z4.a, z4.b, z4.c, z4.n⟩ a1 s4_0).bind fun z5 => (ap s4_0 ([z5] : List ApiValue)).bind fun z6 => some (.inl (z6, (wi (s26_0 + 1)))) else (some (s4_0, 0)).map .inr
noncomputable def m10 (a0 : ApiCore) (a1 : List Int) : Option ((List ApiValue) × Int) := (m9 a0).bind fun z1 => if (!decide (z1 = 0)) then some ([], z1) else (m35i2 a0.ops).bind fun z2 => if z2 then some ([], 9) else (m37 a0 a1).bind fun z3 => if (!z3) then some ([], 3) else m10_1 a0 a1 ([], 0)
abbrev p10 (r : (List ApiValue) × Int) (v : V) (H : List Ob) : Prop := v = .tup [vL 2 eApiValue r.1, vI r.2] ∧ H = []
theorem c10 {a0 : ApiCore} {a1 : List Int} {r : (List ApiValue) × Int} (h : m10 a0 a1 = some r) : CP Tryz.prog 10 [.agg ((eApiCore a0).map .p), vL 1 eI a1] (.tup [vL 2 eApiValue r.1, vI r.2]) := by
  refine CD.ofM (P := p10) h Tryz.func10 rfl Tryz.ntmps10 rfl fun w g => ?_
  refine .ext 2 ?_
  refine .seq <| .region <| .bxE (cs := eApiCore a0) rfl rfl rfl rfl <| .sg rfl rfl <| .sg rfl rfl <| .nil <| .th <| .seq <| .region <| .lEA Tryz.isAgg26 Tryz.sizeOf26 rfl rfl rfl <| .cw (fun _ => c9) (fun _ _ => rfl) (.s rfl .n) rfl (fun _ => rfl) rfl fun z1 => ?_
  refine .sg rfl rfl <| .nil <| .th <| .seq <| .blk <| .seq <| .region <| .mv rfl rfl <| .neq rfl rfl rfl <| .sg rfl rfl <| .nil <| .th <| .cond rfl ?_ ?_
  · exact .seq <| .region <| .mv rfl rfl <| .sg rfl rfl <| .sg rfl rfl <| .nil <| .th <| .ret <| .blkR <| .thR <| .ret2 (P := p10) (sel := []) ⟨rfl, rfl⟩ rfl rfl (.tmp rfl) (.tmp rfl) .nil .rf .nil rfl
  · refine .seq <| .region <| .fE fa26_1 rfl rfl rfl <| .lE Tryz.isAgg23 rfl rfl rfl <| .cd [] [] (fun z h => ⟨c35i2 h, .mk' rfl, rfl, rfl⟩) (fun _ _ => rfl) (.s rfl (.s rfl .n)) rd0 rfl fun z2 => .sg rfl rfl <| .nil <| ?_
    refine .th <| .cond rfl ?_ ?_
    · exact .seq <| .region <| .sg rfl rfl <| .sg rfl rfl <| .nil <| .th <| .ret <| .blkR <| .thR <| .ret2 (P := p10) (sel := []) ⟨rfl, rfl⟩ rfl rfl (.tmp rfl) (.tmp rfl) .nil .rf .nil rfl
    · refine .seq <| .region <| .lEA Tryz.isAgg26 Tryz.sizeOf26 rfl rfl rfl <| .mv rfl rfl <| .cw (fun _ => c37) (fun _ _ => rfl) (.s rfl (.s rfl .n)) rfl (fun _ => rfl) rfl fun z3 => .not rfl rfl <| .sg rfl rfl <| ?_
      refine .nil <| .th <| .cond rfl ?_ ?_
      · exact .seq <| .region <| .sg rfl rfl <| .sg rfl rfl <| .nil <| .th <| .ret <| .blkR <| .thR <| .ret2 (P := p10) (sel := []) ⟨rfl, rfl⟩ rfl rfl (.tmp rfl) (.tmp rfl) .nil .rf .nil rfl
      · refine .skip <| .blk <| .th <| .seq <| .seq <| .region <| .fE fa26_1 rfl rfl rfl <| .lE Tryz.isAgg23 rfl rfl rfl <| .ln Tryz.runUnderlying23 rfl sls_p rfl <| .mv rfl rfl <| .nil <| .th <| .blk <| .nilL eApiValue 55 2 0 4 rfl rfl <| ?_
        refine .loop (α := (((List ApiValue) × Int) × Nat)) (·.1) (fun ((s4_0, s26_0), v0_0) => [(1, vL 1 eI a1), (4, tk 2 eApiValue s4_0 0 v0_0), (24, vL 5 eApiOp a0.ops), (25, vI (a0.ops.length : Int)), (26, vI s26_0)]) (fun ((s4_0, s26_0), v0_0) => [.tok 55 2 v0_0, .dead]) (([], 0), 0) rfl (.s rfl (.s rfl (.s rfl (.s rfl (.s rfl .n))))) rfl ?_
        rintro ⟨⟨s4_0, s26_0⟩, v0_0⟩ n
        refine .seq <| .region <| .lss rfl rfl rfl <| .nil <| .th <| .seq <| .cond rfl ?_ ?_
        · refine .skip <| .th <| .seq <| .blk <| .seq <| .region <| .ix Tryz.runUnderlying23 Tryz.sizeOf58 rfl rfl sls_p eApiOp_len rfl fun z4 => .lEA Tryz.isAgg58 Tryz.sizeOf58 rfl rfl rfl <| .al 1 Tryz.zeroValue58 rfl rfl rfl <| ?_
          refine .st Tryz.sizeOf58 rfl rfl rfl rfl rfl rfl <| .nil <| .th <| .region <| .mv rfl rfl <| .lRA Tryz.isAgg58 Tryz.sizeOf58 rfl rfl rfl rfl <| .mv rfl rfl <| .mv rfl rfl <| .cw (fun _ => c38) (fun _ _ => rfl) (.s rfl (.s rfl (.c rfl .tkp .n))) rfl (fun _ => rfl) rfl fun z5 => ?_
          refine .bs ([z5] : List ApiValue) eApiValue Tryz.runUnderlying32 Tryz.sizeOf55 Tryz.zeroValue55 rfl rfl rfl rfl rfl rfl rfl rfl <| .ap Tryz.under32 info55 rfl (by decide) rfl rfl rfl sls_p eApiValue_one rfl rfl fun z6 => ?_
          exact .sg rfl rfl <| .nil <| .blk <| .th <| .region <| .add rfl rfl rfl <| .mv rfl rfl <| .nil <| .nextK [1] ((z6, (wi (s26_0 + 1))), v0_0 + 1) rfl (.s rfl (.s rfl (.s rfl (.s rfl (.s rfl .n))))) rfl rfl
        · exact .exit <| .thE <| .lpE <| .blkE <| .th <| .seq <| .region <| .mv rfl rfl <| .sg rfl rfl <| .sg rfl rfl <| .nil <| .th <| .ret <| .ret2 (P := p10) (sel := []) ⟨rfl, rfl⟩ rfl rfl (.tmp rfl) (.tmp rfl) .tkp .rf .nil rfl
noncomputable def m11_1 (a0 : ApiCore) (z1 : (List ApiValue) × Int) : ((List ApiValue) × Int) → Option ((List ApiValue) × Int) := Lp fun (s4_0, s21_0) => if (decide (s21_0 < (a0.roots.length : Int))) then (ix a0.roots s21_0).bind fun z2 => (ix z1.1 z2).bind fun z3 => (ap s4_0 ([z3] : List ApiValue)).bind fun z4 => some (.inl (z4, (wi (s21_0 + 1)))) else (some (s4_0, 0)).map .inr
noncomputable def m11 (a0 : ApiCore) (a1 : List Int) : Option ((List ApiValue) × Int) := (m10 a0 a1).bind fun z1 => if (!decide (z1.2 = 0)) then some ([], z1.2) else m11_1 a0 z1 ([], 0)
abbrev p11 (r : (List ApiValue) × Int) (v : V) (H : List Ob) : Prop := v = .tup [vL 2 eApiValue r.1, vI r.2] ∧ H = []
theorem c11 {a0 : ApiCore} {a1 : List Int} {r : (List ApiValue) × Int} (h : m11 a0 a1 = some r) : CP Tryz.prog 11 [.agg ((eApiCore a0).map .p), vL 1 eI a1] (.tup [vL 2 eApiValue r.1, vI r.2]) := by
  refine CD.ofM (P := p11) h Tryz.func11 rfl Tryz.ntmps11 rfl fun w g => ?_
  refine .ext 1 ?_
  refine .seq <| .region <| .bxE (cs := eApiCore a0) rfl rfl rfl rfl <| .sg rfl rfl <| .sg rfl rfl <| .nil <| .th <| .seq <| .region <| .lEA Tryz.isAgg26 Tryz.sizeOf26 rfl rfl rfl <| .mv rfl rfl <| .cw (fun _ => c10) (fun _ _ => rfl) (.s rfl (.s rfl .n)) rfl (fun _ => rfl) rfl fun z1 => ?_
  refine .mv rfl rfl <| .xt rfl rfl rfl <| .xt rfl rfl rfl <| .sg rfl rfl <| .sg rfl rfl <| .nil <| .th <| .seq <| .seq <| .region <| .mv rfl rfl <| .neq rfl rfl rfl <| .nil <| .th <| .cond rfl ?_ ?_
  · exact .seq <| .region <| .mv rfl rfl <| .sg rfl rfl <| .sg rfl rfl <| .nil <| .th <| .ret <| .thR <| .ret2 (P := p11) (sel := []) ⟨rfl, rfl⟩ rfl rfl (.tmp rfl) (.tmp rfl) .nil .rf .nil rfl
  · refine .skip <| .th <| .seq <| .seq <| .region <| .fE fa26_2 rfl rfl rfl <| .lE Tryz.isAgg24 rfl rfl rfl <| .ln Tryz.runUnderlying24 rfl sls_p rfl <| .mv rfl rfl <| .nil <| .th <| .blk <| .nilL eApiValue 55 2 0 4 rfl rfl <| ?_
    refine .loop (α := (((List ApiValue) × Int) × Nat)) (·.1) (fun ((s4_0, s21_0), v0_0) => [(4, tk 2 eApiValue s4_0 0 v0_0), (6, vL 2 eApiValue z1.1), (19, vL 1 eI a0.roots), (20, vI (a0.roots.length : Int)), (21, vI s21_0)]) (fun ((s4_0, s21_0), v0_0) => [.tok 55 2 v0_0]) (([], 0), 0) rfl (.s rfl (.s rfl (.s rfl (.s rfl (.s rfl .n))))) rfl ?_
    rintro ⟨⟨s4_0, s21_0⟩, v0_0⟩ n
    refine .seq <| .region <| .lss rfl rfl rfl <| .nil <| .th <| .seq <| .cond rfl ?_ ?_
    · refine .skip <| .th <| .seq <| .blk <| .seq <| .region <| .ix Tryz.runUnderlying24 Tryz.sizeOf3 rfl rfl sls_p (fun _ => rfl) rfl fun z2 => .lE Tryz.isAgg3 rfl rfl rfl <| .sg rfl rfl <| .nil <| .th <| .region <| ?_
      refine .mv rfl rfl <| .mv rfl rfl <| .mv rfl rfl <| .ix Tryz.runUnderlying32 Tryz.sizeOf55 rfl rfl sls_p eApiValue_len rfl fun z3 => .lEA Tryz.isAgg55 Tryz.sizeOf55 rfl rfl rfl <| .bs ([z3] : List ApiValue) eApiValue Tryz.runUnderlying32 Tryz.sizeOf55 Tryz.zeroValue55 rfl rfl rfl rfl rfl rfl rfl rfl <| ?_
      exact .ap Tryz.under32 info55 rfl (by decide) rfl rfl rfl sls_p eApiValue_one rfl rfl fun z4 => .sg rfl rfl <| .nil <| .blk <| .th <| .region <| .add rfl rfl rfl <| .mv rfl rfl <| .nil <| .next ((z4, (wi (s21_0 + 1))), v0_0 + 1) rfl (.s rfl (.s rfl (.s rfl (.s rfl (.s rfl .n))))) rfl
    · exact .exit <| .thE <| .lpE <| .blkE <| .th <| .seq <| .region <| .mv rfl rfl <| .sg rfl rfl <| .sg rfl rfl <| .nil <| .th <| .ret <| .ret2 (P := p11) (sel := []) ⟨rfl, rfl⟩ rfl rfl (.tmp rfl) (.tmp rfl) .tkp .rf .nil rfl
end Go.Proofs.YtpcgfeckokgbfaaGreatDoor

/- Functions beside the code, printed by a program of the author. -/
import Derived.Test.YtpcgfeckokgbfaaGreatDoorU1
set_option linter.all false
set_option maxRecDepth 100000
set_option maxHeartbeats 4000000
namespace Go.Proofs.YtpcgfeckokgbfaaGreatDoor
open Go Go.Mi Go.RowKit Go.Dp
noncomputable def m46 (a0 : List ApiOp) : Option (List ApiOp) := (ap ([] : List ApiOp) a0).bind fun z1 => some z1
abbrev p46 (r : (List ApiOp)) (v : V) (H : List Ob) : Prop := v = vL 5 eApiOp r ∧ H = []
noncomputable def m47 (a0 : List Int) : Option (List Int) := (ap ([] : List Int) a0).bind fun z1 => some z1
abbrev p47 (r : (List Int)) (v : V) (H : List Ob) : Prop := v = vL 1 eI r ∧ H = []
theorem c47 {a0 : List Int} {r : (List Int)} (h : m47 a0 = some r) : CP Tryz.prog 47 [vL 1 eI a0] (vL 1 eI r) := by
  refine CD.ofM (P := p47) h Tryz.func47 rfl Tryz.ntmps47 rfl fun w g => ?_
  refine .ext 1 ?_
  refine .seq <| .region <| .sg rfl rfl <| .nil <| .th <| .seq <| .seq <| .region <| .mv rfl rfl <| .nilQ Tryz.runUnderlying24 rfl rfl ?_ (fun q => ?_)
  · refine .nil <| .th <| .condF rfl <| .skip <| .th <| .seq <| .region <| .bsT 0 ([] : List Int) eI Tryz.runUnderlying24 Tryz.sizeOf3 Tryz.zeroValue3 rfl rfl rfl rfl rfl rfl rfl rfl rfl rfl <| .mv rfl rfl <| .ap Tryz.under24 info3 rfl (by decide) rfl rfl rfl sls_p (fun _ => rfl) rfl rfl fun z1 => ?_
    exact .sg rfl rfl <| .nil <| .th <| .ret <| .ret1 (P := p47) (sel := []) ⟨rfl, rfl⟩ rfl rfl (.tmp rfl) .tkp .nil rfl
  · subst q
    exact .as (m' := some []) rfl <| .nil <| .th <| .condT rfl <| .seq <| .region <| .sg rfl rfl <| .nil <| .th <| .ret <| .thR <| .ret1 (P := p47) (sel := []) ⟨rfl, rfl⟩ rfl rfl (.tmp rfl) .nil .nil rfl
noncomputable def m48 (a0 : Int) : Option Int := if (decide (a0 ≤ 4)) then some 0 else if (decide (a0 ≤ 6)) then some 1 else if (decide (a0 ≤ 16)) then some 2 else some 3
abbrev p48 (r : Int) (v : V) (H : List Ob) : Prop := v = vI r ∧ H = []
theorem c48 {a0 : Int} {r : Int} (h : m48 a0 = some r) : CP Tryz.prog 48 [v8 a0] (vI r) := by
  refine CD.ofM (P := p48) h Tryz.func48 rfl Tryz.ntmps48 rfl fun w g => ?_
  refine .seq <| .region <| .sg rfl rfl <| .nil <| .th <| .seq <| .blk <| .seq <| .region <| .mv rfl rfl <| .leq rfl rfl rfl <| .sg rfl rfl <| .nil <| .th <| .cond rfl ?_ ?_
  · exact .seq <| .region <| .sg rfl rfl <| .nil <| .th <| .ret <| .blkR <| .thR <| .ret1 (P := p48) (sel := []) ⟨rfl, rfl⟩ rfl rfl (.tmp rfl) .rf .nil rfl
  · refine .seq <| .region <| .mv rfl rfl <| .leq rfl rfl rfl <| .sg rfl rfl <| .nil <| .th <| .cond rfl ?_ ?_
    · exact .seq <| .region <| .sg rfl rfl <| .nil <| .th <| .ret <| .blkR <| .thR <| .ret1 (P := p48) (sel := []) ⟨rfl, rfl⟩ rfl rfl (.tmp rfl) .rf .nil rfl
    · refine .seq <| .region <| .mv rfl rfl <| .leq rfl rfl rfl <| .sg rfl rfl <| .nil <| .th <| .cond rfl ?_ ?_
      · exact .seq <| .region <| .sg rfl rfl <| .nil <| .th <| .ret <| .blkR <| .thR <| .ret1 (P := p48) (sel := []) ⟨rfl, rfl⟩ rfl rfl (.tmp rfl) .rf .nil rfl
      · exact .skip <| .blk <| .th <| .seq <| .region <| .sg rfl rfl <| .nil <| .th <| .ret <| .ret1 (P := p48) (sel := []) ⟨rfl, rfl⟩ rfl rfl (.tmp rfl) .rf .nil rfl
noncomputable def m49 (a0 : Int) (a1 : Int) : Option (Int × Int × Int) := if (decide (a0 = 1)) then some (0, (-9999), 9999) else if (decide (a0 = 2)) then some (0, 1, 4) else if (decide (a0 = 3)) then some (0, 0, (wi (a1 - 1))) else if (decide (a0 = 4)) then some (0, 0, 31) else if ((decide (a0 = 5)) || (decide (a0 = 6))) then some (1, 0, 0) else if ((decide (7 ≤ a0)) && (decide (a0 ≤ 16))) then some (2, 0, 0) else if (decide (a0 = 17)) then some (3, 0, 0) else some ((-1), 0, (-1))
abbrev p49 (r : Int × Int × Int) (v : V) (H : List Ob) : Prop := v = .tup [vI r.1, vI r.2.1, vI r.2.2] ∧ H = []
theorem c49 {a0 : Int} {a1 : Int} {r : Int × Int × Int} (h : m49 a0 a1 = some r) : CP Tryz.prog 49 [v8 a0, vI a1] (.tup [vI r.1, vI r.2.1, vI r.2.2]) := by
  refine CD.ofM (P := p49) h Tryz.func49 rfl Tryz.ntmps49 rfl fun w g => ?_
  refine .seq <| .region <| .sg rfl rfl <| .sg rfl rfl <| .sg rfl rfl <| .nil <| .th <| .seq <| .blk <| .seq <| .region <| .mv rfl rfl <| .eql rfl rfl rfl <| .sg rfl rfl <| .nil <| .th <| .cond rfl ?_ ?_
  · exact .seq <| .region <| .sg rfl rfl <| .sg rfl rfl <| .sg rfl rfl <| .nil <| .th <| .ret <| .blkR <| .thR <| .ret3 (P := p49) (sel := []) ⟨rfl, rfl⟩ rfl rfl (.tmp rfl) (.tmp rfl) (.tmp rfl) .rf .rf .rf .nil rfl
  · refine .seq <| .region <| .mv rfl rfl <| .eql rfl rfl rfl <| .sg rfl rfl <| .nil <| .th <| .cond rfl ?_ ?_
    · exact .seq <| .region <| .sg rfl rfl <| .sg rfl rfl <| .sg rfl rfl <| .nil <| .th <| .ret <| .blkR <| .thR <| .ret3 (P := p49) (sel := []) ⟨rfl, rfl⟩ rfl rfl (.tmp rfl) (.tmp rfl) (.tmp rfl) .rf .rf .rf .nil rfl
    · refine .seq <| .region <| .mv rfl rfl <| .eql rfl rfl rfl <| .sg rfl rfl <| .nil <| .th <| .cond rfl ?_ ?_
      · exact .seq <| .region <| .mv rfl rfl <| .sb rfl rfl rfl <| .sg rfl rfl <| .sg rfl rfl <| .sg rfl rfl <| .nil <| .th <| .ret <| .blkR <| .thR <| .ret3 (P := p49) (sel := []) ⟨rfl, rfl⟩ rfl rfl (.tmp rfl) (.tmp rfl) (.tmp rfl) .rf .rf .rf .nil rfl
      · refine .seq <| .region <| .mv rfl rfl <| .eql rfl rfl rfl <| .sg rfl rfl <| .nil <| .th <| .cond rfl ?_ ?_
        · exact .seq <| .region <| .sg rfl rfl <| .sg rfl rfl <| .sg rfl rfl <| .nil <| .th <| .ret <| .blkR <| .thR <| .ret3 (P := p49) (sel := []) ⟨rfl, rfl⟩ rfl rfl (.tmp rfl) (.tmp rfl) (.tmp rfl) .rf .rf .rf .nil rfl
        · refine .seq <| .region <| .mv rfl rfl <| .eql rfl rfl rfl <| .mv rfl rfl <| .or (r := (decide (a0 = 6))) 3 27 24 rfl (fun c => ?_) (fun c => ?_) ?_
          · exact .yes 24 rfl rfl rfl <| .mv rfl rfl <| .yes 24 rfl rfl rfl <| .eql rfl rfl rfl <| .pickF rfl rfl rfl <| c _ (.up rfl rfl rfl)
          · exact .no 24 rfl rfl rfl rfl <| .no 24 rfl rfl rfl rfl <| .pickT rfl rfl rfl <| c _ (.up rfl rfl rfl)
          · refine .sg rfl rfl <| .nil <| .th <| .cond rfl ?_ ?_
            · exact .seq <| .region <| .sg rfl rfl <| .sg rfl rfl <| .sg rfl rfl <| .nil <| .th <| .ret <| .blkR <| .thR <| .ret3 (P := p49) (sel := []) ⟨rfl, rfl⟩ rfl rfl (.tmp rfl) (.tmp rfl) (.tmp rfl) .rf .rf .rf .nil rfl
            · refine .seq <| .region <| .mv rfl rfl <| .geq rfl rfl rfl <| .mv rfl rfl <| .and (r := (decide (a0 ≤ 16))) 3 34 31 rfl (fun c => ?_) (fun c => ?_) ?_
              · exact .yes 31 rfl rfl rfl <| .mv rfl rfl <| .yes 31 rfl rfl rfl <| .leq rfl rfl rfl <| .pickT rfl rfl rfl <| c _ (.up rfl rfl rfl)
              · exact .no 31 rfl rfl rfl rfl <| .no 31 rfl rfl rfl rfl <| .pickF rfl rfl rfl <| c _ (.up rfl rfl rfl)
              · refine .sg rfl rfl <| .nil <| .th <| .cond rfl ?_ ?_
                · exact .seq <| .region <| .sg rfl rfl <| .sg rfl rfl <| .sg rfl rfl <| .nil <| .th <| .ret <| .blkR <| .thR <| .ret3 (P := p49) (sel := []) ⟨rfl, rfl⟩ rfl rfl (.tmp rfl) (.tmp rfl) (.tmp rfl) .rf .rf .rf .nil rfl
                · refine .seq <| .region <| .mv rfl rfl <| .eql rfl rfl rfl <| .sg rfl rfl <| .nil <| .th <| .cond rfl ?_ ?_
                  · exact .seq <| .region <| .sg rfl rfl <| .sg rfl rfl <| .sg rfl rfl <| .nil <| .th <| .ret <| .blkR <| .thR <| .ret3 (P := p49) (sel := []) ⟨rfl, rfl⟩ rfl rfl (.tmp rfl) (.tmp rfl) (.tmp rfl) .rf .rf .rf .nil rfl
                  · exact .skip <| .blk <| .th <| .seq <| .region <| .sg rfl rfl <| .sg rfl rfl <| .sg rfl rfl <| .nil <| .th <| .ret <| .ret3 (P := p49) (sel := []) ⟨rfl, rfl⟩ rfl rfl (.tmp rfl) (.tmp rfl) (.tmp rfl) .rf .rf .rf .nil rfl
noncomputable def m61 (a0 : ApiCore) (a1 : ApiOp) : Option Bool := if (decide (a1.code = 1)) then (m33 (-9999) 9999 ([a1.n] : List Int)).bind fun z1 => some z1 else if (decide (a1.code = 2)) then (m33 1 4 ([a1.n] : List Int)).bind fun z2 => some z2 else if (decide (a1.code = 3)) then (m33 0 (wi ((a0.choices.length : Int) - 1)) ([a1.n] : List Int)).bind fun z3 => some z3 else if (decide (a1.code = 4)) then (m33 0 31 ([a1.n] : List Int)).bind fun z4 => some z4 else some (decide (a1.n = 0))
abbrev p61 (r : Bool) (v : V) (H : List Ob) : Prop := v = vB r ∧ H = []
theorem c61 {a0 : ApiCore} {a1 : ApiOp} {r : Bool} (h : m61 a0 a1 = some r) : CP Tryz.prog 61 [.agg ((eApiCore a0).map .p), .agg ((eApiOp a1).map .p)] (vB r) := by
  refine CD.ofM (P := p61) h Tryz.func61 rfl Tryz.ntmps61 rfl fun w g => ?_
  refine .seq <| .region <| .bxE (cs := eApiCore a0) rfl rfl rfl rfl <| .bxE (cs := eApiOp a1) rfl rfl rfl rfl <| .sg rfl rfl <| .nil <| .th <| .seq <| .seq <| .region <| .fE fa58_0 rfl rfl rfl <| .lE Tryz.isAgg5 rfl rfl rfl <| ?_
  refine .nil <| .th <| .blk <| .seq <| .region <| .eql rfl rfl rfl <| .sg rfl rfl <| .nil <| .th <| .cond rfl ?_ ?_
  · refine .seq <| .region <| .fE fa58_4 rfl rfl rfl <| .lE Tryz.isAgg3 rfl rfl rfl <| .bs ([a1.n] : List Int) eI Tryz.runUnderlying24 Tryz.sizeOf3 Tryz.zeroValue3 rfl rfl rfl rfl rfl rfl rfl rfl <| .cw (fun _ => c33) (fun _ _ => rfl) (.s rfl (.s rfl (.s rfl .n))) rfl (fun _ => rfl) rfl fun z1 => ?_
    exact .sg rfl rfl <| .nil <| .th <| .ret <| .blkR <| .thR <| .ret1 (P := p61) (sel := []) ⟨rfl, rfl⟩ rfl rfl (.tmp rfl) .rf .nil rfl
  · refine .seq <| .region <| .eql rfl rfl rfl <| .sg rfl rfl <| .nil <| .th <| .cond rfl ?_ ?_
    · refine .seq <| .region <| .fE fa58_4 rfl rfl rfl <| .lE Tryz.isAgg3 rfl rfl rfl <| .bs ([a1.n] : List Int) eI Tryz.runUnderlying24 Tryz.sizeOf3 Tryz.zeroValue3 rfl rfl rfl rfl rfl rfl rfl rfl <| .cw (fun _ => c33) (fun _ _ => rfl) (.s rfl (.s rfl (.s rfl .n))) rfl (fun _ => rfl) rfl fun z2 => ?_
      exact .sg rfl rfl <| .nil <| .th <| .ret <| .blkR <| .thR <| .ret1 (P := p61) (sel := []) ⟨rfl, rfl⟩ rfl rfl (.tmp rfl) .rf .nil rfl
    · refine .seq <| .region <| .eql rfl rfl rfl <| .sg rfl rfl <| .nil <| .th <| .cond rfl ?_ ?_
      · refine .seq <| .region <| .fE fa26_0 rfl rfl rfl <| .lE Tryz.isAgg22 rfl rfl rfl <| .ln Tryz.runUnderlying22 rfl sls_p rfl <| .sb rfl rfl rfl <| .fE fa58_4 rfl rfl rfl <| .lE Tryz.isAgg3 rfl rfl rfl <| .bs ([a1.n] : List Int) eI Tryz.runUnderlying24 Tryz.sizeOf3 Tryz.zeroValue3 rfl rfl rfl rfl rfl rfl rfl rfl <| ?_
        exact .cw (fun _ => c33) (fun _ _ => rfl) (.s rfl (.s rfl (.s rfl .n))) rfl (fun _ => rfl) rfl fun z3 => .sg rfl rfl <| .nil <| .th <| .ret <| .blkR <| .thR <| .ret1 (P := p61) (sel := []) ⟨rfl, rfl⟩ rfl rfl (.tmp rfl) .rf .nil rfl
      · refine .seq <| .region <| .eql rfl rfl rfl <| .sg rfl rfl <| .nil <| .th <| .cond rfl ?_ ?_
        · refine .seq <| .region <| .fE fa58_4 rfl rfl rfl <| .lE Tryz.isAgg3 rfl rfl rfl <| .bs ([a1.n] : List Int) eI Tryz.runUnderlying24 Tryz.sizeOf3 Tryz.zeroValue3 rfl rfl rfl rfl rfl rfl rfl rfl <| .cw (fun _ => c33) (fun _ _ => rfl) (.s rfl (.s rfl (.s rfl .n))) rfl (fun _ => rfl) rfl fun z4 => ?_
          exact .sg rfl rfl <| .nil <| .th <| .ret <| .blkR <| .thR <| .ret1 (P := p61) (sel := []) ⟨rfl, rfl⟩ rfl rfl (.tmp rfl) .rf .nil rfl
        · exact .skip <| .blk <| .th <| .seq <| .region <| .fE fa58_4 rfl rfl rfl <| .lE Tryz.isAgg3 rfl rfl rfl <| .eql rfl rfl rfl <| .sg rfl rfl <| .nil <| .th <| .ret <| .ret1 (P := p61) (sel := []) ⟨rfl, rfl⟩ rfl rfl (.tmp rfl) .rf .nil rfl
noncomputable def m62 (a0 : ApiOp) : Option Anon93 := some ⟨a0.a, a0.b, a0.c⟩
abbrev p62 (r : Anon93) (v : V) (H : List Ob) : Prop := v = .agg ((eAnon93 r).map .p) ∧ H = []
theorem c62 {a0 : ApiOp} {r : Anon93} (h : m62 a0 = some r) : CP Tryz.prog 62 [.agg ((eApiOp a0).map .p)] (.agg ((eAnon93 r).map .p)) := by
  refine CD.ofM (P := p62) h Tryz.func62 rfl Tryz.ntmps62 rfl fun w g => ?_
  refine .ext 1 ?_
  refine .seq <| .region <| .bxE (cs := eApiOp a0) rfl rfl rfl rfl <| .al 0 Tryz.zeroValue93 rfl rfl rfl <| .nil <| .th <| .seq <| .region <| .fE fa58_1 rfl rfl rfl <| .lE Tryz.isAgg3 rfl rfl rfl <| .fE fa58_2 rfl rfl rfl <| ?_
  exact .lE Tryz.isAgg3 rfl rfl rfl <| .fE fa58_3 rfl rfl rfl <| .lE Tryz.isAgg3 rfl rfl rfl <| .bu bu93 rfl rfl rfl rfl <| .st Tryz.sizeOf93 rfl rfl rfl rfl rfl rfl <| .nil <| .th <| .ret <| .ret1 (P := p62) (sel := []) ⟨rfl, rfl⟩ rfl rfl (.cellA rfl rfl Tryz.isAgg93 Tryz.sizeOf93 rfl) .rf .nil rfl
noncomputable def m65 (a0 : ApiChoice) (a1 : Int) : Option Bool := (m33 a0.lo a0.hi ([a1] : List Int)).bind fun z1 => some z1
abbrev p65 (r : Bool) (v : V) (H : List Ob) : Prop := v = vB r ∧ H = []
noncomputable def m70 (a0 : Int) : Option ApiValue := some ⟨0, a0⟩
abbrev p70 (r : ApiValue) (v : V) (H : List Ob) : Prop := v = .agg ((eApiValue r).map .p) ∧ H = []
theorem c70 {a0 : Int} {r : ApiValue} (h : m70 a0 = some r) : CP Tryz.prog 70 [vI a0] (.agg ((eApiValue r).map .p)) := by
  refine CD.ofM (P := p70) h Tryz.func70 rfl Tryz.ntmps70 rfl fun w g => ?_
  refine .ext 1 ?_
  refine .seq <| .region <| .al 0 Tryz.zeroValue55 rfl rfl rfl <| .nil <| .th <| .seq <| .region <| .mv rfl rfl <| .bu bu55 rfl rfl rfl rfl <| .st Tryz.sizeOf55 rfl rfl rfl rfl rfl rfl <| .nil <| .th <| .ret <| ?_
  exact .ret1 (P := p70) (sel := []) ⟨rfl, rfl⟩ rfl rfl (.cellA rfl rfl Tryz.isAgg55 Tryz.sizeOf55 rfl) .rf .nil rfl
noncomputable def m71 (a0 : Int) : Option ApiValue := some ⟨a0, 0⟩
abbrev p71 (r : ApiValue) (v : V) (H : List Ob) : Prop := v = .agg ((eApiValue r).map .p) ∧ H = []
theorem c71 {a0 : Int} {r : ApiValue} (h : m71 a0 = some r) : CP Tryz.prog 71 [v8 a0] (.agg ((eApiValue r).map .p)) := by
  refine CD.ofM (P := p71) h Tryz.func71 rfl Tryz.ntmps71 rfl fun w g => ?_
  refine .ext 1 ?_
  refine .seq <| .region <| .al 0 Tryz.zeroValue55 rfl rfl rfl <| .nil <| .th <| .seq <| .region <| .mv rfl rfl <| .bu bu55 rfl rfl rfl rfl <| .st Tryz.sizeOf55 rfl rfl rfl rfl rfl rfl <| .nil <| .th <| .ret <| ?_
  exact .ret1 (P := p71) (sel := []) ⟨rfl, rfl⟩ rfl rfl (.cellA rfl rfl Tryz.isAgg55 Tryz.sizeOf55 rfl) .rf .nil rfl
noncomputable def m72 (a0 : ApiValue) (a1 : ApiValue) (a2 : ApiValue) : Option ApiValue := if (decide (0 < a0.fault)) then some ⟨a0.fault, a0.n⟩ else if (decide (a0.n = 0)) then some ⟨a2.fault, a2.n⟩ else some ⟨a1.fault, a1.n⟩
abbrev p72 (r : ApiValue) (v : V) (H : List Ob) : Prop := v = .agg ((eApiValue r).map .p) ∧ H = []
theorem c72 {a0 : ApiValue} {a1 : ApiValue} {a2 : ApiValue} {r : ApiValue} (h : m72 a0 a1 a2 = some r) : CP Tryz.prog 72 [.agg ((eApiValue a0).map .p), .agg ((eApiValue a1).map .p), .agg ((eApiValue a2).map .p)] (.agg ((eApiValue r).map .p)) := by
  refine CD.ofM (P := p72) h Tryz.func72 rfl Tryz.ntmps72 rfl fun w g => ?_
  refine .ext 1 ?_
  refine .seq <| .region <| .bxE (cs := eApiValue a0) rfl rfl rfl rfl <| .bxE (cs := eApiValue a1) rfl rfl rfl rfl <| .bxE (cs := eApiValue a2) rfl rfl rfl rfl <| .al 0 Tryz.zeroValue55 rfl rfl rfl <| .nil <| .th <| ?_
  refine .seq <| .blk <| .seq <| .region <| .fE fa55_0 rfl rfl rfl <| .lE Tryz.isAgg5 rfl rfl rfl <| .gtr rfl rfl rfl <| .sg rfl rfl <| .nil <| .th <| .cond rfl ?_ ?_
  · exact .seq <| .region <| .lEA Tryz.isAgg55 Tryz.sizeOf55 rfl rfl rfl <| .st Tryz.sizeOf55 rfl rfl rfl rfl rfl rfl <| .nil <| .th <| .ret <| .blkR <| .thR <| .ret1 (P := p72) (sel := []) ⟨rfl, rfl⟩ rfl rfl (.cellA rfl rfl Tryz.isAgg55 Tryz.sizeOf55 rfl) .rf .nil rfl
  · refine .seq <| .region <| .fE fa55_1 rfl rfl rfl <| .lE Tryz.isAgg3 rfl rfl rfl <| .eql rfl rfl rfl <| .sg rfl rfl <| .nil <| .th <| .cond rfl ?_ ?_
    · exact .seq <| .region <| .lEA Tryz.isAgg55 Tryz.sizeOf55 rfl rfl rfl <| .st Tryz.sizeOf55 rfl rfl rfl rfl rfl rfl <| .nil <| .th <| .ret <| .blkR <| .thR <| .ret1 (P := p72) (sel := []) ⟨rfl, rfl⟩ rfl rfl (.cellA rfl rfl Tryz.isAgg55 Tryz.sizeOf55 rfl) .rf .nil rfl
    · exact .skip <| .blk <| .th <| .seq <| .region <| .lEA Tryz.isAgg55 Tryz.sizeOf55 rfl rfl rfl <| .st Tryz.sizeOf55 rfl rfl rfl rfl rfl rfl <| .nil <| .th <| .ret <| .ret1 (P := p72) (sel := []) ⟨rfl, rfl⟩ rfl rfl (.cellA rfl rfl Tryz.isAgg55 Tryz.sizeOf55 rfl) .rf .nil rfl
noncomputable def m135i1 (p0 : Int) (p1 : Int) (p2 : Int) : Option Bool := some ((decide (p0 < p1)) || (decide (p2 < p0)))
abbrev p135i1 (p0 : Int) (p1 : Int) (p2 : Int) (r : Bool) (v : V) (H : List Ob) : Prop := v = vB r ∧ H = []
theorem c135i1 {p0 : Int} {p1 : Int} {p2 : Int} {r : Bool} (h : m135i1 p0 p1 p2 = some r) : CE Tryz.prog 135 [vI p0, .el [pI p1], .el [pI p2]] [] (vB r) [] := by
  refine CD.ofM (P := p135i1 p0 p1 p2) h Tryz.func135 rfl Tryz.ntmps135 rfl fun w g => ?_
  refine .seq <| .region <| .sg rfl rfl <| .nil <| .th <| .seq <| .region <| .mv rfl rfl <| .lE Tryz.isAgg3 rfl rfl rfl <| .lss rfl rfl rfl <| .mv rfl rfl <| .or (r := (decide (p2 < p0))) 4 12 8 rfl (fun c => ?_) (fun c => ?_) ?_
  · exact .yes 8 rfl rfl rfl <| .mv rfl rfl <| .yes 8 rfl rfl rfl <| .lE Tryz.isAgg3 rfl rfl rfl <| .yes 8 rfl rfl rfl <| .gtr rfl rfl rfl <| .pickF rfl rfl rfl <| c _ (.up rfl rfl rfl)
  · exact .no 8 rfl rfl rfl rfl <| .no 8 rfl rfl rfl rfl <| .no 8 rfl rfl rfl rfl <| .pickT rfl rfl rfl <| c _ (.up rfl rfl rfl)
  · exact .sg rfl rfl <| .nil <| .th <| .ret <| .ret1 (P := p135i1 p0 p1 p2) (sel := []) ⟨rfl, rfl⟩ rfl rfl (.tmp rfl) .rf .nil rfl
noncomputable def m93i2_1 (p0 : List Int) (p1 : Int) (p2 : Int) : Int → Option (Int) := Lp fun s8_0 => if (decide (s8_0 < (p0.length : Int))) then (ix p0 s8_0).bind fun z1 => (m135i1 z1 p1 p2).bind fun z2 => if z2 then (some s8_0).map .inr else some (.inl (wi (s8_0 + 1))) else (some (-1)).map .inr
noncomputable def m93i2 (p0 : List Int) (p1 : Int) (p2 : Int) : Option Int := m93i2_1 p0 p1 p2 0
abbrev p93i2 (p0 : List Int) (p1 : Int) (p2 : Int) (r : Int) (v : V) (H : List Ob) : Prop := v = vI r ∧ H = []
theorem c93i2 {p0 : List Int} {p1 : Int} {p2 : Int} {r : Int} (h : m93i2 p0 p1 p2 = some r) : CE Tryz.prog 93 [vL 1 eI p0, .fn (.func 135) [] [.el [pI p1], .el [pI p2]]] [] (vI r) [] := by
  refine CD.ofM (P := p93i2 p0 p1 p2) h Tryz.func93 rfl Tryz.ntmps93 rfl fun w g => ?_
  refine .seq <| .region <| .sg rfl rfl <| .nil <| .th <| .seq <| .seq <| .region <| .mv rfl rfl <| .ln Tryz.runUnderlying24 rfl sls_p rfl <| .mv rfl rfl <| .nil <| .th <| .blk <| .loop (α := (Int)) id (fun s8_0 => [(0, vL 1 eI p0), (1, .fn (.func 135) [] [.el [pI p1], .el [pI p2]]), (7, vI (p0.length : Int)), (8, vI s8_0)]) (fun s8_0 => []) 0 rfl (.s rfl (.s rfl (.s rfl (.s rfl .n)))) rfl ?_
  rintro s8_0 n
  refine .seq <| .region <| .lss rfl rfl rfl <| .nil <| .th <| .seq <| .cond rfl ?_ ?_
  · refine .skip <| .th <| .seq <| .blk <| .seq <| .region <| .mv rfl rfl <| .sg rfl rfl <| .nil <| .th <| .seq <| .region <| .mv rfl rfl <| .mv rfl rfl <| .mv rfl rfl <| .ix Tryz.runUnderlying24 Tryz.sizeOf3 rfl rfl sls_p (fun _ => rfl) rfl fun z1 => ?_
    refine .lE Tryz.isAgg3 rfl rfl rfl <| .cf [] [] rfl (fun z h => ⟨c135i1 h, .mk' rfl, rfl, rfl⟩) (fun _ _ => rfl) (.s rfl .n) rfl rd0 rfl fun z2 => .nil <| .th <| .cond rfl ?_ ?_
    · exact .seq <| .region <| .mv rfl rfl <| .sg rfl rfl <| .nil <| .th <| .ret <| .blkR <| .thR <| .lpR <| .blkR <| .thR <| .ret1 (P := p93i2 p0 p1 p2) (sel := []) ⟨rfl, rfl⟩ rfl rfl (.tmp rfl) .rf .nil rfl
    · exact .skip <| .blk <| .th <| .region <| .add rfl rfl rfl <| .mv rfl rfl <| .nil <| .next (wi (s8_0 + 1)) rfl (.s rfl (.s rfl (.s rfl (.s rfl .n)))) rfl
  · exact .exit <| .thE <| .lpE <| .blkE <| .th <| .seq <| .region <| .sg rfl rfl <| .nil <| .th <| .ret <| .ret1 (P := p93i2 p0 p1 p2) (sel := []) ⟨rfl, rfl⟩ rfl rfl (.tmp rfl) .rf .nil rfl
noncomputable def m59i2 (p0 : List Int) (p1 : Int) (p2 : Int) : Option Bool := (m93i2 p0 p1 p2).bind fun z1 => some (decide (0 ≤ z1))
abbrev p59i2 (p0 : List Int) (p1 : Int) (p2 : Int) (r : Bool) (v : V) (H : List Ob) : Prop := v = vB r ∧ H = []
theorem c59i2 {p0 : List Int} {p1 : Int} {p2 : Int} {r : Bool} (h : m59i2 p0 p1 p2 = some r) : CE Tryz.prog 59 [vL 1 eI p0, .fn (.func 135) [] [.el [pI p1], .el [pI p2]]] [] (vB r) [] := by
  refine CD.ofM (P := p59i2 p0 p1 p2) h Tryz.func59 rfl Tryz.ntmps59 rfl fun w g => ?_
  refine .seq <| .region <| .sg rfl rfl <| .nil <| .th <| .seq <| .region <| .mv rfl rfl <| .mv rfl rfl <| .cd [] [] (fun z h => ⟨c93i2 h, .mk' rfl, rfl, rfl⟩) (fun _ _ => rfl) (.s rfl (.s rfl .n)) rd0 rfl fun z1 => ?_
  exact .geq rfl rfl rfl <| .sg rfl rfl <| .nil <| .th <| .ret <| .ret1 (P := p59i2 p0 p1 p2) (sel := []) ⟨rfl, rfl⟩ rfl rfl (.tmp rfl) .rf .nil rfl
noncomputable def m94 (a0 : Int) (a1 : Int) (a2 : List Int) : Option Bool := (m59i2 a2 a0 a1).bind fun z1 => some (!z1)
abbrev p94 (r : Bool) (v : V) (H : List Ob) : Prop := v = vB r ∧ H = []
theorem c94 {a0 : Int} {a1 : Int} {a2 : List Int} {r : Bool} (h : m94 a0 a1 a2 = some r) : CP Tryz.prog 94 [vI a0, vI a1, vL 1 eI a2] (vB r) := by
  refine CD.ofM (P := p94) h Tryz.func94 rfl Tryz.ntmps94 rfl fun w g => ?_
  refine .seq <| .region <| .bxE (cs := [pI a0]) rfl rfl rfl rfl <| .bxE (cs := [pI a1]) rfl rfl rfl rfl <| .sg rfl rfl <| .nil <| .th <| .seq <| .region <| .mv rfl rfl <| .mf rfl rfl rfl <| .cd [] [] (fun z h => ⟨c59i2 h, .mk' rfl, rfl, rfl⟩) (fun _ _ => rfl) (.s rfl (.s rfl .n)) rd0 rfl fun z1 => ?_
  exact .not rfl rfl <| .sg rfl rfl <| .nil <| .th <| .ret <| .ret1 (P := p94) (sel := []) ⟨rfl, rfl⟩ rfl rfl (.tmp rfl) .rf .nil rfl
noncomputable def m95 (a0 : Int) : Option ApiValue := some ⟨a0, 0⟩
abbrev p95 (r : ApiValue) (v : V) (H : List Ob) : Prop := v = .agg ((eApiValue r).map .p) ∧ H = []
theorem c95 {a0 : Int} {r : ApiValue} (h : m95 a0 = some r) : CP Tryz.prog 95 [v8 a0] (.agg ((eApiValue r).map .p)) := by
  refine CD.ofM (P := p95) h Tryz.func95 rfl Tryz.ntmps95 rfl fun w g => ?_
  refine .ext 1 ?_
  refine .seq <| .region <| .al 0 Tryz.zeroValue55 rfl rfl rfl <| .nil <| .th <| .seq <| .region <| .mv rfl rfl <| .bu bu55 rfl rfl rfl rfl <| .st Tryz.sizeOf55 rfl rfl rfl rfl rfl rfl <| .nil <| .th <| .ret <| ?_
  exact .ret1 (P := p95) (sel := []) ⟨rfl, rfl⟩ rfl rfl (.cellA rfl rfl Tryz.isAgg55 Tryz.sizeOf55 rfl) .rf .nil rfl
noncomputable def m96 (a0 : Int) : Option Nat := if (decide (a0 = 5)) then some 1 else if (decide (a0 = 6)) then some 2 else some 0
abbrev p96 (r : Nat) (v : V) (H : List Ob) : Prop := v = vF160 r ∧ H = []
theorem c96 {a0 : Int} {r : Nat} (h : m96 a0 = some r) : CP Tryz.prog 96 [v8 a0] (vF160 r) := by
  refine CD.ofM (P := p96) h Tryz.func96 rfl Tryz.ntmps96 rfl fun w g => ?_
  refine .seq <| .region <| .sg rfl rfl <| .nil <| .th <| .seq <| .seq <| .region <| .mv rfl rfl <| .nil <| .th <| .blk <| .seq <| .region <| .eql rfl rfl rfl <| .sg rfl rfl <| .nil <| .th <| .cond rfl ?_ ?_
  · exact .seq <| .region <| .sg rfl rfl <| .nil <| .th <| .ret <| .blkR <| .thR <| .ret1 (P := p96) (sel := []) ⟨rfl, rfl⟩ rfl rfl (.tmp rfl) .rf .nil rfl
  · refine .seq <| .region <| .eql rfl rfl rfl <| .sg rfl rfl <| .nil <| .th <| .cond rfl ?_ ?_
    · exact .seq <| .region <| .sg rfl rfl <| .nil <| .th <| .ret <| .blkR <| .thR <| .ret1 (P := p96) (sel := []) ⟨rfl, rfl⟩ rfl rfl (.tmp rfl) .rf .nil rfl
    · exact .skip <| .blk <| .th <| .seq <| .region <| .sg rfl rfl <| .nil <| .th <| .ret <| .ret1 (P := p96) (sel := []) ⟨rfl, rfl⟩ rfl rfl (.tmp rfl) .rf .nil rfl
noncomputable def m97 (a0 : ApiValue) : Option Bool := if (decide (a0.fault = 0)) then (m94 (-9999) 9999 ([a0.n] : List Int)).bind fun z1 => some z1 else some ((decide (a0.fault ≤ 4)) && (decide (a0.n = 0)))
abbrev p97 (r : Bool) (v : V) (H : List Ob) : Prop := v = vB r ∧ H = []
theorem c97 {a0 : ApiValue} {r : Bool} (h : m97 a0 = some r) : CP Tryz.prog 97 [.agg ((eApiValue a0).map .p)] (vB r) := by
  refine CD.ofM (P := p97) h Tryz.func97 rfl Tryz.ntmps97 rfl fun w g => ?_
  refine .seq <| .region <| .bxE (cs := eApiValue a0) rfl rfl rfl rfl <| .sg rfl rfl <| .nil <| .th <| .seq <| .seq <| .region <| .fE fa55_0 rfl rfl rfl <| .lE Tryz.isAgg5 rfl rfl rfl <| .eql rfl rfl rfl <| .nil <| ?_
  refine .th <| .cond rfl ?_ ?_
  · refine .seq <| .region <| .fE fa55_1 rfl rfl rfl <| .lE Tryz.isAgg3 rfl rfl rfl <| .bs ([a0.n] : List Int) eI Tryz.runUnderlying24 Tryz.sizeOf3 Tryz.zeroValue3 rfl rfl rfl rfl rfl rfl rfl rfl <| .cw (fun _ => c94) (fun _ _ => rfl) (.s rfl (.s rfl (.s rfl .n))) rfl (fun _ => rfl) rfl fun z1 => ?_
    exact .sg rfl rfl <| .nil <| .th <| .ret <| .thR <| .ret1 (P := p97) (sel := []) ⟨rfl, rfl⟩ rfl rfl (.tmp rfl) .rf .nil rfl
  · refine .skip <| .th <| .seq <| .region <| .fE fa55_0 rfl rfl rfl <| .lE Tryz.isAgg5 rfl rfl rfl <| .leq rfl rfl rfl <| .mv rfl rfl <| .and (r := (decide (a0.n = 0))) 4 17 13 rfl (fun c => ?_) (fun c => ?_) ?_
    · exact .yes 13 rfl rfl rfl <| .fE fa55_1 rfl rfl rfl <| .yes 13 rfl rfl rfl <| .lE Tryz.isAgg3 rfl rfl rfl <| .yes 13 rfl rfl rfl <| .eql rfl rfl rfl <| .pickT rfl rfl rfl <| c _ (.up rfl rfl rfl)
    · exact .no 13 rfl rfl rfl rfl <| .no 13 rfl rfl rfl rfl <| .no 13 rfl rfl rfl rfl <| .pickF rfl rfl rfl <| c _ (.up rfl rfl rfl)
    · exact .sg rfl rfl <| .nil <| .th <| .ret <| .ret1 (P := p97) (sel := []) ⟨rfl, rfl⟩ rfl rfl (.tmp rfl) .rf .nil rfl
noncomputable def m140i1 (p0 : ApiValue) : Option Bool := some (!decide (p0.fault = 0))
abbrev p140i1 (p0 : ApiValue) (r : Bool) (v : V) (H : List Ob) : Prop := v = vB r ∧ H = []
theorem c140i1 {p0 : ApiValue} {r : Bool} (h : m140i1 p0 = some r) : CE Tryz.prog 140 [.agg ((eApiValue p0).map .p)] [] (vB r) [] := by
  refine CD.ofM (P := p140i1 p0) h Tryz.func140 rfl Tryz.ntmps140 rfl fun w g => ?_
  refine .seq <| .region <| .bxE (cs := eApiValue p0) rfl rfl rfl rfl <| .sg rfl rfl <| .nil <| .th <| .seq <| .region <| .fE fa55_0 rfl rfl rfl <| .lE Tryz.isAgg5 rfl rfl rfl <| .neq rfl rfl rfl <| .sg rfl rfl <| ?_
  exact .nil <| .th <| .ret <| .ret1 (P := p140i1 p0) (sel := []) ⟨rfl, rfl⟩ rfl rfl (.tmp rfl) .rf .nil rfl
noncomputable def m139i1_1 (p0 : List ApiValue) : Int → Option (Int) := Lp fun s8_0 => if (decide (s8_0 < (p0.length : Int))) then (ix p0 s8_0).bind fun z1 => (m140i1 z1).bind fun z2 => if z2 then (some s8_0).map .inr else some (.inl (wi (s8_0 + 1))) else (some (-1)).map .inr
noncomputable def m139i1 (p0 : List ApiValue) : Option Int := m139i1_1 p0 0
abbrev p139i1 (p0 : List ApiValue) (r : Int) (v : V) (H : List Ob) : Prop := v = vI r ∧ H = []
theorem c139i1 {p0 : List ApiValue} {r : Int} (h : m139i1 p0 = some r) : CE Tryz.prog 139 [vL 2 eApiValue p0, .p (.v (.func (.func 140) #[] #[]))] [] (vI r) [] := by
  refine CD.ofM (P := p139i1 p0) h Tryz.func139 rfl Tryz.ntmps139 rfl fun w g => ?_
  refine .seq <| .region <| .sg rfl rfl <| .nil <| .th <| .seq <| .seq <| .region <| .mv rfl rfl <| .ln Tryz.runUnderlying32 rfl sls_p rfl <| .mv rfl rfl <| .nil <| .th <| .blk <| .loop (α := (Int)) id (fun s8_0 => [(0, vL 2 eApiValue p0), (1, .p (.v (.func (.func 140) #[] #[]))), (7, vI (p0.length : Int)), (8, vI s8_0)]) (fun s8_0 => []) 0 rfl (.s rfl (.s rfl (.s rfl (.s rfl .n)))) rfl ?_
  rintro s8_0 n
  refine .seq <| .region <| .lss rfl rfl rfl <| .nil <| .th <| .seq <| .cond rfl ?_ ?_
  · refine .skip <| .th <| .seq <| .blk <| .seq <| .region <| .mv rfl rfl <| .sg rfl rfl <| .nil <| .th <| .seq <| .region <| .mv rfl rfl <| .mv rfl rfl <| .mv rfl rfl <| .ix Tryz.runUnderlying32 Tryz.sizeOf55 rfl rfl sls_p eApiValue_len rfl fun z1 => ?_
    refine .lEA Tryz.isAgg55 Tryz.sizeOf55 rfl rfl rfl <| .c0 [] [] rfl (fun z h => ⟨c140i1 h, .mk' rfl, rfl, rfl⟩) (fun _ _ => rfl) (.s rfl .n) rd0 rfl fun z2 => .nil <| .th <| .cond rfl ?_ ?_
    · exact .seq <| .region <| .mv rfl rfl <| .sg rfl rfl <| .nil <| .th <| .ret <| .blkR <| .thR <| .lpR <| .blkR <| .thR <| .ret1 (P := p139i1 p0) (sel := []) ⟨rfl, rfl⟩ rfl rfl (.tmp rfl) .rf .nil rfl
    · exact .skip <| .blk <| .th <| .region <| .add rfl rfl rfl <| .mv rfl rfl <| .nil <| .next (wi (s8_0 + 1)) rfl (.s rfl (.s rfl (.s rfl (.s rfl .n)))) rfl
  · exact .exit <| .thE <| .lpE <| .blkE <| .th <| .seq <| .region <| .sg rfl rfl <| .nil <| .th <| .ret <| .ret1 (P := p139i1 p0) (sel := []) ⟨rfl, rfl⟩ rfl rfl (.tmp rfl) .rf .nil rfl
noncomputable def m98 (a0 : List ApiValue) : Option (ApiValue × Bool) := (m139i1 a0).bind fun z1 => if (decide (z1 < 0)) then some (⟨0, 0⟩, false) else (ix a0 z1).bind fun z2 => some (⟨z2.fault, z2.n⟩, true)
abbrev p98 (r : ApiValue × Bool) (v : V) (H : List Ob) : Prop := v = .tup [.agg ((eApiValue r.1).map .p), vB r.2] ∧ H = []
theorem c98 {a0 : List ApiValue} {r : ApiValue × Bool} (h : m98 a0 = some r) : CP Tryz.prog 98 [vL 2 eApiValue a0] (.tup [.agg ((eApiValue r.1).map .p), vB r.2]) := by
  refine CD.ofM (P := p98) h Tryz.func98 rfl Tryz.ntmps98 rfl fun w g => ?_
  refine .ext 1 ?_
  refine .seq <| .region <| .al 0 Tryz.zeroValue55 rfl rfl rfl <| .sg rfl rfl <| .nil <| .th <| .seq <| .region <| .mv rfl rfl <| .cd [] [] (fun z h => ⟨c139i1 h, .mk' rfl, rfl, rfl⟩) (fun _ _ => rfl) (.s rfl (.s rfl .n)) rd0 rfl fun z1 => ?_
  refine .sg rfl rfl <| .nil <| .th <| .seq <| .seq <| .region <| .mv rfl rfl <| .lss rfl rfl rfl <| .nil <| .th <| .cond rfl ?_ ?_
  · exact .seq <| .region <| .bu bu55 rfl rfl rfl rfl <| .st Tryz.sizeOf55 rfl rfl rfl rfl rfl rfl <| .sg rfl rfl <| .nil <| .th <| .ret <| .thR <| .ret2 (P := p98) (sel := []) ⟨rfl, rfl⟩ rfl rfl (.cellA rfl rfl Tryz.isAgg55 Tryz.sizeOf55 rfl) (.tmp rfl) .rf .rf .nil rfl
  · refine .skip <| .th <| .seq <| .region <| .mv rfl rfl <| .mv rfl rfl <| .ix Tryz.runUnderlying32 Tryz.sizeOf55 rfl rfl sls_p eApiValue_len rfl fun z2 => .lEA Tryz.isAgg55 Tryz.sizeOf55 rfl rfl rfl <| .st Tryz.sizeOf55 rfl rfl rfl rfl rfl rfl <| ?_
    exact .sg rfl rfl <| .nil <| .th <| .ret <| .ret2 (P := p98) (sel := []) ⟨rfl, rfl⟩ rfl rfl (.cellA rfl rfl Tryz.isAgg55 Tryz.sizeOf55 rfl) (.tmp rfl) .rf .rf .nil rfl
noncomputable def m142i1 (p0 : ApiValue) : Option Bool := (m97 p0).bind fun z1 => some (!z1)
abbrev p142i1 (p0 : ApiValue) (r : Bool) (v : V) (H : List Ob) : Prop := v = vB r ∧ H = []
theorem c142i1 {p0 : ApiValue} {r : Bool} (h : m142i1 p0 = some r) : CE Tryz.prog 142 [.agg ((eApiValue p0).map .p)] [] (vB r) [] := by
  refine CD.ofM (P := p142i1 p0) h Tryz.func142 rfl Tryz.ntmps142 rfl fun w g => ?_
  refine .seq <| .region <| .bxE (cs := eApiValue p0) rfl rfl rfl rfl <| .sg rfl rfl <| .nil <| .th <| .seq <| .region <| .lEA Tryz.isAgg55 Tryz.sizeOf55 rfl rfl rfl <| .cw (fun _ => c97) (fun _ _ => rfl) (.s rfl .n) rfl (fun _ => rfl) rfl fun z1 => ?_
  exact .not rfl rfl <| .sg rfl rfl <| .nil <| .th <| .ret <| .ret1 (P := p142i1 p0) (sel := []) ⟨rfl, rfl⟩ rfl rfl (.tmp rfl) .rf .nil rfl
noncomputable def m139i2_1 (p0 : List ApiValue) : Int → Option (Int) := Lp fun s8_0 => if (decide (s8_0 < (p0.length : Int))) then (ix p0 s8_0).bind fun z1 => (m142i1 z1).bind fun z2 => if z2 then (some s8_0).map .inr else some (.inl (wi (s8_0 + 1))) else (some (-1)).map .inr
noncomputable def m139i2 (p0 : List ApiValue) : Option Int := m139i2_1 p0 0
abbrev p139i2 (p0 : List ApiValue) (r : Int) (v : V) (H : List Ob) : Prop := v = vI r ∧ H = []
theorem c139i2 {p0 : List ApiValue} {r : Int} (h : m139i2 p0 = some r) : CE Tryz.prog 139 [vL 2 eApiValue p0, .p (.v (.func (.func 142) #[] #[]))] [] (vI r) [] := by
  refine CD.ofM (P := p139i2 p0) h Tryz.func139 rfl Tryz.ntmps139 rfl fun w g => ?_
  refine .seq <| .region <| .sg rfl rfl <| .nil <| .th <| .seq <| .seq <| .region <| .mv rfl rfl <| .ln Tryz.runUnderlying32 rfl sls_p rfl <| .mv rfl rfl <| .nil <| .th <| .blk <| .loop (α := (Int)) id (fun s8_0 => [(0, vL 2 eApiValue p0), (1, .p (.v (.func (.func 142) #[] #[]))), (7, vI (p0.length : Int)), (8, vI s8_0)]) (fun s8_0 => []) 0 rfl (.s rfl (.s rfl (.s rfl (.s rfl .n)))) rfl ?_
  rintro s8_0 n
  refine .seq <| .region <| .lss rfl rfl rfl <| .nil <| .th <| .seq <| .cond rfl ?_ ?_
  · refine .skip <| .th <| .seq <| .blk <| .seq <| .region <| .mv rfl rfl <| .sg rfl rfl <| .nil <| .th <| .seq <| .region <| .mv rfl rfl <| .mv rfl rfl <| .mv rfl rfl <| .ix Tryz.runUnderlying32 Tryz.sizeOf55 rfl rfl sls_p eApiValue_len rfl fun z1 => ?_
    refine .lEA Tryz.isAgg55 Tryz.sizeOf55 rfl rfl rfl <| .c0 [] [] rfl (fun z h => ⟨c142i1 h, .mk' rfl, rfl, rfl⟩) (fun _ _ => rfl) (.s rfl .n) rd0 rfl fun z2 => .nil <| .th <| .cond rfl ?_ ?_
    · exact .seq <| .region <| .mv rfl rfl <| .sg rfl rfl <| .nil <| .th <| .ret <| .blkR <| .thR <| .lpR <| .blkR <| .thR <| .ret1 (P := p139i2 p0) (sel := []) ⟨rfl, rfl⟩ rfl rfl (.tmp rfl) .rf .nil rfl
    · exact .skip <| .blk <| .th <| .region <| .add rfl rfl rfl <| .mv rfl rfl <| .nil <| .next (wi (s8_0 + 1)) rfl (.s rfl (.s rfl (.s rfl (.s rfl .n)))) rfl
  · exact .exit <| .thE <| .lpE <| .blkE <| .th <| .seq <| .region <| .sg rfl rfl <| .nil <| .th <| .ret <| .ret1 (P := p139i2 p0) (sel := []) ⟨rfl, rfl⟩ rfl rfl (.tmp rfl) .rf .nil rfl
noncomputable def m141i1 (p0 : List ApiValue) : Option Bool := (m139i2 p0).bind fun z1 => some (decide (0 ≤ z1))
abbrev p141i1 (p0 : List ApiValue) (r : Bool) (v : V) (H : List Ob) : Prop := v = vB r ∧ H = []
theorem c141i1 {p0 : List ApiValue} {r : Bool} (h : m141i1 p0 = some r) : CE Tryz.prog 141 [vL 2 eApiValue p0, .p (.v (.func (.func 142) #[] #[]))] [] (vB r) [] := by
  refine CD.ofM (P := p141i1 p0) h Tryz.func141 rfl Tryz.ntmps141 rfl fun w g => ?_
  refine .seq <| .region <| .sg rfl rfl <| .nil <| .th <| .seq <| .region <| .mv rfl rfl <| .mv rfl rfl <| .cd [] [] (fun z h => ⟨c139i2 h, .mk' rfl, rfl, rfl⟩) (fun _ _ => rfl) (.s rfl (.s rfl .n)) rd0 rfl fun z1 => ?_
  exact .geq rfl rfl rfl <| .sg rfl rfl <| .nil <| .th <| .ret <| .ret1 (P := p141i1 p0) (sel := []) ⟨rfl, rfl⟩ rfl rfl (.tmp rfl) .rf .nil rfl
noncomputable def m99 (a0 : List ApiValue) : Option Bool := (m141i1 a0).bind fun z1 => some (!z1)
abbrev p99 (r : Bool) (v : V) (H : List Ob) : Prop := v = vB r ∧ H = []
theorem c99 {a0 : List ApiValue} {r : Bool} (h : m99 a0 = some r) : CP Tryz.prog 99 [vL 2 eApiValue a0] (vB r) := by
  refine CD.ofM (P := p99) h Tryz.func99 rfl Tryz.ntmps99 rfl fun w g => ?_
  refine .seq <| .region <| .sg rfl rfl <| .nil <| .th <| .seq <| .region <| .mv rfl rfl <| .cd [] [] (fun z h => ⟨c141i1 h, .mk' rfl, rfl, rfl⟩) (fun _ _ => rfl) (.s rfl (.s rfl .n)) rd0 rfl fun z1 => .not rfl rfl <| ?_
  exact .sg rfl rfl <| .nil <| .th <| .ret <| .ret1 (P := p99) (sel := []) ⟨rfl, rfl⟩ rfl rfl (.tmp rfl) .rf .nil rfl
noncomputable def m146i1  : Option Nat := some 4
abbrev p146i1  (r : Nat) (v : V) (H : List Ob) : Prop := v = vF167 r ∧ H = []
theorem c146i1  {r : Nat} (h : m146i1  = some r) : CE Tryz.prog 146 [.p (.v (.func (.func 147) #[] #[]))] [] (vF167 r) [] := by
  refine CD.ofM (P := p146i1) h Tryz.func146 rfl Tryz.ntmps146 rfl fun w g => ?_
  exact .seq <| .region <| .bxE (cs := [.v (.func (.func 147) #[] #[])]) rfl rfl rfl rfl <| .sg rfl rfl <| .nil <| .th <| .seq <| .region <| .mf rfl rfl rfl <| .sg rfl rfl <| .nil <| .th <| .ret <| .ret1 (P := p146i1) (sel := []) ⟨rfl, rfl⟩ rfl rfl (.tmp rfl) .rf .nil rfl
noncomputable def m146i2  : Option Nat := some 5
abbrev p146i2  (r : Nat) (v : V) (H : List Ob) : Prop := v = vF167 r ∧ H = []
theorem c146i2  {r : Nat} (h : m146i2  = some r) : CE Tryz.prog 146 [.p (.v (.func (.func 148) #[] #[]))] [] (vF167 r) [] := by
  refine CD.ofM (P := p146i2) h Tryz.func146 rfl Tryz.ntmps146 rfl fun w g => ?_
  exact .seq <| .region <| .bxE (cs := [.v (.func (.func 148) #[] #[])]) rfl rfl rfl rfl <| .sg rfl rfl <| .nil <| .th <| .seq <| .region <| .mf rfl rfl rfl <| .sg rfl rfl <| .nil <| .th <| .ret <| .ret1 (P := p146i2) (sel := []) ⟨rfl, rfl⟩ rfl rfl (.tmp rfl) .rf .nil rfl
noncomputable def m149i1  : Option Nat := some 6
abbrev p149i1  (r : Nat) (v : V) (H : List Ob) : Prop := v = vF167 r ∧ H = []
theorem c149i1  {r : Nat} (h : m149i1  = some r) : CE Tryz.prog 149 [.p (.v (.func (.func 150) #[] #[]))] [] (vF167 r) [] := by
  refine CD.ofM (P := p149i1) h Tryz.func149 rfl Tryz.ntmps149 rfl fun w g => ?_
  exact .seq <| .region <| .bxE (cs := [.v (.func (.func 150) #[] #[])]) rfl rfl rfl rfl <| .sg rfl rfl <| .nil <| .th <| .seq <| .region <| .mf rfl rfl rfl <| .sg rfl rfl <| .nil <| .th <| .ret <| .ret1 (P := p149i1) (sel := []) ⟨rfl, rfl⟩ rfl rfl (.tmp rfl) .rf .nil rfl
noncomputable def m149i2  : Option Nat := some 7
abbrev p149i2  (r : Nat) (v : V) (H : List Ob) : Prop := v = vF167 r ∧ H = []
theorem c149i2  {r : Nat} (h : m149i2  = some r) : CE Tryz.prog 149 [.p (.v (.func (.func 151) #[] #[]))] [] (vF167 r) [] := by
  refine CD.ofM (P := p149i2) h Tryz.func149 rfl Tryz.ntmps149 rfl fun w g => ?_
  exact .seq <| .region <| .bxE (cs := [.v (.func (.func 151) #[] #[])]) rfl rfl rfl rfl <| .sg rfl rfl <| .nil <| .th <| .seq <| .region <| .mf rfl rfl rfl <| .sg rfl rfl <| .nil <| .th <| .ret <| .ret1 (P := p149i2) (sel := []) ⟨rfl, rfl⟩ rfl rfl (.tmp rfl) .rf .nil rfl
noncomputable def m149i3  : Option Nat := some 8
abbrev p149i3  (r : Nat) (v : V) (H : List Ob) : Prop := v = vF167 r ∧ H = []
theorem c149i3  {r : Nat} (h : m149i3  = some r) : CE Tryz.prog 149 [.p (.v (.func (.func 152) #[] #[]))] [] (vF167 r) [] := by
  refine CD.ofM (P := p149i3) h Tryz.func149 rfl Tryz.ntmps149 rfl fun w g => ?_
  exact .seq <| .region <| .bxE (cs := [.v (.func (.func 152) #[] #[])]) rfl rfl rfl rfl <| .sg rfl rfl <| .nil <| .th <| .seq <| .region <| .mf rfl rfl rfl <| .sg rfl rfl <| .nil <| .th <| .ret <| .ret1 (P := p149i3) (sel := []) ⟨rfl, rfl⟩ rfl rfl (.tmp rfl) .rf .nil rfl
noncomputable def m100 (a0 : Int) : Option Nat := if (decide (a0 = 7)) then some 1 else if (decide (a0 = 8)) then some 2 else if (decide (a0 = 9)) then some 3 else if (decide (a0 = 10)) then (m146i1 ).bind fun z1 => some z1 else if (decide (a0 = 11)) then (m146i2 ).bind fun z2 => some z2 else if (decide (a0 = 12)) then (m149i1 ).bind fun z3 => some z3 else if (decide (a0 = 13)) then (m149i2 ).bind fun z4 => some z4 else if (decide (a0 = 14)) then (m149i3 ).bind fun z5 => some z5 else some 0
abbrev p100 (r : Nat) (v : V) (H : List Ob) : Prop := v = vF167 r ∧ H = []
theorem c100 {a0 : Int} {r : Nat} (h : m100 a0 = some r) : CP Tryz.prog 100 [v8 a0] (vF167 r) := by
  refine CD.ofM (P := p100) h Tryz.func100 rfl Tryz.ntmps100 rfl fun w g => ?_
  refine .seq <| .region <| .sg rfl rfl <| .nil <| .th <| .seq <| .seq <| .region <| .mv rfl rfl <| .nil <| .th <| .blk <| .seq <| .region <| .eql rfl rfl rfl <| .sg rfl rfl <| .nil <| .th <| .cond rfl ?_ ?_
  · exact .seq <| .region <| .sg rfl rfl <| .nil <| .th <| .ret <| .blkR <| .thR <| .ret1 (P := p100) (sel := []) ⟨rfl, rfl⟩ rfl rfl (.tmp rfl) .rf .nil rfl
  · refine .seq <| .region <| .eql rfl rfl rfl <| .sg rfl rfl <| .nil <| .th <| .cond rfl ?_ ?_
    · exact .seq <| .region <| .sg rfl rfl <| .nil <| .th <| .ret <| .blkR <| .thR <| .ret1 (P := p100) (sel := []) ⟨rfl, rfl⟩ rfl rfl (.tmp rfl) .rf .nil rfl
    · refine .seq <| .region <| .eql rfl rfl rfl <| .sg rfl rfl <| .nil <| .th <| .cond rfl ?_ ?_
      · exact .seq <| .region <| .sg rfl rfl <| .nil <| .th <| .ret <| .blkR <| .thR <| .ret1 (P := p100) (sel := []) ⟨rfl, rfl⟩ rfl rfl (.tmp rfl) .rf .nil rfl
      · refine .seq <| .region <| .eql rfl rfl rfl <| .sg rfl rfl <| .nil <| .th <| .cond rfl ?_ ?_
        · exact .seq <| .region <| .cd [] [] (fun z h => ⟨c146i1 h, .mk' rfl, rfl, rfl⟩) (fun _ _ => rfl) (.s rfl .n) rd0 rfl fun z1 => .sg rfl rfl <| .nil <| .th <| .ret <| .blkR <| .thR <| .ret1 (P := p100) (sel := []) ⟨rfl, rfl⟩ rfl rfl (.tmp rfl) .rf .nil (vFlt167 _ _)
        · refine .seq <| .region <| .eql rfl rfl rfl <| .sg rfl rfl <| .nil <| .th <| .cond rfl ?_ ?_
          · exact .seq <| .region <| .cd [] [] (fun z h => ⟨c146i2 h, .mk' rfl, rfl, rfl⟩) (fun _ _ => rfl) (.s rfl .n) rd0 rfl fun z2 => .sg rfl rfl <| .nil <| .th <| .ret <| .blkR <| .thR <| .ret1 (P := p100) (sel := []) ⟨rfl, rfl⟩ rfl rfl (.tmp rfl) .rf .nil (vFlt167 _ _)
          · refine .seq <| .region <| .eql rfl rfl rfl <| .sg rfl rfl <| .nil <| .th <| .cond rfl ?_ ?_
            · exact .seq <| .region <| .cd [] [] (fun z h => ⟨c149i1 h, .mk' rfl, rfl, rfl⟩) (fun _ _ => rfl) (.s rfl .n) rd0 rfl fun z3 => .sg rfl rfl <| .nil <| .th <| .ret <| .blkR <| .thR <| .ret1 (P := p100) (sel := []) ⟨rfl, rfl⟩ rfl rfl (.tmp rfl) .rf .nil (vFlt167 _ _)
            · refine .seq <| .region <| .eql rfl rfl rfl <| .sg rfl rfl <| .nil <| .th <| .cond rfl ?_ ?_
              · exact .seq <| .region <| .cd [] [] (fun z h => ⟨c149i2 h, .mk' rfl, rfl, rfl⟩) (fun _ _ => rfl) (.s rfl .n) rd0 rfl fun z4 => .sg rfl rfl <| .nil <| .th <| .ret <| .blkR <| .thR <| .ret1 (P := p100) (sel := []) ⟨rfl, rfl⟩ rfl rfl (.tmp rfl) .rf .nil (vFlt167 _ _)
              · refine .seq <| .region <| .eql rfl rfl rfl <| .sg rfl rfl <| .nil <| .th <| .cond rfl ?_ ?_
                · exact .seq <| .region <| .cd [] [] (fun z h => ⟨c149i3 h, .mk' rfl, rfl, rfl⟩) (fun _ _ => rfl) (.s rfl .n) rd0 rfl fun z5 => .sg rfl rfl <| .nil <| .th <| .ret <| .blkR <| .thR <| .ret1 (P := p100) (sel := []) ⟨rfl, rfl⟩ rfl rfl (.tmp rfl) .rf .nil (vFlt167 _ _)
                · exact .skip <| .blk <| .th <| .seq <| .region <| .sg rfl rfl <| .nil <| .th <| .ret <| .ret1 (P := p100) (sel := []) ⟨rfl, rfl⟩ rfl rfl (.tmp rfl) .rf .nil rfl
noncomputable def m101 (a0 : Bool) : Option ApiValue := if a0 then (m70 1).bind fun z1 => some ⟨z1.fault, z1.n⟩ else (m70 0).bind fun z2 => some ⟨z2.fault, z2.n⟩
abbrev p101 (r : ApiValue) (v : V) (H : List Ob) : Prop := v = .agg ((eApiValue r).map .p) ∧ H = []
theorem c101 {a0 : Bool} {r : ApiValue} (h : m101 a0 = some r) : CP Tryz.prog 101 [vB a0] (.agg ((eApiValue r).map .p)) := by
  refine CD.ofM (P := p101) h Tryz.func101 rfl Tryz.ntmps101 rfl fun w g => ?_
  refine .ext 1 ?_
  refine .seq <| .region <| .al 0 Tryz.zeroValue55 rfl rfl rfl <| .nil <| .th <| .seq <| .seq <| .region <| .mv rfl rfl <| .nil <| .th <| .cond rfl ?_ ?_
  · exact .seq <| .region <| .cw (fun _ => c70) (fun _ _ => rfl) (.s rfl .n) rfl (fun _ => rfl) rfl fun z1 => .st Tryz.sizeOf55 rfl rfl rfl rfl rfl rfl <| .nil <| .th <| .ret <| .thR <| .ret1 (P := p101) (sel := []) ⟨rfl, rfl⟩ rfl rfl (.cellA rfl rfl Tryz.isAgg55 Tryz.sizeOf55 rfl) .rf .nil rfl
  · exact .skip <| .th <| .seq <| .region <| .cw (fun _ => c70) (fun _ _ => rfl) (.s rfl .n) rfl (fun _ => rfl) rfl fun z2 => .st Tryz.sizeOf55 rfl rfl rfl rfl rfl rfl <| .nil <| .th <| .ret <| .ret1 (P := p101) (sel := []) ⟨rfl, rfl⟩ rfl rfl (.cellA rfl rfl Tryz.isAgg55 Tryz.sizeOf55 rfl) .rf .nil rfl
noncomputable def m102 (a0 : Int) : Option ApiValue := if ((decide (a0 < (-9999))) || (decide (9999 < a0))) then (m71 2).bind fun z1 => some ⟨z1.fault, z1.n⟩ else (m70 a0).bind fun z2 => some ⟨z2.fault, z2.n⟩
abbrev p102 (r : ApiValue) (v : V) (H : List Ob) : Prop := v = .agg ((eApiValue r).map .p) ∧ H = []
theorem c102 {a0 : Int} {r : ApiValue} (h : m102 a0 = some r) : CP Tryz.prog 102 [vI a0] (.agg ((eApiValue r).map .p)) := by
  refine CD.ofM (P := p102) h Tryz.func102 rfl Tryz.ntmps102 rfl fun w g => ?_
  refine .ext 1 ?_
  refine .seq <| .region <| .al 0 Tryz.zeroValue55 rfl rfl rfl <| .nil <| .th <| .seq <| .seq <| .region <| .mv rfl rfl <| .lss rfl rfl rfl <| .mv rfl rfl <| .or (r := (decide (9999 < a0))) 3 8 5 rfl (fun c => ?_) (fun c => ?_) ?_
  · exact .yes 5 rfl rfl rfl <| .mv rfl rfl <| .yes 5 rfl rfl rfl <| .gtr rfl rfl rfl <| .pickF rfl rfl rfl <| c _ (.up rfl rfl rfl)
  · exact .no 5 rfl rfl rfl rfl <| .no 5 rfl rfl rfl rfl <| .pickT rfl rfl rfl <| c _ (.up rfl rfl rfl)
  · refine .nil <| .th <| .cond rfl ?_ ?_
    · exact .seq <| .region <| .cw (fun _ => c71) (fun _ _ => rfl) (.s rfl .n) rfl (fun _ => rfl) rfl fun z1 => .st Tryz.sizeOf55 rfl rfl rfl rfl rfl rfl <| .nil <| .th <| .ret <| .thR <| .ret1 (P := p102) (sel := []) ⟨rfl, rfl⟩ rfl rfl (.cellA rfl rfl Tryz.isAgg55 Tryz.sizeOf55 rfl) .rf .nil rfl
    · exact .skip <| .th <| .seq <| .region <| .mv rfl rfl <| .cw (fun _ => c70) (fun _ _ => rfl) (.s rfl .n) rfl (fun _ => rfl) rfl fun z2 => .st Tryz.sizeOf55 rfl rfl rfl rfl rfl rfl <| .nil <| .th <| .ret <| .ret1 (P := p102) (sel := []) ⟨rfl, rfl⟩ rfl rfl (.cellA rfl rfl Tryz.isAgg55 Tryz.sizeOf55 rfl) .rf .nil rfl
noncomputable def m103_3 (s0_0 : Int) (s1_0 : Int) : Int → Option (Int) := Lp fun s5_2 => if (decide (s0_0 < (wi (s5_2 * s1_0)))) then some (.inl (wi (s5_2 - 1))) else (some s5_2).map .inr
noncomputable def m103_2 (s1_0 : Int) (s0_0 : Int) : Int → Option (Int) := Lp fun s5_1 => if (decide ((wi ((wi (s5_1 + 1)) * s1_0)) ≤ s0_0)) then some (.inl (wi (s5_1 + 1))) else (m103_3 s0_0 s1_0 s5_1).map .inr
noncomputable def m103_1  : (Int × Int) → Option (Int) := fun (s0_0, s1_0) => m103_2 s1_0 s0_0 0
noncomputable def m103 (a0 : Int) (a1 : Int) : Option Int := if (decide (a1 < 0)) then m103_1 ((wi (-a0)), (wi (-a1))) else m103_1 (a0, a1)
abbrev p103 (r : Int) (v : V) (H : List Ob) : Prop := v = vI r ∧ H = []
theorem c103 {a0 : Int} {a1 : Int} {r : Int} (h : m103 a0 a1 = some r) : CP Tryz.prog 103 [vI a0, vI a1] (vI r) := by
  refine CD.ofM (P := p103) h Tryz.func103 rfl Tryz.ntmps103 rfl fun w g => ?_
  refine .seq <| .region <| .sg rfl rfl <| .nil <| .th <| .join (β := (Int × Int)) (fun (s0_0, s1_0) => [(0, vI s0_0), (1, vI s1_0)]) (fun (s0_0, s1_0) => []) (m103_1) ?_ ?_
  · rintro ⟨s0_0, s1_0⟩
    refine .seq <| .region <| .sg rfl rfl <| .nil <| .th <| .seq <| .blk <| .loop (α := (Int)) id (fun s5_1 => [(0, vI s0_0), (1, vI s1_0), (5, vI s5_1)]) (fun s5_1 => []) 0 rfl (.s rfl (.s rfl (.s rfl .n))) rfl ?_
    rintro s5_1 n
    refine .seq <| .seq <| .region <| .mv rfl rfl <| .add rfl rfl rfl <| .mv rfl rfl <| .mul rfl rfl rfl <| .mv rfl rfl <| .leq rfl rfl rfl <| .nil <| .th <| .cond rfl ?_ ?_
    · exact .skip <| .th <| .blk <| .region <| .mv rfl rfl <| .add rfl rfl rfl <| .sg rfl rfl <| .nil <| .blk <| .next (wi (s5_1 + 1)) rfl (.s rfl (.s rfl (.s rfl .n))) rfl
    · refine .exit <| .thE <| .lpE <| .blkE <| .th <| .seq <| .blk <| .loop (α := (Int)) id (fun s5_2 => [(0, vI s0_0), (1, vI s1_0), (5, vI s5_2)]) (fun s5_2 => []) s5_1 rfl (.s rfl (.s rfl (.s rfl .n))) rfl ?_
      rintro s5_2 n
      refine .seq <| .seq <| .region <| .mv rfl rfl <| .mv rfl rfl <| .mul rfl rfl rfl <| .mv rfl rfl <| .gtr rfl rfl rfl <| .nil <| .th <| .cond rfl ?_ ?_
      · exact .skip <| .th <| .blk <| .region <| .mv rfl rfl <| .sb rfl rfl rfl <| .sg rfl rfl <| .nil <| .blk <| .next (wi (s5_2 - 1)) rfl (.s rfl (.s rfl (.s rfl .n))) rfl
      · exact .exit <| .thE <| .lpE <| .blkE <| .th <| .seq <| .region <| .mv rfl rfl <| .sg rfl rfl <| .nil <| .th <| .ret <| .ret1 (P := p103) (sel := []) ⟨rfl, rfl⟩ rfl rfl (.tmp rfl) .rf .nil rfl
  · intro j
    refine .seq <| .region <| .mv rfl rfl <| .lss rfl rfl rfl <| .nil <| .th <| .cond rfl ?_ ?_
    · exact .region <| .mv rfl rfl <| .neg rfl rfl <| .mv rfl rfl <| .neg rfl rfl <| .sg rfl rfl <| .sg rfl rfl <| .nil <| .meet j [] ((wi (-a0)), (wi (-a1))) (.s rfl (.s rfl .n)) rfl rfl
    · exact .skip <| .meet j [] (a0, a1) (.s rfl (.s rfl .n)) rfl rfl
noncomputable def m140 (a0 : ApiValue) : Option Bool := some (!decide (a0.fault = 0))
abbrev p140 (r : Bool) (v : V) (H : List Ob) : Prop := v = vB r ∧ H = []
noncomputable def m142 (a0 : ApiValue) : Option Bool := (m97 a0).bind fun z1 => some (!z1)
abbrev p142 (r : Bool) (v : V) (H : List Ob) : Prop := v = vB r ∧ H = []
noncomputable def m147 (a0 : Int) (a1 : Int) : Option Int := some a0
abbrev p147 (r : Int) (v : V) (H : List Ob) : Prop := v = vI r ∧ H = []
theorem c147 {a0 : Int} {a1 : Int} {r : Int} (h : m147 a0 a1 = some r) : CP Tryz.prog 147 [vI a0, vI a1] (vI r) := by
  refine CD.ofM (P := p147) h Tryz.func147 rfl Tryz.ntmps147 rfl fun w g => ?_
  exact .seq <| .region <| .sg rfl rfl <| .nil <| .th <| .seq <| .region <| .mv rfl rfl <| .sg rfl rfl <| .nil <| .th <| .ret <| .ret1 (P := p147) (sel := []) ⟨rfl, rfl⟩ rfl rfl (.tmp rfl) .rf .nil rfl
noncomputable def m148 (a0 : Int) (a1 : Int) : Option Int := some a1
abbrev p148 (r : Int) (v : V) (H : List Ob) : Prop := v = vI r ∧ H = []
theorem c148 {a0 : Int} {a1 : Int} {r : Int} (h : m148 a0 a1 = some r) : CP Tryz.prog 148 [vI a0, vI a1] (vI r) := by
  refine CD.ofM (P := p148) h Tryz.func148 rfl Tryz.ntmps148 rfl fun w g => ?_
  exact .seq <| .region <| .sg rfl rfl <| .nil <| .th <| .seq <| .region <| .mv rfl rfl <| .sg rfl rfl <| .nil <| .th <| .ret <| .ret1 (P := p148) (sel := []) ⟨rfl, rfl⟩ rfl rfl (.tmp rfl) .rf .nil rfl
noncomputable def m150 (a0 : Int) : Option Bool := some (decide (a0 = 0))
abbrev p150 (r : Bool) (v : V) (H : List Ob) : Prop := v = vB r ∧ H = []
theorem c150 {a0 : Int} {r : Bool} (h : m150 a0 = some r) : CP Tryz.prog 150 [vI a0] (vB r) := by
  refine CD.ofM (P := p150) h Tryz.func150 rfl Tryz.ntmps150 rfl fun w g => ?_
  exact .seq <| .region <| .sg rfl rfl <| .nil <| .th <| .seq <| .region <| .mv rfl rfl <| .eql rfl rfl rfl <| .sg rfl rfl <| .nil <| .th <| .ret <| .ret1 (P := p150) (sel := []) ⟨rfl, rfl⟩ rfl rfl (.tmp rfl) .rf .nil rfl
noncomputable def m151 (a0 : Int) : Option Bool := some (decide (a0 < 0))
abbrev p151 (r : Bool) (v : V) (H : List Ob) : Prop := v = vB r ∧ H = []
theorem c151 {a0 : Int} {r : Bool} (h : m151 a0 = some r) : CP Tryz.prog 151 [vI a0] (vB r) := by
  refine CD.ofM (P := p151) h Tryz.func151 rfl Tryz.ntmps151 rfl fun w g => ?_
  exact .seq <| .region <| .sg rfl rfl <| .nil <| .th <| .seq <| .region <| .mv rfl rfl <| .lss rfl rfl rfl <| .sg rfl rfl <| .nil <| .th <| .ret <| .ret1 (P := p151) (sel := []) ⟨rfl, rfl⟩ rfl rfl (.tmp rfl) .rf .nil rfl
noncomputable def m152 (a0 : Int) : Option Bool := some (decide (a0 ≤ 0))
abbrev p152 (r : Bool) (v : V) (H : List Ob) : Prop := v = vB r ∧ H = []
theorem c152 {a0 : Int} {r : Bool} (h : m152 a0 = some r) : CP Tryz.prog 152 [vI a0] (vB r) := by
  refine CD.ofM (P := p152) h Tryz.func152 rfl Tryz.ntmps152 rfl fun w g => ?_
  exact .seq <| .region <| .sg rfl rfl <| .nil <| .th <| .seq <| .region <| .mv rfl rfl <| .leq rfl rfl rfl <| .sg rfl rfl <| .nil <| .th <| .ret <| .ret1 (P := p152) (sel := []) ⟨rfl, rfl⟩ rfl rfl (.tmp rfl) .rf .nil rfl
noncomputable def m186 (a0 : Int) : Option Bool := some (!decide (a0 = a0))
abbrev p186 (r : Bool) (v : V) (H : List Ob) : Prop := v = vB r ∧ H = []
theorem c186 {a0 : Int} {r : Bool} (h : m186 a0 = some r) : CP Tryz.prog 186 [vI a0] (vB r) := by
  refine CD.ofM (P := p186) h Tryz.func186 rfl Tryz.ntmps186 rfl fun w g => ?_
  exact .seq <| .region <| .sg rfl rfl <| .nil <| .th <| .seq <| .region <| .mv rfl rfl <| .mv rfl rfl <| .neq rfl rfl rfl <| .sg rfl rfl <| .nil <| .th <| .ret <| .ret1 (P := p186) (sel := []) ⟨rfl, rfl⟩ rfl rfl (.tmp rfl) .rf .nil rfl
noncomputable def m190 (a0 : Int) (a1 : Int) : Option (Int × Int) := (dvd a0 a1).bind fun z1 => (md a0 a1).bind fun z2 => if ((!decide (z2 = 0)) && (!((decide (z2 < 0)) == (decide (a1 < 0))))) then some ((wi ((wi (z1)) - 1)), (wi (z2 + a1))) else some ((wi (z1)), z2)
abbrev p190 (r : Int × Int) (v : V) (H : List Ob) : Prop := v = .tup [vI r.1, vI r.2] ∧ H = []
theorem c190 {a0 : Int} {a1 : Int} {r : Int × Int} (h : m190 a0 a1 = some r) : CP Tryz.prog 190 [vI a0, vI a1] (.tup [vI r.1, vI r.2]) := by
  refine CD.ofM (P := p190) h Tryz.func190 rfl Tryz.ntmps190 rfl fun w g => ?_
  refine .seq <| .region <| .sg rfl rfl <| .sg rfl rfl <| .nil <| .th <| .seq <| .any Tryz.mixed <| .mv rfl .n <| .mv rfl .n <| .quo rfl rfl .n fun z1 => .mv rfl .n <| .mv rfl .n <| .rem rfl rfl .n fun z2 => .sg rfl .n <| ?_
  refine .sg rfl .n <| .nil (by kernel_rfl) <| .th <| .seq <| .seq <| .region <| .mv rfl rfl <| .neq rfl rfl rfl <| .mv rfl rfl <| .and (r := (!((decide (z2 < 0)) == (decide (a1 < 0))))) 6 20 14 rfl (fun c => ?_) (fun c => ?_) ?_
  · refine .yes 14 rfl rfl rfl <| .mv rfl rfl <| .yes 14 rfl rfl rfl <| .lss rfl rfl rfl <| .yes 14 rfl rfl rfl <| .mv rfl rfl <| .yes 14 rfl rfl rfl <| .lss rfl rfl rfl <| .yes 14 rfl rfl rfl <| .neB Tryz.runUnderlying4 rfl rfl rfl <| ?_
    exact .pickT rfl rfl rfl <| c _ (.up rfl rfl rfl)
  · exact .no 14 rfl rfl rfl rfl <| .no 14 rfl rfl rfl rfl <| .no 14 rfl rfl rfl rfl <| .no 14 rfl rfl rfl rfl <| .no 14 rfl rfl rfl rfl <| .pickF rfl rfl rfl <| c _ (.up rfl rfl rfl)
  · refine .nil <| .th <| .cond rfl ?_ ?_
    · exact .seq <| .region <| .mv rfl rfl <| .sb rfl rfl rfl <| .mv rfl rfl <| .mv rfl rfl <| .add rfl rfl rfl <| .sg rfl rfl <| .sg rfl rfl <| .nil <| .th <| .ret <| .thR <| .ret2 (P := p190) (sel := []) ⟨rfl, rfl⟩ rfl rfl (.tmp rfl) (.tmp rfl) .rf .rf .nil rfl
    · exact .skip <| .th <| .seq <| .region <| .mv rfl rfl <| .mv rfl rfl <| .sg rfl rfl <| .sg rfl rfl <| .nil <| .th <| .ret <| .ret2 (P := p190) (sel := []) ⟨rfl, rfl⟩ rfl rfl (.tmp rfl) (.tmp rfl) .rf .rf .nil rfl
noncomputable def m192 (a0 : Int) (a1 : Int) : Option Int := (m186 a0).bind fun z1 => (m186 a1).bind fun z2 => if z1 then if z2 then some 0 else some (-1) else if z2 then some 1 else if (decide (a0 < a1)) then some (-1) else if (decide (a1 < a0)) then some 1 else some 0
abbrev p192 (r : Int) (v : V) (H : List Ob) : Prop := v = vI r ∧ H = []
theorem c192 {a0 : Int} {a1 : Int} {r : Int} (h : m192 a0 a1 = some r) : CP Tryz.prog 192 [vI a0, vI a1] (vI r) := by
  refine CD.ofM (P := p192) h Tryz.func192 rfl Tryz.ntmps192 rfl fun w g => ?_
  refine .seq <| .region <| .sg rfl rfl <| .nil <| .th <| .seq <| .region <| .mv rfl rfl <| .cw (fun _ => c186) (fun _ _ => rfl) (.s rfl .n) rfl (fun _ => rfl) rfl fun z1 => .sg rfl rfl <| .nil <| .th <| .seq <| ?_
  refine .region <| .mv rfl rfl <| .cw (fun _ => c186) (fun _ _ => rfl) (.s rfl .n) rfl (fun _ => rfl) rfl fun z2 => .sg rfl rfl <| .nil <| .th <| .seq <| .seq <| .region <| .mv rfl rfl <| .nil <| .th <| .cond rfl ?_ ?_
  · refine .seq <| .seq <| .region <| .mv rfl rfl <| .nil <| .th <| .cond rfl ?_ ?_
    · exact .seq <| .region <| .sg rfl rfl <| .nil <| .th <| .ret <| .thR <| .thR <| .ret1 (P := p192) (sel := []) ⟨rfl, rfl⟩ rfl rfl (.tmp rfl) .rf .nil rfl
    · exact .skip <| .th <| .seq <| .region <| .sg rfl rfl <| .nil <| .th <| .ret <| .thR <| .ret1 (P := p192) (sel := []) ⟨rfl, rfl⟩ rfl rfl (.tmp rfl) .rf .nil rfl
  · refine .skip <| .th <| .seq <| .seq <| .region <| .mv rfl rfl <| .nil <| .th <| .cond rfl ?_ ?_
    · exact .seq <| .region <| .sg rfl rfl <| .nil <| .th <| .ret <| .thR <| .ret1 (P := p192) (sel := []) ⟨rfl, rfl⟩ rfl rfl (.tmp rfl) .rf .nil rfl
    · refine .skip <| .th <| .seq <| .seq <| .region <| .mv rfl rfl <| .mv rfl rfl <| .lss rfl rfl rfl <| .nil <| .th <| .cond rfl ?_ ?_
      · exact .seq <| .region <| .sg rfl rfl <| .nil <| .th <| .ret <| .thR <| .ret1 (P := p192) (sel := []) ⟨rfl, rfl⟩ rfl rfl (.tmp rfl) .rf .nil rfl
      · refine .skip <| .th <| .seq <| .seq <| .region <| .mv rfl rfl <| .mv rfl rfl <| .gtr rfl rfl rfl <| .nil <| .th <| .cond rfl ?_ ?_
        · exact .seq <| .region <| .sg rfl rfl <| .nil <| .th <| .ret <| .thR <| .ret1 (P := p192) (sel := []) ⟨rfl, rfl⟩ rfl rfl (.tmp rfl) .rf .nil rfl
        · exact .skip <| .th <| .seq <| .region <| .sg rfl rfl <| .nil <| .th <| .ret <| .ret1 (P := p192) (sel := []) ⟨rfl, rfl⟩ rfl rfl (.tmp rfl) .rf .nil rfl
noncomputable def m32i1 (p0 : ApiChoice) : Option Bool := (m33 (-9999) 9999 ([p0.lo, p0.hi] : List Int)).bind fun z1 => if (!z1) then some true else (m33 1 12 ([(wi ((wi (p0.hi - p0.lo)) + 1))] : List Int)).bind fun z2 => some (!z2)
abbrev p32i1 (p0 : ApiChoice) (r : Bool) (v : V) (H : List Ob) : Prop := v = vB r ∧ H = []
theorem c32i1 {p0 : ApiChoice} {r : Bool} (h : m32i1 p0 = some r) : CE Tryz.prog 32 [.agg ((eApiChoice p0).map .p)] [] (vB r) [] := by
  refine CD.ofM (P := p32i1 p0) h Tryz.func32 rfl Tryz.ntmps32 rfl fun w g => ?_
  refine .seq <| .region <| .bxE (cs := eApiChoice p0) rfl rfl rfl rfl <| .sg rfl rfl <| .nil <| .th <| .seq <| .region <| .fE fa72_1 rfl rfl rfl <| .lE Tryz.isAgg3 rfl rfl rfl <| .fE fa72_2 rfl rfl rfl <| .lE Tryz.isAgg3 rfl rfl rfl <| ?_
  refine .bs ([p0.lo, p0.hi] : List Int) eI Tryz.runUnderlying24 Tryz.sizeOf3 Tryz.zeroValue3 rfl rfl rfl rfl rfl rfl rfl rfl <| .cw (fun _ => c33) (fun _ _ => rfl) (.s rfl (.s rfl (.s rfl .n))) rfl (fun _ => rfl) rfl fun z1 => ?_
  refine .not rfl rfl <| .mv rfl rfl <| .fork 10 rfl ?_ ?_
  · refine .no 10 rfl rfl rfl rfl <| .no 10 rfl rfl rfl rfl <| .no 10 rfl rfl rfl rfl <| .no 10 rfl rfl rfl rfl <| .no 10 rfl rfl rfl rfl <| .no 10 rfl rfl rfl rfl <| .no 10 rfl rfl rfl rfl <| .no 10 rfl rfl rfl rfl <| ?_
    exact .no 10 rfl rfl rfl rfl <| .pickT rfl rfl rfl <| .sg rfl rfl <| .nil <| .th <| .ret <| .ret1 (P := p32i1 p0) (sel := []) ⟨rfl, rfl⟩ rfl rfl (.tmp rfl) .rf .nil rfl
  · refine .yes 10 rfl rfl rfl <| .fE fa72_2 rfl rfl rfl <| .yes 10 rfl rfl rfl <| .lE Tryz.isAgg3 rfl rfl rfl <| .yes 10 rfl rfl rfl <| .fE fa72_1 rfl rfl rfl <| .yes 10 rfl rfl rfl <| .lE Tryz.isAgg3 rfl rfl rfl <| ?_
    refine .yes 10 rfl rfl rfl <| .sb rfl rfl rfl <| .yes 10 rfl rfl rfl <| .add rfl rfl rfl <| .yes 10 rfl rfl rfl <| .bs ([(wi ((wi (p0.hi - p0.lo)) + 1))] : List Int) eI Tryz.runUnderlying24 Tryz.sizeOf3 Tryz.zeroValue3 rfl rfl rfl rfl rfl rfl rfl rfl <| ?_
    refine .yes 10 rfl rfl rfl <| .cw (fun _ => c33) (fun _ _ => rfl) (.s rfl (.s rfl (.s rfl .n))) rfl (fun _ => rfl) rfl fun z2 => .yes 10 rfl rfl rfl <| .not rfl rfl <| .pickF rfl rfl rfl <| .sg rfl rfl <| .nil <| ?_
    exact .th <| .ret <| .ret1 (P := p32i1 p0) (sel := []) ⟨rfl, rfl⟩ rfl rfl (.tmp rfl) .rf .nil rfl
end Go.Proofs.YtpcgfeckokgbfaaGreatDoor

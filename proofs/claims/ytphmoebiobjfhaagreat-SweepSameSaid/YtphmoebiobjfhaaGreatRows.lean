/-
  No cell of these rows narrows 'for every input' (looked for: loops, veiled, ifaces, maps, wideKeys, modest, calm, conditions, laid).
  DERIVED. THE GIVEN ROWS OF THIS SEAT. 6 by the template 'for every input the law returns true; each argument reads behind the call as it read before'; 0 by the template 'total and deterministic' (their statements: YtphmoebiobjfhaaGreatTotals.lean).
  GIVEN WITH THE SEED: the statements are not yours to turn. If you find one false, say at which input.
  Laid BY PROGRAM, IN A SANDBOX (cutbox-rows.mjs): the forced cells as the released guide's own fill.sh prints them over the translation b57997804a3c98f2… (all of the seat's roots in one cut). By AI agents, Wed Nov 11 2026. No macro, syntax, notation, axiom, sorry.
-/
import Derived.Test.YtphmoebiobjfhaaGreatChecked
import GoSem.Claim
import GoSem.ClaimJoined
import GoSem.ClaimMapViews
import Derived.JoinedTies
import Derived.KernelRfl
namespace Go.Proofs.YtphmoebiobjfhaaGreat
/- THE CELL 'sum', in the pinned program and in every row, IS THE sha256 OF THE DUMP (.gsa) THAT YtphmoebiobjfhaaGreatProg.lean LOADS. Nothing in Lean hashes anything: it is a label: what it is worth is what the hold of that sum in a sandbox is worth. -/
noncomputable def Tryz.pinned : Pinned := { name := "ytphmoebiobjfhaagreat", sum := "b57997804a3c98f2d04c9b2349470fc822c3575a51a0f8181a170516a22143d7", checked := Tryz.checked }
namespace Rows
def none {H : Type} : Left H := { results := [], args := [] }

/-- 'mistlaw12.SweepSteps': WHATEVER THE INPUT: true; the input reads as it did. -/
def sweepStepsSpec : ChangeSpec := { name := "sweepSteps", fn := fun _ => fun
  | [d] => { results := [.lit (.bool true)], args := [d] }
  | _ => none }
def sweepStepsRow : OpenClaim := { program := "ytphmoebiobjfhaagreat", sum := "b57997804a3c98f2d04c9b2349470fc822c3575a51a0f8181a170516a22143d7", func := "mist/mistlaw12.SweepSteps", spec := "sweepSteps", unfollowed := true, recurses := true, plainKeys := false, apart := false }
def SweepStepsSaid : Prop := sweepStepsRow.holds Tryz.pinned (OpenSpec.ofChange sweepStepsSpec)

/-- ITS FALSE NEIGHBOUR: 'it returns false'. Refute it at one input. -/
def sweepStepsWrong : ChangeSpec := { name := "sweepSteps", fn := fun _ => fun
  | [d] => { results := [.lit (.bool false)], args := [d] }
  | _ => none }
def SweepStepsWrongFalsely : Prop := sweepStepsRow.holds Tryz.pinned (OpenSpec.ofChange sweepStepsWrong)

/-- 'mistlaw12.SweepReplays': WHATEVER THE INPUT: true; the input reads as it did. -/
def sweepReplaysSpec : ChangeSpec := { name := "sweepReplays", fn := fun _ => fun
  | [d1, d2] => { results := [.lit (.bool true)], args := [d1, d2] }
  | _ => none }
def sweepReplaysRow : OpenClaim := { program := "ytphmoebiobjfhaagreat", sum := "b57997804a3c98f2d04c9b2349470fc822c3575a51a0f8181a170516a22143d7", func := "mist/mistlaw12.SweepReplays", spec := "sweepReplays", unfollowed := true, recurses := true, plainKeys := false, apart := false }
def SweepReplaysSaid : Prop := sweepReplaysRow.holds Tryz.pinned (OpenSpec.ofChange sweepReplaysSpec)

/-- ITS FALSE NEIGHBOUR: 'it returns false'. Refute it at one input. -/
def sweepReplaysWrong : ChangeSpec := { name := "sweepReplays", fn := fun _ => fun
  | [d1, d2] => { results := [.lit (.bool false)], args := [d1, d2] }
  | _ => none }
def SweepReplaysWrongFalsely : Prop := sweepReplaysRow.holds Tryz.pinned (OpenSpec.ofChange sweepReplaysWrong)

/-- 'mistlaw12.SweepApplies': WHATEVER THE INPUT: true; the input reads as it did. -/
def sweepAppliesSpec : ChangeSpec := { name := "sweepApplies", fn := fun _ => fun
  | [d1, d2] => { results := [.lit (.bool true)], args := [d1, d2] }
  | _ => none }
def sweepAppliesRow : OpenClaim := { program := "ytphmoebiobjfhaagreat", sum := "b57997804a3c98f2d04c9b2349470fc822c3575a51a0f8181a170516a22143d7", func := "mist/mistlaw12.SweepApplies", spec := "sweepApplies", unfollowed := true, recurses := true, plainKeys := false, apart := false }
def SweepAppliesSaid : Prop := sweepAppliesRow.holds Tryz.pinned (OpenSpec.ofChange sweepAppliesSpec)

/-- ITS FALSE NEIGHBOUR: 'it returns false'. Refute it at one input. -/
def sweepAppliesWrong : ChangeSpec := { name := "sweepApplies", fn := fun _ => fun
  | [d1, d2] => { results := [.lit (.bool false)], args := [d1, d2] }
  | _ => none }
def SweepAppliesWrongFalsely : Prop := sweepAppliesRow.holds Tryz.pinned (OpenSpec.ofChange sweepAppliesWrong)

/-- 'mistlaw12.SweepRules': WHATEVER THE INPUT: true; the input reads as it did. -/
def sweepRulesSpec : ChangeSpec := { name := "sweepRules", fn := fun _ => fun
  | [d1, d2] => { results := [.lit (.bool true)], args := [d1, d2] }
  | _ => none }
def sweepRulesRow : OpenClaim := { program := "ytphmoebiobjfhaagreat", sum := "b57997804a3c98f2d04c9b2349470fc822c3575a51a0f8181a170516a22143d7", func := "mist/mistlaw12.SweepRules", spec := "sweepRules", unfollowed := true, recurses := true, plainKeys := false, apart := false }
def SweepRulesSaid : Prop := sweepRulesRow.holds Tryz.pinned (OpenSpec.ofChange sweepRulesSpec)

/-- ITS FALSE NEIGHBOUR: 'it returns false'. Refute it at one input. -/
def sweepRulesWrong : ChangeSpec := { name := "sweepRules", fn := fun _ => fun
  | [d1, d2] => { results := [.lit (.bool false)], args := [d1, d2] }
  | _ => none }
def SweepRulesWrongFalsely : Prop := sweepRulesRow.holds Tryz.pinned (OpenSpec.ofChange sweepRulesWrong)

/-- 'mistlaw12.SweepTidies': WHATEVER THE INPUT: true; the input reads as it did. -/
def sweepTidiesSpec : ChangeSpec := { name := "sweepTidies", fn := fun _ => fun
  | [d] => { results := [.lit (.bool true)], args := [d] }
  | _ => none }
def sweepTidiesRow : OpenClaim := { program := "ytphmoebiobjfhaagreat", sum := "b57997804a3c98f2d04c9b2349470fc822c3575a51a0f8181a170516a22143d7", func := "mist/mistlaw12.SweepTidies", spec := "sweepTidies", unfollowed := true, recurses := true, plainKeys := false, apart := false }
def SweepTidiesSaid : Prop := sweepTidiesRow.holds Tryz.pinned (OpenSpec.ofChange sweepTidiesSpec)

/-- ITS FALSE NEIGHBOUR: 'it returns false'. Refute it at one input. -/
def sweepTidiesWrong : ChangeSpec := { name := "sweepTidies", fn := fun _ => fun
  | [d] => { results := [.lit (.bool false)], args := [d] }
  | _ => none }
def SweepTidiesWrongFalsely : Prop := sweepTidiesRow.holds Tryz.pinned (OpenSpec.ofChange sweepTidiesWrong)

/-- 'mistlaw12.SweepSame': WHATEVER THE INPUT: true; the input reads as it did. -/
def sweepSameSpec : ChangeSpec := { name := "sweepSame", fn := fun _ => fun
  | [d1, d2] => { results := [.lit (.bool true)], args := [d1, d2] }
  | _ => none }
def sweepSameRow : OpenClaim := { program := "ytphmoebiobjfhaagreat", sum := "b57997804a3c98f2d04c9b2349470fc822c3575a51a0f8181a170516a22143d7", func := "mist/mistlaw12.SweepSame", spec := "sweepSame", unfollowed := true, recurses := true, plainKeys := false, apart := false }
def SweepSameSaid : Prop := sweepSameRow.holds Tryz.pinned (OpenSpec.ofChange sweepSameSpec)

/-- ITS FALSE NEIGHBOUR: 'it returns false'. Refute it at one input. -/
def sweepSameWrong : ChangeSpec := { name := "sweepSame", fn := fun _ => fun
  | [d1, d2] => { results := [.lit (.bool false)], args := [d1, d2] }
  | _ => none }
def SweepSameWrongFalsely : Prop := sweepSameRow.holds Tryz.pinned (OpenSpec.ofChange sweepSameWrong)

/- THE SECOND FORM. 'bulk': how many values and letters a reading holds, each counted each time it is reached (what is shared counts as often as it is met; a slice's spare places count too). A statement '..UptoSaid' is the law's where the arguments, and the package variables that the reading takes, are together of bulk at most 1048576: NARROWER than '..Said'. Prove '..Said' where nothing that the law and all that it calls make is longer than what came in: it says more and counts as full. Else prove '..UptoSaid'. A law counts once. -/
mutual
def uptoBulk {H : Type} : DataW H → Nat
  | .lit (.string bytes) => bytes.length + 1
  | .lit _ => 1
  | .nil => 1
  | .ptr d => uptoBulk d + 1
  | .slice elems spare => uptoBulkAll elems + uptoBulkAll spare + 1
  | .agg parts => uptoBulkAll parts + 1
  | .iface _ d => uptoBulk d + 1
  | .map entries => uptoBulkEntries entries + 1
  | .held _ => 1
def uptoBulkAll {H : Type} : List (DataW H) → Nat
  | [] => 0
  | d :: r => uptoBulk d + uptoBulkAll r
def uptoBulkEntries {H : Type} : List (Lit × DataW H) → Nat
  | [] => 0
  | x :: r => uptoBulkEntry x + uptoBulkEntries r
def uptoBulkEntry {H : Type} : Lit × DataW H → Nat
  | (.string bytes, d) => bytes.length + uptoBulk d + 1
  | (_, d) => uptoBulk d + 1
 end
def uptoSmall : (H : Type) → List (DataW H) → Bool := fun _ ds => decide (uptoBulkAll ds ≤ 1048576)
def OpenSpec.upto (s : _root_.Go.ChangeSpec) : _root_.Go.OpenSpec := { _root_.Go.OpenSpec.ofChange s with cond := some uptoSmall }

/-- 'mistlaw12.SweepSteps', WHERE WHAT IT READS IS OF BULK AT MOST 1048576: true; the input reads as it did. -/
def sweepStepsUptoRow : OpenClaim := { program := "ytphmoebiobjfhaagreat", sum := "b57997804a3c98f2d04c9b2349470fc822c3575a51a0f8181a170516a22143d7", func := "mist/mistlaw12.SweepSteps", spec := "sweepSteps", unfollowed := true, recurses := true, plainKeys := false, apart := false, narrowed := true }
def SweepStepsUptoSaid : Prop := sweepStepsUptoRow.holds Tryz.pinned (OpenSpec.upto sweepStepsSpec)

/-- 'mistlaw12.SweepReplays', WHERE WHAT IT READS IS OF BULK AT MOST 1048576: true; the input reads as it did. -/
def sweepReplaysUptoRow : OpenClaim := { program := "ytphmoebiobjfhaagreat", sum := "b57997804a3c98f2d04c9b2349470fc822c3575a51a0f8181a170516a22143d7", func := "mist/mistlaw12.SweepReplays", spec := "sweepReplays", unfollowed := true, recurses := true, plainKeys := false, apart := false, narrowed := true }
def SweepReplaysUptoSaid : Prop := sweepReplaysUptoRow.holds Tryz.pinned (OpenSpec.upto sweepReplaysSpec)

/-- 'mistlaw12.SweepApplies', WHERE WHAT IT READS IS OF BULK AT MOST 1048576: true; the input reads as it did. -/
def sweepAppliesUptoRow : OpenClaim := { program := "ytphmoebiobjfhaagreat", sum := "b57997804a3c98f2d04c9b2349470fc822c3575a51a0f8181a170516a22143d7", func := "mist/mistlaw12.SweepApplies", spec := "sweepApplies", unfollowed := true, recurses := true, plainKeys := false, apart := false, narrowed := true }
def SweepAppliesUptoSaid : Prop := sweepAppliesUptoRow.holds Tryz.pinned (OpenSpec.upto sweepAppliesSpec)

/-- 'mistlaw12.SweepRules', WHERE WHAT IT READS IS OF BULK AT MOST 1048576: true; the input reads as it did. -/
def sweepRulesUptoRow : OpenClaim := { program := "ytphmoebiobjfhaagreat", sum := "b57997804a3c98f2d04c9b2349470fc822c3575a51a0f8181a170516a22143d7", func := "mist/mistlaw12.SweepRules", spec := "sweepRules", unfollowed := true, recurses := true, plainKeys := false, apart := false, narrowed := true }
def SweepRulesUptoSaid : Prop := sweepRulesUptoRow.holds Tryz.pinned (OpenSpec.upto sweepRulesSpec)

/-- 'mistlaw12.SweepTidies', WHERE WHAT IT READS IS OF BULK AT MOST 1048576: true; the input reads as it did. -/
def sweepTidiesUptoRow : OpenClaim := { program := "ytphmoebiobjfhaagreat", sum := "b57997804a3c98f2d04c9b2349470fc822c3575a51a0f8181a170516a22143d7", func := "mist/mistlaw12.SweepTidies", spec := "sweepTidies", unfollowed := true, recurses := true, plainKeys := false, apart := false, narrowed := true }
def SweepTidiesUptoSaid : Prop := sweepTidiesUptoRow.holds Tryz.pinned (OpenSpec.upto sweepTidiesSpec)

/-- 'mistlaw12.SweepSame', WHERE WHAT IT READS IS OF BULK AT MOST 1048576: true; the input reads as it did. -/
def sweepSameUptoRow : OpenClaim := { program := "ytphmoebiobjfhaagreat", sum := "b57997804a3c98f2d04c9b2349470fc822c3575a51a0f8181a170516a22143d7", func := "mist/mistlaw12.SweepSame", spec := "sweepSame", unfollowed := true, recurses := true, plainKeys := false, apart := false, narrowed := true }
def SweepSameUptoSaid : Prop := sweepSameUptoRow.holds Tryz.pinned (OpenSpec.upto sweepSameSpec)

end Rows
end Go.Proofs.YtphmoebiobjfhaaGreat

/-
  No cell of these rows narrows 'for every input' (looked for: loops, veiled, ifaces, maps, wideKeys, modest, calm, conditions, laid).
  DERIVED. THE GIVEN ROWS OF THIS SEAT. 3 by the template 'for every input the law returns true; each argument reads behind the call as it read before'; 0 by the template 'total and deterministic' (their statements: YtphmoebiobjfhaaTotals.lean).
  GIVEN WITH THE SEED: the statements are not yours to turn. If you find one false, say at which input.
  Laid BY PROGRAM, IN A SANDBOX (cutbox-rows.mjs): the forced cells as the released guide's own fill.sh prints them over the translation 876c78f76ff9090f… (all of the seat's roots in one cut). By AI agents, Wed Nov 11 2026. No macro, syntax, notation, axiom, sorry.
-/
import Derived.Test.YtphmoebiobjfhaaChecked
import GoSem.Claim
import GoSem.ClaimJoined
import GoSem.ClaimMapViews
import Derived.JoinedTies
import Derived.KernelRfl
namespace Go.Proofs.Ytphmoebiobjfhaa
/- THE CELL 'sum', in the pinned program and in every row, IS THE sha256 OF THE DUMP (.gsa) THAT YtphmoebiobjfhaaProg.lean LOADS. Nothing in Lean hashes anything: it is a label: what it is worth is what the hold of that sum in a sandbox is worth. -/
noncomputable def Try.pinned : Pinned := { name := "ytphmoebiobjfhaa", sum := "876c78f76ff9090f72874ee86af0bd0584957eccc9975e80737d8e820f296eb4", checked := Try.checked }
namespace Rows
def none {H : Type} : Left H := { results := [], args := [] }

/-- 'mistlaw12.SweepEnds': WHATEVER THE INPUT: true; the input reads as it did. -/
def sweepEndsSpec : ChangeSpec := { name := "sweepEnds", fn := fun _ => fun
  | [d1, d2] => { results := [.lit (.bool true)], args := [d1, d2] }
  | _ => none }
def sweepEndsRow : OpenClaim := { program := "ytphmoebiobjfhaa", sum := "876c78f76ff9090f72874ee86af0bd0584957eccc9975e80737d8e820f296eb4", func := "mist/mistlaw12.SweepEnds", spec := "sweepEnds", unfollowed := true, recurses := true, plainKeys := false, apart := false }
def SweepEndsSaid : Prop := sweepEndsRow.holds Try.pinned (OpenSpec.ofChange sweepEndsSpec)

/-- ITS FALSE NEIGHBOUR: 'it returns false'. Refute it at one input. -/
def sweepEndsWrong : ChangeSpec := { name := "sweepEnds", fn := fun _ => fun
  | [d1, d2] => { results := [.lit (.bool false)], args := [d1, d2] }
  | _ => none }
def SweepEndsWrongFalsely : Prop := sweepEndsRow.holds Try.pinned (OpenSpec.ofChange sweepEndsWrong)

/-- 'mistlaw12.SweepNothing': WHATEVER THE INPUT: true; the input reads as it did. -/
def sweepNothingSpec : ChangeSpec := { name := "sweepNothing", fn := fun _ => fun
  | [d] => { results := [.lit (.bool true)], args := [d] }
  | _ => none }
def sweepNothingRow : OpenClaim := { program := "ytphmoebiobjfhaa", sum := "876c78f76ff9090f72874ee86af0bd0584957eccc9975e80737d8e820f296eb4", func := "mist/mistlaw12.SweepNothing", spec := "sweepNothing", unfollowed := true, recurses := true, plainKeys := false, apart := false }
def SweepNothingSaid : Prop := sweepNothingRow.holds Try.pinned (OpenSpec.ofChange sweepNothingSpec)

/-- ITS FALSE NEIGHBOUR: 'it returns false'. Refute it at one input. -/
def sweepNothingWrong : ChangeSpec := { name := "sweepNothing", fn := fun _ => fun
  | [d] => { results := [.lit (.bool false)], args := [d] }
  | _ => none }
def SweepNothingWrongFalsely : Prop := sweepNothingRow.holds Try.pinned (OpenSpec.ofChange sweepNothingWrong)

/-- 'mistlaw12.SweepOrdered': WHATEVER THE INPUT: true; the input reads as it did. -/
def sweepOrderedSpec : ChangeSpec := { name := "sweepOrdered", fn := fun _ => fun
  | [d1, d2] => { results := [.lit (.bool true)], args := [d1, d2] }
  | _ => none }
def sweepOrderedRow : OpenClaim := { program := "ytphmoebiobjfhaa", sum := "876c78f76ff9090f72874ee86af0bd0584957eccc9975e80737d8e820f296eb4", func := "mist/mistlaw12.SweepOrdered", spec := "sweepOrdered", unfollowed := true, recurses := true, plainKeys := false, apart := false }
def SweepOrderedSaid : Prop := sweepOrderedRow.holds Try.pinned (OpenSpec.ofChange sweepOrderedSpec)

/-- ITS FALSE NEIGHBOUR: 'it returns false'. Refute it at one input. -/
def sweepOrderedWrong : ChangeSpec := { name := "sweepOrdered", fn := fun _ => fun
  | [d1, d2] => { results := [.lit (.bool false)], args := [d1, d2] }
  | _ => none }
def SweepOrderedWrongFalsely : Prop := sweepOrderedRow.holds Try.pinned (OpenSpec.ofChange sweepOrderedWrong)

/- THE SECOND FORM. 'bulk': how many values and letters a reading holds, each counted each time it is reached (what is shared counts as often as it is met; a slice's spare places count too). A statement '..UptoSaid' is the law's where the arguments, and the package variables that the reading takes, are together of bulk at most 1048576: NARROWER than '..Said'. Prove '..Said' where nothing that the law and all that it calls make is longer than what came in: it says more and counts as full. Else prove '..UptoSaid'. A law counts once. -/
mutual
def uptoBulk {H : Type} : DataW H → Nat
  | .lit (.string bytes) => bytes.length + 1
  | .lit _ => 1
  | .nil => 1
  | .ptr d => uptoBulk d + 1
  | .slice elems spare => uptoBulkAll elems + uptoBulkAll spare + 1
  | .agg parts => uptoBulkAll parts + 1
  | .iface _ d => uptoBulk d + 1
  | .map entries => uptoBulkEntries entries + 1
  | .held _ => 1
def uptoBulkAll {H : Type} : List (DataW H) → Nat
  | [] => 0
  | d :: r => uptoBulk d + uptoBulkAll r
def uptoBulkEntries {H : Type} : List (Lit × DataW H) → Nat
  | [] => 0
  | x :: r => uptoBulkEntry x + uptoBulkEntries r
def uptoBulkEntry {H : Type} : Lit × DataW H → Nat
  | (.string bytes, d) => bytes.length + uptoBulk d + 1
  | (_, d) => uptoBulk d + 1
 end
def uptoSmall : (H : Type) → List (DataW H) → Bool := fun _ ds => decide (uptoBulkAll ds ≤ 1048576)
def OpenSpec.upto (s : _root_.Go.ChangeSpec) : _root_.Go.OpenSpec := { _root_.Go.OpenSpec.ofChange s with cond := some uptoSmall }

/-- 'mistlaw12.SweepEnds', WHERE WHAT IT READS IS OF BULK AT MOST 1048576: true; the input reads as it did. -/
def sweepEndsUptoRow : OpenClaim := { program := "ytphmoebiobjfhaa", sum := "876c78f76ff9090f72874ee86af0bd0584957eccc9975e80737d8e820f296eb4", func := "mist/mistlaw12.SweepEnds", spec := "sweepEnds", unfollowed := true, recurses := true, plainKeys := false, apart := false, narrowed := true }
def SweepEndsUptoSaid : Prop := sweepEndsUptoRow.holds Try.pinned (OpenSpec.upto sweepEndsSpec)

/-- 'mistlaw12.SweepNothing', WHERE WHAT IT READS IS OF BULK AT MOST 1048576: true; the input reads as it did. -/
def sweepNothingUptoRow : OpenClaim := { program := "ytphmoebiobjfhaa", sum := "876c78f76ff9090f72874ee86af0bd0584957eccc9975e80737d8e820f296eb4", func := "mist/mistlaw12.SweepNothing", spec := "sweepNothing", unfollowed := true, recurses := true, plainKeys := false, apart := false, narrowed := true }
def SweepNothingUptoSaid : Prop := sweepNothingUptoRow.holds Try.pinned (OpenSpec.upto sweepNothingSpec)

/-- 'mistlaw12.SweepOrdered', WHERE WHAT IT READS IS OF BULK AT MOST 1048576: true; the input reads as it did. -/
def sweepOrderedUptoRow : OpenClaim := { program := "ytphmoebiobjfhaa", sum := "876c78f76ff9090f72874ee86af0bd0584957eccc9975e80737d8e820f296eb4", func := "mist/mistlaw12.SweepOrdered", spec := "sweepOrdered", unfollowed := true, recurses := true, plainKeys := false, apart := false, narrowed := true }
def SweepOrderedUptoSaid : Prop := sweepOrderedUptoRow.holds Try.pinned (OpenSpec.upto sweepOrderedSpec)

end Rows
end Go.Proofs.Ytphmoebiobjfhaa

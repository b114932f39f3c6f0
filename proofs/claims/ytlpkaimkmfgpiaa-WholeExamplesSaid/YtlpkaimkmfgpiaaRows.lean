/-
  No cell of these rows narrows 'for every input' (looked for: loops, veiled, ifaces, maps, wideKeys, modest, calm, conditions, laid).
  DERIVED. THE GIVEN ROWS OF THIS SEAT. 8 by the template 'for every input the law returns true; each argument reads behind the call as it read before'; 0 by the template 'total and deterministic' (their statements: YtlpkaimkmfgpiaaTotals.lean).
  GIVEN WITH THE SEED: the statements are not yours to turn. If you find one false, say at which input.
  Laid BY PROGRAM, IN A SANDBOX (cutbox-rows.mjs): the forced cells as the released guide's own fill.sh prints them over the translation e82318f53c375e32… (all of the seat's roots in one cut). By AI agents, Wed Nov 11 2026. No macro, syntax, notation, axiom, sorry.
-/
import Derived.Test.YtlpkaimkmfgpiaaChecked
import GoSem.Claim
import GoSem.ClaimJoined
import GoSem.ClaimMapViews
import Derived.JoinedTies
import Derived.KernelRfl
namespace Go.Proofs.Ytlpkaimkmfgpiaa
/- THE CELL 'sum', in the pinned program and in every row, IS THE sha256 OF THE DUMP (.gsa) THAT YtlpkaimkmfgpiaaProg.lean LOADS. Nothing in Lean hashes anything: it is a label: what it is worth is what the hold of that sum in a sandbox is worth. -/
noncomputable def Try.pinned : Pinned := { name := "ytlpkaimkmfgpiaa", sum := "e82318f53c375e32404f0d5b8da7b106ba33e66301f5bea77da477a917705a2b", checked := Try.checked }
namespace Rows
def none {H : Type} : Left H := { results := [], args := [] }

/-- 'toruslaw02.WholePowersMatch': WHATEVER THE INPUT: true; the input reads as it did. -/
def wholePowersMatchSpec : ChangeSpec := { name := "wholePowersMatch", fn := fun _ => fun
  | [d1, d2, d3] => { results := [.lit (.bool true)], args := [d1, d2, d3] }
  | _ => none }
def wholePowersMatchRow : OpenClaim := { program := "ytlpkaimkmfgpiaa", sum := "e82318f53c375e32404f0d5b8da7b106ba33e66301f5bea77da477a917705a2b", func := "torus/toruslaw02.WholePowersMatch", spec := "wholePowersMatch", apart := false }
def WholePowersMatchSaid : Prop := wholePowersMatchRow.holds Try.pinned (OpenSpec.ofChange wholePowersMatchSpec)

/-- ITS FALSE NEIGHBOUR: 'it returns false'. Refute it at one input. -/
def wholePowersMatchWrong : ChangeSpec := { name := "wholePowersMatch", fn := fun _ => fun
  | [d1, d2, d3] => { results := [.lit (.bool false)], args := [d1, d2, d3] }
  | _ => none }
def WholePowersMatchWrongFalsely : Prop := wholePowersMatchRow.holds Try.pinned (OpenSpec.ofChange wholePowersMatchWrong)

/-- 'toruslaw02.WholeRing': WHATEVER THE INPUT: true; the input reads as it did. -/
def wholeRingSpec : ChangeSpec := { name := "wholeRing", fn := fun _ => fun
  | [d1, d2, d3] => { results := [.lit (.bool true)], args := [d1, d2, d3] }
  | _ => none }
def wholeRingRow : OpenClaim := { program := "ytlpkaimkmfgpiaa", sum := "e82318f53c375e32404f0d5b8da7b106ba33e66301f5bea77da477a917705a2b", func := "torus/toruslaw02.WholeRing", spec := "wholeRing", apart := false }
def WholeRingSaid : Prop := wholeRingRow.holds Try.pinned (OpenSpec.ofChange wholeRingSpec)

/-- ITS FALSE NEIGHBOUR: 'it returns false'. Refute it at one input. -/
def wholeRingWrong : ChangeSpec := { name := "wholeRing", fn := fun _ => fun
  | [d1, d2, d3] => { results := [.lit (.bool false)], args := [d1, d2, d3] }
  | _ => none }
def WholeRingWrongFalsely : Prop := wholeRingRow.holds Try.pinned (OpenSpec.ofChange wholeRingWrong)

/-- 'toruslaw02.WholePowers': WHATEVER THE INPUT: true; the input reads as it did. -/
def wholePowersSpec : ChangeSpec := { name := "wholePowers", fn := fun _ => fun
  | [d1, d2, d3] => { results := [.lit (.bool true)], args := [d1, d2, d3] }
  | _ => none }
def wholePowersRow : OpenClaim := { program := "ytlpkaimkmfgpiaa", sum := "e82318f53c375e32404f0d5b8da7b106ba33e66301f5bea77da477a917705a2b", func := "torus/toruslaw02.WholePowers", spec := "wholePowers", apart := false }
def WholePowersSaid : Prop := wholePowersRow.holds Try.pinned (OpenSpec.ofChange wholePowersSpec)

/-- ITS FALSE NEIGHBOUR: 'it returns false'. Refute it at one input. -/
def wholePowersWrong : ChangeSpec := { name := "wholePowers", fn := fun _ => fun
  | [d1, d2, d3] => { results := [.lit (.bool false)], args := [d1, d2, d3] }
  | _ => none }
def WholePowersWrongFalsely : Prop := wholePowersRow.holds Try.pinned (OpenSpec.ofChange wholePowersWrong)

/-- 'toruslaw02.WholeDivision': WHATEVER THE INPUT: true; the input reads as it did. -/
def wholeDivisionSpec : ChangeSpec := { name := "wholeDivision", fn := fun _ => fun
  | [d1, d2] => { results := [.lit (.bool true)], args := [d1, d2] }
  | _ => none }
def wholeDivisionRow : OpenClaim := { program := "ytlpkaimkmfgpiaa", sum := "e82318f53c375e32404f0d5b8da7b106ba33e66301f5bea77da477a917705a2b", func := "torus/toruslaw02.WholeDivision", spec := "wholeDivision", apart := false }
def WholeDivisionSaid : Prop := wholeDivisionRow.holds Try.pinned (OpenSpec.ofChange wholeDivisionSpec)

/-- ITS FALSE NEIGHBOUR: 'it returns false'. Refute it at one input. -/
def wholeDivisionWrong : ChangeSpec := { name := "wholeDivision", fn := fun _ => fun
  | [d1, d2] => { results := [.lit (.bool false)], args := [d1, d2] }
  | _ => none }
def WholeDivisionWrongFalsely : Prop := wholeDivisionRow.holds Try.pinned (OpenSpec.ofChange wholeDivisionWrong)

/-- 'toruslaw02.WholeOrder': WHATEVER THE INPUT: true; the input reads as it did. -/
def wholeOrderSpec : ChangeSpec := { name := "wholeOrder", fn := fun _ => fun
  | [d1, d2, d3] => { results := [.lit (.bool true)], args := [d1, d2, d3] }
  | _ => none }
def wholeOrderRow : OpenClaim := { program := "ytlpkaimkmfgpiaa", sum := "e82318f53c375e32404f0d5b8da7b106ba33e66301f5bea77da477a917705a2b", func := "torus/toruslaw02.WholeOrder", spec := "wholeOrder", apart := false }
def WholeOrderSaid : Prop := wholeOrderRow.holds Try.pinned (OpenSpec.ofChange wholeOrderSpec)

/-- ITS FALSE NEIGHBOUR: 'it returns false'. Refute it at one input. -/
def wholeOrderWrong : ChangeSpec := { name := "wholeOrder", fn := fun _ => fun
  | [d1, d2, d3] => { results := [.lit (.bool false)], args := [d1, d2, d3] }
  | _ => none }
def WholeOrderWrongFalsely : Prop := wholeOrderRow.holds Try.pinned (OpenSpec.ofChange wholeOrderWrong)

/-- 'toruslaw02.WholeDivisors': WHATEVER THE INPUT: true; the input reads as it did. -/
def wholeDivisorsSpec : ChangeSpec := { name := "wholeDivisors", fn := fun _ => fun
  | [d1, d2, d3] => { results := [.lit (.bool true)], args := [d1, d2, d3] }
  | _ => none }
def wholeDivisorsRow : OpenClaim := { program := "ytlpkaimkmfgpiaa", sum := "e82318f53c375e32404f0d5b8da7b106ba33e66301f5bea77da477a917705a2b", func := "torus/toruslaw02.WholeDivisors", spec := "wholeDivisors", apart := false }
def WholeDivisorsSaid : Prop := wholeDivisorsRow.holds Try.pinned (OpenSpec.ofChange wholeDivisorsSpec)

/-- ITS FALSE NEIGHBOUR: 'it returns false'. Refute it at one input. -/
def wholeDivisorsWrong : ChangeSpec := { name := "wholeDivisors", fn := fun _ => fun
  | [d1, d2, d3] => { results := [.lit (.bool false)], args := [d1, d2, d3] }
  | _ => none }
def WholeDivisorsWrongFalsely : Prop := wholeDivisorsRow.holds Try.pinned (OpenSpec.ofChange wholeDivisorsWrong)

/-- 'toruslaw02.WholeMatches': WHATEVER THE INPUT: true; the input reads as it did. -/
def wholeMatchesSpec : ChangeSpec := { name := "wholeMatches", fn := fun _ => fun
  | [d1, d2, d3] => { results := [.lit (.bool true)], args := [d1, d2, d3] }
  | _ => none }
def wholeMatchesRow : OpenClaim := { program := "ytlpkaimkmfgpiaa", sum := "e82318f53c375e32404f0d5b8da7b106ba33e66301f5bea77da477a917705a2b", func := "torus/toruslaw02.WholeMatches", spec := "wholeMatches", apart := false }
def WholeMatchesSaid : Prop := wholeMatchesRow.holds Try.pinned (OpenSpec.ofChange wholeMatchesSpec)

/-- ITS FALSE NEIGHBOUR: 'it returns false'. Refute it at one input. -/
def wholeMatchesWrong : ChangeSpec := { name := "wholeMatches", fn := fun _ => fun
  | [d1, d2, d3] => { results := [.lit (.bool false)], args := [d1, d2, d3] }
  | _ => none }
def WholeMatchesWrongFalsely : Prop := wholeMatchesRow.holds Try.pinned (OpenSpec.ofChange wholeMatchesWrong)

/-- 'toruslaw02.WholeExamples': WHATEVER THE INPUT: true; the input reads as it did. -/
def wholeExamplesSpec : ChangeSpec := { name := "wholeExamples", fn := fun _ => fun
  | [] => { results := [.lit (.bool true)], args := [] }
  | _ => none }
def wholeExamplesRow : OpenClaim := { program := "ytlpkaimkmfgpiaa", sum := "e82318f53c375e32404f0d5b8da7b106ba33e66301f5bea77da477a917705a2b", func := "torus/toruslaw02.WholeExamples", spec := "wholeExamples", apart := false }
def WholeExamplesSaid : Prop := wholeExamplesRow.holds Try.pinned (OpenSpec.ofChange wholeExamplesSpec)

/-- ITS FALSE NEIGHBOUR: 'it returns false'. Refute it at one input. -/
def wholeExamplesWrong : ChangeSpec := { name := "wholeExamples", fn := fun _ => fun
  | [] => { results := [.lit (.bool false)], args := [] }
  | _ => none }
def WholeExamplesWrongFalsely : Prop := wholeExamplesRow.holds Try.pinned (OpenSpec.ofChange wholeExamplesWrong)

/- THE SECOND FORM. 'bulk': how many values and letters a reading holds, each counted each time it is reached (what is shared counts as often as it is met; a slice's spare places count too). A statement '..UptoSaid' is the law's where the arguments, and the package variables that the reading takes, are together of bulk at most 1048576: NARROWER than '..Said'. Prove '..Said' where nothing that the law and all that it calls make is longer than what came in: it says more and counts as full. Else prove '..UptoSaid'. A law counts once. -/
mutual
def uptoBulk {H : Type} : DataW H → Nat
  | .lit (.string bytes) => bytes.length + 1
  | .lit _ => 1
  | .nil => 1
  | .ptr d => uptoBulk d + 1
  | .slice elems spare => uptoBulkAll elems + uptoBulkAll spare + 1
  | .agg parts => uptoBulkAll parts + 1
  | .iface _ d => uptoBulk d + 1
  | .map entries => uptoBulkEntries entries + 1
  | .held _ => 1
def uptoBulkAll {H : Type} : List (DataW H) → Nat
  | [] => 0
  | d :: r => uptoBulk d + uptoBulkAll r
def uptoBulkEntries {H : Type} : List (Lit × DataW H) → Nat
  | [] => 0
  | x :: r => uptoBulkEntry x + uptoBulkEntries r
def uptoBulkEntry {H : Type} : Lit × DataW H → Nat
  | (.string bytes, d) => bytes.length + uptoBulk d + 1
  | (_, d) => uptoBulk d + 1
 end
def uptoSmall : (H : Type) → List (DataW H) → Bool := fun _ ds => decide (uptoBulkAll ds ≤ 1048576)
def OpenSpec.upto (s : _root_.Go.ChangeSpec) : _root_.Go.OpenSpec := { _root_.Go.OpenSpec.ofChange s with cond := some uptoSmall }

/-- 'toruslaw02.WholePowersMatch', WHERE WHAT IT READS IS OF BULK AT MOST 1048576: true; the input reads as it did. -/
def wholePowersMatchUptoRow : OpenClaim := { program := "ytlpkaimkmfgpiaa", sum := "e82318f53c375e32404f0d5b8da7b106ba33e66301f5bea77da477a917705a2b", func := "torus/toruslaw02.WholePowersMatch", spec := "wholePowersMatch", apart := false, narrowed := true }
def WholePowersMatchUptoSaid : Prop := wholePowersMatchUptoRow.holds Try.pinned (OpenSpec.upto wholePowersMatchSpec)

/-- 'toruslaw02.WholeRing', WHERE WHAT IT READS IS OF BULK AT MOST 1048576: true; the input reads as it did. -/
def wholeRingUptoRow : OpenClaim := { program := "ytlpkaimkmfgpiaa", sum := "e82318f53c375e32404f0d5b8da7b106ba33e66301f5bea77da477a917705a2b", func := "torus/toruslaw02.WholeRing", spec := "wholeRing", apart := false, narrowed := true }
def WholeRingUptoSaid : Prop := wholeRingUptoRow.holds Try.pinned (OpenSpec.upto wholeRingSpec)

/-- 'toruslaw02.WholePowers', WHERE WHAT IT READS IS OF BULK AT MOST 1048576: true; the input reads as it did. -/
def wholePowersUptoRow : OpenClaim := { program := "ytlpkaimkmfgpiaa", sum := "e82318f53c375e32404f0d5b8da7b106ba33e66301f5bea77da477a917705a2b", func := "torus/toruslaw02.WholePowers", spec := "wholePowers", apart := false, narrowed := true }
def WholePowersUptoSaid : Prop := wholePowersUptoRow.holds Try.pinned (OpenSpec.upto wholePowersSpec)

/-- 'toruslaw02.WholeDivision', WHERE WHAT IT READS IS OF BULK AT MOST 1048576: true; the input reads as it did. -/
def wholeDivisionUptoRow : OpenClaim := { program := "ytlpkaimkmfgpiaa", sum := "e82318f53c375e32404f0d5b8da7b106ba33e66301f5bea77da477a917705a2b", func := "torus/toruslaw02.WholeDivision", spec := "wholeDivision", apart := false, narrowed := true }
def WholeDivisionUptoSaid : Prop := wholeDivisionUptoRow.holds Try.pinned (OpenSpec.upto wholeDivisionSpec)

/-- 'toruslaw02.WholeOrder', WHERE WHAT IT READS IS OF BULK AT MOST 1048576: true; the input reads as it did. -/
def wholeOrderUptoRow : OpenClaim := { program := "ytlpkaimkmfgpiaa", sum := "e82318f53c375e32404f0d5b8da7b106ba33e66301f5bea77da477a917705a2b", func := "torus/toruslaw02.WholeOrder", spec := "wholeOrder", apart := false, narrowed := true }
def WholeOrderUptoSaid : Prop := wholeOrderUptoRow.holds Try.pinned (OpenSpec.upto wholeOrderSpec)

/-- 'toruslaw02.WholeDivisors', WHERE WHAT IT READS IS OF BULK AT MOST 1048576: true; the input reads as it did. -/
def wholeDivisorsUptoRow : OpenClaim := { program := "ytlpkaimkmfgpiaa", sum := "e82318f53c375e32404f0d5b8da7b106ba33e66301f5bea77da477a917705a2b", func := "torus/toruslaw02.WholeDivisors", spec := "wholeDivisors", apart := false, narrowed := true }
def WholeDivisorsUptoSaid : Prop := wholeDivisorsUptoRow.holds Try.pinned (OpenSpec.upto wholeDivisorsSpec)

/-- 'toruslaw02.WholeMatches', WHERE WHAT IT READS IS OF BULK AT MOST 1048576: true; the input reads as it did. -/
def wholeMatchesUptoRow : OpenClaim := { program := "ytlpkaimkmfgpiaa", sum := "e82318f53c375e32404f0d5b8da7b106ba33e66301f5bea77da477a917705a2b", func := "torus/toruslaw02.WholeMatches", spec := "wholeMatches", apart := false, narrowed := true }
def WholeMatchesUptoSaid : Prop := wholeMatchesUptoRow.holds Try.pinned (OpenSpec.upto wholeMatchesSpec)

/-- 'toruslaw02.WholeExamples', WHERE WHAT IT READS IS OF BULK AT MOST 1048576: true; the input reads as it did. -/
def wholeExamplesUptoRow : OpenClaim := { program := "ytlpkaimkmfgpiaa", sum := "e82318f53c375e32404f0d5b8da7b106ba33e66301f5bea77da477a917705a2b", func := "torus/toruslaw02.WholeExamples", spec := "wholeExamples", apart := false, narrowed := true }
def WholeExamplesUptoSaid : Prop := wholeExamplesUptoRow.holds Try.pinned (OpenSpec.upto wholeExamplesSpec)

end Rows
end Go.Proofs.Ytlpkaimkmfgpiaa

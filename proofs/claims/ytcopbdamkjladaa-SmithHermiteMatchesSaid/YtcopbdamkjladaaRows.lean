/-
  No cell of these rows narrows 'for every input' (looked for: loops, veiled, ifaces, maps, wideKeys, modest, calm, conditions, laid).
  DERIVED. THE GIVEN ROWS OF THIS SEAT. 8 by the template 'for every input the law returns true; each argument reads behind the call as it read before'; 0 by the template 'total and deterministic' (their statements: YtcopbdamkjladaaTotals.lean).
  GIVEN WITH THE SEED: the statements are not yours to turn. If you find one false, say at which input.
  Laid BY PROGRAM, IN A SANDBOX (cutbox-rows.mjs): the forced cells as the released guide's own fill.sh prints them over the translation fa4c20aaadee3e2f… (all of the seat's roots in one cut). By AI agents, Wed Nov 11 2026. No macro, syntax, notation, axiom, sorry.
-/
import Derived.Test.YtcopbdamkjladaaChecked
import GoSem.Claim
import GoSem.ClaimJoined
import GoSem.ClaimMapViews
import Derived.JoinedTies
import Derived.KernelRfl
namespace Go.Proofs.Ytcopbdamkjladaa
/- THE CELL 'sum', in the pinned program and in every row, IS THE sha256 OF THE DUMP (.gsa) THAT YtcopbdamkjladaaProg.lean LOADS. Nothing in Lean hashes anything: it is a label: what it is worth is what the hold of that sum in a sandbox is worth. -/
noncomputable def Try.pinned : Pinned := { name := "ytcopbdamkjladaa", sum := "fa4c20aaadee3e2f7e6072d9573f58282cf098afe9ac60609c9631ca70ec0c25", checked := Try.checked }
namespace Rows
def none {H : Type} : Left H := { results := [], args := [] }

/-- 'toruslaw06.SmithHermiteMatches': WHATEVER THE INPUT: true; the input reads as it did. -/
def smithHermiteMatchesSpec : ChangeSpec := { name := "smithHermiteMatches", fn := fun _ => fun
  | [d] => { results := [.lit (.bool true)], args := [d] }
  | _ => none }
def smithHermiteMatchesRow : OpenClaim := { program := "ytcopbdamkjladaa", sum := "fa4c20aaadee3e2f7e6072d9573f58282cf098afe9ac60609c9631ca70ec0c25", func := "torus/toruslaw06.SmithHermiteMatches", spec := "smithHermiteMatches", unfollowed := true, recurses := true, apart := false }
def SmithHermiteMatchesSaid : Prop := smithHermiteMatchesRow.holds Try.pinned (OpenSpec.ofChange smithHermiteMatchesSpec)

/-- ITS FALSE NEIGHBOUR: 'it returns false'. Refute it at one input. -/
def smithHermiteMatchesWrong : ChangeSpec := { name := "smithHermiteMatches", fn := fun _ => fun
  | [d] => { results := [.lit (.bool false)], args := [d] }
  | _ => none }
def SmithHermiteMatchesWrongFalsely : Prop := smithHermiteMatchesRow.holds Try.pinned (OpenSpec.ofChange smithHermiteMatchesWrong)

/-- 'toruslaw06.SmithSolves': WHATEVER THE INPUT: true; the input reads as it did. -/
def smithSolvesSpec : ChangeSpec := { name := "smithSolves", fn := fun _ => fun
  | [d1, d2] => { results := [.lit (.bool true)], args := [d1, d2] }
  | _ => none }
def smithSolvesRow : OpenClaim := { program := "ytcopbdamkjladaa", sum := "fa4c20aaadee3e2f7e6072d9573f58282cf098afe9ac60609c9631ca70ec0c25", func := "torus/toruslaw06.SmithSolves", spec := "smithSolves", unfollowed := true, recurses := true, apart := false }
def SmithSolvesSaid : Prop := smithSolvesRow.holds Try.pinned (OpenSpec.ofChange smithSolvesSpec)

/-- ITS FALSE NEIGHBOUR: 'it returns false'. Refute it at one input. -/
def smithSolvesWrong : ChangeSpec := { name := "smithSolves", fn := fun _ => fun
  | [d1, d2] => { results := [.lit (.bool false)], args := [d1, d2] }
  | _ => none }
def SmithSolvesWrongFalsely : Prop := smithSolvesRow.holds Try.pinned (OpenSpec.ofChange smithSolvesWrong)

/-- 'toruslaw06.SmithInvariance': WHATEVER THE INPUT: true; the input reads as it did. -/
def smithInvarianceSpec : ChangeSpec := { name := "smithInvariance", fn := fun _ => fun
  | [d1, d2, d3, d4, d5] => { results := [.lit (.bool true)], args := [d1, d2, d3, d4, d5] }
  | _ => none }
def smithInvarianceRow : OpenClaim := { program := "ytcopbdamkjladaa", sum := "fa4c20aaadee3e2f7e6072d9573f58282cf098afe9ac60609c9631ca70ec0c25", func := "torus/toruslaw06.SmithInvariance", spec := "smithInvariance", unfollowed := true, recurses := true, apart := false }
def SmithInvarianceSaid : Prop := smithInvarianceRow.holds Try.pinned (OpenSpec.ofChange smithInvarianceSpec)

/-- ITS FALSE NEIGHBOUR: 'it returns false'. Refute it at one input. -/
def smithInvarianceWrong : ChangeSpec := { name := "smithInvariance", fn := fun _ => fun
  | [d1, d2, d3, d4, d5] => { results := [.lit (.bool false)], args := [d1, d2, d3, d4, d5] }
  | _ => none }
def SmithInvarianceWrongFalsely : Prop := smithInvarianceRow.holds Try.pinned (OpenSpec.ofChange smithInvarianceWrong)

/-- 'toruslaw06.SmithEquations': WHATEVER THE INPUT: true; the input reads as it did. -/
def smithEquationsSpec : ChangeSpec := { name := "smithEquations", fn := fun _ => fun
  | [d1, d2, d3] => { results := [.lit (.bool true)], args := [d1, d2, d3] }
  | _ => none }
def smithEquationsRow : OpenClaim := { program := "ytcopbdamkjladaa", sum := "fa4c20aaadee3e2f7e6072d9573f58282cf098afe9ac60609c9631ca70ec0c25", func := "torus/toruslaw06.SmithEquations", spec := "smithEquations", unfollowed := true, recurses := true, apart := false }
def SmithEquationsSaid : Prop := smithEquationsRow.holds Try.pinned (OpenSpec.ofChange smithEquationsSpec)

/-- ITS FALSE NEIGHBOUR: 'it returns false'. Refute it at one input. -/
def smithEquationsWrong : ChangeSpec := { name := "smithEquations", fn := fun _ => fun
  | [d1, d2, d3] => { results := [.lit (.bool false)], args := [d1, d2, d3] }
  | _ => none }
def SmithEquationsWrongFalsely : Prop := smithEquationsRow.holds Try.pinned (OpenSpec.ofChange smithEquationsWrong)

/-- 'toruslaw06.SmithMatches': WHATEVER THE INPUT: true; the input reads as it did. -/
def smithMatchesSpec : ChangeSpec := { name := "smithMatches", fn := fun _ => fun
  | [d] => { results := [.lit (.bool true)], args := [d] }
  | _ => none }
def smithMatchesRow : OpenClaim := { program := "ytcopbdamkjladaa", sum := "fa4c20aaadee3e2f7e6072d9573f58282cf098afe9ac60609c9631ca70ec0c25", func := "torus/toruslaw06.SmithMatches", spec := "smithMatches", unfollowed := true, recurses := true, apart := false }
def SmithMatchesSaid : Prop := smithMatchesRow.holds Try.pinned (OpenSpec.ofChange smithMatchesSpec)

/-- ITS FALSE NEIGHBOUR: 'it returns false'. Refute it at one input. -/
def smithMatchesWrong : ChangeSpec := { name := "smithMatches", fn := fun _ => fun
  | [d] => { results := [.lit (.bool false)], args := [d] }
  | _ => none }
def SmithMatchesWrongFalsely : Prop := smithMatchesRow.holds Try.pinned (OpenSpec.ofChange smithMatchesWrong)

/-- 'toruslaw06.SmithHermite': WHATEVER THE INPUT: true; the input reads as it did. -/
def smithHermiteSpec : ChangeSpec := { name := "smithHermite", fn := fun _ => fun
  | [d1, d2, d3] => { results := [.lit (.bool true)], args := [d1, d2, d3] }
  | _ => none }
def smithHermiteRow : OpenClaim := { program := "ytcopbdamkjladaa", sum := "fa4c20aaadee3e2f7e6072d9573f58282cf098afe9ac60609c9631ca70ec0c25", func := "torus/toruslaw06.SmithHermite", spec := "smithHermite", unfollowed := true, recurses := true, apart := false }
def SmithHermiteSaid : Prop := smithHermiteRow.holds Try.pinned (OpenSpec.ofChange smithHermiteSpec)

/-- ITS FALSE NEIGHBOUR: 'it returns false'. Refute it at one input. -/
def smithHermiteWrong : ChangeSpec := { name := "smithHermite", fn := fun _ => fun
  | [d1, d2, d3] => { results := [.lit (.bool false)], args := [d1, d2, d3] }
  | _ => none }
def SmithHermiteWrongFalsely : Prop := smithHermiteRow.holds Try.pinned (OpenSpec.ofChange smithHermiteWrong)

/-- 'toruslaw06.SmithForm': WHATEVER THE INPUT: true; the input reads as it did. -/
def smithFormSpec : ChangeSpec := { name := "smithForm", fn := fun _ => fun
  | [d1, d2] => { results := [.lit (.bool true)], args := [d1, d2] }
  | _ => none }
def smithFormRow : OpenClaim := { program := "ytcopbdamkjladaa", sum := "fa4c20aaadee3e2f7e6072d9573f58282cf098afe9ac60609c9631ca70ec0c25", func := "torus/toruslaw06.SmithForm", spec := "smithForm", unfollowed := true, recurses := true, apart := false }
def SmithFormSaid : Prop := smithFormRow.holds Try.pinned (OpenSpec.ofChange smithFormSpec)

/-- ITS FALSE NEIGHBOUR: 'it returns false'. Refute it at one input. -/
def smithFormWrong : ChangeSpec := { name := "smithForm", fn := fun _ => fun
  | [d1, d2] => { results := [.lit (.bool false)], args := [d1, d2] }
  | _ => none }
def SmithFormWrongFalsely : Prop := smithFormRow.holds Try.pinned (OpenSpec.ofChange smithFormWrong)

/-- 'toruslaw06.SmithExamples': WHATEVER THE INPUT: true; the input reads as it did. -/
def smithExamplesSpec : ChangeSpec := { name := "smithExamples", fn := fun _ => fun
  | [] => { results := [.lit (.bool true)], args := [] }
  | _ => none }
def smithExamplesRow : OpenClaim := { program := "ytcopbdamkjladaa", sum := "fa4c20aaadee3e2f7e6072d9573f58282cf098afe9ac60609c9631ca70ec0c25", func := "torus/toruslaw06.SmithExamples", spec := "smithExamples", unfollowed := true, recurses := true, apart := false }
def SmithExamplesSaid : Prop := smithExamplesRow.holds Try.pinned (OpenSpec.ofChange smithExamplesSpec)

/-- ITS FALSE NEIGHBOUR: 'it returns false'. Refute it at one input. -/
def smithExamplesWrong : ChangeSpec := { name := "smithExamples", fn := fun _ => fun
  | [] => { results := [.lit (.bool false)], args := [] }
  | _ => none }
def SmithExamplesWrongFalsely : Prop := smithExamplesRow.holds Try.pinned (OpenSpec.ofChange smithExamplesWrong)

/- THE SECOND FORM. 'bulk': how many values and letters a reading holds, each counted each time it is reached (what is shared counts as often as it is met; a slice's spare places count too). A statement '..UptoSaid' is the law's where the arguments, and the package variables that the reading takes, are together of bulk at most 1048576: NARROWER than '..Said'. Prove '..Said' where nothing that the law and all that it calls make is longer than what came in: it says more and counts as full. Else prove '..UptoSaid'. A law counts once. -/
mutual
def uptoBulk {H : Type} : DataW H → Nat
  | .lit (.string bytes) => bytes.length + 1
  | .lit _ => 1
  | .nil => 1
  | .ptr d => uptoBulk d + 1
  | .slice elems spare => uptoBulkAll elems + uptoBulkAll spare + 1
  | .agg parts => uptoBulkAll parts + 1
  | .iface _ d => uptoBulk d + 1
  | .map entries => uptoBulkEntries entries + 1
  | .held _ => 1
def uptoBulkAll {H : Type} : List (DataW H) → Nat
  | [] => 0
  | d :: r => uptoBulk d + uptoBulkAll r
def uptoBulkEntries {H : Type} : List (Lit × DataW H) → Nat
  | [] => 0
  | x :: r => uptoBulkEntry x + uptoBulkEntries r
def uptoBulkEntry {H : Type} : Lit × DataW H → Nat
  | (.string bytes, d) => bytes.length + uptoBulk d + 1
  | (_, d) => uptoBulk d + 1
 end
def uptoSmall : (H : Type) → List (DataW H) → Bool := fun _ ds => decide (uptoBulkAll ds ≤ 1048576)
def OpenSpec.upto (s : _root_.Go.ChangeSpec) : _root_.Go.OpenSpec := { _root_.Go.OpenSpec.ofChange s with cond := some uptoSmall }

/-- 'toruslaw06.SmithHermiteMatches', WHERE WHAT IT READS IS OF BULK AT MOST 1048576: true; the input reads as it did. -/
def smithHermiteMatchesUptoRow : OpenClaim := { program := "ytcopbdamkjladaa", sum := "fa4c20aaadee3e2f7e6072d9573f58282cf098afe9ac60609c9631ca70ec0c25", func := "torus/toruslaw06.SmithHermiteMatches", spec := "smithHermiteMatches", unfollowed := true, recurses := true, apart := false, narrowed := true }
def SmithHermiteMatchesUptoSaid : Prop := smithHermiteMatchesUptoRow.holds Try.pinned (OpenSpec.upto smithHermiteMatchesSpec)

/-- 'toruslaw06.SmithSolves', WHERE WHAT IT READS IS OF BULK AT MOST 1048576: true; the input reads as it did. -/
def smithSolvesUptoRow : OpenClaim := { program := "ytcopbdamkjladaa", sum := "fa4c20aaadee3e2f7e6072d9573f58282cf098afe9ac60609c9631ca70ec0c25", func := "torus/toruslaw06.SmithSolves", spec := "smithSolves", unfollowed := true, recurses := true, apart := false, narrowed := true }
def SmithSolvesUptoSaid : Prop := smithSolvesUptoRow.holds Try.pinned (OpenSpec.upto smithSolvesSpec)

/-- 'toruslaw06.SmithInvariance', WHERE WHAT IT READS IS OF BULK AT MOST 1048576: true; the input reads as it did. -/
def smithInvarianceUptoRow : OpenClaim := { program := "ytcopbdamkjladaa", sum := "fa4c20aaadee3e2f7e6072d9573f58282cf098afe9ac60609c9631ca70ec0c25", func := "torus/toruslaw06.SmithInvariance", spec := "smithInvariance", unfollowed := true, recurses := true, apart := false, narrowed := true }
def SmithInvarianceUptoSaid : Prop := smithInvarianceUptoRow.holds Try.pinned (OpenSpec.upto smithInvarianceSpec)

/-- 'toruslaw06.SmithEquations', WHERE WHAT IT READS IS OF BULK AT MOST 1048576: true; the input reads as it did. -/
def smithEquationsUptoRow : OpenClaim := { program := "ytcopbdamkjladaa", sum := "fa4c20aaadee3e2f7e6072d9573f58282cf098afe9ac60609c9631ca70ec0c25", func := "torus/toruslaw06.SmithEquations", spec := "smithEquations", unfollowed := true, recurses := true, apart := false, narrowed := true }
def SmithEquationsUptoSaid : Prop := smithEquationsUptoRow.holds Try.pinned (OpenSpec.upto smithEquationsSpec)

/-- 'toruslaw06.SmithMatches', WHERE WHAT IT READS IS OF BULK AT MOST 1048576: true; the input reads as it did. -/
def smithMatchesUptoRow : OpenClaim := { program := "ytcopbdamkjladaa", sum := "fa4c20aaadee3e2f7e6072d9573f58282cf098afe9ac60609c9631ca70ec0c25", func := "torus/toruslaw06.SmithMatches", spec := "smithMatches", unfollowed := true, recurses := true, apart := false, narrowed := true }
def SmithMatchesUptoSaid : Prop := smithMatchesUptoRow.holds Try.pinned (OpenSpec.upto smithMatchesSpec)

/-- 'toruslaw06.SmithHermite', WHERE WHAT IT READS IS OF BULK AT MOST 1048576: true; the input reads as it did. -/
def smithHermiteUptoRow : OpenClaim := { program := "ytcopbdamkjladaa", sum := "fa4c20aaadee3e2f7e6072d9573f58282cf098afe9ac60609c9631ca70ec0c25", func := "torus/toruslaw06.SmithHermite", spec := "smithHermite", unfollowed := true, recurses := true, apart := false, narrowed := true }
def SmithHermiteUptoSaid : Prop := smithHermiteUptoRow.holds Try.pinned (OpenSpec.upto smithHermiteSpec)

/-- 'toruslaw06.SmithForm', WHERE WHAT IT READS IS OF BULK AT MOST 1048576: true; the input reads as it did. -/
def smithFormUptoRow : OpenClaim := { program := "ytcopbdamkjladaa", sum := "fa4c20aaadee3e2f7e6072d9573f58282cf098afe9ac60609c9631ca70ec0c25", func := "torus/toruslaw06.SmithForm", spec := "smithForm", unfollowed := true, recurses := true, apart := false, narrowed := true }
def SmithFormUptoSaid : Prop := smithFormUptoRow.holds Try.pinned (OpenSpec.upto smithFormSpec)

/-- 'toruslaw06.SmithExamples', WHERE WHAT IT READS IS OF BULK AT MOST 1048576: true; the input reads as it did. -/
def smithExamplesUptoRow : OpenClaim := { program := "ytcopbdamkjladaa", sum := "fa4c20aaadee3e2f7e6072d9573f58282cf098afe9ac60609c9631ca70ec0c25", func := "torus/toruslaw06.SmithExamples", spec := "smithExamples", unfollowed := true, recurses := true, apart := false, narrowed := true }
def SmithExamplesUptoSaid : Prop := smithExamplesUptoRow.holds Try.pinned (OpenSpec.upto smithExamplesSpec)

end Rows
end Go.Proofs.Ytcopbdamkjladaa

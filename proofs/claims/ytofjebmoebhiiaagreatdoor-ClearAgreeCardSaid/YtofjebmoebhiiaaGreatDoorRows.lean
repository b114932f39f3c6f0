/-
  NARROWER THAN 'FOR EVERY INPUT', by the rows' own cells (each row's printed sentence says how): ClearDualMatches: laid · ClearStandardMatches: laid · ClearTwistMatches: laid · ClearCohomologyMatches: laid · ClearExamples: laid · ClearInvolution: laid · ClearDuality: laid · ClearLess: laid · ClearAgree: laid.
  DERIVED. THE GIVEN ROWS OF THIS SEAT. 9 by the template 'for every input the law returns true; each argument reads behind the call as it read before'; 0 by the template 'total and deterministic' (their statements: YtofjebmoebhiiaaGreatDoorTotals.lean).
  GIVEN WITH THE SEED: the statements are not yours to turn. If you find one false, say at which input.
  Laid BY PROGRAM, IN A SANDBOX (cutbox-rows.mjs): the forced cells as the released guide's own fill.sh prints them over the translation f65e10f3b94f80e0… (all of the seat's roots in one cut). By AI agents, Wed Nov 11 2026. No macro, syntax, notation, axiom, sorry.
-/
import Derived.Test.YtofjebmoebhiiaaGreatDoorChecked
import GoSem.Claim
import GoSem.ClaimJoined
import GoSem.ClaimMapViews
import Derived.JoinedTies
import Derived.KernelRfl
namespace Go.Proofs.YtofjebmoebhiiaaGreatDoor
/- THE CELL 'sum', in the pinned program and in every row, IS THE sha256 OF THE DUMP (.gsa) THAT YtofjebmoebhiiaaGreatDoorProg.lean LOADS. Nothing in Lean hashes anything: it is a label: what it is worth is what the hold of that sum in a sandbox is worth. -/
noncomputable def Tryz.pinned : Pinned := { name := "ytofjebmoebhiiaagreatdoor", sum := "f65e10f3b94f80e0b318c2139753ed5af89929043f543b54dfe0d626f12a584f", checked := Tryz.checked }
namespace Rows
def none {H : Type} : Left H := { results := [], args := [] }

/- WHAT THE LISTED PACKAGE-LEVEL VARIABLES READ AS WHEN THE CALL BEGINS. Each datum BY PROGRAM (the guide's laid-datum.mjs) off the statement by which the dump's own 'gosem.cut.vars' lays the variable. In a bare row this is a premise. The card (YtofjebmoebhiiaaGreatDoorCards.lean) ties it to the program's text. -/
def laid_torus_clear_standard {H : Type} : DataW H := .iface "func table" (.agg [.iface "func" (.lit (.string [116, 111, 114, 117, 115, 47, 99, 108, 101, 97, 114, 46, 97, 115, 99, 101, 110, 100, 105, 110, 103])), .lit (.bool false)])
def laid_torus_clear_twist {H : Type} : DataW H := .iface "func table" (.agg [.iface "func" (.lit (.string [116, 111, 114, 117, 115, 47, 99, 108, 101, 97, 114, 46, 100, 101, 115, 99, 101, 110, 100, 105, 110, 103])), .lit (.bool true)])

/-- 'toruslaw22.ClearDualMatches': WHATEVER THE INPUT: true; the input reads as it did. -/
def clearDualMatchesSpec : ChangeSpec := { name := "clearDualMatches", fn := fun _ => fun
  | [d1, d2] => { results := [.lit (.bool true)], args := [d1, d2] }
  | _ => none }
def clearDualMatchesRow : OpenClaim := { program := "ytofjebmoebhiiaagreatdoor", sum := "f65e10f3b94f80e0b318c2139753ed5af89929043f543b54dfe0d626f12a584f", func := "torus/toruslaw22.ClearDualMatches", spec := "clearDualMatches", inPlace := ["internal/bytealg.IndexByteString", "internal/bytealg.IndexString"], unfollowed := true, recurses := true, named := ["torus/clear.standard", "internal/bytealg.MaxLen", "torus/clear.twist"], apart := false, laid := [("torus/clear.standard", laid_torus_clear_standard), ("torus/clear.twist", laid_torus_clear_twist)] }
def ClearDualMatchesSaid : Prop := clearDualMatchesRow.holds Tryz.pinned (OpenSpec.ofChange clearDualMatchesSpec)

/-- ITS FALSE NEIGHBOUR: 'it returns false'. Refute it at one input. -/
def clearDualMatchesWrong : ChangeSpec := { name := "clearDualMatches", fn := fun _ => fun
  | [d1, d2] => { results := [.lit (.bool false)], args := [d1, d2] }
  | _ => none }
def ClearDualMatchesWrongFalsely : Prop := clearDualMatchesRow.holds Tryz.pinned (OpenSpec.ofChange clearDualMatchesWrong)

/-- 'toruslaw22.ClearStandardMatches': WHATEVER THE INPUT: true; the input reads as it did. -/
def clearStandardMatchesSpec : ChangeSpec := { name := "clearStandardMatches", fn := fun _ => fun
  | [d1, d2] => { results := [.lit (.bool true)], args := [d1, d2] }
  | _ => none }
def clearStandardMatchesRow : OpenClaim := { program := "ytofjebmoebhiiaagreatdoor", sum := "f65e10f3b94f80e0b318c2139753ed5af89929043f543b54dfe0d626f12a584f", func := "torus/toruslaw22.ClearStandardMatches", spec := "clearStandardMatches", inPlace := ["internal/bytealg.IndexByteString", "internal/bytealg.IndexString"], unfollowed := true, recurses := true, named := ["torus/clear.standard", "internal/bytealg.MaxLen", "torus/clear.twist"], apart := false, laid := [("torus/clear.standard", laid_torus_clear_standard), ("torus/clear.twist", laid_torus_clear_twist)] }
def ClearStandardMatchesSaid : Prop := clearStandardMatchesRow.holds Tryz.pinned (OpenSpec.ofChange clearStandardMatchesSpec)

/-- ITS FALSE NEIGHBOUR: 'it returns false'. Refute it at one input. -/
def clearStandardMatchesWrong : ChangeSpec := { name := "clearStandardMatches", fn := fun _ => fun
  | [d1, d2] => { results := [.lit (.bool false)], args := [d1, d2] }
  | _ => none }
def ClearStandardMatchesWrongFalsely : Prop := clearStandardMatchesRow.holds Tryz.pinned (OpenSpec.ofChange clearStandardMatchesWrong)

/-- 'toruslaw22.ClearTwistMatches': WHATEVER THE INPUT: true; the input reads as it did. -/
def clearTwistMatchesSpec : ChangeSpec := { name := "clearTwistMatches", fn := fun _ => fun
  | [d1, d2] => { results := [.lit (.bool true)], args := [d1, d2] }
  | _ => none }
def clearTwistMatchesRow : OpenClaim := { program := "ytofjebmoebhiiaagreatdoor", sum := "f65e10f3b94f80e0b318c2139753ed5af89929043f543b54dfe0d626f12a584f", func := "torus/toruslaw22.ClearTwistMatches", spec := "clearTwistMatches", inPlace := ["internal/bytealg.IndexByteString", "internal/bytealg.IndexString"], unfollowed := true, recurses := true, named := ["torus/clear.standard", "internal/bytealg.MaxLen", "torus/clear.twist"], apart := false, laid := [("torus/clear.standard", laid_torus_clear_standard), ("torus/clear.twist", laid_torus_clear_twist)] }
def ClearTwistMatchesSaid : Prop := clearTwistMatchesRow.holds Tryz.pinned (OpenSpec.ofChange clearTwistMatchesSpec)

/-- ITS FALSE NEIGHBOUR: 'it returns false'. Refute it at one input. -/
def clearTwistMatchesWrong : ChangeSpec := { name := "clearTwistMatches", fn := fun _ => fun
  | [d1, d2] => { results := [.lit (.bool false)], args := [d1, d2] }
  | _ => none }
def ClearTwistMatchesWrongFalsely : Prop := clearTwistMatchesRow.holds Tryz.pinned (OpenSpec.ofChange clearTwistMatchesWrong)

/-- 'toruslaw22.ClearCohomologyMatches': WHATEVER THE INPUT: true; the input reads as it did. -/
def clearCohomologyMatchesSpec : ChangeSpec := { name := "clearCohomologyMatches", fn := fun _ => fun
  | [d1, d2] => { results := [.lit (.bool true)], args := [d1, d2] }
  | _ => none }
def clearCohomologyMatchesRow : OpenClaim := { program := "ytofjebmoebhiiaagreatdoor", sum := "f65e10f3b94f80e0b318c2139753ed5af89929043f543b54dfe0d626f12a584f", func := "torus/toruslaw22.ClearCohomologyMatches", spec := "clearCohomologyMatches", inPlace := ["internal/bytealg.IndexByteString", "internal/bytealg.IndexString"], unfollowed := true, recurses := true, named := ["torus/clear.standard", "internal/bytealg.MaxLen", "torus/clear.twist"], apart := false, laid := [("torus/clear.standard", laid_torus_clear_standard), ("torus/clear.twist", laid_torus_clear_twist)] }
def ClearCohomologyMatchesSaid : Prop := clearCohomologyMatchesRow.holds Tryz.pinned (OpenSpec.ofChange clearCohomologyMatchesSpec)

/-- ITS FALSE NEIGHBOUR: 'it returns false'. Refute it at one input. -/
def clearCohomologyMatchesWrong : ChangeSpec := { name := "clearCohomologyMatches", fn := fun _ => fun
  | [d1, d2] => { results := [.lit (.bool false)], args := [d1, d2] }
  | _ => none }
def ClearCohomologyMatchesWrongFalsely : Prop := clearCohomologyMatchesRow.holds Tryz.pinned (OpenSpec.ofChange clearCohomologyMatchesWrong)

/-- 'toruslaw22.ClearExamples': WHATEVER THE INPUT: true; the input reads as it did. -/
def clearExamplesSpec : ChangeSpec := { name := "clearExamples", fn := fun _ => fun
  | [] => { results := [.lit (.bool true)], args := [] }
  | _ => none }
def clearExamplesRow : OpenClaim := { program := "ytofjebmoebhiiaagreatdoor", sum := "f65e10f3b94f80e0b318c2139753ed5af89929043f543b54dfe0d626f12a584f", func := "torus/toruslaw22.ClearExamples", spec := "clearExamples", inPlace := ["internal/bytealg.IndexByteString", "internal/bytealg.IndexString"], unfollowed := true, recurses := true, named := ["torus/clear.standard", "internal/bytealg.MaxLen", "torus/clear.twist"], apart := false, laid := [("torus/clear.standard", laid_torus_clear_standard), ("torus/clear.twist", laid_torus_clear_twist)] }
def ClearExamplesSaid : Prop := clearExamplesRow.holds Tryz.pinned (OpenSpec.ofChange clearExamplesSpec)

/-- ITS FALSE NEIGHBOUR: 'it returns false'. Refute it at one input. -/
def clearExamplesWrong : ChangeSpec := { name := "clearExamples", fn := fun _ => fun
  | [] => { results := [.lit (.bool false)], args := [] }
  | _ => none }
def ClearExamplesWrongFalsely : Prop := clearExamplesRow.holds Tryz.pinned (OpenSpec.ofChange clearExamplesWrong)

/-- 'toruslaw22.ClearInvolution': WHATEVER THE INPUT: true; the input reads as it did. -/
def clearInvolutionSpec : ChangeSpec := { name := "clearInvolution", fn := fun _ => fun
  | [d] => { results := [.lit (.bool true)], args := [d] }
  | _ => none }
def clearInvolutionRow : OpenClaim := { program := "ytofjebmoebhiiaagreatdoor", sum := "f65e10f3b94f80e0b318c2139753ed5af89929043f543b54dfe0d626f12a584f", func := "torus/toruslaw22.ClearInvolution", spec := "clearInvolution", inPlace := ["internal/bytealg.IndexByteString", "internal/bytealg.IndexString"], unfollowed := true, recurses := true, named := ["torus/clear.standard", "internal/bytealg.MaxLen", "torus/clear.twist"], apart := false, laid := [("torus/clear.standard", laid_torus_clear_standard), ("torus/clear.twist", laid_torus_clear_twist)] }
def ClearInvolutionSaid : Prop := clearInvolutionRow.holds Tryz.pinned (OpenSpec.ofChange clearInvolutionSpec)

/-- ITS FALSE NEIGHBOUR: 'it returns false'. Refute it at one input. -/
def clearInvolutionWrong : ChangeSpec := { name := "clearInvolution", fn := fun _ => fun
  | [d] => { results := [.lit (.bool false)], args := [d] }
  | _ => none }
def ClearInvolutionWrongFalsely : Prop := clearInvolutionRow.holds Tryz.pinned (OpenSpec.ofChange clearInvolutionWrong)

/-- 'toruslaw22.ClearDuality': WHATEVER THE INPUT: true; the input reads as it did. -/
def clearDualitySpec : ChangeSpec := { name := "clearDuality", fn := fun _ => fun
  | [d] => { results := [.lit (.bool true)], args := [d] }
  | _ => none }
def clearDualityRow : OpenClaim := { program := "ytofjebmoebhiiaagreatdoor", sum := "f65e10f3b94f80e0b318c2139753ed5af89929043f543b54dfe0d626f12a584f", func := "torus/toruslaw22.ClearDuality", spec := "clearDuality", inPlace := ["internal/bytealg.IndexByteString", "internal/bytealg.IndexString"], unfollowed := true, recurses := true, named := ["torus/clear.standard", "internal/bytealg.MaxLen", "torus/clear.twist"], apart := false, laid := [("torus/clear.standard", laid_torus_clear_standard), ("torus/clear.twist", laid_torus_clear_twist)] }
def ClearDualitySaid : Prop := clearDualityRow.holds Tryz.pinned (OpenSpec.ofChange clearDualitySpec)

/-- ITS FALSE NEIGHBOUR: 'it returns false'. Refute it at one input. -/
def clearDualityWrong : ChangeSpec := { name := "clearDuality", fn := fun _ => fun
  | [d] => { results := [.lit (.bool false)], args := [d] }
  | _ => none }
def ClearDualityWrongFalsely : Prop := clearDualityRow.holds Tryz.pinned (OpenSpec.ofChange clearDualityWrong)

/-- 'toruslaw22.ClearLess': WHATEVER THE INPUT: true; the input reads as it did. -/
def clearLessSpec : ChangeSpec := { name := "clearLess", fn := fun _ => fun
  | [d] => { results := [.lit (.bool true)], args := [d] }
  | _ => none }
def clearLessRow : OpenClaim := { program := "ytofjebmoebhiiaagreatdoor", sum := "f65e10f3b94f80e0b318c2139753ed5af89929043f543b54dfe0d626f12a584f", func := "torus/toruslaw22.ClearLess", spec := "clearLess", inPlace := ["internal/bytealg.IndexByteString", "internal/bytealg.IndexString"], unfollowed := true, recurses := true, named := ["torus/clear.standard", "internal/bytealg.MaxLen", "torus/clear.twist"], apart := false, laid := [("torus/clear.standard", laid_torus_clear_standard), ("torus/clear.twist", laid_torus_clear_twist)] }
def ClearLessSaid : Prop := clearLessRow.holds Tryz.pinned (OpenSpec.ofChange clearLessSpec)

/-- ITS FALSE NEIGHBOUR: 'it returns false'. Refute it at one input. -/
def clearLessWrong : ChangeSpec := { name := "clearLess", fn := fun _ => fun
  | [d] => { results := [.lit (.bool false)], args := [d] }
  | _ => none }
def ClearLessWrongFalsely : Prop := clearLessRow.holds Tryz.pinned (OpenSpec.ofChange clearLessWrong)

/-- 'toruslaw22.ClearAgree': WHATEVER THE INPUT: true; the input reads as it did. -/
def clearAgreeSpec : ChangeSpec := { name := "clearAgree", fn := fun _ => fun
  | [d] => { results := [.lit (.bool true)], args := [d] }
  | _ => none }
def clearAgreeRow : OpenClaim := { program := "ytofjebmoebhiiaagreatdoor", sum := "f65e10f3b94f80e0b318c2139753ed5af89929043f543b54dfe0d626f12a584f", func := "torus/toruslaw22.ClearAgree", spec := "clearAgree", inPlace := ["internal/bytealg.IndexByteString", "internal/bytealg.IndexString"], unfollowed := true, recurses := true, named := ["torus/clear.standard", "internal/bytealg.MaxLen", "torus/clear.twist"], apart := false, laid := [("torus/clear.standard", laid_torus_clear_standard), ("torus/clear.twist", laid_torus_clear_twist)] }
def ClearAgreeSaid : Prop := clearAgreeRow.holds Tryz.pinned (OpenSpec.ofChange clearAgreeSpec)

/-- ITS FALSE NEIGHBOUR: 'it returns false'. Refute it at one input. -/
def clearAgreeWrong : ChangeSpec := { name := "clearAgree", fn := fun _ => fun
  | [d] => { results := [.lit (.bool false)], args := [d] }
  | _ => none }
def ClearAgreeWrongFalsely : Prop := clearAgreeRow.holds Tryz.pinned (OpenSpec.ofChange clearAgreeWrong)

/- THE SECOND FORM. 'bulk': how many values and letters a reading holds, each counted each time it is reached (what is shared counts as often as it is met; a slice's spare places count too). A statement '..UptoSaid' is the law's where the arguments, and the package variables that the reading takes, are together of bulk at most 1048576: NARROWER than '..Said'. Prove '..Said' where nothing that the law and all that it calls make is longer than what came in: it says more and counts as full. Else prove '..UptoSaid'. A law counts once. -/
mutual
def uptoBulk {H : Type} : DataW H → Nat
  | .lit (.string bytes) => bytes.length + 1
  | .lit _ => 1
  | .nil => 1
  | .ptr d => uptoBulk d + 1
  | .slice elems spare => uptoBulkAll elems + uptoBulkAll spare + 1
  | .agg parts => uptoBulkAll parts + 1
  | .iface _ d => uptoBulk d + 1
  | .map entries => uptoBulkEntries entries + 1
  | .held _ => 1
def uptoBulkAll {H : Type} : List (DataW H) → Nat
  | [] => 0
  | d :: r => uptoBulk d + uptoBulkAll r
def uptoBulkEntries {H : Type} : List (Lit × DataW H) → Nat
  | [] => 0
  | x :: r => uptoBulkEntry x + uptoBulkEntries r
def uptoBulkEntry {H : Type} : Lit × DataW H → Nat
  | (.string bytes, d) => bytes.length + uptoBulk d + 1
  | (_, d) => uptoBulk d + 1
 end
def uptoSmall : (H : Type) → List (DataW H) → Bool := fun _ ds => decide (uptoBulkAll ds ≤ 1048576)
def OpenSpec.upto (s : _root_.Go.ChangeSpec) : _root_.Go.OpenSpec := { _root_.Go.OpenSpec.ofChange s with cond := some uptoSmall }

/-- 'toruslaw22.ClearDualMatches', WHERE WHAT IT READS IS OF BULK AT MOST 1048576: true; the input reads as it did. -/
def clearDualMatchesUptoRow : OpenClaim := { program := "ytofjebmoebhiiaagreatdoor", sum := "f65e10f3b94f80e0b318c2139753ed5af89929043f543b54dfe0d626f12a584f", func := "torus/toruslaw22.ClearDualMatches", spec := "clearDualMatches", inPlace := ["internal/bytealg.IndexByteString", "internal/bytealg.IndexString"], unfollowed := true, recurses := true, named := ["torus/clear.standard", "internal/bytealg.MaxLen", "torus/clear.twist"], apart := false, laid := [("torus/clear.standard", laid_torus_clear_standard), ("torus/clear.twist", laid_torus_clear_twist)], narrowed := true }
def ClearDualMatchesUptoSaid : Prop := clearDualMatchesUptoRow.holds Tryz.pinned (OpenSpec.upto clearDualMatchesSpec)

/-- 'toruslaw22.ClearStandardMatches', WHERE WHAT IT READS IS OF BULK AT MOST 1048576: true; the input reads as it did. -/
def clearStandardMatchesUptoRow : OpenClaim := { program := "ytofjebmoebhiiaagreatdoor", sum := "f65e10f3b94f80e0b318c2139753ed5af89929043f543b54dfe0d626f12a584f", func := "torus/toruslaw22.ClearStandardMatches", spec := "clearStandardMatches", inPlace := ["internal/bytealg.IndexByteString", "internal/bytealg.IndexString"], unfollowed := true, recurses := true, named := ["torus/clear.standard", "internal/bytealg.MaxLen", "torus/clear.twist"], apart := false, laid := [("torus/clear.standard", laid_torus_clear_standard), ("torus/clear.twist", laid_torus_clear_twist)], narrowed := true }
def ClearStandardMatchesUptoSaid : Prop := clearStandardMatchesUptoRow.holds Tryz.pinned (OpenSpec.upto clearStandardMatchesSpec)

/-- 'toruslaw22.ClearTwistMatches', WHERE WHAT IT READS IS OF BULK AT MOST 1048576: true; the input reads as it did. -/
def clearTwistMatchesUptoRow : OpenClaim := { program := "ytofjebmoebhiiaagreatdoor", sum := "f65e10f3b94f80e0b318c2139753ed5af89929043f543b54dfe0d626f12a584f", func := "torus/toruslaw22.ClearTwistMatches", spec := "clearTwistMatches", inPlace := ["internal/bytealg.IndexByteString", "internal/bytealg.IndexString"], unfollowed := true, recurses := true, named := ["torus/clear.standard", "internal/bytealg.MaxLen", "torus/clear.twist"], apart := false, laid := [("torus/clear.standard", laid_torus_clear_standard), ("torus/clear.twist", laid_torus_clear_twist)], narrowed := true }
def ClearTwistMatchesUptoSaid : Prop := clearTwistMatchesUptoRow.holds Tryz.pinned (OpenSpec.upto clearTwistMatchesSpec)

/-- 'toruslaw22.ClearCohomologyMatches', WHERE WHAT IT READS IS OF BULK AT MOST 1048576: true; the input reads as it did. -/
def clearCohomologyMatchesUptoRow : OpenClaim := { program := "ytofjebmoebhiiaagreatdoor", sum := "f65e10f3b94f80e0b318c2139753ed5af89929043f543b54dfe0d626f12a584f", func := "torus/toruslaw22.ClearCohomologyMatches", spec := "clearCohomologyMatches", inPlace := ["internal/bytealg.IndexByteString", "internal/bytealg.IndexString"], unfollowed := true, recurses := true, named := ["torus/clear.standard", "internal/bytealg.MaxLen", "torus/clear.twist"], apart := false, laid := [("torus/clear.standard", laid_torus_clear_standard), ("torus/clear.twist", laid_torus_clear_twist)], narrowed := true }
def ClearCohomologyMatchesUptoSaid : Prop := clearCohomologyMatchesUptoRow.holds Tryz.pinned (OpenSpec.upto clearCohomologyMatchesSpec)

/-- 'toruslaw22.ClearExamples', WHERE WHAT IT READS IS OF BULK AT MOST 1048576: true; the input reads as it did. -/
def clearExamplesUptoRow : OpenClaim := { program := "ytofjebmoebhiiaagreatdoor", sum := "f65e10f3b94f80e0b318c2139753ed5af89929043f543b54dfe0d626f12a584f", func := "torus/toruslaw22.ClearExamples", spec := "clearExamples", inPlace := ["internal/bytealg.IndexByteString", "internal/bytealg.IndexString"], unfollowed := true, recurses := true, named := ["torus/clear.standard", "internal/bytealg.MaxLen", "torus/clear.twist"], apart := false, laid := [("torus/clear.standard", laid_torus_clear_standard), ("torus/clear.twist", laid_torus_clear_twist)], narrowed := true }
def ClearExamplesUptoSaid : Prop := clearExamplesUptoRow.holds Tryz.pinned (OpenSpec.upto clearExamplesSpec)

/-- 'toruslaw22.ClearInvolution', WHERE WHAT IT READS IS OF BULK AT MOST 1048576: true; the input reads as it did. -/
def clearInvolutionUptoRow : OpenClaim := { program := "ytofjebmoebhiiaagreatdoor", sum := "f65e10f3b94f80e0b318c2139753ed5af89929043f543b54dfe0d626f12a584f", func := "torus/toruslaw22.ClearInvolution", spec := "clearInvolution", inPlace := ["internal/bytealg.IndexByteString", "internal/bytealg.IndexString"], unfollowed := true, recurses := true, named := ["torus/clear.standard", "internal/bytealg.MaxLen", "torus/clear.twist"], apart := false, laid := [("torus/clear.standard", laid_torus_clear_standard), ("torus/clear.twist", laid_torus_clear_twist)], narrowed := true }
def ClearInvolutionUptoSaid : Prop := clearInvolutionUptoRow.holds Tryz.pinned (OpenSpec.upto clearInvolutionSpec)

/-- 'toruslaw22.ClearDuality', WHERE WHAT IT READS IS OF BULK AT MOST 1048576: true; the input reads as it did. -/
def clearDualityUptoRow : OpenClaim := { program := "ytofjebmoebhiiaagreatdoor", sum := "f65e10f3b94f80e0b318c2139753ed5af89929043f543b54dfe0d626f12a584f", func := "torus/toruslaw22.ClearDuality", spec := "clearDuality", inPlace := ["internal/bytealg.IndexByteString", "internal/bytealg.IndexString"], unfollowed := true, recurses := true, named := ["torus/clear.standard", "internal/bytealg.MaxLen", "torus/clear.twist"], apart := false, laid := [("torus/clear.standard", laid_torus_clear_standard), ("torus/clear.twist", laid_torus_clear_twist)], narrowed := true }
def ClearDualityUptoSaid : Prop := clearDualityUptoRow.holds Tryz.pinned (OpenSpec.upto clearDualitySpec)

/-- 'toruslaw22.ClearLess', WHERE WHAT IT READS IS OF BULK AT MOST 1048576: true; the input reads as it did. -/
def clearLessUptoRow : OpenClaim := { program := "ytofjebmoebhiiaagreatdoor", sum := "f65e10f3b94f80e0b318c2139753ed5af89929043f543b54dfe0d626f12a584f", func := "torus/toruslaw22.ClearLess", spec := "clearLess", inPlace := ["internal/bytealg.IndexByteString", "internal/bytealg.IndexString"], unfollowed := true, recurses := true, named := ["torus/clear.standard", "internal/bytealg.MaxLen", "torus/clear.twist"], apart := false, laid := [("torus/clear.standard", laid_torus_clear_standard), ("torus/clear.twist", laid_torus_clear_twist)], narrowed := true }
def ClearLessUptoSaid : Prop := clearLessUptoRow.holds Tryz.pinned (OpenSpec.upto clearLessSpec)

/-- 'toruslaw22.ClearAgree', WHERE WHAT IT READS IS OF BULK AT MOST 1048576: true; the input reads as it did. -/
def clearAgreeUptoRow : OpenClaim := { program := "ytofjebmoebhiiaagreatdoor", sum := "f65e10f3b94f80e0b318c2139753ed5af89929043f543b54dfe0d626f12a584f", func := "torus/toruslaw22.ClearAgree", spec := "clearAgree", inPlace := ["internal/bytealg.IndexByteString", "internal/bytealg.IndexString"], unfollowed := true, recurses := true, named := ["torus/clear.standard", "internal/bytealg.MaxLen", "torus/clear.twist"], apart := false, laid := [("torus/clear.standard", laid_torus_clear_standard), ("torus/clear.twist", laid_torus_clear_twist)], narrowed := true }
def ClearAgreeUptoSaid : Prop := clearAgreeUptoRow.holds Tryz.pinned (OpenSpec.upto clearAgreeSpec)

end Rows
end Go.Proofs.YtofjebmoebhiiaaGreatDoor

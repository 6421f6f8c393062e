/-
  No cell of these rows narrows 'for every input' (looked for: loops, veiled, ifaces, maps, wideKeys, modest, calm, conditions, laid).
  DERIVED. THE GIVEN ROWS OF THIS SEAT. 10 by the template 'for every input the law returns true; each argument reads behind the call as it read before'; 0 by the template 'total and deterministic' (their statements: YtfpoihcpjmkbkaaTotals.lean).
  GIVEN WITH THE SEED: the statements are not yours to turn. If you find one false, say at which input.
  Laid BY PROGRAM, IN A SANDBOX (cutbox-rows.mjs): the forced cells as the released guide's own fill.sh prints them over the translation c3776d5f17c28360… (all of the seat's roots in one cut). By AI agents, Wed Nov 11 2026. No macro, syntax, notation, axiom, sorry.
-/
import Derived.Test.YtfpoihcpjmkbkaaChecked
import GoSem.Claim
import GoSem.ClaimJoined
import GoSem.ClaimMapViews
import Derived.JoinedTies
import Derived.KernelRfl
namespace Go.Proofs.Ytfpoihcpjmkbkaa
/- THE CELL 'sum', in the pinned program and in every row, IS THE sha256 OF THE DUMP (.gsa) THAT YtfpoihcpjmkbkaaProg.lean LOADS. Nothing in Lean hashes anything: it is a label: what it is worth is what the hold of that sum in a sandbox is worth. -/
noncomputable def Try.pinned : Pinned := { name := "ytfpoihcpjmkbkaa", sum := "c3776d5f17c28360b1a076ea0fd145cd34157e1c447f82765890b9a5f766aa8e", checked := Try.checked }
namespace Rows
def none {H : Type} : Left H := { results := [], args := [] }

/-- 'laws.FnFailedIds': WHATEVER THE INPUT: true; the input reads as it did. -/
def fnFailedIdsSpec : ChangeSpec := { name := "fnFailedIds", fn := fun _ => fun
  | [d] => { results := [.lit (.bool true)], args := [d] }
  | _ => none }
def fnFailedIdsRow : OpenClaim := { program := "ytfpoihcpjmkbkaa", sum := "c3776d5f17c28360b1a076ea0fd145cd34157e1c447f82765890b9a5f766aa8e", func := "loop.example/fixturehouse/laws.FnFailedIds", spec := "fnFailedIds", apart := false }
def FnFailedIdsSaid : Prop := fnFailedIdsRow.holds Try.pinned (OpenSpec.ofChange fnFailedIdsSpec)

/-- ITS FALSE NEIGHBOUR: 'it returns false'. Refute it at one input. -/
def fnFailedIdsWrong : ChangeSpec := { name := "fnFailedIds", fn := fun _ => fun
  | [d] => { results := [.lit (.bool false)], args := [d] }
  | _ => none }
def FnFailedIdsWrongFalsely : Prop := fnFailedIdsRow.holds Try.pinned (OpenSpec.ofChange fnFailedIdsWrong)

/-- 'laws.FnMergeReports': WHATEVER THE INPUT: true; the input reads as it did. -/
def fnMergeReportsSpec : ChangeSpec := { name := "fnMergeReports", fn := fun _ => fun
  | [d] => { results := [.lit (.bool true)], args := [d] }
  | _ => none }
def fnMergeReportsRow : OpenClaim := { program := "ytfpoihcpjmkbkaa", sum := "c3776d5f17c28360b1a076ea0fd145cd34157e1c447f82765890b9a5f766aa8e", func := "loop.example/fixturehouse/laws.FnMergeReports", spec := "fnMergeReports", apart := false }
def FnMergeReportsSaid : Prop := fnMergeReportsRow.holds Try.pinned (OpenSpec.ofChange fnMergeReportsSpec)

/-- ITS FALSE NEIGHBOUR: 'it returns false'. Refute it at one input. -/
def fnMergeReportsWrong : ChangeSpec := { name := "fnMergeReports", fn := fun _ => fun
  | [d] => { results := [.lit (.bool false)], args := [d] }
  | _ => none }
def FnMergeReportsWrongFalsely : Prop := fnMergeReportsRow.holds Try.pinned (OpenSpec.ofChange fnMergeReportsWrong)

/-- 'laws.FnExactCountOutcome': WHATEVER THE INPUT: true; the input reads as it did. -/
def fnExactCountOutcomeSpec : ChangeSpec := { name := "fnExactCountOutcome", fn := fun _ => fun
  | [d1, d2] => { results := [.lit (.bool true)], args := [d1, d2] }
  | _ => none }
def fnExactCountOutcomeRow : OpenClaim := { program := "ytfpoihcpjmkbkaa", sum := "c3776d5f17c28360b1a076ea0fd145cd34157e1c447f82765890b9a5f766aa8e", func := "loop.example/fixturehouse/laws.FnExactCountOutcome", spec := "fnExactCountOutcome", apart := false }
def FnExactCountOutcomeSaid : Prop := fnExactCountOutcomeRow.holds Try.pinned (OpenSpec.ofChange fnExactCountOutcomeSpec)

/-- ITS FALSE NEIGHBOUR: 'it returns false'. Refute it at one input. -/
def fnExactCountOutcomeWrong : ChangeSpec := { name := "fnExactCountOutcome", fn := fun _ => fun
  | [d1, d2] => { results := [.lit (.bool false)], args := [d1, d2] }
  | _ => none }
def FnExactCountOutcomeWrongFalsely : Prop := fnExactCountOutcomeRow.holds Try.pinned (OpenSpec.ofChange fnExactCountOutcomeWrong)

/-- 'laws.FnExactOutcomeOf': WHATEVER THE INPUT: true; the input reads as it did. -/
def fnExactOutcomeOfSpec : ChangeSpec := { name := "fnExactOutcomeOf", fn := fun _ => fun
  | [d1, d2] => { results := [.lit (.bool true)], args := [d1, d2] }
  | _ => none }
def fnExactOutcomeOfRow : OpenClaim := { program := "ytfpoihcpjmkbkaa", sum := "c3776d5f17c28360b1a076ea0fd145cd34157e1c447f82765890b9a5f766aa8e", func := "loop.example/fixturehouse/laws.FnExactOutcomeOf", spec := "fnExactOutcomeOf", apart := false }
def FnExactOutcomeOfSaid : Prop := fnExactOutcomeOfRow.holds Try.pinned (OpenSpec.ofChange fnExactOutcomeOfSpec)

/-- ITS FALSE NEIGHBOUR: 'it returns false'. Refute it at one input. -/
def fnExactOutcomeOfWrong : ChangeSpec := { name := "fnExactOutcomeOf", fn := fun _ => fun
  | [d1, d2] => { results := [.lit (.bool false)], args := [d1, d2] }
  | _ => none }
def FnExactOutcomeOfWrongFalsely : Prop := fnExactOutcomeOfRow.holds Try.pinned (OpenSpec.ofChange fnExactOutcomeOfWrong)

/-- 'laws.FnExactIsGreen': WHATEVER THE INPUT: true; the input reads as it did. -/
def fnExactIsGreenSpec : ChangeSpec := { name := "fnExactIsGreen", fn := fun _ => fun
  | [d] => { results := [.lit (.bool true)], args := [d] }
  | _ => none }
def fnExactIsGreenRow : OpenClaim := { program := "ytfpoihcpjmkbkaa", sum := "c3776d5f17c28360b1a076ea0fd145cd34157e1c447f82765890b9a5f766aa8e", func := "loop.example/fixturehouse/laws.FnExactIsGreen", spec := "fnExactIsGreen", apart := false }
def FnExactIsGreenSaid : Prop := fnExactIsGreenRow.holds Try.pinned (OpenSpec.ofChange fnExactIsGreenSpec)

/-- ITS FALSE NEIGHBOUR: 'it returns false'. Refute it at one input. -/
def fnExactIsGreenWrong : ChangeSpec := { name := "fnExactIsGreen", fn := fun _ => fun
  | [d] => { results := [.lit (.bool false)], args := [d] }
  | _ => none }
def FnExactIsGreenWrongFalsely : Prop := fnExactIsGreenRow.holds Try.pinned (OpenSpec.ofChange fnExactIsGreenWrong)

/-- 'laws.FnExactFailedIds': WHATEVER THE INPUT: true; the input reads as it did. -/
def fnExactFailedIdsSpec : ChangeSpec := { name := "fnExactFailedIds", fn := fun _ => fun
  | [d] => { results := [.lit (.bool true)], args := [d] }
  | _ => none }
def fnExactFailedIdsRow : OpenClaim := { program := "ytfpoihcpjmkbkaa", sum := "c3776d5f17c28360b1a076ea0fd145cd34157e1c447f82765890b9a5f766aa8e", func := "loop.example/fixturehouse/laws.FnExactFailedIds", spec := "fnExactFailedIds", apart := false }
def FnExactFailedIdsSaid : Prop := fnExactFailedIdsRow.holds Try.pinned (OpenSpec.ofChange fnExactFailedIdsSpec)

/-- ITS FALSE NEIGHBOUR: 'it returns false'. Refute it at one input. -/
def fnExactFailedIdsWrong : ChangeSpec := { name := "fnExactFailedIds", fn := fun _ => fun
  | [d] => { results := [.lit (.bool false)], args := [d] }
  | _ => none }
def FnExactFailedIdsWrongFalsely : Prop := fnExactFailedIdsRow.holds Try.pinned (OpenSpec.ofChange fnExactFailedIdsWrong)

/-- 'laws.FnExactMergeReports': WHATEVER THE INPUT: true; the input reads as it did. -/
def fnExactMergeReportsSpec : ChangeSpec := { name := "fnExactMergeReports", fn := fun _ => fun
  | [d1, d2] => { results := [.lit (.bool true)], args := [d1, d2] }
  | _ => none }
def fnExactMergeReportsRow : OpenClaim := { program := "ytfpoihcpjmkbkaa", sum := "c3776d5f17c28360b1a076ea0fd145cd34157e1c447f82765890b9a5f766aa8e", func := "loop.example/fixturehouse/laws.FnExactMergeReports", spec := "fnExactMergeReports", apart := false }
def FnExactMergeReportsSaid : Prop := fnExactMergeReportsRow.holds Try.pinned (OpenSpec.ofChange fnExactMergeReportsSpec)

/-- ITS FALSE NEIGHBOUR: 'it returns false'. Refute it at one input. -/
def fnExactMergeReportsWrong : ChangeSpec := { name := "fnExactMergeReports", fn := fun _ => fun
  | [d1, d2] => { results := [.lit (.bool false)], args := [d1, d2] }
  | _ => none }
def FnExactMergeReportsWrongFalsely : Prop := fnExactMergeReportsRow.holds Try.pinned (OpenSpec.ofChange fnExactMergeReportsWrong)

/-- 'laws.FnDiffReports': WHATEVER THE INPUT: true; the input reads as it did. -/
def fnDiffReportsSpec : ChangeSpec := { name := "fnDiffReports", fn := fun _ => fun
  | [d] => { results := [.lit (.bool true)], args := [d] }
  | _ => none }
def fnDiffReportsRow : OpenClaim := { program := "ytfpoihcpjmkbkaa", sum := "c3776d5f17c28360b1a076ea0fd145cd34157e1c447f82765890b9a5f766aa8e", func := "loop.example/fixturehouse/laws.FnDiffReports", spec := "fnDiffReports", apart := false }
def FnDiffReportsSaid : Prop := fnDiffReportsRow.holds Try.pinned (OpenSpec.ofChange fnDiffReportsSpec)

/-- ITS FALSE NEIGHBOUR: 'it returns false'. Refute it at one input. -/
def fnDiffReportsWrong : ChangeSpec := { name := "fnDiffReports", fn := fun _ => fun
  | [d] => { results := [.lit (.bool false)], args := [d] }
  | _ => none }
def FnDiffReportsWrongFalsely : Prop := fnDiffReportsRow.holds Try.pinned (OpenSpec.ofChange fnDiffReportsWrong)

/-- 'laws.FnExactDiffReports': WHATEVER THE INPUT: true; the input reads as it did. -/
def fnExactDiffReportsSpec : ChangeSpec := { name := "fnExactDiffReports", fn := fun _ => fun
  | [d1, d2] => { results := [.lit (.bool true)], args := [d1, d2] }
  | _ => none }
def fnExactDiffReportsRow : OpenClaim := { program := "ytfpoihcpjmkbkaa", sum := "c3776d5f17c28360b1a076ea0fd145cd34157e1c447f82765890b9a5f766aa8e", func := "loop.example/fixturehouse/laws.FnExactDiffReports", spec := "fnExactDiffReports", apart := false }
def FnExactDiffReportsSaid : Prop := fnExactDiffReportsRow.holds Try.pinned (OpenSpec.ofChange fnExactDiffReportsSpec)

/-- ITS FALSE NEIGHBOUR: 'it returns false'. Refute it at one input. -/
def fnExactDiffReportsWrong : ChangeSpec := { name := "fnExactDiffReports", fn := fun _ => fun
  | [d1, d2] => { results := [.lit (.bool false)], args := [d1, d2] }
  | _ => none }
def FnExactDiffReportsWrongFalsely : Prop := fnExactDiffReportsRow.holds Try.pinned (OpenSpec.ofChange fnExactDiffReportsWrong)

/-- 'laws.FnFlakyIds': WHATEVER THE INPUT: true; the input reads as it did. -/
def fnFlakyIdsSpec : ChangeSpec := { name := "fnFlakyIds", fn := fun _ => fun
  | [d] => { results := [.lit (.bool true)], args := [d] }
  | _ => none }
def fnFlakyIdsRow : OpenClaim := { program := "ytfpoihcpjmkbkaa", sum := "c3776d5f17c28360b1a076ea0fd145cd34157e1c447f82765890b9a5f766aa8e", func := "loop.example/fixturehouse/laws.FnFlakyIds", spec := "fnFlakyIds", apart := false }
def FnFlakyIdsSaid : Prop := fnFlakyIdsRow.holds Try.pinned (OpenSpec.ofChange fnFlakyIdsSpec)

/-- ITS FALSE NEIGHBOUR: 'it returns false'. Refute it at one input. -/
def fnFlakyIdsWrong : ChangeSpec := { name := "fnFlakyIds", fn := fun _ => fun
  | [d] => { results := [.lit (.bool false)], args := [d] }
  | _ => none }
def FnFlakyIdsWrongFalsely : Prop := fnFlakyIdsRow.holds Try.pinned (OpenSpec.ofChange fnFlakyIdsWrong)

/- THE SECOND FORM. 'bulk': how many values and letters a reading holds, each counted each time it is reached (what is shared counts as often as it is met; a slice's spare places count too). A statement '..UptoSaid' is the law's where the arguments, and the package variables that the reading takes, are together of bulk at most 1048576: NARROWER than '..Said'. Prove '..Said' where nothing that the law and all that it calls make is longer than what came in: it says more and counts as full. Else prove '..UptoSaid'. A law counts once. -/
mutual
def uptoBulk {H : Type} : DataW H → Nat
  | .lit (.string bytes) => bytes.length + 1
  | .lit _ => 1
  | .nil => 1
  | .ptr d => uptoBulk d + 1
  | .slice elems spare => uptoBulkAll elems + uptoBulkAll spare + 1
  | .agg parts => uptoBulkAll parts + 1
  | .iface _ d => uptoBulk d + 1
  | .map entries => uptoBulkEntries entries + 1
  | .held _ => 1
def uptoBulkAll {H : Type} : List (DataW H) → Nat
  | [] => 0
  | d :: r => uptoBulk d + uptoBulkAll r
def uptoBulkEntries {H : Type} : List (Lit × DataW H) → Nat
  | [] => 0
  | x :: r => uptoBulkEntry x + uptoBulkEntries r
def uptoBulkEntry {H : Type} : Lit × DataW H → Nat
  | (.string bytes, d) => bytes.length + uptoBulk d + 1
  | (_, d) => uptoBulk d + 1
 end
def uptoSmall : (H : Type) → List (DataW H) → Bool := fun _ ds => decide (uptoBulkAll ds ≤ 1048576)
def OpenSpec.upto (s : _root_.Go.ChangeSpec) : _root_.Go.OpenSpec := { _root_.Go.OpenSpec.ofChange s with cond := some uptoSmall }

/-- 'laws.FnFailedIds', WHERE WHAT IT READS IS OF BULK AT MOST 1048576: true; the input reads as it did. -/
def fnFailedIdsUptoRow : OpenClaim := { program := "ytfpoihcpjmkbkaa", sum := "c3776d5f17c28360b1a076ea0fd145cd34157e1c447f82765890b9a5f766aa8e", func := "loop.example/fixturehouse/laws.FnFailedIds", spec := "fnFailedIds", apart := false, narrowed := true }
def FnFailedIdsUptoSaid : Prop := fnFailedIdsUptoRow.holds Try.pinned (OpenSpec.upto fnFailedIdsSpec)

/-- 'laws.FnMergeReports', WHERE WHAT IT READS IS OF BULK AT MOST 1048576: true; the input reads as it did. -/
def fnMergeReportsUptoRow : OpenClaim := { program := "ytfpoihcpjmkbkaa", sum := "c3776d5f17c28360b1a076ea0fd145cd34157e1c447f82765890b9a5f766aa8e", func := "loop.example/fixturehouse/laws.FnMergeReports", spec := "fnMergeReports", apart := false, narrowed := true }
def FnMergeReportsUptoSaid : Prop := fnMergeReportsUptoRow.holds Try.pinned (OpenSpec.upto fnMergeReportsSpec)

/-- 'laws.FnExactCountOutcome', WHERE WHAT IT READS IS OF BULK AT MOST 1048576: true; the input reads as it did. -/
def fnExactCountOutcomeUptoRow : OpenClaim := { program := "ytfpoihcpjmkbkaa", sum := "c3776d5f17c28360b1a076ea0fd145cd34157e1c447f82765890b9a5f766aa8e", func := "loop.example/fixturehouse/laws.FnExactCountOutcome", spec := "fnExactCountOutcome", apart := false, narrowed := true }
def FnExactCountOutcomeUptoSaid : Prop := fnExactCountOutcomeUptoRow.holds Try.pinned (OpenSpec.upto fnExactCountOutcomeSpec)

/-- 'laws.FnExactOutcomeOf', WHERE WHAT IT READS IS OF BULK AT MOST 1048576: true; the input reads as it did. -/
def fnExactOutcomeOfUptoRow : OpenClaim := { program := "ytfpoihcpjmkbkaa", sum := "c3776d5f17c28360b1a076ea0fd145cd34157e1c447f82765890b9a5f766aa8e", func := "loop.example/fixturehouse/laws.FnExactOutcomeOf", spec := "fnExactOutcomeOf", apart := false, narrowed := true }
def FnExactOutcomeOfUptoSaid : Prop := fnExactOutcomeOfUptoRow.holds Try.pinned (OpenSpec.upto fnExactOutcomeOfSpec)

/-- 'laws.FnExactIsGreen', WHERE WHAT IT READS IS OF BULK AT MOST 1048576: true; the input reads as it did. -/
def fnExactIsGreenUptoRow : OpenClaim := { program := "ytfpoihcpjmkbkaa", sum := "c3776d5f17c28360b1a076ea0fd145cd34157e1c447f82765890b9a5f766aa8e", func := "loop.example/fixturehouse/laws.FnExactIsGreen", spec := "fnExactIsGreen", apart := false, narrowed := true }
def FnExactIsGreenUptoSaid : Prop := fnExactIsGreenUptoRow.holds Try.pinned (OpenSpec.upto fnExactIsGreenSpec)

/-- 'laws.FnExactFailedIds', WHERE WHAT IT READS IS OF BULK AT MOST 1048576: true; the input reads as it did. -/
def fnExactFailedIdsUptoRow : OpenClaim := { program := "ytfpoihcpjmkbkaa", sum := "c3776d5f17c28360b1a076ea0fd145cd34157e1c447f82765890b9a5f766aa8e", func := "loop.example/fixturehouse/laws.FnExactFailedIds", spec := "fnExactFailedIds", apart := false, narrowed := true }
def FnExactFailedIdsUptoSaid : Prop := fnExactFailedIdsUptoRow.holds Try.pinned (OpenSpec.upto fnExactFailedIdsSpec)

/-- 'laws.FnExactMergeReports', WHERE WHAT IT READS IS OF BULK AT MOST 1048576: true; the input reads as it did. -/
def fnExactMergeReportsUptoRow : OpenClaim := { program := "ytfpoihcpjmkbkaa", sum := "c3776d5f17c28360b1a076ea0fd145cd34157e1c447f82765890b9a5f766aa8e", func := "loop.example/fixturehouse/laws.FnExactMergeReports", spec := "fnExactMergeReports", apart := false, narrowed := true }
def FnExactMergeReportsUptoSaid : Prop := fnExactMergeReportsUptoRow.holds Try.pinned (OpenSpec.upto fnExactMergeReportsSpec)

/-- 'laws.FnDiffReports', WHERE WHAT IT READS IS OF BULK AT MOST 1048576: true; the input reads as it did. -/
def fnDiffReportsUptoRow : OpenClaim := { program := "ytfpoihcpjmkbkaa", sum := "c3776d5f17c28360b1a076ea0fd145cd34157e1c447f82765890b9a5f766aa8e", func := "loop.example/fixturehouse/laws.FnDiffReports", spec := "fnDiffReports", apart := false, narrowed := true }
def FnDiffReportsUptoSaid : Prop := fnDiffReportsUptoRow.holds Try.pinned (OpenSpec.upto fnDiffReportsSpec)

/-- 'laws.FnExactDiffReports', WHERE WHAT IT READS IS OF BULK AT MOST 1048576: true; the input reads as it did. -/
def fnExactDiffReportsUptoRow : OpenClaim := { program := "ytfpoihcpjmkbkaa", sum := "c3776d5f17c28360b1a076ea0fd145cd34157e1c447f82765890b9a5f766aa8e", func := "loop.example/fixturehouse/laws.FnExactDiffReports", spec := "fnExactDiffReports", apart := false, narrowed := true }
def FnExactDiffReportsUptoSaid : Prop := fnExactDiffReportsUptoRow.holds Try.pinned (OpenSpec.upto fnExactDiffReportsSpec)

/-- 'laws.FnFlakyIds', WHERE WHAT IT READS IS OF BULK AT MOST 1048576: true; the input reads as it did. -/
def fnFlakyIdsUptoRow : OpenClaim := { program := "ytfpoihcpjmkbkaa", sum := "c3776d5f17c28360b1a076ea0fd145cd34157e1c447f82765890b9a5f766aa8e", func := "loop.example/fixturehouse/laws.FnFlakyIds", spec := "fnFlakyIds", apart := false, narrowed := true }
def FnFlakyIdsUptoSaid : Prop := fnFlakyIdsUptoRow.holds Try.pinned (OpenSpec.upto fnFlakyIdsSpec)

end Rows
end Go.Proofs.Ytfpoihcpjmkbkaa

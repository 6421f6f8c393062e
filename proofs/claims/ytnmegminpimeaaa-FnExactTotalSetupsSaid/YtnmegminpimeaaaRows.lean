/-
  No cell of these rows narrows 'for every input' (looked for: loops, veiled, ifaces, maps, wideKeys, modest, calm, conditions, laid).
  DERIVED. THE GIVEN ROWS OF THIS SEAT. 6 by the template 'for every input the law returns true; each argument reads behind the call as it read before'; 0 by the template 'total and deterministic' (their statements: YtnmegminpimeaaaTotals.lean).
  GIVEN WITH THE SEED: the statements are not yours to turn. If you find one false, say at which input.
  Laid BY PROGRAM, IN A SANDBOX (cutbox-rows.mjs): the forced cells as the released guide's own fill.sh prints them over the translation cd91751ae26fff99… (all of the seat's roots in one cut). By AI agents, Wed Nov 11 2026. No macro, syntax, notation, axiom, sorry.
-/
import Derived.Test.YtnmegminpimeaaaChecked
import GoSem.Claim
import GoSem.ClaimJoined
import GoSem.ClaimMapViews
import Derived.JoinedTies
import Derived.KernelRfl
namespace Go.Proofs.Ytnmegminpimeaaa
/- THE CELL 'sum', in the pinned program and in every row, IS THE sha256 OF THE DUMP (.gsa) THAT YtnmegminpimeaaaProg.lean LOADS. Nothing in Lean hashes anything: it is a label: what it is worth is what the hold of that sum in a sandbox is worth. -/
noncomputable def Try.pinned : Pinned := { name := "ytnmegminpimeaaa", sum := "cd91751ae26fff9935a1f39900c0952a2632df2c41623d37f097584a09a7e1be", checked := Try.checked }
namespace Rows
def none {H : Type} : Left H := { results := [], args := [] }

/-- 'laws.FnExactConstants': WHATEVER THE INPUT: true; the input reads as it did. -/
def fnExactConstantsSpec : ChangeSpec := { name := "fnExactConstants", fn := fun _ => fun
  | [] => { results := [.lit (.bool true)], args := [] }
  | _ => none }
def fnExactConstantsRow : OpenClaim := { program := "ytnmegminpimeaaa", sum := "cd91751ae26fff9935a1f39900c0952a2632df2c41623d37f097584a09a7e1be", func := "loop.example/fixturehouse/laws.FnExactConstants", spec := "fnExactConstants", apart := false }
def FnExactConstantsSaid : Prop := fnExactConstantsRow.holds Try.pinned (OpenSpec.ofChange fnExactConstantsSpec)

/-- ITS FALSE NEIGHBOUR: 'it returns false'. Refute it at one input. -/
def fnExactConstantsWrong : ChangeSpec := { name := "fnExactConstants", fn := fun _ => fun
  | [] => { results := [.lit (.bool false)], args := [] }
  | _ => none }
def FnExactConstantsWrongFalsely : Prop := fnExactConstantsRow.holds Try.pinned (OpenSpec.ofChange fnExactConstantsWrong)

/-- 'laws.FnCountOutcome': WHATEVER THE INPUT: true; the input reads as it did. -/
def fnCountOutcomeSpec : ChangeSpec := { name := "fnCountOutcome", fn := fun _ => fun
  | [d] => { results := [.lit (.bool true)], args := [d] }
  | _ => none }
def fnCountOutcomeRow : OpenClaim := { program := "ytnmegminpimeaaa", sum := "cd91751ae26fff9935a1f39900c0952a2632df2c41623d37f097584a09a7e1be", func := "loop.example/fixturehouse/laws.FnCountOutcome", spec := "fnCountOutcome", apart := false }
def FnCountOutcomeSaid : Prop := fnCountOutcomeRow.holds Try.pinned (OpenSpec.ofChange fnCountOutcomeSpec)

/-- ITS FALSE NEIGHBOUR: 'it returns false'. Refute it at one input. -/
def fnCountOutcomeWrong : ChangeSpec := { name := "fnCountOutcome", fn := fun _ => fun
  | [d] => { results := [.lit (.bool false)], args := [d] }
  | _ => none }
def FnCountOutcomeWrongFalsely : Prop := fnCountOutcomeRow.holds Try.pinned (OpenSpec.ofChange fnCountOutcomeWrong)

/-- 'laws.FnOutcomeOf': WHATEVER THE INPUT: true; the input reads as it did. -/
def fnOutcomeOfSpec : ChangeSpec := { name := "fnOutcomeOf", fn := fun _ => fun
  | [d] => { results := [.lit (.bool true)], args := [d] }
  | _ => none }
def fnOutcomeOfRow : OpenClaim := { program := "ytnmegminpimeaaa", sum := "cd91751ae26fff9935a1f39900c0952a2632df2c41623d37f097584a09a7e1be", func := "loop.example/fixturehouse/laws.FnOutcomeOf", spec := "fnOutcomeOf", apart := false }
def FnOutcomeOfSaid : Prop := fnOutcomeOfRow.holds Try.pinned (OpenSpec.ofChange fnOutcomeOfSpec)

/-- ITS FALSE NEIGHBOUR: 'it returns false'. Refute it at one input. -/
def fnOutcomeOfWrong : ChangeSpec := { name := "fnOutcomeOf", fn := fun _ => fun
  | [d] => { results := [.lit (.bool false)], args := [d] }
  | _ => none }
def FnOutcomeOfWrongFalsely : Prop := fnOutcomeOfRow.holds Try.pinned (OpenSpec.ofChange fnOutcomeOfWrong)

/-- 'laws.FnIsGreen': WHATEVER THE INPUT: true; the input reads as it did. -/
def fnIsGreenSpec : ChangeSpec := { name := "fnIsGreen", fn := fun _ => fun
  | [d] => { results := [.lit (.bool true)], args := [d] }
  | _ => none }
def fnIsGreenRow : OpenClaim := { program := "ytnmegminpimeaaa", sum := "cd91751ae26fff9935a1f39900c0952a2632df2c41623d37f097584a09a7e1be", func := "loop.example/fixturehouse/laws.FnIsGreen", spec := "fnIsGreen", apart := false }
def FnIsGreenSaid : Prop := fnIsGreenRow.holds Try.pinned (OpenSpec.ofChange fnIsGreenSpec)

/-- ITS FALSE NEIGHBOUR: 'it returns false'. Refute it at one input. -/
def fnIsGreenWrong : ChangeSpec := { name := "fnIsGreen", fn := fun _ => fun
  | [d] => { results := [.lit (.bool false)], args := [d] }
  | _ => none }
def FnIsGreenWrongFalsely : Prop := fnIsGreenRow.holds Try.pinned (OpenSpec.ofChange fnIsGreenWrong)

/-- 'laws.FnExactSetupCount': WHATEVER THE INPUT: true; the input reads as it did. -/
def fnExactSetupCountSpec : ChangeSpec := { name := "fnExactSetupCount", fn := fun _ => fun
  | [d1, d2] => { results := [.lit (.bool true)], args := [d1, d2] }
  | _ => none }
def fnExactSetupCountRow : OpenClaim := { program := "ytnmegminpimeaaa", sum := "cd91751ae26fff9935a1f39900c0952a2632df2c41623d37f097584a09a7e1be", func := "loop.example/fixturehouse/laws.FnExactSetupCount", spec := "fnExactSetupCount", apart := false }
def FnExactSetupCountSaid : Prop := fnExactSetupCountRow.holds Try.pinned (OpenSpec.ofChange fnExactSetupCountSpec)

/-- ITS FALSE NEIGHBOUR: 'it returns false'. Refute it at one input. -/
def fnExactSetupCountWrong : ChangeSpec := { name := "fnExactSetupCount", fn := fun _ => fun
  | [d1, d2] => { results := [.lit (.bool false)], args := [d1, d2] }
  | _ => none }
def FnExactSetupCountWrongFalsely : Prop := fnExactSetupCountRow.holds Try.pinned (OpenSpec.ofChange fnExactSetupCountWrong)

/-- 'laws.FnExactTotalSetups': WHATEVER THE INPUT: true; the input reads as it did. -/
def fnExactTotalSetupsSpec : ChangeSpec := { name := "fnExactTotalSetups", fn := fun _ => fun
  | [d] => { results := [.lit (.bool true)], args := [d] }
  | _ => none }
def fnExactTotalSetupsRow : OpenClaim := { program := "ytnmegminpimeaaa", sum := "cd91751ae26fff9935a1f39900c0952a2632df2c41623d37f097584a09a7e1be", func := "loop.example/fixturehouse/laws.FnExactTotalSetups", spec := "fnExactTotalSetups", apart := false }
def FnExactTotalSetupsSaid : Prop := fnExactTotalSetupsRow.holds Try.pinned (OpenSpec.ofChange fnExactTotalSetupsSpec)

/-- ITS FALSE NEIGHBOUR: 'it returns false'. Refute it at one input. -/
def fnExactTotalSetupsWrong : ChangeSpec := { name := "fnExactTotalSetups", fn := fun _ => fun
  | [d] => { results := [.lit (.bool false)], args := [d] }
  | _ => none }
def FnExactTotalSetupsWrongFalsely : Prop := fnExactTotalSetupsRow.holds Try.pinned (OpenSpec.ofChange fnExactTotalSetupsWrong)

/- THE SECOND FORM. 'bulk': how many values and letters a reading holds, each counted each time it is reached (what is shared counts as often as it is met; a slice's spare places count too). A statement '..UptoSaid' is the law's where the arguments, and the package variables that the reading takes, are together of bulk at most 1048576: NARROWER than '..Said'. Prove '..Said' where nothing that the law and all that it calls make is longer than what came in: it says more and counts as full. Else prove '..UptoSaid'. A law counts once. -/
mutual
def uptoBulk {H : Type} : DataW H → Nat
  | .lit (.string bytes) => bytes.length + 1
  | .lit _ => 1
  | .nil => 1
  | .ptr d => uptoBulk d + 1
  | .slice elems spare => uptoBulkAll elems + uptoBulkAll spare + 1
  | .agg parts => uptoBulkAll parts + 1
  | .iface _ d => uptoBulk d + 1
  | .map entries => uptoBulkEntries entries + 1
  | .held _ => 1
def uptoBulkAll {H : Type} : List (DataW H) → Nat
  | [] => 0
  | d :: r => uptoBulk d + uptoBulkAll r
def uptoBulkEntries {H : Type} : List (Lit × DataW H) → Nat
  | [] => 0
  | x :: r => uptoBulkEntry x + uptoBulkEntries r
def uptoBulkEntry {H : Type} : Lit × DataW H → Nat
  | (.string bytes, d) => bytes.length + uptoBulk d + 1
  | (_, d) => uptoBulk d + 1
 end
def uptoSmall : (H : Type) → List (DataW H) → Bool := fun _ ds => decide (uptoBulkAll ds ≤ 1048576)
def OpenSpec.upto (s : _root_.Go.ChangeSpec) : _root_.Go.OpenSpec := { _root_.Go.OpenSpec.ofChange s with cond := some uptoSmall }

/-- 'laws.FnExactConstants', WHERE WHAT IT READS IS OF BULK AT MOST 1048576: true; the input reads as it did. -/
def fnExactConstantsUptoRow : OpenClaim := { program := "ytnmegminpimeaaa", sum := "cd91751ae26fff9935a1f39900c0952a2632df2c41623d37f097584a09a7e1be", func := "loop.example/fixturehouse/laws.FnExactConstants", spec := "fnExactConstants", apart := false, narrowed := true }
def FnExactConstantsUptoSaid : Prop := fnExactConstantsUptoRow.holds Try.pinned (OpenSpec.upto fnExactConstantsSpec)

/-- 'laws.FnCountOutcome', WHERE WHAT IT READS IS OF BULK AT MOST 1048576: true; the input reads as it did. -/
def fnCountOutcomeUptoRow : OpenClaim := { program := "ytnmegminpimeaaa", sum := "cd91751ae26fff9935a1f39900c0952a2632df2c41623d37f097584a09a7e1be", func := "loop.example/fixturehouse/laws.FnCountOutcome", spec := "fnCountOutcome", apart := false, narrowed := true }
def FnCountOutcomeUptoSaid : Prop := fnCountOutcomeUptoRow.holds Try.pinned (OpenSpec.upto fnCountOutcomeSpec)

/-- 'laws.FnOutcomeOf', WHERE WHAT IT READS IS OF BULK AT MOST 1048576: true; the input reads as it did. -/
def fnOutcomeOfUptoRow : OpenClaim := { program := "ytnmegminpimeaaa", sum := "cd91751ae26fff9935a1f39900c0952a2632df2c41623d37f097584a09a7e1be", func := "loop.example/fixturehouse/laws.FnOutcomeOf", spec := "fnOutcomeOf", apart := false, narrowed := true }
def FnOutcomeOfUptoSaid : Prop := fnOutcomeOfUptoRow.holds Try.pinned (OpenSpec.upto fnOutcomeOfSpec)

/-- 'laws.FnIsGreen', WHERE WHAT IT READS IS OF BULK AT MOST 1048576: true; the input reads as it did. -/
def fnIsGreenUptoRow : OpenClaim := { program := "ytnmegminpimeaaa", sum := "cd91751ae26fff9935a1f39900c0952a2632df2c41623d37f097584a09a7e1be", func := "loop.example/fixturehouse/laws.FnIsGreen", spec := "fnIsGreen", apart := false, narrowed := true }
def FnIsGreenUptoSaid : Prop := fnIsGreenUptoRow.holds Try.pinned (OpenSpec.upto fnIsGreenSpec)

/-- 'laws.FnExactSetupCount', WHERE WHAT IT READS IS OF BULK AT MOST 1048576: true; the input reads as it did. -/
def fnExactSetupCountUptoRow : OpenClaim := { program := "ytnmegminpimeaaa", sum := "cd91751ae26fff9935a1f39900c0952a2632df2c41623d37f097584a09a7e1be", func := "loop.example/fixturehouse/laws.FnExactSetupCount", spec := "fnExactSetupCount", apart := false, narrowed := true }
def FnExactSetupCountUptoSaid : Prop := fnExactSetupCountUptoRow.holds Try.pinned (OpenSpec.upto fnExactSetupCountSpec)

/-- 'laws.FnExactTotalSetups', WHERE WHAT IT READS IS OF BULK AT MOST 1048576: true; the input reads as it did. -/
def fnExactTotalSetupsUptoRow : OpenClaim := { program := "ytnmegminpimeaaa", sum := "cd91751ae26fff9935a1f39900c0952a2632df2c41623d37f097584a09a7e1be", func := "loop.example/fixturehouse/laws.FnExactTotalSetups", spec := "fnExactTotalSetups", apart := false, narrowed := true }
def FnExactTotalSetupsUptoSaid : Prop := fnExactTotalSetupsUptoRow.holds Try.pinned (OpenSpec.upto fnExactTotalSetupsSpec)

end Rows
end Go.Proofs.Ytnmegminpimeaaa

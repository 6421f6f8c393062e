/-
  No cell of these rows narrows 'for every input' (looked for: loops, veiled, ifaces, maps, wideKeys, modest, calm, conditions, laid).
  DERIVED. THE GIVEN ROWS OF THIS SEAT. 3 by the template 'for every input the law returns true; each argument reads behind the call as it read before'; 0 by the template 'total and deterministic' (their statements: YtcfdaffpifbfcaaTotals.lean).
  GIVEN WITH THE SEED: the statements are not yours to turn. If you find one false, say at which input.
  Laid BY PROGRAM, IN A SANDBOX (cutbox-rows.mjs): the forced cells as the released guide's own fill.sh prints them over the translation e836e966a0206706… (all of the seat's roots in one cut). By AI agents, Wed Nov 11 2026. No macro, syntax, notation, axiom, sorry.
-/
import Derived.Test.YtcfdaffpifbfcaaChecked
import GoSem.Claim
import GoSem.ClaimJoined
import GoSem.ClaimMapViews
import Derived.JoinedTies
import Derived.KernelRfl
namespace Go.Proofs.Ytcfdaffpifbfcaa
/- THE CELL 'sum', in the pinned program and in every row, IS THE sha256 OF THE DUMP (.gsa) THAT YtcfdaffpifbfcaaProg.lean LOADS. Nothing in Lean hashes anything: it is a label: what it is worth is what the hold of that sum in a sandbox is worth. -/
noncomputable def Try.pinned : Pinned := { name := "ytcfdaffpifbfcaa", sum := "e836e966a020670673bced5e5d8efe1cf73dd9c4d77a4ac598e3011f0c3b792e", checked := Try.checked }
namespace Rows
def none {H : Type} : Left H := { results := [], args := [] }

/-- 'laws.FnExactTestsRun': WHATEVER THE INPUT: true; the input reads as it did. -/
def fnExactTestsRunSpec : ChangeSpec := { name := "fnExactTestsRun", fn := fun _ => fun
  | [d] => { results := [.lit (.bool true)], args := [d] }
  | _ => none }
def fnExactTestsRunRow : OpenClaim := { program := "ytcfdaffpifbfcaa", sum := "e836e966a020670673bced5e5d8efe1cf73dd9c4d77a4ac598e3011f0c3b792e", func := "loop.example/fixturehouse/laws.FnExactTestsRun", spec := "fnExactTestsRun", apart := false }
def FnExactTestsRunSaid : Prop := fnExactTestsRunRow.holds Try.pinned (OpenSpec.ofChange fnExactTestsRunSpec)

/-- ITS FALSE NEIGHBOUR: 'it returns false'. Refute it at one input. -/
def fnExactTestsRunWrong : ChangeSpec := { name := "fnExactTestsRun", fn := fun _ => fun
  | [d] => { results := [.lit (.bool false)], args := [d] }
  | _ => none }
def FnExactTestsRunWrongFalsely : Prop := fnExactTestsRunRow.holds Try.pinned (OpenSpec.ofChange fnExactTestsRunWrong)

/-- 'laws.FnExactMostLive': WHATEVER THE INPUT: true; the input reads as it did. -/
def fnExactMostLiveSpec : ChangeSpec := { name := "fnExactMostLive", fn := fun _ => fun
  | [d] => { results := [.lit (.bool true)], args := [d] }
  | _ => none }
def fnExactMostLiveRow : OpenClaim := { program := "ytcfdaffpifbfcaa", sum := "e836e966a020670673bced5e5d8efe1cf73dd9c4d77a4ac598e3011f0c3b792e", func := "loop.example/fixturehouse/laws.FnExactMostLive", spec := "fnExactMostLive", apart := false }
def FnExactMostLiveSaid : Prop := fnExactMostLiveRow.holds Try.pinned (OpenSpec.ofChange fnExactMostLiveSpec)

/-- ITS FALSE NEIGHBOUR: 'it returns false'. Refute it at one input. -/
def fnExactMostLiveWrong : ChangeSpec := { name := "fnExactMostLive", fn := fun _ => fun
  | [d] => { results := [.lit (.bool false)], args := [d] }
  | _ => none }
def FnExactMostLiveWrongFalsely : Prop := fnExactMostLiveRow.holds Try.pinned (OpenSpec.ofChange fnExactMostLiveWrong)

/-- 'laws.FnExactLiveAfter': WHATEVER THE INPUT: true; the input reads as it did. -/
def fnExactLiveAfterSpec : ChangeSpec := { name := "fnExactLiveAfter", fn := fun _ => fun
  | [d1, d2] => { results := [.lit (.bool true)], args := [d1, d2] }
  | _ => none }
def fnExactLiveAfterRow : OpenClaim := { program := "ytcfdaffpifbfcaa", sum := "e836e966a020670673bced5e5d8efe1cf73dd9c4d77a4ac598e3011f0c3b792e", func := "loop.example/fixturehouse/laws.FnExactLiveAfter", spec := "fnExactLiveAfter", apart := false }
def FnExactLiveAfterSaid : Prop := fnExactLiveAfterRow.holds Try.pinned (OpenSpec.ofChange fnExactLiveAfterSpec)

/-- ITS FALSE NEIGHBOUR: 'it returns false'. Refute it at one input. -/
def fnExactLiveAfterWrong : ChangeSpec := { name := "fnExactLiveAfter", fn := fun _ => fun
  | [d1, d2] => { results := [.lit (.bool false)], args := [d1, d2] }
  | _ => none }
def FnExactLiveAfterWrongFalsely : Prop := fnExactLiveAfterRow.holds Try.pinned (OpenSpec.ofChange fnExactLiveAfterWrong)

/- THE SECOND FORM. 'bulk': how many values and letters a reading holds, each counted each time it is reached (what is shared counts as often as it is met; a slice's spare places count too). A statement '..UptoSaid' is the law's where the arguments, and the package variables that the reading takes, are together of bulk at most 1048576: NARROWER than '..Said'. Prove '..Said' where nothing that the law and all that it calls make is longer than what came in: it says more and counts as full. Else prove '..UptoSaid'. A law counts once. -/
mutual
def uptoBulk {H : Type} : DataW H → Nat
  | .lit (.string bytes) => bytes.length + 1
  | .lit _ => 1
  | .nil => 1
  | .ptr d => uptoBulk d + 1
  | .slice elems spare => uptoBulkAll elems + uptoBulkAll spare + 1
  | .agg parts => uptoBulkAll parts + 1
  | .iface _ d => uptoBulk d + 1
  | .map entries => uptoBulkEntries entries + 1
  | .held _ => 1
def uptoBulkAll {H : Type} : List (DataW H) → Nat
  | [] => 0
  | d :: r => uptoBulk d + uptoBulkAll r
def uptoBulkEntries {H : Type} : List (Lit × DataW H) → Nat
  | [] => 0
  | x :: r => uptoBulkEntry x + uptoBulkEntries r
def uptoBulkEntry {H : Type} : Lit × DataW H → Nat
  | (.string bytes, d) => bytes.length + uptoBulk d + 1
  | (_, d) => uptoBulk d + 1
 end
def uptoSmall : (H : Type) → List (DataW H) → Bool := fun _ ds => decide (uptoBulkAll ds ≤ 1048576)
def OpenSpec.upto (s : _root_.Go.ChangeSpec) : _root_.Go.OpenSpec := { _root_.Go.OpenSpec.ofChange s with cond := some uptoSmall }

/-- 'laws.FnExactTestsRun', WHERE WHAT IT READS IS OF BULK AT MOST 1048576: true; the input reads as it did. -/
def fnExactTestsRunUptoRow : OpenClaim := { program := "ytcfdaffpifbfcaa", sum := "e836e966a020670673bced5e5d8efe1cf73dd9c4d77a4ac598e3011f0c3b792e", func := "loop.example/fixturehouse/laws.FnExactTestsRun", spec := "fnExactTestsRun", apart := false, narrowed := true }
def FnExactTestsRunUptoSaid : Prop := fnExactTestsRunUptoRow.holds Try.pinned (OpenSpec.upto fnExactTestsRunSpec)

/-- 'laws.FnExactMostLive', WHERE WHAT IT READS IS OF BULK AT MOST 1048576: true; the input reads as it did. -/
def fnExactMostLiveUptoRow : OpenClaim := { program := "ytcfdaffpifbfcaa", sum := "e836e966a020670673bced5e5d8efe1cf73dd9c4d77a4ac598e3011f0c3b792e", func := "loop.example/fixturehouse/laws.FnExactMostLive", spec := "fnExactMostLive", apart := false, narrowed := true }
def FnExactMostLiveUptoSaid : Prop := fnExactMostLiveUptoRow.holds Try.pinned (OpenSpec.upto fnExactMostLiveSpec)

/-- 'laws.FnExactLiveAfter', WHERE WHAT IT READS IS OF BULK AT MOST 1048576: true; the input reads as it did. -/
def fnExactLiveAfterUptoRow : OpenClaim := { program := "ytcfdaffpifbfcaa", sum := "e836e966a020670673bced5e5d8efe1cf73dd9c4d77a4ac598e3011f0c3b792e", func := "loop.example/fixturehouse/laws.FnExactLiveAfter", spec := "fnExactLiveAfter", apart := false, narrowed := true }
def FnExactLiveAfterUptoSaid : Prop := fnExactLiveAfterUptoRow.holds Try.pinned (OpenSpec.upto fnExactLiveAfterSpec)

end Rows
end Go.Proofs.Ytcfdaffpifbfcaa

/-
  No cell of these rows narrows 'for every input' (looked for: loops, veiled, ifaces, maps, wideKeys, modest, calm, conditions, laid).
  DERIVED. THE GIVEN ROWS OF THIS SEAT. 5 by the template 'for every input the law returns true; each argument reads behind the call as it read before'; 0 by the template 'total and deterministic' (their statements: YtboppbejnadpmaaTotals.lean).
  GIVEN WITH THE SEED: the statements are not yours to turn. If you find one false, say at which input.
  Laid BY PROGRAM, IN A SANDBOX (cutbox-rows.mjs): the forced cells as the released guide's own fill.sh prints them over the translation c0779380ec1a2673… (all of the seat's roots in one cut). By AI agents, Wed Nov 11 2026. No macro, syntax, notation, axiom, sorry.
-/
import Derived.Test.YtboppbejnadpmaaChecked
import GoSem.Claim
import GoSem.ClaimJoined
import GoSem.ClaimMapViews
import Derived.JoinedTies
import Derived.KernelRfl
namespace Go.Proofs.Ytboppbejnadpmaa
/- THE CELL 'sum', in the pinned program and in every row, IS THE sha256 OF THE DUMP (.gsa) THAT YtboppbejnadpmaaProg.lean LOADS. Nothing in Lean hashes anything: it is a label: what it is worth is what the hold of that sum in a sandbox is worth. -/
noncomputable def Try.pinned : Pinned := { name := "ytboppbejnadpmaa", sum := "c0779380ec1a2673b8ac81d1b6601a98a7dbef44f6e83d9910ccde4f0b7bca80", checked := Try.checked }
namespace Rows
def none {H : Type} : Left H := { results := [], args := [] }

/-- 'laws.FnValidTests': WHATEVER THE INPUT: true; the input reads as it did. -/
def fnValidTestsSpec : ChangeSpec := { name := "fnValidTests", fn := fun _ => fun
  | [d] => { results := [.lit (.bool true)], args := [d] }
  | _ => none }
def fnValidTestsRow : OpenClaim := { program := "ytboppbejnadpmaa", sum := "c0779380ec1a2673b8ac81d1b6601a98a7dbef44f6e83d9910ccde4f0b7bca80", func := "loop.example/fixturehouse/laws.FnValidTests", spec := "fnValidTests", apart := false }
def FnValidTestsSaid : Prop := fnValidTestsRow.holds Try.pinned (OpenSpec.ofChange fnValidTestsSpec)

/-- ITS FALSE NEIGHBOUR: 'it returns false'. Refute it at one input. -/
def fnValidTestsWrong : ChangeSpec := { name := "fnValidTests", fn := fun _ => fun
  | [d] => { results := [.lit (.bool false)], args := [d] }
  | _ => none }
def FnValidTestsWrongFalsely : Prop := fnValidTestsRow.holds Try.pinned (OpenSpec.ofChange fnValidTestsWrong)

/-- 'laws.FnTestId': WHATEVER THE INPUT: true; the input reads as it did. -/
def fnTestIdSpec : ChangeSpec := { name := "fnTestId", fn := fun _ => fun
  | [d] => { results := [.lit (.bool true)], args := [d] }
  | _ => none }
def fnTestIdRow : OpenClaim := { program := "ytboppbejnadpmaa", sum := "c0779380ec1a2673b8ac81d1b6601a98a7dbef44f6e83d9910ccde4f0b7bca80", func := "loop.example/fixturehouse/laws.FnTestId", spec := "fnTestId", unfollowed := true, recurses := true, apart := false }
def FnTestIdSaid : Prop := fnTestIdRow.holds Try.pinned (OpenSpec.ofChange fnTestIdSpec)

/-- ITS FALSE NEIGHBOUR: 'it returns false'. Refute it at one input. -/
def fnTestIdWrong : ChangeSpec := { name := "fnTestId", fn := fun _ => fun
  | [d] => { results := [.lit (.bool false)], args := [d] }
  | _ => none }
def FnTestIdWrongFalsely : Prop := fnTestIdRow.holds Try.pinned (OpenSpec.ofChange fnTestIdWrong)

/-- 'laws.FnExactFindTest': WHATEVER THE INPUT: true; the input reads as it did. -/
def fnExactFindTestSpec : ChangeSpec := { name := "fnExactFindTest", fn := fun _ => fun
  | [d1, d2] => { results := [.lit (.bool true)], args := [d1, d2] }
  | _ => none }
def fnExactFindTestRow : OpenClaim := { program := "ytboppbejnadpmaa", sum := "c0779380ec1a2673b8ac81d1b6601a98a7dbef44f6e83d9910ccde4f0b7bca80", func := "loop.example/fixturehouse/laws.FnExactFindTest", spec := "fnExactFindTest", unfollowed := true, recurses := true, apart := false }
def FnExactFindTestSaid : Prop := fnExactFindTestRow.holds Try.pinned (OpenSpec.ofChange fnExactFindTestSpec)

/-- ITS FALSE NEIGHBOUR: 'it returns false'. Refute it at one input. -/
def fnExactFindTestWrong : ChangeSpec := { name := "fnExactFindTest", fn := fun _ => fun
  | [d1, d2] => { results := [.lit (.bool false)], args := [d1, d2] }
  | _ => none }
def FnExactFindTestWrongFalsely : Prop := fnExactFindTestRow.holds Try.pinned (OpenSpec.ofChange fnExactFindTestWrong)

/-- 'laws.FnExactTestId': WHATEVER THE INPUT: true; the input reads as it did. -/
def fnExactTestIdSpec : ChangeSpec := { name := "fnExactTestId", fn := fun _ => fun
  | [d] => { results := [.lit (.bool true)], args := [d] }
  | _ => none }
def fnExactTestIdRow : OpenClaim := { program := "ytboppbejnadpmaa", sum := "c0779380ec1a2673b8ac81d1b6601a98a7dbef44f6e83d9910ccde4f0b7bca80", func := "loop.example/fixturehouse/laws.FnExactTestId", spec := "fnExactTestId", apart := false }
def FnExactTestIdSaid : Prop := fnExactTestIdRow.holds Try.pinned (OpenSpec.ofChange fnExactTestIdSpec)

/-- ITS FALSE NEIGHBOUR: 'it returns false'. Refute it at one input. -/
def fnExactTestIdWrong : ChangeSpec := { name := "fnExactTestId", fn := fun _ => fun
  | [d] => { results := [.lit (.bool false)], args := [d] }
  | _ => none }
def FnExactTestIdWrongFalsely : Prop := fnExactTestIdRow.holds Try.pinned (OpenSpec.ofChange fnExactTestIdWrong)

/-- 'laws.FnExactValidTests': WHATEVER THE INPUT: true; the input reads as it did. -/
def fnExactValidTestsSpec : ChangeSpec := { name := "fnExactValidTests", fn := fun _ => fun
  | [d] => { results := [.lit (.bool true)], args := [d] }
  | _ => none }
def fnExactValidTestsRow : OpenClaim := { program := "ytboppbejnadpmaa", sum := "c0779380ec1a2673b8ac81d1b6601a98a7dbef44f6e83d9910ccde4f0b7bca80", func := "loop.example/fixturehouse/laws.FnExactValidTests", spec := "fnExactValidTests", apart := false }
def FnExactValidTestsSaid : Prop := fnExactValidTestsRow.holds Try.pinned (OpenSpec.ofChange fnExactValidTestsSpec)

/-- ITS FALSE NEIGHBOUR: 'it returns false'. Refute it at one input. -/
def fnExactValidTestsWrong : ChangeSpec := { name := "fnExactValidTests", fn := fun _ => fun
  | [d] => { results := [.lit (.bool false)], args := [d] }
  | _ => none }
def FnExactValidTestsWrongFalsely : Prop := fnExactValidTestsRow.holds Try.pinned (OpenSpec.ofChange fnExactValidTestsWrong)

/- THE SECOND FORM. 'bulk': how many values and letters a reading holds, each counted each time it is reached (what is shared counts as often as it is met; a slice's spare places count too). A statement '..UptoSaid' is the law's where the arguments, and the package variables that the reading takes, are together of bulk at most 1048576: NARROWER than '..Said'. Prove '..Said' where nothing that the law and all that it calls make is longer than what came in: it says more and counts as full. Else prove '..UptoSaid'. A law counts once. -/
mutual
def uptoBulk {H : Type} : DataW H → Nat
  | .lit (.string bytes) => bytes.length + 1
  | .lit _ => 1
  | .nil => 1
  | .ptr d => uptoBulk d + 1
  | .slice elems spare => uptoBulkAll elems + uptoBulkAll spare + 1
  | .agg parts => uptoBulkAll parts + 1
  | .iface _ d => uptoBulk d + 1
  | .map entries => uptoBulkEntries entries + 1
  | .held _ => 1
def uptoBulkAll {H : Type} : List (DataW H) → Nat
  | [] => 0
  | d :: r => uptoBulk d + uptoBulkAll r
def uptoBulkEntries {H : Type} : List (Lit × DataW H) → Nat
  | [] => 0
  | x :: r => uptoBulkEntry x + uptoBulkEntries r
def uptoBulkEntry {H : Type} : Lit × DataW H → Nat
  | (.string bytes, d) => bytes.length + uptoBulk d + 1
  | (_, d) => uptoBulk d + 1
 end
def uptoSmall : (H : Type) → List (DataW H) → Bool := fun _ ds => decide (uptoBulkAll ds ≤ 1048576)
def OpenSpec.upto (s : _root_.Go.ChangeSpec) : _root_.Go.OpenSpec := { _root_.Go.OpenSpec.ofChange s with cond := some uptoSmall }

/-- 'laws.FnValidTests', WHERE WHAT IT READS IS OF BULK AT MOST 1048576: true; the input reads as it did. -/
def fnValidTestsUptoRow : OpenClaim := { program := "ytboppbejnadpmaa", sum := "c0779380ec1a2673b8ac81d1b6601a98a7dbef44f6e83d9910ccde4f0b7bca80", func := "loop.example/fixturehouse/laws.FnValidTests", spec := "fnValidTests", apart := false, narrowed := true }
def FnValidTestsUptoSaid : Prop := fnValidTestsUptoRow.holds Try.pinned (OpenSpec.upto fnValidTestsSpec)

/-- 'laws.FnTestId', WHERE WHAT IT READS IS OF BULK AT MOST 1048576: true; the input reads as it did. -/
def fnTestIdUptoRow : OpenClaim := { program := "ytboppbejnadpmaa", sum := "c0779380ec1a2673b8ac81d1b6601a98a7dbef44f6e83d9910ccde4f0b7bca80", func := "loop.example/fixturehouse/laws.FnTestId", spec := "fnTestId", unfollowed := true, recurses := true, apart := false, narrowed := true }
def FnTestIdUptoSaid : Prop := fnTestIdUptoRow.holds Try.pinned (OpenSpec.upto fnTestIdSpec)

/-- 'laws.FnExactFindTest', WHERE WHAT IT READS IS OF BULK AT MOST 1048576: true; the input reads as it did. -/
def fnExactFindTestUptoRow : OpenClaim := { program := "ytboppbejnadpmaa", sum := "c0779380ec1a2673b8ac81d1b6601a98a7dbef44f6e83d9910ccde4f0b7bca80", func := "loop.example/fixturehouse/laws.FnExactFindTest", spec := "fnExactFindTest", unfollowed := true, recurses := true, apart := false, narrowed := true }
def FnExactFindTestUptoSaid : Prop := fnExactFindTestUptoRow.holds Try.pinned (OpenSpec.upto fnExactFindTestSpec)

/-- 'laws.FnExactTestId', WHERE WHAT IT READS IS OF BULK AT MOST 1048576: true; the input reads as it did. -/
def fnExactTestIdUptoRow : OpenClaim := { program := "ytboppbejnadpmaa", sum := "c0779380ec1a2673b8ac81d1b6601a98a7dbef44f6e83d9910ccde4f0b7bca80", func := "loop.example/fixturehouse/laws.FnExactTestId", spec := "fnExactTestId", apart := false, narrowed := true }
def FnExactTestIdUptoSaid : Prop := fnExactTestIdUptoRow.holds Try.pinned (OpenSpec.upto fnExactTestIdSpec)

/-- 'laws.FnExactValidTests', WHERE WHAT IT READS IS OF BULK AT MOST 1048576: true; the input reads as it did. -/
def fnExactValidTestsUptoRow : OpenClaim := { program := "ytboppbejnadpmaa", sum := "c0779380ec1a2673b8ac81d1b6601a98a7dbef44f6e83d9910ccde4f0b7bca80", func := "loop.example/fixturehouse/laws.FnExactValidTests", spec := "fnExactValidTests", apart := false, narrowed := true }
def FnExactValidTestsUptoSaid : Prop := fnExactValidTestsUptoRow.holds Try.pinned (OpenSpec.upto fnExactValidTestsSpec)

end Rows
end Go.Proofs.Ytboppbejnadpmaa

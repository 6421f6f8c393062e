/-
  No cell of these rows narrows 'for every input' (looked for: loops, veiled, ifaces, maps, wideKeys, modest, calm, conditions, laid).
  DERIVED. THE GIVEN ROWS OF THIS SEAT. 7 by the template 'for every input the law returns true; each argument reads behind the call as it read before'; 0 by the template 'total and deterministic' (their statements: YtihmgjefndkfeaaTotals.lean).
  GIVEN WITH THE SEED: the statements are not yours to turn. If you find one false, say at which input.
  Laid BY PROGRAM, IN A SANDBOX (cutbox-rows.mjs): the forced cells as the released guide's own fill.sh prints them over the translation af4586a0ab62f125… (all of the seat's roots in one cut). By AI agents, Wed Nov 11 2026. No macro, syntax, notation, axiom, sorry.
-/
import Derived.Test.YtihmgjefndkfeaaChecked
import GoSem.Claim
import GoSem.ClaimJoined
import GoSem.ClaimMapViews
import Derived.JoinedTies
import Derived.KernelRfl
namespace Go.Proofs.Ytihmgjefndkfeaa
/- THE CELL 'sum', in the pinned program and in every row, IS THE sha256 OF THE DUMP (.gsa) THAT YtihmgjefndkfeaaProg.lean LOADS. Nothing in Lean hashes anything: it is a label: what it is worth is what the hold of that sum in a sandbox is worth. -/
noncomputable def Try.pinned : Pinned := { name := "ytihmgjefndkfeaa", sum := "af4586a0ab62f125e0b1849e264d1d276b18705717e7ca37dd29356bf69da1fb", checked := Try.checked }
namespace Rows
def none {H : Type} : Left H := { results := [], args := [] }

/-- 'laws.FnValidCalls': WHATEVER THE INPUT: true; the input reads as it did. -/
def fnValidCallsSpec : ChangeSpec := { name := "fnValidCalls", fn := fun _ => fun
  | [d] => { results := [.lit (.bool true)], args := [d] }
  | _ => none }
def fnValidCallsRow : OpenClaim := { program := "ytihmgjefndkfeaa", sum := "af4586a0ab62f125e0b1849e264d1d276b18705717e7ca37dd29356bf69da1fb", func := "loop.example/fixturehouse/laws.FnValidCalls", spec := "fnValidCalls", apart := false }
def FnValidCallsSaid : Prop := fnValidCallsRow.holds Try.pinned (OpenSpec.ofChange fnValidCallsSpec)

/-- ITS FALSE NEIGHBOUR: 'it returns false'. Refute it at one input. -/
def fnValidCallsWrong : ChangeSpec := { name := "fnValidCalls", fn := fun _ => fun
  | [d] => { results := [.lit (.bool false)], args := [d] }
  | _ => none }
def FnValidCallsWrongFalsely : Prop := fnValidCallsRow.holds Try.pinned (OpenSpec.ofChange fnValidCallsWrong)

/-- 'laws.FnValidDouble': WHATEVER THE INPUT: true; the input reads as it did. -/
def fnValidDoubleSpec : ChangeSpec := { name := "fnValidDouble", fn := fun _ => fun
  | [d] => { results := [.lit (.bool true)], args := [d] }
  | _ => none }
def fnValidDoubleRow : OpenClaim := { program := "ytihmgjefndkfeaa", sum := "af4586a0ab62f125e0b1849e264d1d276b18705717e7ca37dd29356bf69da1fb", func := "loop.example/fixturehouse/laws.FnValidDouble", spec := "fnValidDouble", apart := false }
def FnValidDoubleSaid : Prop := fnValidDoubleRow.holds Try.pinned (OpenSpec.ofChange fnValidDoubleSpec)

/-- ITS FALSE NEIGHBOUR: 'it returns false'. Refute it at one input. -/
def fnValidDoubleWrong : ChangeSpec := { name := "fnValidDouble", fn := fun _ => fun
  | [d] => { results := [.lit (.bool false)], args := [d] }
  | _ => none }
def FnValidDoubleWrongFalsely : Prop := fnValidDoubleRow.holds Try.pinned (OpenSpec.ofChange fnValidDoubleWrong)

/-- 'laws.FnCallsOf': WHATEVER THE INPUT: true; the input reads as it did. -/
def fnCallsOfSpec : ChangeSpec := { name := "fnCallsOf", fn := fun _ => fun
  | [d] => { results := [.lit (.bool true)], args := [d] }
  | _ => none }
def fnCallsOfRow : OpenClaim := { program := "ytihmgjefndkfeaa", sum := "af4586a0ab62f125e0b1849e264d1d276b18705717e7ca37dd29356bf69da1fb", func := "loop.example/fixturehouse/laws.FnCallsOf", spec := "fnCallsOf", apart := false }
def FnCallsOfSaid : Prop := fnCallsOfRow.holds Try.pinned (OpenSpec.ofChange fnCallsOfSpec)

/-- ITS FALSE NEIGHBOUR: 'it returns false'. Refute it at one input. -/
def fnCallsOfWrong : ChangeSpec := { name := "fnCallsOf", fn := fun _ => fun
  | [d] => { results := [.lit (.bool false)], args := [d] }
  | _ => none }
def FnCallsOfWrongFalsely : Prop := fnCallsOfRow.holds Try.pinned (OpenSpec.ofChange fnCallsOfWrong)

/-- 'laws.FnAnyOrder': WHATEVER THE INPUT: true; the input reads as it did. -/
def fnAnyOrderSpec : ChangeSpec := { name := "fnAnyOrder", fn := fun _ => fun
  | [d] => { results := [.lit (.bool true)], args := [d] }
  | _ => none }
def fnAnyOrderRow : OpenClaim := { program := "ytihmgjefndkfeaa", sum := "af4586a0ab62f125e0b1849e264d1d276b18705717e7ca37dd29356bf69da1fb", func := "loop.example/fixturehouse/laws.FnAnyOrder", spec := "fnAnyOrder", apart := false }
def FnAnyOrderSaid : Prop := fnAnyOrderRow.holds Try.pinned (OpenSpec.ofChange fnAnyOrderSpec)

/-- ITS FALSE NEIGHBOUR: 'it returns false'. Refute it at one input. -/
def fnAnyOrderWrong : ChangeSpec := { name := "fnAnyOrder", fn := fun _ => fun
  | [d] => { results := [.lit (.bool false)], args := [d] }
  | _ => none }
def FnAnyOrderWrongFalsely : Prop := fnAnyOrderRow.holds Try.pinned (OpenSpec.ofChange fnAnyOrderWrong)

/-- 'laws.FnCountCall': WHATEVER THE INPUT: true; the input reads as it did. -/
def fnCountCallSpec : ChangeSpec := { name := "fnCountCall", fn := fun _ => fun
  | [d] => { results := [.lit (.bool true)], args := [d] }
  | _ => none }
def fnCountCallRow : OpenClaim := { program := "ytihmgjefndkfeaa", sum := "af4586a0ab62f125e0b1849e264d1d276b18705717e7ca37dd29356bf69da1fb", func := "loop.example/fixturehouse/laws.FnCountCall", spec := "fnCountCall", apart := false }
def FnCountCallSaid : Prop := fnCountCallRow.holds Try.pinned (OpenSpec.ofChange fnCountCallSpec)

/-- ITS FALSE NEIGHBOUR: 'it returns false'. Refute it at one input. -/
def fnCountCallWrong : ChangeSpec := { name := "fnCountCall", fn := fun _ => fun
  | [d] => { results := [.lit (.bool false)], args := [d] }
  | _ => none }
def FnCountCallWrongFalsely : Prop := fnCountCallRow.holds Try.pinned (OpenSpec.ofChange fnCountCallWrong)

/-- 'laws.FnInOrder': WHATEVER THE INPUT: true; the input reads as it did. -/
def fnInOrderSpec : ChangeSpec := { name := "fnInOrder", fn := fun _ => fun
  | [d] => { results := [.lit (.bool true)], args := [d] }
  | _ => none }
def fnInOrderRow : OpenClaim := { program := "ytihmgjefndkfeaa", sum := "af4586a0ab62f125e0b1849e264d1d276b18705717e7ca37dd29356bf69da1fb", func := "loop.example/fixturehouse/laws.FnInOrder", spec := "fnInOrder", apart := false }
def FnInOrderSaid : Prop := fnInOrderRow.holds Try.pinned (OpenSpec.ofChange fnInOrderSpec)

/-- ITS FALSE NEIGHBOUR: 'it returns false'. Refute it at one input. -/
def fnInOrderWrong : ChangeSpec := { name := "fnInOrder", fn := fun _ => fun
  | [d] => { results := [.lit (.bool false)], args := [d] }
  | _ => none }
def FnInOrderWrongFalsely : Prop := fnInOrderRow.holds Try.pinned (OpenSpec.ofChange fnInOrderWrong)

/-- 'laws.FnUnmetExpects': WHATEVER THE INPUT: true; the input reads as it did. -/
def fnUnmetExpectsSpec : ChangeSpec := { name := "fnUnmetExpects", fn := fun _ => fun
  | [d] => { results := [.lit (.bool true)], args := [d] }
  | _ => none }
def fnUnmetExpectsRow : OpenClaim := { program := "ytihmgjefndkfeaa", sum := "af4586a0ab62f125e0b1849e264d1d276b18705717e7ca37dd29356bf69da1fb", func := "loop.example/fixturehouse/laws.FnUnmetExpects", spec := "fnUnmetExpects", apart := false }
def FnUnmetExpectsSaid : Prop := fnUnmetExpectsRow.holds Try.pinned (OpenSpec.ofChange fnUnmetExpectsSpec)

/-- ITS FALSE NEIGHBOUR: 'it returns false'. Refute it at one input. -/
def fnUnmetExpectsWrong : ChangeSpec := { name := "fnUnmetExpects", fn := fun _ => fun
  | [d] => { results := [.lit (.bool false)], args := [d] }
  | _ => none }
def FnUnmetExpectsWrongFalsely : Prop := fnUnmetExpectsRow.holds Try.pinned (OpenSpec.ofChange fnUnmetExpectsWrong)

/- THE SECOND FORM. 'bulk': how many values and letters a reading holds, each counted each time it is reached (what is shared counts as often as it is met; a slice's spare places count too). A statement '..UptoSaid' is the law's where the arguments, and the package variables that the reading takes, are together of bulk at most 1048576: NARROWER than '..Said'. Prove '..Said' where nothing that the law and all that it calls make is longer than what came in: it says more and counts as full. Else prove '..UptoSaid'. A law counts once. -/
mutual
def uptoBulk {H : Type} : DataW H → Nat
  | .lit (.string bytes) => bytes.length + 1
  | .lit _ => 1
  | .nil => 1
  | .ptr d => uptoBulk d + 1
  | .slice elems spare => uptoBulkAll elems + uptoBulkAll spare + 1
  | .agg parts => uptoBulkAll parts + 1
  | .iface _ d => uptoBulk d + 1
  | .map entries => uptoBulkEntries entries + 1
  | .held _ => 1
def uptoBulkAll {H : Type} : List (DataW H) → Nat
  | [] => 0
  | d :: r => uptoBulk d + uptoBulkAll r
def uptoBulkEntries {H : Type} : List (Lit × DataW H) → Nat
  | [] => 0
  | x :: r => uptoBulkEntry x + uptoBulkEntries r
def uptoBulkEntry {H : Type} : Lit × DataW H → Nat
  | (.string bytes, d) => bytes.length + uptoBulk d + 1
  | (_, d) => uptoBulk d + 1
 end
def uptoSmall : (H : Type) → List (DataW H) → Bool := fun _ ds => decide (uptoBulkAll ds ≤ 1048576)
def OpenSpec.upto (s : _root_.Go.ChangeSpec) : _root_.Go.OpenSpec := { _root_.Go.OpenSpec.ofChange s with cond := some uptoSmall }

/-- 'laws.FnValidCalls', WHERE WHAT IT READS IS OF BULK AT MOST 1048576: true; the input reads as it did. -/
def fnValidCallsUptoRow : OpenClaim := { program := "ytihmgjefndkfeaa", sum := "af4586a0ab62f125e0b1849e264d1d276b18705717e7ca37dd29356bf69da1fb", func := "loop.example/fixturehouse/laws.FnValidCalls", spec := "fnValidCalls", apart := false, narrowed := true }
def FnValidCallsUptoSaid : Prop := fnValidCallsUptoRow.holds Try.pinned (OpenSpec.upto fnValidCallsSpec)

/-- 'laws.FnValidDouble', WHERE WHAT IT READS IS OF BULK AT MOST 1048576: true; the input reads as it did. -/
def fnValidDoubleUptoRow : OpenClaim := { program := "ytihmgjefndkfeaa", sum := "af4586a0ab62f125e0b1849e264d1d276b18705717e7ca37dd29356bf69da1fb", func := "loop.example/fixturehouse/laws.FnValidDouble", spec := "fnValidDouble", apart := false, narrowed := true }
def FnValidDoubleUptoSaid : Prop := fnValidDoubleUptoRow.holds Try.pinned (OpenSpec.upto fnValidDoubleSpec)

/-- 'laws.FnCallsOf', WHERE WHAT IT READS IS OF BULK AT MOST 1048576: true; the input reads as it did. -/
def fnCallsOfUptoRow : OpenClaim := { program := "ytihmgjefndkfeaa", sum := "af4586a0ab62f125e0b1849e264d1d276b18705717e7ca37dd29356bf69da1fb", func := "loop.example/fixturehouse/laws.FnCallsOf", spec := "fnCallsOf", apart := false, narrowed := true }
def FnCallsOfUptoSaid : Prop := fnCallsOfUptoRow.holds Try.pinned (OpenSpec.upto fnCallsOfSpec)

/-- 'laws.FnAnyOrder', WHERE WHAT IT READS IS OF BULK AT MOST 1048576: true; the input reads as it did. -/
def fnAnyOrderUptoRow : OpenClaim := { program := "ytihmgjefndkfeaa", sum := "af4586a0ab62f125e0b1849e264d1d276b18705717e7ca37dd29356bf69da1fb", func := "loop.example/fixturehouse/laws.FnAnyOrder", spec := "fnAnyOrder", apart := false, narrowed := true }
def FnAnyOrderUptoSaid : Prop := fnAnyOrderUptoRow.holds Try.pinned (OpenSpec.upto fnAnyOrderSpec)

/-- 'laws.FnCountCall', WHERE WHAT IT READS IS OF BULK AT MOST 1048576: true; the input reads as it did. -/
def fnCountCallUptoRow : OpenClaim := { program := "ytihmgjefndkfeaa", sum := "af4586a0ab62f125e0b1849e264d1d276b18705717e7ca37dd29356bf69da1fb", func := "loop.example/fixturehouse/laws.FnCountCall", spec := "fnCountCall", apart := false, narrowed := true }
def FnCountCallUptoSaid : Prop := fnCountCallUptoRow.holds Try.pinned (OpenSpec.upto fnCountCallSpec)

/-- 'laws.FnInOrder', WHERE WHAT IT READS IS OF BULK AT MOST 1048576: true; the input reads as it did. -/
def fnInOrderUptoRow : OpenClaim := { program := "ytihmgjefndkfeaa", sum := "af4586a0ab62f125e0b1849e264d1d276b18705717e7ca37dd29356bf69da1fb", func := "loop.example/fixturehouse/laws.FnInOrder", spec := "fnInOrder", apart := false, narrowed := true }
def FnInOrderUptoSaid : Prop := fnInOrderUptoRow.holds Try.pinned (OpenSpec.upto fnInOrderSpec)

/-- 'laws.FnUnmetExpects', WHERE WHAT IT READS IS OF BULK AT MOST 1048576: true; the input reads as it did. -/
def fnUnmetExpectsUptoRow : OpenClaim := { program := "ytihmgjefndkfeaa", sum := "af4586a0ab62f125e0b1849e264d1d276b18705717e7ca37dd29356bf69da1fb", func := "loop.example/fixturehouse/laws.FnUnmetExpects", spec := "fnUnmetExpects", apart := false, narrowed := true }
def FnUnmetExpectsUptoSaid : Prop := fnUnmetExpectsUptoRow.holds Try.pinned (OpenSpec.upto fnUnmetExpectsSpec)

end Rows
end Go.Proofs.Ytihmgjefndkfeaa

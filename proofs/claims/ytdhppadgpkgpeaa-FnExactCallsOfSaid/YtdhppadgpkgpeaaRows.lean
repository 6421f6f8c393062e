/-
  No cell of these rows narrows 'for every input' (looked for: loops, veiled, ifaces, maps, wideKeys, modest, calm, conditions, laid).
  DERIVED. THE GIVEN ROWS OF THIS SEAT. 6 by the template 'for every input the law returns true; each argument reads behind the call as it read before'; 0 by the template 'total and deterministic' (their statements: YtdhppadgpkgpeaaTotals.lean).
  GIVEN WITH THE SEED: the statements are not yours to turn. If you find one false, say at which input.
  Laid BY PROGRAM, IN A SANDBOX (cutbox-rows.mjs): the forced cells as the released guide's own fill.sh prints them over the translation 30efab74da892818… (all of the seat's roots in one cut). By AI agents, Wed Nov 11 2026. No macro, syntax, notation, axiom, sorry.
-/
import Derived.Test.YtdhppadgpkgpeaaChecked
import GoSem.Claim
import GoSem.ClaimJoined
import GoSem.ClaimMapViews
import Derived.JoinedTies
import Derived.KernelRfl
namespace Go.Proofs.Ytdhppadgpkgpeaa
/- THE CELL 'sum', in the pinned program and in every row, IS THE sha256 OF THE DUMP (.gsa) THAT YtdhppadgpkgpeaaProg.lean LOADS. Nothing in Lean hashes anything: it is a label: what it is worth is what the hold of that sum in a sandbox is worth. -/
noncomputable def Try.pinned : Pinned := { name := "ytdhppadgpkgpeaa", sum := "30efab74da892818d7b57b3589dbf0f76c57dc1b8648e0d0d4bae795b6edc68c", checked := Try.checked }
namespace Rows
def none {H : Type} : Left H := { results := [], args := [] }

/-- 'laws.FnExactValidCalls': WHATEVER THE INPUT: true; the input reads as it did. -/
def fnExactValidCallsSpec : ChangeSpec := { name := "fnExactValidCalls", fn := fun _ => fun
  | [d] => { results := [.lit (.bool true)], args := [d] }
  | _ => none }
def fnExactValidCallsRow : OpenClaim := { program := "ytdhppadgpkgpeaa", sum := "30efab74da892818d7b57b3589dbf0f76c57dc1b8648e0d0d4bae795b6edc68c", func := "loop.example/fixturehouse/laws.FnExactValidCalls", spec := "fnExactValidCalls", apart := false }
def FnExactValidCallsSaid : Prop := fnExactValidCallsRow.holds Try.pinned (OpenSpec.ofChange fnExactValidCallsSpec)

/-- ITS FALSE NEIGHBOUR: 'it returns false'. Refute it at one input. -/
def fnExactValidCallsWrong : ChangeSpec := { name := "fnExactValidCalls", fn := fun _ => fun
  | [d] => { results := [.lit (.bool false)], args := [d] }
  | _ => none }
def FnExactValidCallsWrongFalsely : Prop := fnExactValidCallsRow.holds Try.pinned (OpenSpec.ofChange fnExactValidCallsWrong)

/-- 'laws.FnExactValidDouble': WHATEVER THE INPUT: true; the input reads as it did. -/
def fnExactValidDoubleSpec : ChangeSpec := { name := "fnExactValidDouble", fn := fun _ => fun
  | [d] => { results := [.lit (.bool true)], args := [d] }
  | _ => none }
def fnExactValidDoubleRow : OpenClaim := { program := "ytdhppadgpkgpeaa", sum := "30efab74da892818d7b57b3589dbf0f76c57dc1b8648e0d0d4bae795b6edc68c", func := "loop.example/fixturehouse/laws.FnExactValidDouble", spec := "fnExactValidDouble", apart := false }
def FnExactValidDoubleSaid : Prop := fnExactValidDoubleRow.holds Try.pinned (OpenSpec.ofChange fnExactValidDoubleSpec)

/-- ITS FALSE NEIGHBOUR: 'it returns false'. Refute it at one input. -/
def fnExactValidDoubleWrong : ChangeSpec := { name := "fnExactValidDouble", fn := fun _ => fun
  | [d] => { results := [.lit (.bool false)], args := [d] }
  | _ => none }
def FnExactValidDoubleWrongFalsely : Prop := fnExactValidDoubleRow.holds Try.pinned (OpenSpec.ofChange fnExactValidDoubleWrong)

/-- 'laws.FnExactCountCall': WHATEVER THE INPUT: true; the input reads as it did. -/
def fnExactCountCallSpec : ChangeSpec := { name := "fnExactCountCall", fn := fun _ => fun
  | [d1, d2] => { results := [.lit (.bool true)], args := [d1, d2] }
  | _ => none }
def fnExactCountCallRow : OpenClaim := { program := "ytdhppadgpkgpeaa", sum := "30efab74da892818d7b57b3589dbf0f76c57dc1b8648e0d0d4bae795b6edc68c", func := "loop.example/fixturehouse/laws.FnExactCountCall", spec := "fnExactCountCall", apart := false }
def FnExactCountCallSaid : Prop := fnExactCountCallRow.holds Try.pinned (OpenSpec.ofChange fnExactCountCallSpec)

/-- ITS FALSE NEIGHBOUR: 'it returns false'. Refute it at one input. -/
def fnExactCountCallWrong : ChangeSpec := { name := "fnExactCountCall", fn := fun _ => fun
  | [d1, d2] => { results := [.lit (.bool false)], args := [d1, d2] }
  | _ => none }
def FnExactCountCallWrongFalsely : Prop := fnExactCountCallRow.holds Try.pinned (OpenSpec.ofChange fnExactCountCallWrong)

/-- 'laws.FnExactInOrder': WHATEVER THE INPUT: true; the input reads as it did. -/
def fnExactInOrderSpec : ChangeSpec := { name := "fnExactInOrder", fn := fun _ => fun
  | [d1, d2] => { results := [.lit (.bool true)], args := [d1, d2] }
  | _ => none }
def fnExactInOrderRow : OpenClaim := { program := "ytdhppadgpkgpeaa", sum := "30efab74da892818d7b57b3589dbf0f76c57dc1b8648e0d0d4bae795b6edc68c", func := "loop.example/fixturehouse/laws.FnExactInOrder", spec := "fnExactInOrder", apart := false }
def FnExactInOrderSaid : Prop := fnExactInOrderRow.holds Try.pinned (OpenSpec.ofChange fnExactInOrderSpec)

/-- ITS FALSE NEIGHBOUR: 'it returns false'. Refute it at one input. -/
def fnExactInOrderWrong : ChangeSpec := { name := "fnExactInOrder", fn := fun _ => fun
  | [d1, d2] => { results := [.lit (.bool false)], args := [d1, d2] }
  | _ => none }
def FnExactInOrderWrongFalsely : Prop := fnExactInOrderRow.holds Try.pinned (OpenSpec.ofChange fnExactInOrderWrong)

/-- 'laws.FnExactAnyOrder': WHATEVER THE INPUT: true; the input reads as it did. -/
def fnExactAnyOrderSpec : ChangeSpec := { name := "fnExactAnyOrder", fn := fun _ => fun
  | [d1, d2] => { results := [.lit (.bool true)], args := [d1, d2] }
  | _ => none }
def fnExactAnyOrderRow : OpenClaim := { program := "ytdhppadgpkgpeaa", sum := "30efab74da892818d7b57b3589dbf0f76c57dc1b8648e0d0d4bae795b6edc68c", func := "loop.example/fixturehouse/laws.FnExactAnyOrder", spec := "fnExactAnyOrder", apart := false }
def FnExactAnyOrderSaid : Prop := fnExactAnyOrderRow.holds Try.pinned (OpenSpec.ofChange fnExactAnyOrderSpec)

/-- ITS FALSE NEIGHBOUR: 'it returns false'. Refute it at one input. -/
def fnExactAnyOrderWrong : ChangeSpec := { name := "fnExactAnyOrder", fn := fun _ => fun
  | [d1, d2] => { results := [.lit (.bool false)], args := [d1, d2] }
  | _ => none }
def FnExactAnyOrderWrongFalsely : Prop := fnExactAnyOrderRow.holds Try.pinned (OpenSpec.ofChange fnExactAnyOrderWrong)

/-- 'laws.FnExactCallsOf': WHATEVER THE INPUT: true; the input reads as it did. -/
def fnExactCallsOfSpec : ChangeSpec := { name := "fnExactCallsOf", fn := fun _ => fun
  | [d1, d2] => { results := [.lit (.bool true)], args := [d1, d2] }
  | _ => none }
def fnExactCallsOfRow : OpenClaim := { program := "ytdhppadgpkgpeaa", sum := "30efab74da892818d7b57b3589dbf0f76c57dc1b8648e0d0d4bae795b6edc68c", func := "loop.example/fixturehouse/laws.FnExactCallsOf", spec := "fnExactCallsOf", apart := false }
def FnExactCallsOfSaid : Prop := fnExactCallsOfRow.holds Try.pinned (OpenSpec.ofChange fnExactCallsOfSpec)

/-- ITS FALSE NEIGHBOUR: 'it returns false'. Refute it at one input. -/
def fnExactCallsOfWrong : ChangeSpec := { name := "fnExactCallsOf", fn := fun _ => fun
  | [d1, d2] => { results := [.lit (.bool false)], args := [d1, d2] }
  | _ => none }
def FnExactCallsOfWrongFalsely : Prop := fnExactCallsOfRow.holds Try.pinned (OpenSpec.ofChange fnExactCallsOfWrong)

/- THE SECOND FORM. 'bulk': how many values and letters a reading holds, each counted each time it is reached (what is shared counts as often as it is met; a slice's spare places count too). A statement '..UptoSaid' is the law's where the arguments, and the package variables that the reading takes, are together of bulk at most 1048576: NARROWER than '..Said'. Prove '..Said' where nothing that the law and all that it calls make is longer than what came in: it says more and counts as full. Else prove '..UptoSaid'. A law counts once. -/
mutual
def uptoBulk {H : Type} : DataW H → Nat
  | .lit (.string bytes) => bytes.length + 1
  | .lit _ => 1
  | .nil => 1
  | .ptr d => uptoBulk d + 1
  | .slice elems spare => uptoBulkAll elems + uptoBulkAll spare + 1
  | .agg parts => uptoBulkAll parts + 1
  | .iface _ d => uptoBulk d + 1
  | .map entries => uptoBulkEntries entries + 1
  | .held _ => 1
def uptoBulkAll {H : Type} : List (DataW H) → Nat
  | [] => 0
  | d :: r => uptoBulk d + uptoBulkAll r
def uptoBulkEntries {H : Type} : List (Lit × DataW H) → Nat
  | [] => 0
  | x :: r => uptoBulkEntry x + uptoBulkEntries r
def uptoBulkEntry {H : Type} : Lit × DataW H → Nat
  | (.string bytes, d) => bytes.length + uptoBulk d + 1
  | (_, d) => uptoBulk d + 1
 end
def uptoSmall : (H : Type) → List (DataW H) → Bool := fun _ ds => decide (uptoBulkAll ds ≤ 1048576)
def OpenSpec.upto (s : _root_.Go.ChangeSpec) : _root_.Go.OpenSpec := { _root_.Go.OpenSpec.ofChange s with cond := some uptoSmall }

/-- 'laws.FnExactValidCalls', WHERE WHAT IT READS IS OF BULK AT MOST 1048576: true; the input reads as it did. -/
def fnExactValidCallsUptoRow : OpenClaim := { program := "ytdhppadgpkgpeaa", sum := "30efab74da892818d7b57b3589dbf0f76c57dc1b8648e0d0d4bae795b6edc68c", func := "loop.example/fixturehouse/laws.FnExactValidCalls", spec := "fnExactValidCalls", apart := false, narrowed := true }
def FnExactValidCallsUptoSaid : Prop := fnExactValidCallsUptoRow.holds Try.pinned (OpenSpec.upto fnExactValidCallsSpec)

/-- 'laws.FnExactValidDouble', WHERE WHAT IT READS IS OF BULK AT MOST 1048576: true; the input reads as it did. -/
def fnExactValidDoubleUptoRow : OpenClaim := { program := "ytdhppadgpkgpeaa", sum := "30efab74da892818d7b57b3589dbf0f76c57dc1b8648e0d0d4bae795b6edc68c", func := "loop.example/fixturehouse/laws.FnExactValidDouble", spec := "fnExactValidDouble", apart := false, narrowed := true }
def FnExactValidDoubleUptoSaid : Prop := fnExactValidDoubleUptoRow.holds Try.pinned (OpenSpec.upto fnExactValidDoubleSpec)

/-- 'laws.FnExactCountCall', WHERE WHAT IT READS IS OF BULK AT MOST 1048576: true; the input reads as it did. -/
def fnExactCountCallUptoRow : OpenClaim := { program := "ytdhppadgpkgpeaa", sum := "30efab74da892818d7b57b3589dbf0f76c57dc1b8648e0d0d4bae795b6edc68c", func := "loop.example/fixturehouse/laws.FnExactCountCall", spec := "fnExactCountCall", apart := false, narrowed := true }
def FnExactCountCallUptoSaid : Prop := fnExactCountCallUptoRow.holds Try.pinned (OpenSpec.upto fnExactCountCallSpec)

/-- 'laws.FnExactInOrder', WHERE WHAT IT READS IS OF BULK AT MOST 1048576: true; the input reads as it did. -/
def fnExactInOrderUptoRow : OpenClaim := { program := "ytdhppadgpkgpeaa", sum := "30efab74da892818d7b57b3589dbf0f76c57dc1b8648e0d0d4bae795b6edc68c", func := "loop.example/fixturehouse/laws.FnExactInOrder", spec := "fnExactInOrder", apart := false, narrowed := true }
def FnExactInOrderUptoSaid : Prop := fnExactInOrderUptoRow.holds Try.pinned (OpenSpec.upto fnExactInOrderSpec)

/-- 'laws.FnExactAnyOrder', WHERE WHAT IT READS IS OF BULK AT MOST 1048576: true; the input reads as it did. -/
def fnExactAnyOrderUptoRow : OpenClaim := { program := "ytdhppadgpkgpeaa", sum := "30efab74da892818d7b57b3589dbf0f76c57dc1b8648e0d0d4bae795b6edc68c", func := "loop.example/fixturehouse/laws.FnExactAnyOrder", spec := "fnExactAnyOrder", apart := false, narrowed := true }
def FnExactAnyOrderUptoSaid : Prop := fnExactAnyOrderUptoRow.holds Try.pinned (OpenSpec.upto fnExactAnyOrderSpec)

/-- 'laws.FnExactCallsOf', WHERE WHAT IT READS IS OF BULK AT MOST 1048576: true; the input reads as it did. -/
def fnExactCallsOfUptoRow : OpenClaim := { program := "ytdhppadgpkgpeaa", sum := "30efab74da892818d7b57b3589dbf0f76c57dc1b8648e0d0d4bae795b6edc68c", func := "loop.example/fixturehouse/laws.FnExactCallsOf", spec := "fnExactCallsOf", apart := false, narrowed := true }
def FnExactCallsOfUptoSaid : Prop := fnExactCallsOfUptoRow.holds Try.pinned (OpenSpec.upto fnExactCallsOfSpec)

end Rows
end Go.Proofs.Ytdhppadgpkgpeaa

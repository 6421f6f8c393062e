/-
  No cell of these rows narrows 'for every input' (looked for: loops, veiled, ifaces, maps, wideKeys, modest, calm, conditions, laid).
  DERIVED. THE GIVEN ROWS OF THIS SEAT. 5 by the template 'for every input the law returns true; each argument reads behind the call as it read before'; 0 by the template 'total and deterministic' (their statements: YtgmmeijanhfigaaTotals.lean).
  GIVEN WITH THE SEED: the statements are not yours to turn. If you find one false, say at which input.
  Laid BY PROGRAM, IN A SANDBOX (cutbox-rows.mjs): the forced cells as the released guide's own fill.sh prints them over the translation 14be29965a711ba1… (all of the seat's roots in one cut). By AI agents, Wed Nov 11 2026. No macro, syntax, notation, axiom, sorry.
-/
import Derived.Test.YtgmmeijanhfigaaChecked
import GoSem.Claim
import GoSem.ClaimJoined
import GoSem.ClaimMapViews
import Derived.JoinedTies
import Derived.KernelRfl
namespace Go.Proofs.Ytgmmeijanhfigaa
/- THE CELL 'sum', in the pinned program and in every row, IS THE sha256 OF THE DUMP (.gsa) THAT YtgmmeijanhfigaaProg.lean LOADS. Nothing in Lean hashes anything: it is a label: what it is worth is what the hold of that sum in a sandbox is worth. -/
noncomputable def Try.pinned : Pinned := { name := "ytgmmeijanhfigaa", sum := "14be29965a711ba110891656619e0ca23310505e68b34455329b42e64863ad1c", checked := Try.checked }
namespace Rows
def none {H : Type} : Left H := { results := [], args := [] }

/-- 'laws.FnExactAtomsOf': WHATEVER THE INPUT: true; the input reads as it did. -/
def fnExactAtomsOfSpec : ChangeSpec := { name := "fnExactAtomsOf", fn := fun _ => fun
  | [d] => { results := [.lit (.bool true)], args := [d] }
  | _ => none }
def fnExactAtomsOfRow : OpenClaim := { program := "ytgmmeijanhfigaa", sum := "14be29965a711ba110891656619e0ca23310505e68b34455329b42e64863ad1c", func := "loop.example/fixturehouse/laws.FnExactAtomsOf", spec := "fnExactAtomsOf", unfollowed := true, recurses := true, apart := false }
def FnExactAtomsOfSaid : Prop := fnExactAtomsOfRow.holds Try.pinned (OpenSpec.ofChange fnExactAtomsOfSpec)

/-- ITS FALSE NEIGHBOUR: 'it returns false'. Refute it at one input. -/
def fnExactAtomsOfWrong : ChangeSpec := { name := "fnExactAtomsOf", fn := fun _ => fun
  | [d] => { results := [.lit (.bool false)], args := [d] }
  | _ => none }
def FnExactAtomsOfWrongFalsely : Prop := fnExactAtomsOfRow.holds Try.pinned (OpenSpec.ofChange fnExactAtomsOfWrong)

/-- 'laws.FnExactValidExpr': WHATEVER THE INPUT: true; the input reads as it did. -/
def fnExactValidExprSpec : ChangeSpec := { name := "fnExactValidExpr", fn := fun _ => fun
  | [d] => { results := [.lit (.bool true)], args := [d] }
  | _ => none }
def fnExactValidExprRow : OpenClaim := { program := "ytgmmeijanhfigaa", sum := "14be29965a711ba110891656619e0ca23310505e68b34455329b42e64863ad1c", func := "loop.example/fixturehouse/laws.FnExactValidExpr", spec := "fnExactValidExpr", unfollowed := true, recurses := true, apart := false }
def FnExactValidExprSaid : Prop := fnExactValidExprRow.holds Try.pinned (OpenSpec.ofChange fnExactValidExprSpec)

/-- ITS FALSE NEIGHBOUR: 'it returns false'. Refute it at one input. -/
def fnExactValidExprWrong : ChangeSpec := { name := "fnExactValidExpr", fn := fun _ => fun
  | [d] => { results := [.lit (.bool false)], args := [d] }
  | _ => none }
def FnExactValidExprWrongFalsely : Prop := fnExactValidExprRow.holds Try.pinned (OpenSpec.ofChange fnExactValidExprWrong)

/-- 'laws.FnExactAndExpr': WHATEVER THE INPUT: true; the input reads as it did. -/
def fnExactAndExprSpec : ChangeSpec := { name := "fnExactAndExpr", fn := fun _ => fun
  | [d1, d2] => { results := [.lit (.bool true)], args := [d1, d2] }
  | _ => none }
def fnExactAndExprRow : OpenClaim := { program := "ytgmmeijanhfigaa", sum := "14be29965a711ba110891656619e0ca23310505e68b34455329b42e64863ad1c", func := "loop.example/fixturehouse/laws.FnExactAndExpr", spec := "fnExactAndExpr", unfollowed := true, recurses := true, apart := false }
def FnExactAndExprSaid : Prop := fnExactAndExprRow.holds Try.pinned (OpenSpec.ofChange fnExactAndExprSpec)

/-- ITS FALSE NEIGHBOUR: 'it returns false'. Refute it at one input. -/
def fnExactAndExprWrong : ChangeSpec := { name := "fnExactAndExpr", fn := fun _ => fun
  | [d1, d2] => { results := [.lit (.bool false)], args := [d1, d2] }
  | _ => none }
def FnExactAndExprWrongFalsely : Prop := fnExactAndExprRow.holds Try.pinned (OpenSpec.ofChange fnExactAndExprWrong)

/-- 'laws.FnExactNotExpr': WHATEVER THE INPUT: true; the input reads as it did. -/
def fnExactNotExprSpec : ChangeSpec := { name := "fnExactNotExpr", fn := fun _ => fun
  | [d] => { results := [.lit (.bool true)], args := [d] }
  | _ => none }
def fnExactNotExprRow : OpenClaim := { program := "ytgmmeijanhfigaa", sum := "14be29965a711ba110891656619e0ca23310505e68b34455329b42e64863ad1c", func := "loop.example/fixturehouse/laws.FnExactNotExpr", spec := "fnExactNotExpr", unfollowed := true, recurses := true, apart := false }
def FnExactNotExprSaid : Prop := fnExactNotExprRow.holds Try.pinned (OpenSpec.ofChange fnExactNotExprSpec)

/-- ITS FALSE NEIGHBOUR: 'it returns false'. Refute it at one input. -/
def fnExactNotExprWrong : ChangeSpec := { name := "fnExactNotExpr", fn := fun _ => fun
  | [d] => { results := [.lit (.bool false)], args := [d] }
  | _ => none }
def FnExactNotExprWrongFalsely : Prop := fnExactNotExprRow.holds Try.pinned (OpenSpec.ofChange fnExactNotExprWrong)

/-- 'laws.FnExactOrExpr': WHATEVER THE INPUT: true; the input reads as it did. -/
def fnExactOrExprSpec : ChangeSpec := { name := "fnExactOrExpr", fn := fun _ => fun
  | [d1, d2] => { results := [.lit (.bool true)], args := [d1, d2] }
  | _ => none }
def fnExactOrExprRow : OpenClaim := { program := "ytgmmeijanhfigaa", sum := "14be29965a711ba110891656619e0ca23310505e68b34455329b42e64863ad1c", func := "loop.example/fixturehouse/laws.FnExactOrExpr", spec := "fnExactOrExpr", unfollowed := true, recurses := true, apart := false }
def FnExactOrExprSaid : Prop := fnExactOrExprRow.holds Try.pinned (OpenSpec.ofChange fnExactOrExprSpec)

/-- ITS FALSE NEIGHBOUR: 'it returns false'. Refute it at one input. -/
def fnExactOrExprWrong : ChangeSpec := { name := "fnExactOrExpr", fn := fun _ => fun
  | [d1, d2] => { results := [.lit (.bool false)], args := [d1, d2] }
  | _ => none }
def FnExactOrExprWrongFalsely : Prop := fnExactOrExprRow.holds Try.pinned (OpenSpec.ofChange fnExactOrExprWrong)

/- THE SECOND FORM. 'bulk': how many values and letters a reading holds, each counted each time it is reached (what is shared counts as often as it is met; a slice's spare places count too). A statement '..UptoSaid' is the law's where the arguments, and the package variables that the reading takes, are together of bulk at most 1048576: NARROWER than '..Said'. Prove '..Said' where nothing that the law and all that it calls make is longer than what came in: it says more and counts as full. Else prove '..UptoSaid'. A law counts once. -/
mutual
def uptoBulk {H : Type} : DataW H → Nat
  | .lit (.string bytes) => bytes.length + 1
  | .lit _ => 1
  | .nil => 1
  | .ptr d => uptoBulk d + 1
  | .slice elems spare => uptoBulkAll elems + uptoBulkAll spare + 1
  | .agg parts => uptoBulkAll parts + 1
  | .iface _ d => uptoBulk d + 1
  | .map entries => uptoBulkEntries entries + 1
  | .held _ => 1
def uptoBulkAll {H : Type} : List (DataW H) → Nat
  | [] => 0
  | d :: r => uptoBulk d + uptoBulkAll r
def uptoBulkEntries {H : Type} : List (Lit × DataW H) → Nat
  | [] => 0
  | x :: r => uptoBulkEntry x + uptoBulkEntries r
def uptoBulkEntry {H : Type} : Lit × DataW H → Nat
  | (.string bytes, d) => bytes.length + uptoBulk d + 1
  | (_, d) => uptoBulk d + 1
 end
def uptoSmall : (H : Type) → List (DataW H) → Bool := fun _ ds => decide (uptoBulkAll ds ≤ 1048576)
def OpenSpec.upto (s : _root_.Go.ChangeSpec) : _root_.Go.OpenSpec := { _root_.Go.OpenSpec.ofChange s with cond := some uptoSmall }

/-- 'laws.FnExactAtomsOf', WHERE WHAT IT READS IS OF BULK AT MOST 1048576: true; the input reads as it did. -/
def fnExactAtomsOfUptoRow : OpenClaim := { program := "ytgmmeijanhfigaa", sum := "14be29965a711ba110891656619e0ca23310505e68b34455329b42e64863ad1c", func := "loop.example/fixturehouse/laws.FnExactAtomsOf", spec := "fnExactAtomsOf", unfollowed := true, recurses := true, apart := false, narrowed := true }
def FnExactAtomsOfUptoSaid : Prop := fnExactAtomsOfUptoRow.holds Try.pinned (OpenSpec.upto fnExactAtomsOfSpec)

/-- 'laws.FnExactValidExpr', WHERE WHAT IT READS IS OF BULK AT MOST 1048576: true; the input reads as it did. -/
def fnExactValidExprUptoRow : OpenClaim := { program := "ytgmmeijanhfigaa", sum := "14be29965a711ba110891656619e0ca23310505e68b34455329b42e64863ad1c", func := "loop.example/fixturehouse/laws.FnExactValidExpr", spec := "fnExactValidExpr", unfollowed := true, recurses := true, apart := false, narrowed := true }
def FnExactValidExprUptoSaid : Prop := fnExactValidExprUptoRow.holds Try.pinned (OpenSpec.upto fnExactValidExprSpec)

/-- 'laws.FnExactAndExpr', WHERE WHAT IT READS IS OF BULK AT MOST 1048576: true; the input reads as it did. -/
def fnExactAndExprUptoRow : OpenClaim := { program := "ytgmmeijanhfigaa", sum := "14be29965a711ba110891656619e0ca23310505e68b34455329b42e64863ad1c", func := "loop.example/fixturehouse/laws.FnExactAndExpr", spec := "fnExactAndExpr", unfollowed := true, recurses := true, apart := false, narrowed := true }
def FnExactAndExprUptoSaid : Prop := fnExactAndExprUptoRow.holds Try.pinned (OpenSpec.upto fnExactAndExprSpec)

/-- 'laws.FnExactNotExpr', WHERE WHAT IT READS IS OF BULK AT MOST 1048576: true; the input reads as it did. -/
def fnExactNotExprUptoRow : OpenClaim := { program := "ytgmmeijanhfigaa", sum := "14be29965a711ba110891656619e0ca23310505e68b34455329b42e64863ad1c", func := "loop.example/fixturehouse/laws.FnExactNotExpr", spec := "fnExactNotExpr", unfollowed := true, recurses := true, apart := false, narrowed := true }
def FnExactNotExprUptoSaid : Prop := fnExactNotExprUptoRow.holds Try.pinned (OpenSpec.upto fnExactNotExprSpec)

/-- 'laws.FnExactOrExpr', WHERE WHAT IT READS IS OF BULK AT MOST 1048576: true; the input reads as it did. -/
def fnExactOrExprUptoRow : OpenClaim := { program := "ytgmmeijanhfigaa", sum := "14be29965a711ba110891656619e0ca23310505e68b34455329b42e64863ad1c", func := "loop.example/fixturehouse/laws.FnExactOrExpr", spec := "fnExactOrExpr", unfollowed := true, recurses := true, apart := false, narrowed := true }
def FnExactOrExprUptoSaid : Prop := fnExactOrExprUptoRow.holds Try.pinned (OpenSpec.upto fnExactOrExprSpec)

end Rows
end Go.Proofs.Ytgmmeijanhfigaa

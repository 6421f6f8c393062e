/-
  No cell of these rows narrows 'for every input' (looked for: loops, veiled, ifaces, maps, wideKeys, modest, calm, conditions, laid).
  DERIVED. THE GIVEN ROWS OF THIS SEAT. 6 by the template 'for every input the law returns true; each argument reads behind the call as it read before'; 0 by the template 'total and deterministic' (their statements: YtfflomiadjgbpaaTotals.lean).
  GIVEN WITH THE SEED: the statements are not yours to turn. If you find one false, say at which input.
  Laid BY PROGRAM, IN A SANDBOX (cutbox-rows.mjs): the forced cells as the released guide's own fill.sh prints them over the translation 90d611307af5d73c… (all of the seat's roots in one cut). By AI agents, Wed Nov 11 2026. No macro, syntax, notation, axiom, sorry.
-/
import Derived.Test.YtfflomiadjgbpaaChecked
import GoSem.Claim
import GoSem.ClaimJoined
import GoSem.ClaimMapViews
import Derived.JoinedTies
import Derived.KernelRfl
namespace Go.Proofs.Ytfflomiadjgbpaa
/- THE CELL 'sum', in the pinned program and in every row, IS THE sha256 OF THE DUMP (.gsa) THAT YtfflomiadjgbpaaProg.lean LOADS. Nothing in Lean hashes anything: it is a label: what it is worth is what the hold of that sum in a sandbox is worth. -/
noncomputable def Try.pinned : Pinned := { name := "ytfflomiadjgbpaa", sum := "90d611307af5d73c48ef7390e5d17fa6d894cd66fe42dcc3dc8bb6a76ed8aff7", checked := Try.checked }
namespace Rows
def none {H : Type} : Left H := { results := [], args := [] }

/-- 'laws.FnUndoPatch': WHATEVER THE INPUT: true; the input reads as it did. -/
def fnUndoPatchSpec : ChangeSpec := { name := "fnUndoPatch", fn := fun _ => fun
  | [d] => { results := [.lit (.bool true)], args := [d] }
  | _ => none }
def fnUndoPatchRow : OpenClaim := { program := "ytfflomiadjgbpaa", sum := "90d611307af5d73c48ef7390e5d17fa6d894cd66fe42dcc3dc8bb6a76ed8aff7", func := "loop.example/fixturehouse/laws.FnUndoPatch", spec := "fnUndoPatch", apart := false }
def FnUndoPatchSaid : Prop := fnUndoPatchRow.holds Try.pinned (OpenSpec.ofChange fnUndoPatchSpec)

/-- ITS FALSE NEIGHBOUR: 'it returns false'. Refute it at one input. -/
def fnUndoPatchWrong : ChangeSpec := { name := "fnUndoPatch", fn := fun _ => fun
  | [d] => { results := [.lit (.bool false)], args := [d] }
  | _ => none }
def FnUndoPatchWrongFalsely : Prop := fnUndoPatchRow.holds Try.pinned (OpenSpec.ofChange fnUndoPatchWrong)

/-- 'laws.FnReadPatched': WHATEVER THE INPUT: true; the input reads as it did. -/
def fnReadPatchedSpec : ChangeSpec := { name := "fnReadPatched", fn := fun _ => fun
  | [d] => { results := [.lit (.bool true)], args := [d] }
  | _ => none }
def fnReadPatchedRow : OpenClaim := { program := "ytfflomiadjgbpaa", sum := "90d611307af5d73c48ef7390e5d17fa6d894cd66fe42dcc3dc8bb6a76ed8aff7", func := "loop.example/fixturehouse/laws.FnReadPatched", spec := "fnReadPatched", apart := false }
def FnReadPatchedSaid : Prop := fnReadPatchedRow.holds Try.pinned (OpenSpec.ofChange fnReadPatchedSpec)

/-- ITS FALSE NEIGHBOUR: 'it returns false'. Refute it at one input. -/
def fnReadPatchedWrong : ChangeSpec := { name := "fnReadPatched", fn := fun _ => fun
  | [d] => { results := [.lit (.bool false)], args := [d] }
  | _ => none }
def FnReadPatchedWrongFalsely : Prop := fnReadPatchedRow.holds Try.pinned (OpenSpec.ofChange fnReadPatchedWrong)

/-- 'laws.FnApplyPatches': WHATEVER THE INPUT: true; the input reads as it did. -/
def fnApplyPatchesSpec : ChangeSpec := { name := "fnApplyPatches", fn := fun _ => fun
  | [d] => { results := [.lit (.bool true)], args := [d] }
  | _ => none }
def fnApplyPatchesRow : OpenClaim := { program := "ytfflomiadjgbpaa", sum := "90d611307af5d73c48ef7390e5d17fa6d894cd66fe42dcc3dc8bb6a76ed8aff7", func := "loop.example/fixturehouse/laws.FnApplyPatches", spec := "fnApplyPatches", apart := false }
def FnApplyPatchesSaid : Prop := fnApplyPatchesRow.holds Try.pinned (OpenSpec.ofChange fnApplyPatchesSpec)

/-- ITS FALSE NEIGHBOUR: 'it returns false'. Refute it at one input. -/
def fnApplyPatchesWrong : ChangeSpec := { name := "fnApplyPatches", fn := fun _ => fun
  | [d] => { results := [.lit (.bool false)], args := [d] }
  | _ => none }
def FnApplyPatchesWrongFalsely : Prop := fnApplyPatchesRow.holds Try.pinned (OpenSpec.ofChange fnApplyPatchesWrong)

/-- 'laws.FnExactUndoPatch': WHATEVER THE INPUT: true; the input reads as it did. -/
def fnExactUndoPatchSpec : ChangeSpec := { name := "fnExactUndoPatch", fn := fun _ => fun
  | [d] => { results := [.lit (.bool true)], args := [d] }
  | _ => none }
def fnExactUndoPatchRow : OpenClaim := { program := "ytfflomiadjgbpaa", sum := "90d611307af5d73c48ef7390e5d17fa6d894cd66fe42dcc3dc8bb6a76ed8aff7", func := "loop.example/fixturehouse/laws.FnExactUndoPatch", spec := "fnExactUndoPatch", apart := false }
def FnExactUndoPatchSaid : Prop := fnExactUndoPatchRow.holds Try.pinned (OpenSpec.ofChange fnExactUndoPatchSpec)

/-- ITS FALSE NEIGHBOUR: 'it returns false'. Refute it at one input. -/
def fnExactUndoPatchWrong : ChangeSpec := { name := "fnExactUndoPatch", fn := fun _ => fun
  | [d] => { results := [.lit (.bool false)], args := [d] }
  | _ => none }
def FnExactUndoPatchWrongFalsely : Prop := fnExactUndoPatchRow.holds Try.pinned (OpenSpec.ofChange fnExactUndoPatchWrong)

/-- 'laws.FnExactReadPatched': WHATEVER THE INPUT: true; the input reads as it did. -/
def fnExactReadPatchedSpec : ChangeSpec := { name := "fnExactReadPatched", fn := fun _ => fun
  | [d1, d2, d3] => { results := [.lit (.bool true)], args := [d1, d2, d3] }
  | _ => none }
def fnExactReadPatchedRow : OpenClaim := { program := "ytfflomiadjgbpaa", sum := "90d611307af5d73c48ef7390e5d17fa6d894cd66fe42dcc3dc8bb6a76ed8aff7", func := "loop.example/fixturehouse/laws.FnExactReadPatched", spec := "fnExactReadPatched", apart := false }
def FnExactReadPatchedSaid : Prop := fnExactReadPatchedRow.holds Try.pinned (OpenSpec.ofChange fnExactReadPatchedSpec)

/-- ITS FALSE NEIGHBOUR: 'it returns false'. Refute it at one input. -/
def fnExactReadPatchedWrong : ChangeSpec := { name := "fnExactReadPatched", fn := fun _ => fun
  | [d1, d2, d3] => { results := [.lit (.bool false)], args := [d1, d2, d3] }
  | _ => none }
def FnExactReadPatchedWrongFalsely : Prop := fnExactReadPatchedRow.holds Try.pinned (OpenSpec.ofChange fnExactReadPatchedWrong)

/-- 'laws.FnExactApplyPatches': WHATEVER THE INPUT: true; the input reads as it did. -/
def fnExactApplyPatchesSpec : ChangeSpec := { name := "fnExactApplyPatches", fn := fun _ => fun
  | [d1, d2] => { results := [.lit (.bool true)], args := [d1, d2] }
  | _ => none }
def fnExactApplyPatchesRow : OpenClaim := { program := "ytfflomiadjgbpaa", sum := "90d611307af5d73c48ef7390e5d17fa6d894cd66fe42dcc3dc8bb6a76ed8aff7", func := "loop.example/fixturehouse/laws.FnExactApplyPatches", spec := "fnExactApplyPatches", apart := false }
def FnExactApplyPatchesSaid : Prop := fnExactApplyPatchesRow.holds Try.pinned (OpenSpec.ofChange fnExactApplyPatchesSpec)

/-- ITS FALSE NEIGHBOUR: 'it returns false'. Refute it at one input. -/
def fnExactApplyPatchesWrong : ChangeSpec := { name := "fnExactApplyPatches", fn := fun _ => fun
  | [d1, d2] => { results := [.lit (.bool false)], args := [d1, d2] }
  | _ => none }
def FnExactApplyPatchesWrongFalsely : Prop := fnExactApplyPatchesRow.holds Try.pinned (OpenSpec.ofChange fnExactApplyPatchesWrong)

/- THE SECOND FORM. 'bulk': how many values and letters a reading holds, each counted each time it is reached (what is shared counts as often as it is met; a slice's spare places count too). A statement '..UptoSaid' is the law's where the arguments, and the package variables that the reading takes, are together of bulk at most 1048576: NARROWER than '..Said'. Prove '..Said' where nothing that the law and all that it calls make is longer than what came in: it says more and counts as full. Else prove '..UptoSaid'. A law counts once. -/
mutual
def uptoBulk {H : Type} : DataW H → Nat
  | .lit (.string bytes) => bytes.length + 1
  | .lit _ => 1
  | .nil => 1
  | .ptr d => uptoBulk d + 1
  | .slice elems spare => uptoBulkAll elems + uptoBulkAll spare + 1
  | .agg parts => uptoBulkAll parts + 1
  | .iface _ d => uptoBulk d + 1
  | .map entries => uptoBulkEntries entries + 1
  | .held _ => 1
def uptoBulkAll {H : Type} : List (DataW H) → Nat
  | [] => 0
  | d :: r => uptoBulk d + uptoBulkAll r
def uptoBulkEntries {H : Type} : List (Lit × DataW H) → Nat
  | [] => 0
  | x :: r => uptoBulkEntry x + uptoBulkEntries r
def uptoBulkEntry {H : Type} : Lit × DataW H → Nat
  | (.string bytes, d) => bytes.length + uptoBulk d + 1
  | (_, d) => uptoBulk d + 1
 end
def uptoSmall : (H : Type) → List (DataW H) → Bool := fun _ ds => decide (uptoBulkAll ds ≤ 1048576)
def OpenSpec.upto (s : _root_.Go.ChangeSpec) : _root_.Go.OpenSpec := { _root_.Go.OpenSpec.ofChange s with cond := some uptoSmall }

/-- 'laws.FnUndoPatch', WHERE WHAT IT READS IS OF BULK AT MOST 1048576: true; the input reads as it did. -/
def fnUndoPatchUptoRow : OpenClaim := { program := "ytfflomiadjgbpaa", sum := "90d611307af5d73c48ef7390e5d17fa6d894cd66fe42dcc3dc8bb6a76ed8aff7", func := "loop.example/fixturehouse/laws.FnUndoPatch", spec := "fnUndoPatch", apart := false, narrowed := true }
def FnUndoPatchUptoSaid : Prop := fnUndoPatchUptoRow.holds Try.pinned (OpenSpec.upto fnUndoPatchSpec)

/-- 'laws.FnReadPatched', WHERE WHAT IT READS IS OF BULK AT MOST 1048576: true; the input reads as it did. -/
def fnReadPatchedUptoRow : OpenClaim := { program := "ytfflomiadjgbpaa", sum := "90d611307af5d73c48ef7390e5d17fa6d894cd66fe42dcc3dc8bb6a76ed8aff7", func := "loop.example/fixturehouse/laws.FnReadPatched", spec := "fnReadPatched", apart := false, narrowed := true }
def FnReadPatchedUptoSaid : Prop := fnReadPatchedUptoRow.holds Try.pinned (OpenSpec.upto fnReadPatchedSpec)

/-- 'laws.FnApplyPatches', WHERE WHAT IT READS IS OF BULK AT MOST 1048576: true; the input reads as it did. -/
def fnApplyPatchesUptoRow : OpenClaim := { program := "ytfflomiadjgbpaa", sum := "90d611307af5d73c48ef7390e5d17fa6d894cd66fe42dcc3dc8bb6a76ed8aff7", func := "loop.example/fixturehouse/laws.FnApplyPatches", spec := "fnApplyPatches", apart := false, narrowed := true }
def FnApplyPatchesUptoSaid : Prop := fnApplyPatchesUptoRow.holds Try.pinned (OpenSpec.upto fnApplyPatchesSpec)

/-- 'laws.FnExactUndoPatch', WHERE WHAT IT READS IS OF BULK AT MOST 1048576: true; the input reads as it did. -/
def fnExactUndoPatchUptoRow : OpenClaim := { program := "ytfflomiadjgbpaa", sum := "90d611307af5d73c48ef7390e5d17fa6d894cd66fe42dcc3dc8bb6a76ed8aff7", func := "loop.example/fixturehouse/laws.FnExactUndoPatch", spec := "fnExactUndoPatch", apart := false, narrowed := true }
def FnExactUndoPatchUptoSaid : Prop := fnExactUndoPatchUptoRow.holds Try.pinned (OpenSpec.upto fnExactUndoPatchSpec)

/-- 'laws.FnExactReadPatched', WHERE WHAT IT READS IS OF BULK AT MOST 1048576: true; the input reads as it did. -/
def fnExactReadPatchedUptoRow : OpenClaim := { program := "ytfflomiadjgbpaa", sum := "90d611307af5d73c48ef7390e5d17fa6d894cd66fe42dcc3dc8bb6a76ed8aff7", func := "loop.example/fixturehouse/laws.FnExactReadPatched", spec := "fnExactReadPatched", apart := false, narrowed := true }
def FnExactReadPatchedUptoSaid : Prop := fnExactReadPatchedUptoRow.holds Try.pinned (OpenSpec.upto fnExactReadPatchedSpec)

/-- 'laws.FnExactApplyPatches', WHERE WHAT IT READS IS OF BULK AT MOST 1048576: true; the input reads as it did. -/
def fnExactApplyPatchesUptoRow : OpenClaim := { program := "ytfflomiadjgbpaa", sum := "90d611307af5d73c48ef7390e5d17fa6d894cd66fe42dcc3dc8bb6a76ed8aff7", func := "loop.example/fixturehouse/laws.FnExactApplyPatches", spec := "fnExactApplyPatches", apart := false, narrowed := true }
def FnExactApplyPatchesUptoSaid : Prop := fnExactApplyPatchesUptoRow.holds Try.pinned (OpenSpec.upto fnExactApplyPatchesSpec)

end Rows
end Go.Proofs.Ytfflomiadjgbpaa

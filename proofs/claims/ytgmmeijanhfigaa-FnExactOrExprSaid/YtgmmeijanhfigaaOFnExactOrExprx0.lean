-- Written by a program of this session (the kit's printing program with additions of this session's own); Lean checks it.
import Derived.Test.YtgmmeijanhfigaaProg
import Derived.Lib.SliceRun
import Derived.Below
import Derived.Deep.Draws
import Derived.Deep.AppendLies
import Derived.Maps.AppendAt
import Derived.OwnWalk
import Derived.Laws.BytesArg
import Derived.Laws.MakeOwn
import Derived.Laws.OwnMore
import Derived.Deep.OwnRows
import Derived.Tactics
import Derived.Lib.ConvBytes
import Derived.Laws.Slices
import Derived.WalkKit
import Derived.KernelRfl
import Derived.RowKit3
import Derived.Deep.LoopGhost
import Derived.Deep.QuietTactic
import Derived.BigQuiet
import Derived.WideLaws
import Derived.Deep.DeepCutAuto
import Derived.Deep.CutBlock
import Derived.Deep.RegionHeld3
import Derived.Laws.Rows
import Derived.Lib.AppendStr
import Derived.ArgAppend
import Derived.Laws.IdiomCopy
import Derived.OrdersHeld
import Derived.Laws.BitsLemmas
import Derived.RowKit
import Derived.Test.YtgmmeijanhfigaaWWords
import Derived.Test.YtgmmeijanhfigaaWLast
import Derived.Test.YtgmmeijanhfigaaWTab
import Derived.Test.YtgmmeijanhfigaaWFour
import Derived.Test.YtgmmeijanhfigaaWQPut
import Derived.Test.YtgmmeijanhfigaaWApart
import Derived.Test.YtgmmeijanhfigaaWArr
import Derived.Test.YtgmmeijanhfigaaWZeros
import Derived.Test.YtgmmeijanhfigaaWFoot
import Derived.Test.YtgmmeijanhfigaaWKept
import Derived.Test.YtgmmeijanhfigaaWShare
import Derived.Test.YtgmmeijanhfigaaWN
import Derived.Test.YtgmmeijanhfigaaWFootNe
import Derived.Test.YtgmmeijanhfigaaWAt
import Derived.Test.YtgmmeijanhfigaaWEqStruct
import Derived.Test.YtgmmeijanhfigaaWRepsOne
import Derived.Test.YtgmmeijanhfigaaWInv
import Derived.Test.YtgmmeijanhfigaaWInvWords
import Derived.Test.YtgmmeijanhfigaaWGuard
import Derived.Test.YtgmmeijanhfigaaWNEv
import Derived.Test.YtgmmeijanhfigaaWMore
namespace Go.Proofs.Ytgmmeijanhfigaa.OFnExactOrExpr
open Go.RowKit Go.Proofs.YtgmmeijanhfigaaW.PrintWords Go.Proofs.YtgmmeijanhfigaaW.PrintLast Go.Proofs.YtgmmeijanhfigaaW.PrintMore
attribute [local go_sem] max2_int min2_int max_two min_two max_three min_three max_four min_four   -- for this text's walks alone
set_option linter.unusedVariables false
set_option linter.unusedSimpArgs false



def errW : Option Int → Value
  | none => .nilIface
  | some c => .iface 0 (.int .i64 c)
theorem errW_none : errW none = .nilIface := rfl
theorem errW_some (c : Int) : errW (some c) = .iface 0 (.int .i64 c) := rfl

-- the values' own types

class Gives (P Q : Prop) : Prop where
  out : P → Q
instance gives_self (P : Prop) : Gives P P := ⟨fun h => h⟩
instance (priority := 900) gives_left (A B Q : Prop) [h : Gives A Q] : Gives (A ∧ B) Q := ⟨fun k => h.out k.1⟩
instance (priority := 900) gives_right (A B Q : Prop) [h : Gives B Q] : Gives (A ∧ B) Q := ⟨fun k => h.out k.2⟩
instance (priority := 800) gives_and (P A B : Prop) [h : Gives P A] [k : Gives P B] : Gives P (A ∧ B) := ⟨fun x => ⟨h.out x, k.out x⟩⟩
instance (priority := 700) gives_drewN (P : Prop) (k n : Nat) (w : World) [h : Gives P (k < w.heap.size)] : Gives P (k < (w.drewN n).heap.size) := ⟨fun x => h.out x⟩
instance (priority := 700) gives_drew (P : Prop) (k : Nat) (w : World) [h : Gives P (k < w.heap.size)] : Gives P (k < w.drew.heap.size) := ⟨fun x => h.out x⟩
theorem gives {P Q : Prop} [g : Gives P Q] (h : P) : Q := g.out h
theorem refute {P E : Prop} [g : Gives P (¬ E)] (h : P) (e : E) : False := g.out h e
end Go.Proofs.Ytgmmeijanhfigaa.OFnExactOrExpr

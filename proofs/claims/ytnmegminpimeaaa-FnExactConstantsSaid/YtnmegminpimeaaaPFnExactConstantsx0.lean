-- PRINTED BY print.sh 35421559b90ae4d0a3588c463048766b98c2df88dd9212a6774a882060cdf62d: not written by this session
import Derived.Test.YtnmegminpimeaaaProg
import Derived.Below
import Derived.Deep.Draws
import Derived.Deep.AppendLies
import Derived.Maps.AppendAt
import Derived.OwnWalk
import Derived.Laws.BytesArg
import Derived.Laws.MakeOwn
import Derived.Laws.OwnMore
import Derived.Deep.OwnRows
import Derived.Tactics
import Derived.Lib.ConvBytes
import Derived.Laws.Slices
import Derived.WalkKit
import Derived.KernelRfl
import Derived.RowKit3
import Derived.Deep.LoopGhost
import Derived.Deep.QuietTactic
import Derived.BigQuiet
import Derived.WideLaws
import Derived.Deep.DeepCutAuto
import Derived.Deep.CutBlock
import Derived.Deep.RegionHeld3
import Derived.Laws.Rows
import Derived.Lib.AppendStr
import Derived.ArgAppend
import Derived.Laws.IdiomCopy
import Derived.OrdersHeld
import Derived.Laws.BitsLemmas
import Derived.RowKit
import Derived.Test.YtnmegminpimeaaaWWords
import Derived.Test.YtnmegminpimeaaaWLast
import Derived.Test.YtnmegminpimeaaaWTab
import Derived.Test.YtnmegminpimeaaaWFour
import Derived.Test.YtnmegminpimeaaaWQPut
import Derived.Test.YtnmegminpimeaaaWApart
import Derived.Test.YtnmegminpimeaaaWArr
import Derived.Test.YtnmegminpimeaaaWZeros
import Derived.Test.YtnmegminpimeaaaWFoot
import Derived.Test.YtnmegminpimeaaaWKept
import Derived.Test.YtnmegminpimeaaaWShare
import Derived.Test.YtnmegminpimeaaaWN
import Derived.Test.YtnmegminpimeaaaWFootNe
import Derived.Test.YtnmegminpimeaaaWAt
import Derived.Test.YtnmegminpimeaaaWEqStruct
import Derived.Test.YtnmegminpimeaaaWRepsOne
import Derived.Test.YtnmegminpimeaaaWInv
import Derived.Test.YtnmegminpimeaaaWInvWords
import Derived.Test.YtnmegminpimeaaaWGuard
import Derived.Test.YtnmegminpimeaaaWNEv
import Derived.Test.YtnmegminpimeaaaWMore
namespace Go.Proofs.Ytnmegminpimeaaa.PFnExactConstants
open Go.RowKit Go.Proofs.YtnmegminpimeaaaW.PrintWords Go.Proofs.YtnmegminpimeaaaW.PrintLast Go.Proofs.YtnmegminpimeaaaW.PrintMore
attribute [local go_sem] max2_int min2_int max_two min_two max_three min_three max_four min_four   -- for this text's walks alone
set_option linter.unusedVariables false
set_option linter.unusedSimpArgs false



def errW : Option Int → Value
  | none => .nilIface
  | some c => .iface 0 (.int .i64 c)
theorem errW_none : errW none = .nilIface := rfl
theorem errW_some (c : Int) : errW (some c) = .iface 0 (.int .i64 c) := rfl

-- the values' own types

end Go.Proofs.Ytnmegminpimeaaa.PFnExactConstants

-- Written by a program of this session (the kit's printing program with additions of this session's own); Lean checks it.
import Derived.Test.YtboppbejnadpmaaProg
import Derived.Below
import Derived.Deep.Draws
import Derived.Deep.AppendLies
import Derived.Maps.AppendAt
import Derived.OwnWalk
import Derived.Laws.BytesArg
import Derived.Laws.MakeOwn
import Derived.Laws.OwnMore
import Derived.Deep.OwnRows
import Derived.Tactics
import Derived.Lib.ConvBytes
import Derived.Laws.Slices
import Derived.WalkKit
import Derived.KernelRfl
import Derived.RowKit3
import Derived.Deep.LoopGhost
import Derived.Deep.QuietTactic
import Derived.BigQuiet
import Derived.WideLaws
import Derived.Deep.DeepCutAuto
import Derived.Deep.CutBlock
import Derived.Deep.RegionHeld3
import Derived.Laws.Rows
import Derived.Lib.AppendStr
import Derived.ArgAppend
import Derived.Laws.IdiomCopy
import Derived.OrdersHeld
import Derived.Laws.BitsLemmas
import Derived.RowKit
import Derived.Test.YtboppbejnadpmaaWWords
import Derived.Test.YtboppbejnadpmaaWLast
import Derived.Test.YtboppbejnadpmaaWTab
import Derived.Test.YtboppbejnadpmaaWFour
import Derived.Test.YtboppbejnadpmaaWQPut
import Derived.Test.YtboppbejnadpmaaWApart
import Derived.Test.YtboppbejnadpmaaWArr
import Derived.Test.YtboppbejnadpmaaWZeros
import Derived.Test.YtboppbejnadpmaaWFoot
import Derived.Test.YtboppbejnadpmaaWKept
import Derived.Test.YtboppbejnadpmaaWShare
import Derived.Test.YtboppbejnadpmaaWN
import Derived.Test.YtboppbejnadpmaaWFootNe
import Derived.Test.YtboppbejnadpmaaWAt
import Derived.Test.YtboppbejnadpmaaWEqStruct
import Derived.Test.YtboppbejnadpmaaWRepsOne
import Derived.Test.YtboppbejnadpmaaWInv
import Derived.Test.YtboppbejnadpmaaWInvWords
import Derived.Test.YtboppbejnadpmaaWGuard
import Derived.Test.YtboppbejnadpmaaWNEv
import Derived.Test.YtboppbejnadpmaaWMore
namespace Go.Proofs.Ytboppbejnadpmaa.OFnExactTestId
open Go.RowKit Go.Proofs.YtboppbejnadpmaaW.PrintWords Go.Proofs.YtboppbejnadpmaaW.PrintLast Go.Proofs.YtboppbejnadpmaaW.PrintMore
attribute [local go_sem] max2_int min2_int max_two min_two max_three min_three max_four min_four   -- for this text's walks alone
set_option linter.unusedVariables false
set_option linter.unusedSimpArgs false



def errW : Option Int → Value
  | none => .nilIface
  | some c => .iface 0 (.int .i64 c)
theorem errW_none : errW none = .nilIface := rfl
theorem errW_some (c : Int) : errW (some c) = .iface 0 (.int .i64 c) := rfl

theorem info9 : (Try.prog.info? 9).map (fun i => (i.zero, i.size, i.bytes)) = some (some (.string ⟨#[]⟩), 1, 16) := by kernel_rfl
-- the values' own types

class Gives (P Q : Prop) : Prop where
  out : P → Q
instance gives_self (P : Prop) : Gives P P := ⟨fun h => h⟩
instance (priority := 900) gives_left (A B Q : Prop) [h : Gives A Q] : Gives (A ∧ B) Q := ⟨fun k => h.out k.1⟩
instance (priority := 900) gives_right (A B Q : Prop) [h : Gives B Q] : Gives (A ∧ B) Q := ⟨fun k => h.out k.2⟩
instance (priority := 800) gives_and (P A B : Prop) [h : Gives P A] [k : Gives P B] : Gives P (A ∧ B) := ⟨fun x => ⟨h.out x, k.out x⟩⟩
theorem gives {P Q : Prop} [g : Gives P Q] (h : P) : Q := g.out h
theorem refute {P E : Prop} [g : Gives P (¬ E)] (h : P) (e : E) : False := g.out h e
theorem bytes_total : ∀ a b : List UInt8, (Op.bytesLess a b || a == b) = !(Op.bytesLess b a)
  | [], [] => by simp [Op.bytesLess]
  | [], b :: y => by simp [Op.bytesLess]
  | a :: x, [] => by simp [Op.bytesLess]
  | a :: x, b :: y => by
    have ih := bytes_total x y
    rcases Nat.lt_trichotomy a.toNat b.toNat with h | h | h
    · have h1 : a < b := UInt8.lt_iff_toNat_lt.2 h
      have h2 : ¬ b < a := fun g => by have := UInt8.lt_iff_toNat_lt.1 g; omega
      have h3 : ¬ b = a := fun g => by rw [g] at h; omega
      simp [Op.bytesLess, h1, h2, h3]
    · have h1 : a = b := UInt8.toNat_inj.1 h
      subst h1
      have h2 : ¬ a < a := fun g => by have := UInt8.lt_iff_toNat_lt.1 g; omega
      simpa [Op.bytesLess, h2] using ih
    · have h1 : b < a := UInt8.lt_iff_toNat_lt.2 h
      have h2 : ¬ a < b := fun g => by have := UInt8.lt_iff_toNat_lt.1 g; omega
      have h3 : ¬ a = b := fun g => by rw [g] at h; omega
      simp [Op.bytesLess, h1, h2, h3]
theorem leq_text (t : TypeId) (a b : ByteArray) : binOp .leq t (.string a) (.string b) = pure (.bool (!(Op.bytesLess b.toList a.toList))) := by
  rw [← bytes_total]; simp [binOp, Op.stringOp, asBool]
end Go.Proofs.Ytboppbejnadpmaa.OFnExactTestId

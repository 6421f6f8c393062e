-- Written by a program of this session (the kit's printing program with additions of this session's own); Lean checks it.
import Derived.Test.YtfpoihcpjmkbkaaProg
import Derived.Lib.SliceRun
import Derived.Below
import Derived.Deep.Draws
import Derived.Deep.AppendLies
import Derived.Maps.AppendAt
import Derived.OwnWalk
import Derived.Laws.BytesArg
import Derived.Laws.MakeOwn
import Derived.Laws.OwnMore
import Derived.Deep.OwnRows
import Derived.Tactics
import Derived.Lib.ConvBytes
import Derived.Laws.Slices
import Derived.WalkKit
import Derived.KernelRfl
import Derived.RowKit3
import Derived.Deep.LoopGhost
import Derived.Deep.QuietTactic
import Derived.BigQuiet
import Derived.WideLaws
import Derived.Deep.DeepCutAuto
import Derived.Deep.CutBlock
import Derived.Deep.RegionHeld3
import Derived.Laws.Rows
import Derived.Lib.AppendStr
import Derived.ArgAppend
import Derived.Laws.IdiomCopy
import Derived.OrdersHeld
import Derived.Laws.BitsLemmas
import Derived.RowKit
import Derived.Test.YtfpoihcpjmkbkaaWWords
import Derived.Test.YtfpoihcpjmkbkaaWLast
import Derived.Test.YtfpoihcpjmkbkaaWTab
import Derived.Test.YtfpoihcpjmkbkaaMergeWords
import Derived.Test.YtfpoihcpjmkbkaaWRepsOne
namespace Go.Proofs.Ytfpoihcpjmkbkaa.OFnExactMergeReports
open Go.RowKit Go.Proofs.YtfpoihcpjmkbkaaW.PrintWords Go.Proofs.YtfpoihcpjmkbkaaW.PrintLast Go.Proofs.YtfpoihcpjmkbkaaW.PrintMore
attribute [local go_sem] max2_int min2_int max_two min_two max_three min_three max_four min_four   -- for this text's walks alone
set_option linter.unusedVariables false
set_option linter.unusedSimpArgs false



def errW : Option Int → Value
  | none => .nilIface
  | some c => .iface 0 (.int .i64 c)
theorem errW_none : errW none = .nilIface := rfl
theorem errW_some (c : Int) : errW (some c) = .iface 0 (.int .i64 c) := rfl

theorem info5 : (Try.prog.info? 5).map (fun i => (i.zero, i.size, i.bytes)) = some (some (.int .u8 0), 1, 1) := by kernel_rfl
theorem info9 : (Try.prog.info? 9).map (fun i => (i.zero, i.size, i.bytes)) = some (some (.string ⟨#[]⟩), 1, 16) := by kernel_rfl
theorem info37 : (Try.prog.info? 37).map (fun i => (i.zero, i.size, i.bytes)) = some (some (.agg #[(.string ⟨#[]⟩), (.int .i64 0)]), 2, 24) := by kernel_rfl
-- the values' own types
/-! #### struct type 37 -/
structure S37 where
  f0 : ByteArray
  f1 : Int
def z37 : S37 := ⟨(⟨#[]⟩ : ByteArray), (0 : Int)⟩
def k37 : Kd S37 := Kd.iso (Kd.pair Kd.string (Kd.int .i64)) (fun x : S37 => (x.f0, x.f1))
theorem k37_open {w : World} {x : S37} {cs : List Value} (h : k37.K w x cs) : cs = [.string x.f0, .int .i64 x.f1] := by
  obtain ⟨_, _, rfl, rfl, rfl⟩ := h
  exact rfl
theorem k37_openM {w : World} {base : Nat} {ok : Nat → Prop} {x : S37} {cs : List Value} (h : k37.M w base ok x cs) : cs = [.string x.f0, .int .i64 x.f1] := by
  obtain ⟨_, _, rfl, rfl, rfl⟩ := h
  exact rfl
theorem k37_mk (w : World) (x : S37)  : k37.K w x [.string x.f0, .int .i64 x.f1] := ⟨[.string x.f0], [.int .i64 x.f1], rfl, rfl, rfl⟩
theorem k37_mkM (w : World) (base : Nat) (ok : Nat → Prop) (x : S37)  : k37.M w base ok x [.string x.f0, .int .i64 x.f1] := ⟨[.string x.f0], [.int .i64 x.f1], rfl, rfl, rfl⟩
def rd_T37 (xs : List S37) (i : Int) : S37 := xs.getD i.toNat z37
theorem at_T37 {w : World} {A : Option Addr} {n : Nat} {xs : List S37} (h : Kd.C k37 w A n xs) (i : Int) (h0 : 0 ≤ i) (h1 : i < n) : ∃ ad , A = some ad ∧ w.cell? (ad.add (i.toNat * 2)) = some (.string (rd_T37 xs i).f0) ∧ w.cell? ⟨(ad.add (i.toNat * 2)).block, (ad.add (i.toNat * 2)).off + 1, none⟩ = some (.int .i64 (rd_T37 xs i).f1) := by
  obtain ⟨ad, c, e, _, hK, hc0⟩ := Kd.C_get h z37 i h0 h1
  have hc : ∀ j u, c[j]? = some u → w.cell? (ad.add (i.toNat * 2 + j)) = some u := hc0
  obtain rfl := k37_open hK
  exact ⟨ad, e, hc 0 _ rfl, by rw [← add_field _ _ 1 (by omega)]; exact hc 1 _ rfl⟩

/-! #### struct type 80 -/
structure S80 where
  f0 : ByteArray
  f1 : Int
def z80 : S80 := ⟨(⟨#[]⟩ : ByteArray), (0 : Int)⟩
def k80 : Kd S80 := Kd.iso (Kd.pair Kd.string (Kd.int .i64)) (fun x : S80 => (x.f0, x.f1))
theorem k80_open {w : World} {x : S80} {cs : List Value} (h : k80.K w x cs) : cs = [.string x.f0, .int .i64 x.f1] := by
  obtain ⟨_, _, rfl, rfl, rfl⟩ := h
  exact rfl
theorem k80_openM {w : World} {base : Nat} {ok : Nat → Prop} {x : S80} {cs : List Value} (h : k80.M w base ok x cs) : cs = [.string x.f0, .int .i64 x.f1] := by
  obtain ⟨_, _, rfl, rfl, rfl⟩ := h
  exact rfl
theorem k80_mk (w : World) (x : S80)  : k80.K w x [.string x.f0, .int .i64 x.f1] := ⟨[.string x.f0], [.int .i64 x.f1], rfl, rfl, rfl⟩
theorem k80_mkM (w : World) (base : Nat) (ok : Nat → Prop) (x : S80)  : k80.M w base ok x [.string x.f0, .int .i64 x.f1] := ⟨[.string x.f0], [.int .i64 x.f1], rfl, rfl, rfl⟩
def rd_T80 (xs : List S80) (i : Int) : S80 := xs.getD i.toNat z80
theorem at_T80 {w : World} {A : Option Addr} {n : Nat} {xs : List S80} (h : Kd.C k80 w A n xs) (i : Int) (h0 : 0 ≤ i) (h1 : i < n) : ∃ ad , A = some ad ∧ w.cell? (ad.add (i.toNat * 2)) = some (.string (rd_T80 xs i).f0) ∧ w.cell? ⟨(ad.add (i.toNat * 2)).block, (ad.add (i.toNat * 2)).off + 1, none⟩ = some (.int .i64 (rd_T80 xs i).f1) := by
  obtain ⟨ad, c, e, _, hK, hc0⟩ := Kd.C_get h z80 i h0 h1
  have hc : ∀ j u, c[j]? = some u → w.cell? (ad.add (i.toNat * 2 + j)) = some u := hc0
  obtain rfl := k80_open hK
  exact ⟨ad, e, hc 0 _ rfl, by rw [← add_field _ _ 1 (by omega)]; exact hc 1 _ rfl⟩

class Gives (P Q : Prop) : Prop where
  out : P → Q
instance gives_self (P : Prop) : Gives P P := ⟨fun h => h⟩
instance (priority := 900) gives_left (A B Q : Prop) [h : Gives A Q] : Gives (A ∧ B) Q := ⟨fun k => h.out k.1⟩
instance (priority := 900) gives_right (A B Q : Prop) [h : Gives B Q] : Gives (A ∧ B) Q := ⟨fun k => h.out k.2⟩
instance (priority := 800) gives_and (P A B : Prop) [h : Gives P A] [k : Gives P B] : Gives P (A ∧ B) := ⟨fun x => ⟨h.out x, k.out x⟩⟩
instance (priority := 700) gives_drewN (P : Prop) (k n : Nat) (w : World) [h : Gives P (k < w.heap.size)] : Gives P (k < (w.drewN n).heap.size) := ⟨fun x => h.out x⟩
instance (priority := 700) gives_drew (P : Prop) (k : Nat) (w : World) [h : Gives P (k < w.heap.size)] : Gives P (k < w.drew.heap.size) := ⟨fun x => h.out x⟩
theorem gives {P Q : Prop} [g : Gives P Q] (h : P) : Q := g.out h
theorem refute {P E : Prop} [g : Gives P (¬ E)] (h : P) (e : E) : False := g.out h e
class WStep (w w1 : World) : Prop where
  out : Below w.heap.size w w1
instance wstep_refl (w : World) : WStep w w := ⟨Below.refl _ _⟩
instance wstep_alloc (w w1 : World) (o : Obj) [h : WStep w w1] : WStep w (w1.alloc o) := ⟨below_alloc h.out o⟩
instance wstep_drewN (w w1 : World) (n : Nat) [h : WStep w w1] : WStep w (w1.drewN n) := ⟨pw_below_drewN h.out n⟩
instance wstep_drew (w w1 : World) [h : WStep w w1] : WStep w w1.drew := ⟨below_drew1 h.out⟩
theorem rTo {α : Type} {d : Kd α} {e base : Nat} {ok : Nat → Prop} {w w1 : World} {v : Value} {xs : List α} (h : d.R e w base ok v xs) [s : WStep w w1] : d.R e w1 base ok v xs := Kd.R_below h s.out
theorem bTo {w w1 : World} {g : Nat} {o : Obj} (h : w.heap[g]? = some o) [s : WStep w w1] : w1.heap[g]? = some o := blk_below h s.out
theorem ak {p : Prop} (h : p) : Aside0 p := Aside0.mk h
end Go.Proofs.Ytfpoihcpjmkbkaa.OFnExactMergeReports

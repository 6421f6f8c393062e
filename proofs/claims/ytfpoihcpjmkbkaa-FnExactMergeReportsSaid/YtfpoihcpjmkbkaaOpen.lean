/- What a value of a type reads as, opened into the print's kinds (Kd): whole numbers, strings, bools, slices, structs. No conditions. -/
import Derived.Test.YtfpoihcpjmkbkaaWWords
import Derived.Deep.Slices
import Derived.ChangeArms
import Derived.DataReads
import Derived.WideShapes
namespace Go.Proofs.Ytfpoihcpjmkbkaa.Open
open Go.RowKit Go.Proofs.YtfpoihcpjmkbkaaW.PrintWords Go.ChangeShapes Go.WideShapes Go.Deep

/-- Whatever reads as data at type t is of kind k, and Q of it. -/
def Opens (P : Program) (t : TypeId) {α : Type} (k : Kd α) (Q : α → Prop) : Prop :=
  ∀ (H : Type) (enc : TypeId × Value → H) (w : World) (base : Nat) (spare : Nat → Bool) (held : Bool) (fuel : Nat) (cs : List Value) (x : DataW H × List MemPlace),
    DataW.trod enc P w base spare held fuel t cs = some x → ∃ v, k.K w v cs ∧ Q v

section
variable {P : Program} {t : TypeId}
theorem Opens.weaken {α : Type} {k : Kd α} {Q R : α → Prop} (h : Opens P t k Q) (hr : ∀ x, Q x → R x) : Opens P t k R := by
  intro H enc w base spare held fuel cs x hx
  obtain ⟨v, h1, h2⟩ := h H enc w base spare held fuel cs x hx
  exact ⟨v, h1, hr v h2⟩
theorem opens_int {k : IntKind} (hu : P.underlying t = some (.int k)) : Opens P t (Kd.int k) (fun n => (Lit.int k n).wf = true) := by
  intro H enc w base spare held fuel cs x h
  obtain ⟨n, rfl, _, hw⟩ := DataW.trod_int hu h
  exact ⟨n, rfl, hw⟩
theorem opens_bool (hu : P.underlying t = some .bool) : Opens P t Kd.bool (fun _ => True) := by
  intro H enc w base spare held fuel cs x h
  obtain ⟨b, rfl, _⟩ := DataW.trod_bool hu h
  exact ⟨b, rfl, trivial⟩
theorem opens_string (hu : P.underlying t = some .string) : Opens P t Kd.string (fun s => s.size ≤ 9223372036854775807) := by
  intro H enc w base spare held fuel cs x h
  obtain ⟨s, rfl, _, hs⟩ := DataW.trod_string hu h
  exact ⟨s, rfl, hs⟩
theorem list_of {α : Type} (p : Nat → α → Prop) (n : Nat) (h : ∀ i, i < n → ∃ v, p i v) : ∃ xs : List α, xs.length = n ∧ ∀ i v, xs[i]? = some v → p i v := by
  induction n with
  | zero => exact ⟨[], rfl, fun i v hv => by simp at hv⟩
  | succ n ih =>
    obtain ⟨xs, hl, hx⟩ := ih (fun i hi => h i (by omega))
    obtain ⟨v, hv⟩ := h n (by omega)
    refine ⟨xs ++ [v], by simp [hl], fun i u hu => ?_⟩
    by_cases hi : i < xs.length
    · rw [List.getElem?_append_left hi] at hu
      exact hx i u hu
    · rw [List.getElem?_append_right (by omega)] at hu
      have hi' : i - xs.length = 0 := by
        have := (List.getElem?_eq_some_iff.1 hu).1
        simp at this
        omega
      rw [hi'] at hu
      simp at hu
      subst hu
      have : i = n := by omega
      subst this
      exact hv
theorem opens_slice {e : TypeId} {α : Type} {d : Kd α} {Q : α → Prop} (e' : Nat) (hu : P.underlying t = some (.slice e)) (hsz : P.cellsOf e = d.sz) (h : Opens P e d Q) :
    Opens P t (Kd.slice e' d) (fun xs => xs.length ≤ 9223372036854775807 ∧ ∀ x ∈ xs, Q x) := by
  intro H enc w base spare held fuel cs x hx
  rcases open_slice hu hx with ⟨rfl, _⟩ | ⟨a, len, cap, m, n, D, Pl, rfl, hb, hl, hm, hmm, _, hi⟩
  · exact ⟨[], ⟨none, 0, rfl, Nat.le_refl _, Kd.C_nil d w⟩, by simp, fun x hx => by cases hx⟩
  · have hlm : len ≤ m := by rw [hmm]; split <;> omega
    obtain ⟨xs, hxl, hxs⟩ := list_of (fun i v => ∃ c, c.length = d.sz ∧ d.K w v c ∧ Q v ∧ ∀ j u, c[j]? = some u → w.cell? (a.add (i * d.sz + j)) = some u) len (fun i hil => by
      obtain ⟨cs', h1, h2⟩ := hi i (by omega)
      obtain ⟨v, hK, hQ⟩ := h H enc w base spare held n cs' _ h2
      obtain ⟨_, hcl, hat⟩ := World.cells?_some h1
      rw [hsz] at hcl hat
      refine ⟨v, cs', hcl, hK, hQ, fun j u hj => ?_⟩
      have hjl : j < d.sz := by rw [← hcl]; exact (List.getElem?_eq_some_iff.1 hj).1
      rw [← Go.Deep.add_add, hat j hjl, hj])
    subst hxl
    have hmax : xs.length ≤ 9223372036854775807 := Nat.le_trans hl hm
    refine ⟨xs, ⟨some a, cap, rfl, hl, rfl, hmax, fun _ => ⟨a, rfl, fun j p hj => ?_⟩⟩, hmax, fun x hx => ?_⟩
    · obtain ⟨c, h1, h2, _, h3⟩ := hxs j p hj
      exact ⟨c, h1, h2, h3⟩
    · obtain ⟨j, hj, rfl⟩ := List.mem_iff_getElem.1 hx
      obtain ⟨c, _, _, hq, _⟩ := hxs j _ (List.getElem?_eq_getElem hj)
      exact hq
/-- The fields of a struct from an offset on. -/
def OpensAt (P : Program) (fs : List Field) (off : Nat) {α : Type} (k : Kd α) (Q : α → Prop) : Prop :=
  ∀ (H : Type) (enc : TypeId × Value → H) (w : World) (base : Nat) (spare : Nat → Bool) (held : Bool) (fuel : Nat) (cs : List Value),
    (∀ f ∈ fs, ∃ y, DataW.trod enc P w base spare held fuel f.type ((cs.drop f.offset).take (P.cellsOf f.type)) = some y) → cs.length = off + k.sz → ∃ v, k.K w v (cs.drop off) ∧ Q v
theorem opensAt_one {f : Field} {off : Nat} {α : Type} {k : Kd α} {Q : α → Prop} (ho : f.offset = off) (hc : P.cellsOf f.type = k.sz) (h : Opens P f.type k Q) : OpensAt P [f] off k Q := by
  intro H enc w base spare held fuel cs hf hl
  obtain ⟨y, hy⟩ := hf f (by simp)
  rw [ho, hc, List.take_of_length_le (by simp; omega)] at hy
  exact h H enc w base spare held fuel _ y hy
theorem opensAt_cons {f : Field} {fs : List Field} {off : Nat} {α β : Type} {a : Kd α} {b : Kd β} {Q : α → Prop} {R : β → Prop} (ho : f.offset = off) (hc : P.cellsOf f.type = a.sz) (h : Opens P f.type a Q) (hr : OpensAt P fs (off + a.sz) b R) :
    OpensAt P (f :: fs) off (Kd.pair a b) (fun x => Q x.1 ∧ R x.2) := by
  intro H enc w base spare held fuel cs hf hl
  have hl' : cs.length = off + (a.sz + b.sz) := hl
  obtain ⟨y, hy⟩ := hf f (by simp)
  rw [ho, hc] at hy
  obtain ⟨v, hv, hq⟩ := h H enc w base spare held fuel _ y hy
  obtain ⟨u, hu, hq'⟩ := hr H enc w base spare held fuel cs (fun g hg => hf g (List.mem_cons_of_mem _ hg)) (by omega)
  refine ⟨(v, u), ⟨_, _, ?_, hv, hu⟩, hq, hq'⟩
  rw [← List.drop_drop, List.take_append_drop]
theorem opens_struct {fs : Array Field} {l : List Field} {α : Type} {k : Kd α} {Q : α → Prop} (hu : P.underlying t = some (.struct fs)) (hl : fs.toList = l) (hc : P.cellsOf t = k.sz) (h : OpensAt P l 0 k Q) : Opens P t k Q := by
  intro H enc w base spare held fuel cs x hx
  obtain ⟨xs, n, _, _, hlen, hxl, hg⟩ := DataW.trod_struct hu hx
  have := h H enc w base spare held n cs (fun f hf => ?_) (by rw [hlen, hc, Nat.zero_add])
  · simpa using this
  · subst hl
    obtain ⟨i, hi, rfl⟩ := List.mem_iff_getElem.1 hf
    have hi' : i < fs.size := by simpa using hi
    refine ⟨xs[i]'(by omega), ?_⟩
    rw [hg i _ (by simp [Array.getElem?_eq_getElem hi']), List.getElem?_eq_getElem (by omega)]
theorem opens_iso {α β : Type} {d : Kd α} {Q : α → Prop} (f : β → α) (g : α → β) (hfg : ∀ a, f (g a) = a) (h : Opens P t d Q) : Opens P t (Kd.iso d f) (fun y => Q (f y)) := by
  intro H enc w base spare held fuel cs x hx
  obtain ⟨v, hK, hQ⟩ := h H enc w base spare held fuel cs x hx
  refine ⟨g v, ?_, by show Q (f (g v)); rw [hfg]; exact hQ⟩
  show d.K w (f (g v)) cs
  rw [hfg]
  exact hK
/-- A slice, as an argument. -/
theorem arg_slice {e : TypeId} {α : Type} {d : Kd α} {Q : α → Prop} {H : Type} {enc : TypeId × Value → H} {w : World} {base : Nat} {spare : Nat → Bool} {held : Bool} {a : Option Addr} {len cap : Nat} {dd : DataW H} {ps : List MemPlace}
    (hu : P.underlying t = some (.slice e)) (hsz : P.cellsOf e = d.sz) (h : Opens P e d Q) (hx : DataW.Trod enc P w base spare held t (.slice a len cap) dd ps) :
    ∃ xs : List α, xs.length = len ∧ xs.length ≤ cap ∧ Kd.C d w a xs.length xs ∧ xs.length ≤ 9223372036854775807 ∧ ∀ x ∈ xs, Q x := by
  obtain ⟨fuel, hf⟩ := hx
  obtain ⟨xs, ⟨A, c, he, hl, hC⟩, hq⟩ := opens_slice 0 hu hsz h H enc w base spare held fuel _ _ hf
  have he' : [Value.slice a len cap] = [.slice A xs.length c] := he
  simp at he'
  obtain ⟨rfl, rfl, rfl⟩ := he'
  exact ⟨xs, rfl, hl, hC, hq⟩
/-- Anything, as an argument, by its cells. -/
theorem arg_any {α : Type} {d : Kd α} {Q : α → Prop} {H : Type} {enc : TypeId × Value → H} {w : World} {base : Nat} {spare : Nat → Bool} {held : Bool} {v : Value} {dd : DataW H} {ps : List MemPlace}
    (h : Opens P t d Q) (hx : DataW.Trod enc P w base spare held t v dd ps) : ∃ x : α, d.K w x v.cells.toList ∧ Q x := by
  obtain ⟨fuel, hf⟩ := hx
  exact h H enc w base spare held fuel _ _ hf
end
end Go.Proofs.Ytfpoihcpjmkbkaa.Open

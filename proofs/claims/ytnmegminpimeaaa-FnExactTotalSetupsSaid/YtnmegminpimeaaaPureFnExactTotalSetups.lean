/- FnExactTotalSetups answers true for all events: the program's TotalSetups returns what the reference's returns. Conditions: those of the printed statement alone (bounds on sizes that every input meets). -/
import Derived.Test.YtnmegminpimeaaaPFnExactTotalSetupsx2
import Derived.Test.YtnmegminpimeaaaBase
namespace Go.Proofs.Ytnmegminpimeaaa.Pure
open Go.RowKit Go.Proofs.Ytnmegminpimeaaa.PFnExactTotalSetups Go.Proofs.YtnmegminpimeaaaW.PrintWords Go.Proofs.YtnmegminpimeaaaW.PrintLast Go.Proofs.YtnmegminpimeaaaW.PrintMore Go.Proofs.Ytnmegminpimeaaa.Base
set_option linter.unusedVariables false
set_option linter.unusedSimpArgs false
namespace QFnExactTotalSetups
def Q60 (x : S60) : Prop := ((Lit.int .i64 x.f0).wf = true) ∧ (x.f1.size ≤ 9223372036854775807)
def cEvent (x : S60) : S61 := ⟨x.f0, x.f1⟩
theorem laws_szEvent.ok (x : S60) (h : Q60 x) (left : Int) (h0 : 0 ≤ left) (h1 : left ≤ 1048576) : EvP (fun _ => laws_szEvent.f x.f0 x.f1 left) (fun r => r < 0 ∨ (0 ≤ r ∧ r ≤ left)) := by
  unfold laws_szEvent.f
  have := h.2
  rw [wrap_id (by omega) (by omega)]
  exact EvP.ite (fun _ => EvP.now (.inl (by omega))) (fun _ => EvP.now (.inr (by omega)))
theorem laws_szEventS.ok (l : List S60) (hl : l.length ≤ 9223372036854775807) (hq : ∀ x ∈ l, Q60 x) (left : Int) (h0 : 0 ≤ left) (h1 : left ≤ 1048576) :
    EvP (fun k => laws_szEventS.f k l left) (fun r => r < 0 ∨ (0 ≤ r ∧ r + l.length ≤ left)) := by
  unfold laws_szEventS.f
  rw [wrap_id (by omega) (by omega)]
  refine EvP.ite (fun _ => EvP.now (.inl (by omega))) (fun hn => ?_)
  refine EvP.range (L := fun k s i => laws_szEventS.l0 k l s i) (xs := l) (Inv := fun _ s => 0 ≤ s ∧ s + l.length ≤ left) ?_ ?_ _ ⟨by omega, by omega⟩
  · rintro pre x rest s hx ⟨a0, a1⟩ ih
    have hlt := len_at hx
    have hr : rd_T60 l (pre.length : Int) = x := getD_at hx _
    simp only [laws_szEventS.l0, hr, wrap_at hx (by omega)]
    refine EvP.pos hlt (EvP.pos (nat_nonneg _) ?_)
    refine EvP.bind (laws_szEvent.ok x (hq x (by rw [hx]; simp)) s a0 (by omega)) ?_
    rintro r (g | ⟨g0, g1⟩)
    · exact EvP.pos g (EvP.now (.inl (by omega)))
    · exact EvP.neg (by omega) (ih r ⟨g0, by omega⟩)
  · rintro s ⟨a0, a1⟩
    simp only [laws_szEventS.l0]
    exact EvP.neg (by omega) (EvP.now (.inr ⟨a0, a1⟩))
theorem laws_toEvent.ok (x : S60) : EvP (fun _ => laws_toEvent.f x.f0 x.f1) (fun r => (⟨r.1, r.2⟩ : S61) = cEvent x) := by
  unfold laws_toEvent.f
  exact EvP.now rfl
theorem laws_toEventS.ok (l : List S60) (hl : (l.length : Int) ≤ 1048576) : EvP (fun k => laws_toEventS.f k l) (· = l.map cEvent) := by
  unfold laws_toEventS.f
  refine EvP.pos (by omega) (EvP.pos (by omega) ?_)
  rw [Int.toNat_natCast]
  refine EvP.fill (L := fun k s i => laws_toEventS.l0 k l s i) (xs := l) cEvent _ ?_ ?_
  · intro pre x rest s hx hs ih
    have hlt := len_at hx
    have hr : rd_T60 l (pre.length : Int) = x := getD_at hx _
    simp only [laws_toEventS.l0, hr, wrap_at hx (by omega)]
    refine EvP.pos hlt (EvP.pos (nat_nonneg _) ?_)
    refine EvP.bind (laws_toEvent.ok x) ?_
    intro r g
    rw [g]
    exact EvP.pos (by omega) ih
  · intro s
    simp only [laws_toEventS.l0]
    exact EvP.neg (by omega) (EvP.now rfl)
theorem laws_eqEventS.ok (l : List S61) (hl : (l.length : Int) ≤ 9223372036854775807) : EvP (fun k => laws_eqEventS.f k l l) (· = true) := by
  unfold laws_eqEventS.f
  refine EvP.pos rfl ?_
  refine EvP.range (L := fun k (_ : Unit) i => laws_eqEventS.l0 k l l i) (xs := l) (Inv := fun _ _ => True) ?_ ?_ () trivial
  · rintro pre x rest s hx _ ih
    have hlt := len_at hx
    have hr : rd_T61 l (pre.length : Int) = x := getD_at hx _
    simp only [laws_eqEventS.l0, hr, wrap_at hx hl]
    refine EvP.pos hlt (EvP.pos (nat_nonneg _) (EvP.pos hlt ?_))
    refine EvP.bind (P := (· = true)) ?_ ?_
    · unfold laws_eqEvent.f
      exact EvP.pos rfl (EvP.pos rfl (EvP.now rfl))
    · rintro _ rfl
      exact EvP.pos rfl (ih () trivial)
  · rintro s _
    simp only [laws_eqEventS.l0]
    exact EvP.neg (by omega) (EvP.now rfl)
/-- How many of the events bring a fixture of a name up; how many bring any up. -/
def upN (l : List S61) (p : S61 → Bool) : Nat := l.countP p
theorem upN_le (l : List S61) (p : S61 → Bool) : upN l p ≤ l.length := List.countP_le_length
theorem upN_snoc (l : List S61) (x : S61) (p : S61 → Bool) : upN (l ++ [x]) p = upN l p + if p x = true then 1 else 0 := by
  simp [upN, List.countP_append, List.countP_cons]
def isUp (id : ByteArray) (x : S61) : Bool := decide (x.f0 = 0) && decide (x.f1.toList = id.toList)
def isUpAny (x : S61) : Bool := decide (x.f0 = 0)
theorem impl_TotalSetups.ok (l : List S61) (h : (l.length : Int) ≤ 9223372036854775807) : EvP (fun k => impl_TotalSetups.f k l) (· = (upN l isUpAny : Int)) := by
  unfold impl_TotalSetups.f
  refine EvP.range (L := fun k s i => impl_TotalSetups.l0 k s l (l.length : Int) i) (xs := l) (Inv := fun pre s => s = (upN pre isUpAny : Int)) ?_ ?_ 0 rfl
  · rintro pre x rest s hx rfl ih
    have hl := len_at hx
    have hc := upN_le pre isUpAny
    have hr : rd_T61 l (pre.length : Int) = x := getD_at hx _
    simp only [impl_TotalSetups.l0, hr, wrap_at hx h]
    refine EvP.pos hl (EvP.pos (nat_nonneg _) (EvP.pos hl ?_))
    refine EvP.ite (fun e => ?_) (fun e => ?_)
    · rw [wrap_id (by omega) (by omega)]
      exact ih _ (by rw [upN_snoc, if_pos (by simp [isUpAny, e])]; rfl)
    · exact ih _ (by rw [upN_snoc, if_neg (by simp [isUpAny, e])]; rfl)
  · rintro s rfl
    simp only [impl_TotalSetups.l0]
    exact EvP.neg (by omega) (EvP.now rfl)
theorem spec_TotalSetups.ok (l : List S61) (h : (l.length : Int) ≤ 9223372036854775807) : EvP (fun k => spec_TotalSetups.f k l) (· = (upN l isUpAny : Int)) := by
  unfold spec_TotalSetups.f
  refine EvP.range (L := fun k s i => spec_TotalSetups.l0 k l s i) (xs := l) (Inv := fun pre s => s = (upN pre isUpAny : Int)) ?_ ?_ 0 rfl
  · rintro pre x rest s hx rfl ih
    have hl := len_at hx
    have hc := upN_le pre isUpAny
    have hr : rd_T61 l (pre.length : Int) = x := getD_at hx _
    simp only [spec_TotalSetups.l0, hr, wrap_at hx h]
    refine EvP.pos hl (EvP.pos (nat_nonneg _) ?_)
    refine EvP.ite (fun e => ?_) (fun e => ?_)
    · rw [wrap_id (by omega) (by omega)]
      exact ih _ (by rw [upN_snoc, if_pos (by simp [isUpAny, e])]; rfl)
    · exact ih _ (by rw [upN_snoc, if_neg (by simp [isUpAny, e])]; rfl)
  · rintro s rfl
    simp only [spec_TotalSetups.l0]
    exact EvP.neg (by omega) (EvP.now rfl)
theorem main (l0 : List S60) (hl : l0.length ≤ 9223372036854775807) (hq : ∀ x ∈ l0, Q60 x) : ∃ k, laws_FnExactTotalSetups.f k l0 = some true := by
  refine EvP.rounds ?_
  unfold laws_FnExactTotalSetups.f
  refine EvP.bind (laws_szEventS.ok l0 hl hq _ (by omega) (by omega)) ?_
  rintro r (g | ⟨g0, g1⟩)
  · exact EvP.pos g (EvP.now rfl)
  refine EvP.neg (by omega) ?_
  have hn : (l0.length : Int) ≤ 1048576 := by omega
  have hm : ((l0.map cEvent).length : Int) ≤ 1048576 := by simpa using hn
  refine EvP.bind (laws_toEventS.ok l0 hn) ?_
  rintro _ rfl
  refine EvP.bind (spec_TotalSetups.ok _ (by omega)) ?_
  rintro _ rfl
  refine EvP.bind (laws_toEventS.ok l0 hn) ?_
  rintro _ rfl
  refine EvP.bind (impl_TotalSetups.ok _ (by omega)) ?_
  rintro _ rfl
  refine EvP.pos rfl ?_
  refine EvP.bind (laws_toEventS.ok l0 hn) ?_
  rintro _ rfl
  refine EvP.bind (laws_eqEventS.ok _ (by omega)) ?_
  rintro _ rfl
  exact EvP.pos rfl (EvP.now rfl)
end QFnExactTotalSetups
end Go.Proofs.Ytnmegminpimeaaa.Pure

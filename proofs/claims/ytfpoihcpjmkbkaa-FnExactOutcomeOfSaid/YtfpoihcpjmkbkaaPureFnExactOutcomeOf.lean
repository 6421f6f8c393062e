/- FnExactOutcomeOf answers true for all arguments: the program's OutcomeOf returns what the reference's returns, and leaves its argument as it is. Conditions: those of the printed statement alone (bounds on sizes that every input meets). -/
import Derived.Test.YtfpoihcpjmkbkaaPFnExactOutcomeOfx3
import Derived.Test.YtfpoihcpjmkbkaaBase
namespace Go.Proofs.Ytfpoihcpjmkbkaa.Pure
open Go.RowKit Go.Proofs.Ytfpoihcpjmkbkaa.PFnExactOutcomeOf Go.Proofs.YtfpoihcpjmkbkaaW.PrintWords Go.Proofs.YtfpoihcpjmkbkaaW.PrintLast Go.Proofs.YtfpoihcpjmkbkaaW.PrintMore Go.Proofs.Ytfpoihcpjmkbkaa.Base
set_option linter.unusedVariables false
set_option linter.unusedSimpArgs false
namespace QFnExactOutcomeOf
def Q80 (x : S80) : Prop := (x.f0.size ≤ 9223372036854775807) ∧ ((Lit.int .i64 x.f1).wf = true)
def cResult (x : S80) : S37 := ⟨x.f0, x.f1⟩
theorem laws_szResult.ok (x : S80) (h : Q80 x) (left : Int) (h0 : 0 ≤ left) (h1 : left ≤ 1048576) : EvP (fun _ => laws_szResult.f x.f0 x.f1 left) (fun r => r < 0 ∨ (0 ≤ r ∧ r ≤ left)) := by
  unfold laws_szResult.f
  have := h.1
  rw [wrap_id (by omega) (by omega)]
  exact EvP.ite (fun _ => EvP.now (.inl (by omega))) (fun _ => EvP.now (.inr (by omega)))
theorem laws_szResultS.ok (l : List S80) (hl : l.length ≤ 9223372036854775807) (hq : ∀ x ∈ l, Q80 x) (left : Int) (h0 : 0 ≤ left) (h1 : left ≤ 1048576) :
    EvP (fun k => laws_szResultS.f k l left) (fun r => r < 0 ∨ (0 ≤ r ∧ r + l.length ≤ left)) := by
  unfold laws_szResultS.f
  rw [wrap_id (by omega) (by omega)]
  refine EvP.ite (fun _ => EvP.now (.inl (by omega))) (fun hn => ?_)
  refine EvP.range (L := fun k s i => laws_szResultS.l0 k l s i) (xs := l) (Inv := fun _ s => 0 ≤ s ∧ s + l.length ≤ left) ?_ ?_ _ ⟨by omega, by omega⟩
  · rintro pre x rest s hx ⟨a0, a1⟩ ih
    have hlt := len_at hx
    have hr : rd_T80 l (pre.length : Int) = x := getD_at hx _
    simp only [laws_szResultS.l0, hr, wrap_at hx (by omega)]
    refine EvP.pos hlt (EvP.pos (nat_nonneg _) ?_)
    refine EvP.bind (laws_szResult.ok x (hq x (by rw [hx]; simp)) s a0 (by omega)) ?_
    rintro r (g | ⟨g0, g1⟩)
    · exact EvP.pos g (EvP.now (.inl (by omega)))
    · exact EvP.neg (by omega) (ih r ⟨g0, by omega⟩)
  · rintro s ⟨a0, a1⟩
    simp only [laws_szResultS.l0]
    exact EvP.neg (by omega) (EvP.now (.inr ⟨a0, a1⟩))
theorem laws_szStringS.ok (l : List ByteArray) (hl : l.length ≤ 9223372036854775807) (hq : ∀ x ∈ l, x.size ≤ 9223372036854775807) (left : Int) (h0 : 0 ≤ left) (h1 : left ≤ 1048576) :
    EvP (fun k => laws_szStringS.f k l left) (fun r => r < 0 ∨ (0 ≤ r ∧ r + l.length ≤ left)) := by
  unfold laws_szStringS.f
  rw [wrap_id (by omega) (by omega)]
  refine EvP.ite (fun _ => EvP.now (.inl (by omega))) (fun hn => ?_)
  refine EvP.range (L := fun k s i => laws_szStringS.l0 k l s i) (xs := l) (Inv := fun _ s => 0 ≤ s ∧ s + l.length ≤ left) ?_ ?_ _ ⟨by omega, by omega⟩
  · rintro pre x rest s hx ⟨a0, a1⟩ ih
    have hlt := len_at hx
    have hr : rdOf ByteArray.empty l (pre.length : Int) = x := getD_at hx _
    have hxs := hq x (by rw [hx]; simp)
    simp only [laws_szStringS.l0, hr, wrap_at hx (by omega), wrap_id (x := s - (x.size : Int)) (by omega) (by omega)]
    refine EvP.pos hlt (EvP.pos (nat_nonneg _) ?_)
    exact EvP.ite (fun _ => EvP.now (.inl (by omega))) (fun hs => ih _ ⟨by omega, by omega⟩)
  · rintro s ⟨a0, a1⟩
    simp only [laws_szStringS.l0]
    exact EvP.neg (by omega) (EvP.now (.inr ⟨a0, a1⟩))
theorem laws_szReport.ok (rs : List S80) (ds : List ByteArray) (hq : (rs.length ≤ 9223372036854775807 ∧ ∀ y ∈ rs, Q80 y) ∧ (ds.length ≤ 9223372036854775807 ∧ ∀ y ∈ ds, y.size ≤ 9223372036854775807)) (left : Int) (h0 : 0 ≤ left) (h1 : left ≤ 1048576) :
    EvP (fun k => laws_szReport.f k rs ds left) (fun r => r < 0 ∨ (0 ≤ r ∧ r + rs.length + ds.length ≤ left)) := by
  unfold laws_szReport.f
  refine EvP.bind (laws_szResultS.ok rs hq.1.1 hq.1.2 left h0 h1) ?_
  rintro r (g | ⟨g0, g1⟩)
  · exact EvP.pos g (EvP.now (.inl (by omega)))
  refine EvP.neg (by omega) ?_
  refine EvP.bind (laws_szStringS.ok ds hq.2.1 hq.2.2 r g0 (by omega)) ?_
  rintro u (k | ⟨k0, k1⟩)
  · exact EvP.pos k (EvP.now (.inl (by omega)))
  exact EvP.neg (by omega) (EvP.now (.inr ⟨k0, by omega⟩))
theorem laws_toResult.ok (x : S80) : EvP (fun _ => laws_toResult.f x.f0 x.f1) (fun r => (⟨r.1, r.2⟩ : S37) = cResult x) := by
  unfold laws_toResult.f
  exact EvP.now rfl
theorem laws_toResultS.ok (l : List S80) (hl : (l.length : Int) ≤ 1048576) : EvP (fun k => laws_toResultS.f k l) (· = l.map cResult) := by
  unfold laws_toResultS.f
  refine EvP.pos (by omega) (EvP.pos (by omega) ?_)
  rw [Int.toNat_natCast]
  refine EvP.fill (L := fun k s i => laws_toResultS.l0 k l s i) (xs := l) cResult _ ?_ ?_
  · intro pre x rest s hx hs ih
    have hlt := len_at hx
    have hr : rd_T80 l (pre.length : Int) = x := getD_at hx _
    simp only [laws_toResultS.l0, hr, wrap_at hx (by omega)]
    refine EvP.pos hlt (EvP.pos (nat_nonneg _) ?_)
    refine EvP.bind (laws_toResult.ok x) ?_
    intro r g
    rw [g]
    exact EvP.pos (by omega) ih
  · intro s
    simp only [laws_toResultS.l0]
    exact EvP.neg (by omega) (EvP.now rfl)
theorem laws_toStringS.ok (l : List ByteArray) (hl : (l.length : Int) ≤ 1048576) : EvP (fun k => laws_toStringS.f k l) (· = l) := by
  have main : EvP (fun k => laws_toStringS.f k l) (· = l.map id) := by
    unfold laws_toStringS.f
    refine EvP.pos (by omega) (EvP.pos (by omega) ?_)
    rw [Int.toNat_natCast]
    refine EvP.fill (L := fun k s i => laws_toStringS.l0 k l s i) (xs := l) id _ ?_ ?_
    · intro pre x rest s hx hs ih
      have hlt := len_at hx
      have hr : rdOf ByteArray.empty l (pre.length : Int) = x := getD_at hx _
      simp only [laws_toStringS.l0, hr, wrap_at hx (by omega)]
      exact EvP.pos hlt (EvP.pos (nat_nonneg _) (EvP.pos (by omega) ih))
    · intro s
      simp only [laws_toStringS.l0]
      exact EvP.neg (by omega) (EvP.now rfl)
  simpa using main
theorem laws_toReport.ok (rs : List S80) (ds : List ByteArray) (h1 : (rs.length : Int) ≤ 1048576) (h2 : (ds.length : Int) ≤ 1048576) : EvP (fun k => laws_toReport.f k rs ds) (· = (rs.map cResult, ds)) := by
  unfold laws_toReport.f
  refine EvP.bind (laws_toResultS.ok rs h1) ?_
  rintro _ rfl
  refine EvP.bind (laws_toStringS.ok ds h2) ?_
  rintro _ rfl
  exact EvP.now rfl
theorem laws_eqStringS.ok (l : List ByteArray) (hl : (l.length : Int) ≤ 9223372036854775807) : EvP (fun k => laws_eqStringS.f k l l) (· = true) := by
  unfold laws_eqStringS.f
  refine EvP.pos rfl ?_
  refine EvP.range (L := fun k (_ : Unit) i => laws_eqStringS.l0 k l l i) (xs := l) (Inv := fun _ _ => True) ?_ ?_ () trivial
  · rintro pre x rest s hx _ ih
    have hlt := len_at hx
    simp only [laws_eqStringS.l0, wrap_at hx hl]
    exact EvP.pos hlt (EvP.pos (nat_nonneg _) (EvP.pos hlt (EvP.pos trivial (ih () trivial))))
  · rintro s _
    simp only [laws_eqStringS.l0]
    exact EvP.neg (by omega) (EvP.now rfl)
theorem laws_eqResultS.ok (l : List S37) (hl : (l.length : Int) ≤ 9223372036854775807) : EvP (fun k => laws_eqResultS.f k l l) (· = true) := by
  unfold laws_eqResultS.f
  refine EvP.pos rfl ?_
  refine EvP.range (L := fun k (_ : Unit) i => laws_eqResultS.l0 k l l i) (xs := l) (Inv := fun _ _ => True) ?_ ?_ () trivial
  · rintro pre x rest s hx _ ih
    have hlt := len_at hx
    have hr : rd_T37 l (pre.length : Int) = x := getD_at hx _
    simp only [laws_eqResultS.l0, hr, wrap_at hx hl]
    refine EvP.pos hlt (EvP.pos (nat_nonneg _) (EvP.pos hlt ?_))
    refine EvP.bind (P := (· = true)) ?_ ?_
    · unfold laws_eqResult.f
      exact EvP.pos rfl (EvP.pos rfl (EvP.now rfl))
    · rintro _ rfl
      exact EvP.pos rfl (ih () trivial)
  · rintro s _
    simp only [laws_eqResultS.l0]
    exact EvP.neg (by omega) (EvP.now rfl)
theorem laws_eqReport.ok (rs : List S37) (ds : List ByteArray) (h1 : (rs.length : Int) ≤ 9223372036854775807) (h2 : (ds.length : Int) ≤ 9223372036854775807) : EvP (fun k => laws_eqReport.f k rs ds rs ds) (· = true) := by
  unfold laws_eqReport.f
  refine EvP.bind (laws_eqResultS.ok rs h1) ?_
  rintro _ rfl
  refine EvP.pos rfl ?_
  refine EvP.bind (laws_eqStringS.ok ds h2) ?_
  rintro _ rfl
  exact EvP.pos rfl (EvP.now rfl)
/-- The outcome of the first result of an id, -1 if there is none. -/
def ocOf (rs : List S37) (id : ByteArray) : Int := ((rs.find? fun x => decide (x.f0.toList = id.toList)).map (·.f1)).getD (-1)
def noId (rs : List S37) (id : ByteArray) : Prop := ∀ x ∈ rs, x.f0.toList ≠ id.toList
theorem noId_snoc {rs : List S37} {id : ByteArray} {x : S37} (h : noId rs id) (e : x.f0.toList ≠ id.toList) : noId (rs ++ [x]) id := by
  intro y hy
  rcases List.mem_append.1 hy with hy | hy
  · exact h y hy
  · rw [List.mem_singleton.1 hy]
    exact e
theorem find_none {rs : List S37} {id : ByteArray} (h : noId rs id) : rs.find? (fun x => decide (x.f0.toList = id.toList)) = none := by
  rw [List.find?_eq_none]
  intro x hx
  simpa using h x hx
theorem ocOf_none {rs : List S37} {id : ByteArray} (h : noId rs id) : ocOf rs id = -1 := by
  unfold ocOf
  rw [find_none h]
  rfl
theorem ocOf_some {rs pre rest : List S37} {x : S37} {id : ByteArray} (hx : rs = pre ++ x :: rest) (h : noId pre id) (e : x.f0.toList = id.toList) : ocOf rs id = x.f1 := by
  subst hx
  unfold ocOf
  rw [List.find?_append, find_none h]
  simp [e]
theorem impl_OutcomeOf.ok (rs : List S37) (ds : List ByteArray) (id : ByteArray) (h : (rs.length : Int) ≤ 9223372036854775807) : EvP (fun k => impl_OutcomeOf.f k rs ds id) (· = ocOf rs id) := by
  unfold impl_OutcomeOf.f
  refine EvP.range (L := fun k (_ : Unit) i => impl_OutcomeOf.l0 k id rs (rs.length : Int) i) (xs := rs) (Inv := fun pre _ => noId pre id) ?_ ?_ () (fun x hx => by cases hx)
  · intro pre x rest s hx hi ih
    have hl := len_at hx
    have hr : rd_T37 rs (pre.length : Int) = x := getD_at hx _
    simp only [impl_OutcomeOf.l0, hr, wrap_at hx h]
    refine EvP.pos hl (EvP.pos (nat_nonneg _) (EvP.pos hl ?_))
    exact EvP.ite (fun e => EvP.now (ocOf_some hx hi e).symm) (fun e => ih () (noId_snoc hi e))
  · intro s hi
    simp only [impl_OutcomeOf.l0]
    exact EvP.neg (by omega) (EvP.now (ocOf_none hi).symm)
theorem spec_outcomeOf.ok (rs : List S37) (id : ByteArray) (h : (rs.length : Int) ≤ 9223372036854775807) : EvP (fun k => spec_outcomeOf.f k rs id) (· = ocOf rs id) := by
  unfold spec_outcomeOf.f
  refine EvP.range (L := fun k (_ : Unit) i => spec_outcomeOf.l0 k rs id i) (xs := rs) (Inv := fun pre _ => noId pre id) ?_ ?_ () (fun x hx => by cases hx)
  · intro pre x rest s hx hi ih
    have hl := len_at hx
    have hr : rd_T37 rs (pre.length : Int) = x := getD_at hx _
    simp only [spec_outcomeOf.l0, hr, wrap_at hx h]
    refine EvP.pos hl (EvP.pos (nat_nonneg _) ?_)
    exact EvP.ite (fun e => EvP.now (ocOf_some hx hi e).symm) (fun e => ih () (noId_snoc hi e))
  · intro s hi
    simp only [spec_outcomeOf.l0]
    exact EvP.neg (by omega) (EvP.now (ocOf_none hi).symm)
theorem spec_OutcomeOf.ok (rs : List S37) (ds : List ByteArray) (id : ByteArray) (h : (rs.length : Int) ≤ 9223372036854775807) : EvP (fun k => spec_OutcomeOf.f k rs ds id) (· = ocOf rs id) := by
  unfold spec_OutcomeOf.f
  refine EvP.bind (spec_outcomeOf.ok rs id h) ?_
  rintro _ rfl
  exact EvP.now rfl
theorem main (rs : List S80) (ds : List ByteArray) (hq : (rs.length ≤ 9223372036854775807 ∧ ∀ y ∈ rs, Q80 y) ∧ (ds.length ≤ 9223372036854775807 ∧ ∀ y ∈ ds, y.size ≤ 9223372036854775807)) (a1 : ByteArray) (w1 : a1.size ≤ 140737488351232) : ∃ k, laws_FnExactOutcomeOf.f k rs ds a1 = some true := by
  refine EvP.rounds ?_
  unfold laws_FnExactOutcomeOf.f
  refine EvP.ite (fun _ => EvP.now rfl) (fun _ => ?_)
  refine EvP.bind (laws_szReport.ok rs ds hq _ (by omega) (by omega)) ?_
  rintro r (g | ⟨g0, g1⟩)
  · exact EvP.pos g (EvP.now rfl)
  refine EvP.neg (by omega) ?_
  have n1 : (rs.length : Int) ≤ 1048576 := by omega
  have n2 : (ds.length : Int) ≤ 1048576 := by omega
  have m1 : ((rs.map cResult).length : Int) ≤ 1048576 := by simpa using n1
  refine EvP.bind (laws_toReport.ok rs ds n1 n2) ?_
  rintro _ rfl
  dsimp only
  refine EvP.bind (spec_OutcomeOf.ok _ _ a1 (by omega)) ?_
  rintro _ rfl
  refine EvP.bind (laws_toReport.ok rs ds n1 n2) ?_
  rintro _ rfl
  dsimp only
  refine EvP.bind (impl_OutcomeOf.ok _ _ a1 (by omega)) ?_
  rintro _ rfl
  refine EvP.pos rfl ?_
  refine EvP.bind (laws_toReport.ok rs ds n1 n2) ?_
  rintro _ rfl
  dsimp only
  refine EvP.bind (laws_eqReport.ok _ _ (by omega) (by omega)) ?_
  rintro _ rfl
  exact EvP.pos rfl (EvP.now rfl)
end QFnExactOutcomeOf
end Go.Proofs.Ytfpoihcpjmkbkaa.Pure

/- FnExactTestsRun answers true for all events: the program's TestsRun returns what the reference's returns, shares no memory with its argument, and leaves it as it is. Conditions: those of the printed statement alone (bounds on sizes that every input meets). -/
import Derived.Test.YtcfdaffpifbfcaaPFnExactTestsRunx3
import Derived.Test.YtcfdaffpifbfcaaBase
namespace Go.Proofs.Ytcfdaffpifbfcaa.Pure
open Go.RowKit Go.Proofs.Ytcfdaffpifbfcaa.PFnExactTestsRun Go.Proofs.YtcfdaffpifbfcaaW.PrintWords Go.Proofs.YtcfdaffpifbfcaaW.PrintLast Go.Proofs.YtcfdaffpifbfcaaW.PrintMore Go.Proofs.Ytcfdaffpifbfcaa.Base
set_option linter.unusedVariables false
set_option linter.unusedSimpArgs false
namespace QFnExactTestsRun
def Q38 (x : S38) : Prop := ((Lit.int .i64 x.f0).wf = true) ∧ (x.f1.size ≤ 9223372036854775807)
def cEvent (x : S38) : S39 := ⟨x.f0, x.f1⟩
theorem laws_szEvent.ok (x : S38) (h : Q38 x) (left : Int) (h0 : 0 ≤ left) (h1 : left ≤ 1048576) : EvP (fun _ => laws_szEvent.f x.f0 x.f1 left) (fun r => r < 0 ∨ (0 ≤ r ∧ r ≤ left)) := by
  unfold laws_szEvent.f
  have := h.2
  rw [wrap_id (by omega) (by omega)]
  exact EvP.ite (fun _ => EvP.now (.inl (by omega))) (fun _ => EvP.now (.inr (by omega)))
theorem laws_szEventS.ok (l : List S38) (hl : l.length ≤ 9223372036854775807) (hq : ∀ x ∈ l, Q38 x) (left : Int) (h0 : 0 ≤ left) (h1 : left ≤ 1048576) :
    EvP (fun k => laws_szEventS.f k l left) (fun r => r < 0 ∨ (0 ≤ r ∧ r + l.length ≤ left)) := by
  unfold laws_szEventS.f
  rw [wrap_id (by omega) (by omega)]
  refine EvP.ite (fun _ => EvP.now (.inl (by omega))) (fun hn => ?_)
  refine EvP.range (L := fun k s i => laws_szEventS.l0 k l s i) (xs := l) (Inv := fun _ s => 0 ≤ s ∧ s + l.length ≤ left) ?_ ?_ _ ⟨by omega, by omega⟩
  · rintro pre x rest s hx ⟨a0, a1⟩ ih
    have hlt := len_at hx
    have hr : rd_T38 l (pre.length : Int) = x := getD_at hx _
    simp only [laws_szEventS.l0, hr, wrap_at hx (by omega)]
    refine EvP.pos hlt (EvP.pos (nat_nonneg _) ?_)
    refine EvP.bind (laws_szEvent.ok x (hq x (by rw [hx]; simp)) s a0 (by omega)) ?_
    rintro r (g | ⟨g0, g1⟩)
    · exact EvP.pos g (EvP.now (.inl (by omega)))
    · exact EvP.neg (by omega) (ih r ⟨g0, by omega⟩)
  · rintro s ⟨a0, a1⟩
    simp only [laws_szEventS.l0]
    exact EvP.neg (by omega) (EvP.now (.inr ⟨a0, a1⟩))
theorem laws_toEvent.ok (x : S38) : EvP (fun _ => laws_toEvent.f x.f0 x.f1) (fun r => (⟨r.1, r.2⟩ : S39) = cEvent x) := by
  unfold laws_toEvent.f
  exact EvP.now rfl
theorem laws_toEventS.ok (l : List S38) (hl : (l.length : Int) ≤ 1048576) : EvP (fun k => laws_toEventS.f k l) (· = l.map cEvent) := by
  unfold laws_toEventS.f
  refine EvP.pos (by omega) (EvP.pos (by omega) ?_)
  rw [Int.toNat_natCast]
  refine EvP.fill (L := fun k s i => laws_toEventS.l0 k l s i) (xs := l) cEvent _ ?_ ?_
  · intro pre x rest s hx hs ih
    have hlt := len_at hx
    have hr : rd_T38 l (pre.length : Int) = x := getD_at hx _
    simp only [laws_toEventS.l0, hr, wrap_at hx (by omega)]
    refine EvP.pos hlt (EvP.pos (nat_nonneg _) ?_)
    refine EvP.bind (laws_toEvent.ok x) ?_
    intro r g
    rw [g]
    exact EvP.pos (by omega) ih
  · intro s
    simp only [laws_toEventS.l0]
    exact EvP.neg (by omega) (EvP.now rfl)
theorem laws_eqEventS.ok (l : List S39) (hl : (l.length : Int) ≤ 9223372036854775807) : EvP (fun k => laws_eqEventS.f k l l) (· = true) := by
  unfold laws_eqEventS.f
  refine EvP.pos rfl ?_
  refine EvP.range (L := fun k (_ : Unit) i => laws_eqEventS.l0 k l l i) (xs := l) (Inv := fun _ _ => True) ?_ ?_ () trivial
  · rintro pre x rest s hx _ ih
    have hlt := len_at hx
    have hr : rd_T39 l (pre.length : Int) = x := getD_at hx _
    simp only [laws_eqEventS.l0, hr, wrap_at hx hl]
    refine EvP.pos hlt (EvP.pos (nat_nonneg _) (EvP.pos hlt ?_))
    refine EvP.bind (P := (· = true)) ?_ ?_
    · unfold laws_eqEvent.f
      exact EvP.pos rfl (EvP.pos rfl (EvP.now rfl))
    · rintro _ rfl
      exact EvP.pos rfl (ih () trivial)
  · rintro s _
    simp only [laws_eqEventS.l0]
    exact EvP.neg (by omega) (EvP.now rfl)
theorem laws_eqStringS.ok (l : List ByteArray) (hl : (l.length : Int) ≤ 9223372036854775807) : EvP (fun k => laws_eqStringS.f k l l) (· = true) := by
  unfold laws_eqStringS.f
  refine EvP.pos rfl ?_
  refine EvP.range (L := fun k (_ : Unit) i => laws_eqStringS.l0 k l l i) (xs := l) (Inv := fun _ _ => True) ?_ ?_ () trivial
  · rintro pre x rest s hx _ ih
    have hlt := len_at hx
    simp only [laws_eqStringS.l0, wrap_at hx hl]
    exact EvP.pos hlt (EvP.pos (nat_nonneg _) (EvP.pos hlt (EvP.pos trivial (ih () trivial))))
  · rintro s _
    simp only [laws_eqStringS.l0]
    exact EvP.neg (by omega) (EvP.now rfl)
/-! #### marks -/
theorem strOf_one (n : Int) : (strOfNums [n]).size = 1 := rfl
theorem laws_markText.all (n : Int) (h0 : 0 ≤ n) (h1 : n ≤ 9223372036854775807) : EvP (fun k => laws_markText.f k n) (fun _ => True) := by
  unfold laws_markText.f
  refine EvP.ite (fun _ => EvP.now trivial) (fun hn => ?_)
  have loop : ∀ (d : Nat) (x : Int) (s : ByteArray), x.toNat < d → 0 ≤ x → x ≤ 9223372036854775807 → (s.size : Int) + x ≤ 9223372036854775807 + 0 ∨ s.size ≤ 20 ∧ x < 10 ^ (20 - s.size) → s.size ≤ 20 ∧ x < 10 ^ (20 - s.size) →
      EvP (fun k => laws_markText.l0 k x s) (fun _ => True) := by
    intro d
    induction d with
    | zero => intro x s a0; omega
    | succ d ih =>
      intro x s a0 a1 a2 _ a3
      refine EvP.succ ?_
      simp only [laws_markText.l0]
      refine EvP.ite (fun hx => ?_) (fun hx => EvP.pos (by omega) (EvP.now trivial))
      have hd : s.size ≠ 20 := by
        intro e
        rw [e] at a3
        simp at a3
        omega
      refine EvP.bind (P := fun y => (strOfNums y).size = 1) (EvP.now (strOf_one _)) ?_
      intro y hy
      refine EvP.pos (by omega) ?_
      have e1 : Int.tdiv x 10 = x / 10 := Int.tdiv_eq_ediv_of_nonneg a1
      rw [e1, wrap_id (by omega) (by omega)]
      have e2 : (strOfNums y ++ s).size = s.size + 1 := by rw [ByteArray.size_append, hy]; omega
      have e3 : x / 10 < 10 ^ (20 - (strOfNums y ++ s).size) := by
        rw [e2]
        have : (10 : Int) ^ (20 - s.size) = 10 ^ (20 - (s.size + 1)) * 10 := by
          rw [← Int.pow_succ]
          congr 1
          omega
        have h3 := a3.2
        rw [this] at h3
        omega
      exact ih _ _ (by omega) (by omega) (by omega) (.inr ⟨by omega, e3⟩) ⟨by omega, e3⟩
  refine loop (n.toNat + 1) n _ (by omega) (by omega) h1 (.inr ⟨by decide, ?_⟩) ⟨by decide, ?_⟩
  · have : (10 : Int) ^ (20 - (⟨#[]⟩ : ByteArray).size) = 100000000000000000000 := by decide
    omega
  · have : (10 : Int) ^ (20 - (⟨#[]⟩ : ByteArray).size) = 100000000000000000000 := by decide
    omega
noncomputable def mkT (n : Int) : ByteArray := endOf ByteArray.empty (fun k => laws_markText.f k n)
theorem laws_markText.ok (n : Int) (h0 : 0 ≤ n) (h1 : n ≤ 9223372036854775807) : EvP (fun k => laws_markText.f k n) (· = mkT n) := (laws_markText.all n h0 h1).ended _
noncomputable def marks (n : Int) (m : Nat) : List ByteArray := (List.range m).map fun (i : Nat) => mkT (n + (i : Int))
theorem marks_len (n : Int) (m : Nat) : (marks n m).length = m := by simp [marks]
theorem marks_snoc (n : Int) (m : Nat) : marks n (m + 1) = marks n m ++ [mkT (n + m)] := by simp [marks, List.range_succ]
theorem laws_markStringS.ok (l : List ByteArray) (n : Int) (h0 : 0 ≤ n) (h1 : n + l.length ≤ 1000000000) : EvP (fun k => laws_markStringS.f k l n) (fun r => r.1 = n + l.length ∧ r.2 = marks n l.length) := by
  unfold laws_markStringS.f
  refine EvP.upto (L := fun k (s : List ByteArray × Int) i => laws_markStringS.l0 k s.1 s.2 i) (n := l.length) (Inv := fun i s => s.1.length = l.length ∧ s.1.take i = marks n i ∧ s.2 = n + i) ?_ ?_ (l, n) ⟨rfl, by simp [marks], by simp⟩
  · rintro i ⟨s, m⟩ hi ⟨a0, a1, a2⟩ ih
    simp only at a0 a1 a2
    subst a2
    simp only [laws_markStringS.l0]
    refine EvP.pos (by omega) ?_
    refine EvP.bind (laws_markText.ok _ (by omega) (by omega)) ?_
    rintro _ rfl
    refine EvP.pos (by omega) ?_
    rw [wrap_id (x := n + (i : Int) + 1) (by omega) (by omega), wrap_id (x := (i : Int) + 1) (by omega) (by omega), Int.toNat_natCast]
    refine ih (s.set i (mkT (n + i)), n + (i : Int) + 1) ⟨by simpa using a0, ?_, by simp only; omega⟩
    rw [take_set _ _ _ (by omega), a1, marks_snoc]
  · rintro ⟨s, m⟩ ⟨a0, a1, a2⟩
    simp only at a0 a1 a2
    simp only [laws_markStringS.l0]
    refine EvP.neg (by omega) (EvP.now ⟨a2, ?_⟩)
    simp only
    rw [← a1, List.take_of_length_le (by omega)]
theorem laws_heldStringS.ok (m : Nat) (n : Int) (h0 : 0 ≤ n) (h1 : n + m ≤ 1000000000) : EvP (fun k => laws_heldStringS.f k (marks n m) n) (· = n + m) := by
  unfold laws_heldStringS.f
  have hm := marks_len n m
  refine EvP.upto (L := fun k s i => laws_heldStringS.l0 k (marks n m) s i) (n := m) (Inv := fun i s => s = n + i) ?_ ?_ n (by simp)
  · rintro i s hi rfl ih
    simp only [laws_heldStringS.l0]
    have hr : rdOf ByteArray.empty (marks n m) (i : Int) = mkT (n + i) := by
      unfold rdOf marks
      rw [Int.toNat_natCast, List.getD_eq_getElem?_getD, List.getElem?_map, List.getElem?_range hi]
      rfl
    refine EvP.pos (by omega) (EvP.pos (by omega) ?_)
    refine EvP.bind (laws_markText.ok _ (by omega) (by omega)) ?_
    rintro _ rfl
    rw [hr, wrap_id (x := n + (i : Int) + 1) (by omega) (by omega), wrap_id (x := (i : Int) + 1) (by omega) (by omega)]
    exact EvP.pos rfl (ih _ (by omega))
  · rintro s rfl
    simp only [laws_heldStringS.l0]
    exact EvP.neg (by omega) (EvP.now rfl)
theorem laws_markEventS.ok (l : List S39) (n : Int) (h0 : 0 ≤ n) (h1 : n + 2 * l.length ≤ 1000000000) : EvP (fun k => laws_markEventS.f k l n) (fun r => 0 ≤ r.1) := by
  unfold laws_markEventS.f
  refine EvP.upto (L := fun k (s : List S39 × Int) i => laws_markEventS.l0 k s.1 s.2 i) (n := l.length) (Inv := fun i s => s.1.length = l.length ∧ s.2 = n + 2 * i) ?_ ?_ (l, n) ⟨rfl, by simp⟩
  · rintro i ⟨s, m⟩ hi ⟨a0, a2⟩ ih
    simp only at a0 a2
    subst a2
    simp only [laws_markEventS.l0]
    refine EvP.pos (by omega) (EvP.pos (by omega) ?_)
    refine EvP.bind (P := fun y => y.length = s.length) (EvP.now (by simp)) ?_
    intro y hy
    rw [wrap_id (x := n + 2 * (i : Int) + 1) (by omega) (by omega), wrap_id (x := n + 2 * (i : Int) + 1 + 1) (by omega) (by omega), wrap_id (x := (i : Int) + 1) (by omega) (by omega)]
    refine EvP.bind (laws_markText.ok _ (by omega) (by omega)) ?_
    rintro _ rfl
    exact ih (_, n + 2 * (i : Int) + 1 + 1) ⟨by simp only [List.length_set]; omega, by simp only; omega⟩
  · rintro ⟨s, m⟩ ⟨a0, a2⟩
    simp only at a0 a2
    simp only [laws_markEventS.l0]
    exact EvP.neg (by omega) (EvP.now (by simp only; omega))
/-- The names of the tests that are run. -/
def ran (l : List S39) : List ByteArray := (l.filter fun x => decide (x.f0 = 2)).map (·.f1)
theorem ran_le (l : List S39) : (ran l).length ≤ l.length := by
  unfold ran
  rw [List.length_map]
  exact List.length_filter_le _ _
theorem ran_snoc (l : List S39) (x : S39) : ran (l ++ [x]) = ran l ++ if x.f0 = 2 then [x.f1] else [] := by
  unfold ran
  rw [List.filter_append, List.map_append]
  congr 1
  by_cases h : x.f0 = 2 <;> simp [List.filter_cons, h]
theorem impl_TestsRun.ok (l : List S39) (h : (l.length : Int) ≤ 8796093022208) : EvP (fun k => impl_TestsRun.f k l) (· = ran l) := by
  unfold impl_TestsRun.f
  refine EvP.range (L := fun k s i => impl_TestsRun.l0 k s l (l.length : Int) i) (xs := l) (Inv := fun pre s => s = ran pre) ?_ ?_ [] rfl
  · rintro pre x rest s hx rfl ih
    have hl := len_at hx
    have hc := ran_le pre
    have hr : rd_T39 l (pre.length : Int) = x := getD_at hx _
    simp only [impl_TestsRun.l0, hr, wrap_at hx (by omega)]
    refine EvP.pos hl (EvP.pos (nat_nonneg _) (EvP.pos hl ?_))
    refine EvP.ite (fun e => EvP.pos (by omega) (ih _ ?_)) (fun e => ih _ ?_)
    · rw [ran_snoc, if_pos e]
    · rw [ran_snoc, if_neg e, List.append_nil]
  · rintro s rfl
    simp only [impl_TestsRun.l0]
    exact EvP.neg (by omega) (EvP.now rfl)
theorem spec_TestsRun.ok (l : List S39) (h : (l.length : Int) ≤ 8796093022208) : EvP (fun k => spec_TestsRun.f k l) (· = ran l) := by
  unfold spec_TestsRun.f
  refine EvP.range (L := fun k s i => spec_TestsRun.l0 k l s i) (xs := l) (Inv := fun pre s => s = ran pre) ?_ ?_ [] rfl
  · rintro pre x rest s hx rfl ih
    have hl := len_at hx
    have hc := ran_le pre
    have hr : rd_T39 l (pre.length : Int) = x := getD_at hx _
    simp only [spec_TestsRun.l0, hr, wrap_at hx (by omega)]
    refine EvP.pos hl (EvP.pos (nat_nonneg _) ?_)
    refine EvP.ite (fun e => EvP.pos (by omega) (ih _ ?_)) (fun e => ih _ ?_)
    · rw [ran_snoc, if_pos e]
    · rw [ran_snoc, if_neg e, List.append_nil]
  · rintro s rfl
    simp only [spec_TestsRun.l0]
    exact EvP.neg (by omega) (EvP.now rfl)
theorem main (l0 : List S38) (hl : l0.length ≤ 9223372036854775807) (hq : ∀ x ∈ l0, Q38 x) : ∃ k, laws_FnExactTestsRun.f k l0 = some true := by
  refine EvP.rounds ?_
  unfold laws_FnExactTestsRun.f
  refine EvP.bind (laws_szEventS.ok l0 hl hq _ (by omega) (by omega)) ?_
  rintro r (g | ⟨g0, g1⟩)
  · exact EvP.pos g (EvP.now rfl)
  refine EvP.neg (by omega) ?_
  have hn : (l0.length : Int) ≤ 1048576 := by omega
  have hm : ((l0.map cEvent).length : Int) ≤ 1048576 := by simpa using hn
  have hr := ran_le (l0.map cEvent)
  refine EvP.bind (laws_toEventS.ok l0 hn) ?_
  rintro _ rfl
  refine EvP.bind (spec_TestsRun.ok _ (by omega)) ?_
  rintro _ rfl
  refine EvP.bind (laws_toEventS.ok l0 hn) ?_
  rintro _ rfl
  refine EvP.bind (impl_TestsRun.ok _ (by omega)) ?_
  rintro _ rfl
  refine EvP.bind (laws_eqStringS.ok _ (by omega)) ?_
  rintro _ rfl
  refine EvP.pos rfl ?_
  refine EvP.bind (laws_toEventS.ok l0 hn) ?_
  rintro _ rfl
  refine EvP.bind (laws_eqEventS.ok _ (by omega)) ?_
  rintro _ rfl
  refine EvP.pos rfl ?_
  refine EvP.bind (laws_markEventS.ok _ 1 (by omega) (by omega)) ?_
  intro y hy
  refine EvP.neg (by omega) ?_
  refine EvP.bind (laws_eqStringS.ok _ (by omega)) ?_
  rintro _ rfl
  refine EvP.succ ?_
  simp only [laws_FnExactTestsRun.j0]
  refine EvP.neg (by simp) ?_
  refine EvP.bind (laws_markStringS.ok _ 1 (by omega) (by omega)) ?_
  rintro ⟨m, s⟩ ⟨e1, e2⟩
  simp only at e1 e2
  subst e1 e2
  refine EvP.bind (laws_heldStringS.ok _ 1 (by omega) (by omega)) ?_
  rintro _ rfl
  refine EvP.neg (by omega) (EvP.pos rfl ?_)
  refine EvP.bind (laws_toEventS.ok l0 hn) ?_
  rintro _ rfl
  refine EvP.bind (impl_TestsRun.ok _ (by omega)) ?_
  rintro _ rfl
  refine EvP.bind (laws_eqStringS.ok _ (by omega)) ?_
  rintro _ rfl
  refine EvP.pos rfl ?_
  refine EvP.bind (laws_heldStringS.ok _ 1 (by omega) (by omega)) ?_
  rintro _ rfl
  exact EvP.neg (by omega) (EvP.pos rfl (EvP.now rfl))
end QFnExactTestsRun
end Go.Proofs.Ytcfdaffpifbfcaa.Pure

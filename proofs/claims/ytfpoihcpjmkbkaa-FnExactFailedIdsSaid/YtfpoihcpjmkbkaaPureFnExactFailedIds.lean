/- FnExactFailedIds answers true for all reports: the program's FailedIds returns what the reference's returns, shares no memory with its argument, and leaves it as it is. Conditions: those of the printed statement alone (bounds on sizes that every input meets). -/
import Derived.Test.YtfpoihcpjmkbkaaOFnExactFailedIdsx4
import Derived.Test.YtfpoihcpjmkbkaaBase
namespace Go.Proofs.Ytfpoihcpjmkbkaa.Pure
open Go.RowKit Go.Proofs.Ytfpoihcpjmkbkaa.OFnExactFailedIds Go.Proofs.YtfpoihcpjmkbkaaW.PrintWords Go.Proofs.YtfpoihcpjmkbkaaW.PrintLast Go.Proofs.YtfpoihcpjmkbkaaW.PrintMore Go.Proofs.Ytfpoihcpjmkbkaa.Base
set_option linter.unusedVariables false
set_option linter.unusedSimpArgs false
namespace QFnExactFailedIds
def Q80 (x : S80) : Prop := (x.f0.size ≤ 9223372036854775807) ∧ ((Lit.int .i64 x.f1).wf = true)
def cResult (x : S80) : S37 := ⟨x.f0, x.f1⟩
theorem laws_szResult.ok (x : S80) (h : Q80 x) (left : Int) (h0 : 0 ≤ left) (h1 : left ≤ 1048576) : EvP (fun _ => laws_szResult.f x.f0 x.f1 left) (fun r => r < 0 ∨ (0 ≤ r ∧ r ≤ left)) := by
  unfold laws_szResult.f
  have := h.1
  rw [wrap_id (by omega) (by omega)]
  exact EvP.ite (fun _ => EvP.now (.inl (by omega))) (fun _ => EvP.now (.inr (by omega)))
theorem laws_szResultS.ok (l : List S80) (hl : l.length ≤ 9223372036854775807) (hq : ∀ x ∈ l, Q80 x) (left : Int) (h0 : 0 ≤ left) (h1 : left ≤ 1048576) :
    EvP (fun k => laws_szResultS.f k l left) (fun r => r < 0 ∨ (0 ≤ r ∧ r + l.length ≤ left)) := by
  unfold laws_szResultS.f
  rw [wrap_id (by omega) (by omega)]
  refine EvP.ite (fun _ => EvP.now (.inl (by omega))) (fun hn => ?_)
  refine EvP.range (L := fun k s i => laws_szResultS.l0 k l s i) (xs := l) (Inv := fun _ s => 0 ≤ s ∧ s + l.length ≤ left) ?_ ?_ _ ⟨by omega, by omega⟩
  · rintro pre x rest s hx ⟨a0, a1⟩ ih
    have hlt := len_at hx
    have hr : rd_T80 l (pre.length : Int) = x := getD_at hx _
    simp only [laws_szResultS.l0, hr, wrap_at hx (by omega)]
    refine EvP.pos hlt (EvP.pos (nat_nonneg _) ?_)
    refine EvP.bind (laws_szResult.ok x (hq x (by rw [hx]; simp)) s a0 (by omega)) ?_
    rintro r (g | ⟨g0, g1⟩)
    · exact EvP.pos g (EvP.now (.inl (by omega)))
    · exact EvP.neg (by omega) (ih r ⟨g0, by omega⟩)
  · rintro s ⟨a0, a1⟩
    simp only [laws_szResultS.l0]
    exact EvP.neg (by omega) (EvP.now (.inr ⟨a0, a1⟩))
theorem laws_szStringS.ok (l : List ByteArray) (hl : l.length ≤ 9223372036854775807) (hq : ∀ x ∈ l, x.size ≤ 9223372036854775807) (left : Int) (h0 : 0 ≤ left) (h1 : left ≤ 1048576) :
    EvP (fun k => laws_szStringS.f k l left) (fun r => r < 0 ∨ (0 ≤ r ∧ r + l.length ≤ left)) := by
  unfold laws_szStringS.f
  rw [wrap_id (by omega) (by omega)]
  refine EvP.ite (fun _ => EvP.now (.inl (by omega))) (fun hn => ?_)
  refine EvP.range (L := fun k s i => laws_szStringS.l0 k l s i) (xs := l) (Inv := fun _ s => 0 ≤ s ∧ s + l.length ≤ left) ?_ ?_ _ ⟨by omega, by omega⟩
  · rintro pre x rest s hx ⟨a0, a1⟩ ih
    have hlt := len_at hx
    have hr : rdOf ByteArray.empty l (pre.length : Int) = x := getD_at hx _
    have hxs := hq x (by rw [hx]; simp)
    simp only [laws_szStringS.l0, hr, wrap_at hx (by omega), wrap_id (x := s - (x.size : Int)) (by omega) (by omega)]
    refine EvP.pos hlt (EvP.pos (nat_nonneg _) ?_)
    exact EvP.ite (fun _ => EvP.now (.inl (by omega))) (fun hs => ih _ ⟨by omega, by omega⟩)
  · rintro s ⟨a0, a1⟩
    simp only [laws_szStringS.l0]
    exact EvP.neg (by omega) (EvP.now (.inr ⟨a0, a1⟩))
theorem laws_szReport.ok (rs : List S80) (ds : List ByteArray) (hq : (rs.length ≤ 9223372036854775807 ∧ ∀ y ∈ rs, Q80 y) ∧ (ds.length ≤ 9223372036854775807 ∧ ∀ y ∈ ds, y.size ≤ 9223372036854775807)) (left : Int) (h0 : 0 ≤ left) (h1 : left ≤ 1048576) :
    EvP (fun k => laws_szReport.f k rs ds left) (fun r => r < 0 ∨ (0 ≤ r ∧ r + rs.length + ds.length ≤ left)) := by
  unfold laws_szReport.f
  refine EvP.bind (laws_szResultS.ok rs hq.1.1 hq.1.2 left h0 h1) ?_
  rintro r (g | ⟨g0, g1⟩)
  · exact EvP.pos g (EvP.now (.inl (by omega)))
  refine EvP.neg (by omega) ?_
  refine EvP.bind (laws_szStringS.ok ds hq.2.1 hq.2.2 r g0 (by omega)) ?_
  rintro u (k | ⟨k0, k1⟩)
  · exact EvP.pos k (EvP.now (.inl (by omega)))
  exact EvP.neg (by omega) (EvP.now (.inr ⟨k0, by omega⟩))
theorem laws_toResult.ok (x : S80) : EvP (fun _ => laws_toResult.f x.f0 x.f1) (fun r => (⟨r.1, r.2⟩ : S37) = cResult x) := by
  unfold laws_toResult.f
  exact EvP.now rfl
theorem laws_toResultS.ok (l : List S80) (hl : (l.length : Int) ≤ 1048576) : EvP (fun k => laws_toResultS.f k l) (· = l.map cResult) := by
  unfold laws_toResultS.f
  refine EvP.pos (by omega) (EvP.pos (by omega) ?_)
  rw [Int.toNat_natCast]
  refine EvP.fill (L := fun k s i => laws_toResultS.l0 k l s i) (xs := l) cResult _ ?_ ?_
  · intro pre x rest s hx hs ih
    have hlt := len_at hx
    have hr : rd_T80 l (pre.length : Int) = x := getD_at hx _
    simp only [laws_toResultS.l0, hr, wrap_at hx (by omega)]
    refine EvP.pos hlt (EvP.pos (nat_nonneg _) ?_)
    refine EvP.bind (laws_toResult.ok x) ?_
    intro r g
    rw [g]
    exact EvP.pos (by omega) ih
  · intro s
    simp only [laws_toResultS.l0]
    exact EvP.neg (by omega) (EvP.now rfl)
theorem laws_toStringS.ok (l : List ByteArray) (hl : (l.length : Int) ≤ 1048576) : EvP (fun k => laws_toStringS.f k l) (· = l) := by
  have main : EvP (fun k => laws_toStringS.f k l) (· = l.map id) := by
    unfold laws_toStringS.f
    refine EvP.pos (by omega) (EvP.pos (by omega) ?_)
    rw [Int.toNat_natCast]
    refine EvP.fill (L := fun k s i => laws_toStringS.l0 k l s i) (xs := l) id _ ?_ ?_
    · intro pre x rest s hx hs ih
      have hlt := len_at hx
      have hr : rdOf ByteArray.empty l (pre.length : Int) = x := getD_at hx _
      simp only [laws_toStringS.l0, hr, wrap_at hx (by omega)]
      exact EvP.pos hlt (EvP.pos (nat_nonneg _) (EvP.pos (by omega) ih))
    · intro s
      simp only [laws_toStringS.l0]
      exact EvP.neg (by omega) (EvP.now rfl)
  simpa using main
theorem laws_toReport.ok (rs : List S80) (ds : List ByteArray) (h1 : (rs.length : Int) ≤ 1048576) (h2 : (ds.length : Int) ≤ 1048576) : EvP (fun k => laws_toReport.f k rs ds) (· = (rs.map cResult, ds)) := by
  unfold laws_toReport.f
  refine EvP.bind (laws_toResultS.ok rs h1) ?_
  rintro _ rfl
  refine EvP.bind (laws_toStringS.ok ds h2) ?_
  rintro _ rfl
  exact EvP.now rfl
theorem laws_eqStringS.ok (l : List ByteArray) (hl : (l.length : Int) ≤ 9223372036854775807) : EvP (fun k => laws_eqStringS.f k l l) (· = true) := by
  unfold laws_eqStringS.f
  refine EvP.pos rfl ?_
  refine EvP.range (L := fun k (_ : Unit) i => laws_eqStringS.l0 k l l i) (xs := l) (Inv := fun _ _ => True) ?_ ?_ () trivial
  · rintro pre x rest s hx _ ih
    have hlt := len_at hx
    simp only [laws_eqStringS.l0, wrap_at hx hl]
    exact EvP.pos hlt (EvP.pos (nat_nonneg _) (EvP.pos hlt (EvP.pos trivial (ih () trivial))))
  · rintro s _
    simp only [laws_eqStringS.l0]
    exact EvP.neg (by omega) (EvP.now rfl)
theorem laws_eqResultS.ok (l : List S37) (hl : (l.length : Int) ≤ 9223372036854775807) : EvP (fun k => laws_eqResultS.f k l l) (· = true) := by
  unfold laws_eqResultS.f
  refine EvP.pos rfl ?_
  refine EvP.range (L := fun k (_ : Unit) i => laws_eqResultS.l0 k l l i) (xs := l) (Inv := fun _ _ => True) ?_ ?_ () trivial
  · rintro pre x rest s hx _ ih
    have hlt := len_at hx
    have hr : rd_T37 l (pre.length : Int) = x := getD_at hx _
    simp only [laws_eqResultS.l0, hr, wrap_at hx hl]
    refine EvP.pos hlt (EvP.pos (nat_nonneg _) (EvP.pos hlt ?_))
    refine EvP.bind (P := (· = true)) ?_ ?_
    · unfold laws_eqResult.f
      exact EvP.pos rfl (EvP.pos rfl (EvP.now rfl))
    · rintro _ rfl
      exact EvP.pos rfl (ih () trivial)
  · rintro s _
    simp only [laws_eqResultS.l0]
    exact EvP.neg (by omega) (EvP.now rfl)
theorem laws_eqReport.ok (rs : List S37) (ds : List ByteArray) (h1 : (rs.length : Int) ≤ 9223372036854775807) (h2 : (ds.length : Int) ≤ 9223372036854775807) : EvP (fun k => laws_eqReport.f k rs ds rs ds) (· = true) := by
  unfold laws_eqReport.f
  refine EvP.bind (laws_eqResultS.ok rs h1) ?_
  rintro _ rfl
  refine EvP.pos rfl ?_
  refine EvP.bind (laws_eqStringS.ok ds h2) ?_
  rintro _ rfl
  exact EvP.pos rfl (EvP.now rfl)
/-! #### marks -/
theorem strOf_one (n : Int) : (strOfNums [n]).size = 1 := rfl
theorem laws_markText.all (n : Int) (h0 : 0 ≤ n) (h1 : n ≤ 9223372036854775807) : EvP (fun k => laws_markText.f k n) (fun _ => True) := by
  unfold laws_markText.f
  refine EvP.ite (fun _ => EvP.now trivial) (fun hn => ?_)
  have loop : ∀ (d : Nat) (x : Int) (s : ByteArray), x.toNat < d → 0 ≤ x → x ≤ 9223372036854775807 → (s.size : Int) + x ≤ 9223372036854775807 + 0 ∨ s.size ≤ 20 ∧ x < 10 ^ (20 - s.size) → s.size ≤ 20 ∧ x < 10 ^ (20 - s.size) →
      EvP (fun k => laws_markText.l0 k x s) (fun _ => True) := by
    intro d
    induction d with
    | zero => intro x s a0; omega
    | succ d ih =>
      intro x s a0 a1 a2 _ a3
      refine EvP.succ ?_
      simp only [laws_markText.l0]
      refine EvP.ite (fun hx => ?_) (fun hx => EvP.pos (by omega) (EvP.now trivial))
      have hd : s.size ≠ 20 := by
        intro e
        rw [e] at a3
        simp at a3
        omega
      refine EvP.bind (P := fun y => (strOfNums y).size = 1) (EvP.now (strOf_one _)) ?_
      intro y hy
      refine EvP.pos (by omega) ?_
      have e1 : Int.tdiv x 10 = x / 10 := Int.tdiv_eq_ediv_of_nonneg a1
      rw [e1, wrap_id (by omega) (by omega)]
      have e2 : (strOfNums y ++ s).size = s.size + 1 := by rw [ByteArray.size_append, hy]; omega
      have e3 : x / 10 < 10 ^ (20 - (strOfNums y ++ s).size) := by
        rw [e2]
        have : (10 : Int) ^ (20 - s.size) = 10 ^ (20 - (s.size + 1)) * 10 := by
          rw [← Int.pow_succ]
          congr 1
          omega
        have h3 := a3.2
        rw [this] at h3
        omega
      exact ih _ _ (by omega) (by omega) (by omega) (.inr ⟨by omega, e3⟩) ⟨by omega, e3⟩
  refine loop (n.toNat + 1) n _ (by omega) (by omega) h1 (.inr ⟨by decide, ?_⟩) ⟨by decide, ?_⟩
  · have : (10 : Int) ^ (20 - (⟨#[]⟩ : ByteArray).size) = 100000000000000000000 := by decide
    omega
  · have : (10 : Int) ^ (20 - (⟨#[]⟩ : ByteArray).size) = 100000000000000000000 := by decide
    omega
noncomputable def mkT (n : Int) : ByteArray := endOf ByteArray.empty (fun k => laws_markText.f k n)
theorem laws_markText.ok (n : Int) (h0 : 0 ≤ n) (h1 : n ≤ 9223372036854775807) : EvP (fun k => laws_markText.f k n) (· = mkT n) := (laws_markText.all n h0 h1).ended _
noncomputable def marks (n : Int) (m : Nat) : List ByteArray := (List.range m).map fun (i : Nat) => mkT (n + (i : Int))
theorem marks_len (n : Int) (m : Nat) : (marks n m).length = m := by simp [marks]
theorem marks_snoc (n : Int) (m : Nat) : marks n (m + 1) = marks n m ++ [mkT (n + m)] := by simp [marks, List.range_succ]
theorem laws_markStringS.ok (l : List ByteArray) (n : Int) (h0 : 0 ≤ n) (h1 : n + l.length ≤ 1000000000) : EvP (fun k => laws_markStringS.f k l n) (fun r => r.1 = n + l.length ∧ r.2 = marks n l.length) := by
  unfold laws_markStringS.f
  refine EvP.upto (L := fun k (s : List ByteArray × Int) i => laws_markStringS.l0 k s.1 s.2 i) (n := l.length) (Inv := fun i s => s.1.length = l.length ∧ s.1.take i = marks n i ∧ s.2 = n + i) ?_ ?_ (l, n) ⟨rfl, by simp [marks], by simp⟩
  · rintro i ⟨s, m⟩ hi ⟨a0, a1, a2⟩ ih
    simp only at a0 a1 a2
    subst a2
    simp only [laws_markStringS.l0]
    refine EvP.pos (by omega) ?_
    refine EvP.bind (laws_markText.ok _ (by omega) (by omega)) ?_
    rintro _ rfl
    refine EvP.pos (by omega) ?_
    rw [wrap_id (x := n + (i : Int) + 1) (by omega) (by omega), wrap_id (x := (i : Int) + 1) (by omega) (by omega), Int.toNat_natCast]
    refine ih (s.set i (mkT (n + i)), n + (i : Int) + 1) ⟨by simpa using a0, ?_, by simp only; omega⟩
    rw [take_set _ _ _ (by omega), a1, marks_snoc]
  · rintro ⟨s, m⟩ ⟨a0, a1, a2⟩
    simp only at a0 a1 a2
    simp only [laws_markStringS.l0]
    refine EvP.neg (by omega) (EvP.now ⟨a2, ?_⟩)
    simp only
    rw [← a1, List.take_of_length_le (by omega)]
theorem laws_markResultS.ge (l : List S37) (n : Int) (h0 : 0 ≤ n) (h1 : n + 2 * l.length ≤ 100000000) : EvP (fun k => laws_markResultS.f k l n) (fun r => r.1 = n + 2 * l.length) := by
  unfold laws_markResultS.f
  refine EvP.upto (L := fun k (s : List S37 × Int) i => laws_markResultS.l0 k s.1 s.2 i) (n := l.length) (Inv := fun i s => s.1.length = l.length ∧ s.2 = n + 2 * i) ?_ ?_ (l, n) ⟨rfl, by simp⟩
  · rintro i ⟨s, m⟩ hi ⟨a0, a2⟩ ih
    simp only at a0 a2
    subst a2
    simp only [laws_markResultS.l0]
    refine EvP.pos (by omega) ?_
    refine EvP.bind (laws_markText.ok _ (by omega) (by omega)) ?_
    rintro _ rfl
    refine EvP.pos (by omega) ?_
    refine EvP.bind (P := fun y => y.length = s.length) (EvP.now (by simp)) ?_
    intro y hy
    rw [wrap_id (x := n + 2 * (i : Int) + 1) (by omega) (by omega), wrap_id (x := n + 2 * (i : Int) + 1 + 1) (by omega) (by omega), wrap_id (x := (i : Int) + 1) (by omega) (by omega)]
    exact ih (_, n + 2 * (i : Int) + 1 + 1) ⟨by simp only [List.length_set]; omega, by simp only; omega⟩
  · rintro ⟨s, m⟩ ⟨a0, a2⟩
    simp only at a0 a2
    simp only [laws_markResultS.l0]
    exact EvP.neg (by omega) (EvP.now (by simp only; omega))
theorem laws_markReport.ge (rs : List S37) (ds : List ByteArray) (n : Int) (h0 : 0 ≤ n) (h1 : n + 2 * rs.length + ds.length ≤ 100000000) : EvP (fun k => laws_markReport.f k rs ds n) (fun r => r.1 = n + 2 * rs.length + ds.length) := by
  unfold laws_markReport.f
  refine EvP.bind (laws_markResultS.ge rs n h0 (by omega)) ?_
  rintro ⟨m, l⟩ e
  simp only at e
  subst e
  refine EvP.bind (laws_markStringS.ok ds _ (by omega) (by omega)) ?_
  rintro ⟨m, l⟩ ⟨e, _⟩
  exact EvP.now e
theorem laws_heldStringS.ok (m : Nat) (n : Int) (h0 : 0 ≤ n) (h1 : n + m ≤ 1000000000) : EvP (fun k => laws_heldStringS.f k (marks n m) n) (· = n + m) := by
  unfold laws_heldStringS.f
  have hm := marks_len n m
  refine EvP.upto (L := fun k s i => laws_heldStringS.l0 k (marks n m) s i) (n := m) (Inv := fun i s => s = n + i) ?_ ?_ n (by simp)
  · rintro i s hi rfl ih
    simp only [laws_heldStringS.l0]
    have hr : rdOf ByteArray.empty (marks n m) (i : Int) = mkT (n + i) := by
      unfold rdOf marks
      rw [Int.toNat_natCast, List.getD_eq_getElem?_getD, List.getElem?_map, List.getElem?_range hi]
      rfl
    refine EvP.pos (by omega) (EvP.pos (by omega) ?_)
    refine EvP.bind (laws_markText.ok _ (by omega) (by omega)) ?_
    rintro _ rfl
    rw [hr, wrap_id (x := n + (i : Int) + 1) (by omega) (by omega), wrap_id (x := (i : Int) + 1) (by omega) (by omega)]
    exact EvP.pos rfl (ih _ (by omega))
  · rintro s rfl
    simp only [laws_heldStringS.l0]
    exact EvP.neg (by omega) (EvP.now rfl)
/-- How many results end so. -/
def cntOc (rs : List S37) (oc : Int) : Nat := rs.countP fun x => decide (x.f1 = oc)
theorem cntOc_le (rs : List S37) (oc : Int) : cntOc rs oc ≤ rs.length := List.countP_le_length
theorem cntOc_snoc (rs : List S37) (x : S37) (oc : Int) : cntOc (rs ++ [x]) oc = cntOc rs oc + if x.f1 = oc then 1 else 0 := by
  simp [cntOc, List.countP_append, List.countP_cons]
theorem cntOc_cons (rs : List S37) (x : S37) (oc : Int) : cntOc (x :: rs) oc = cntOc rs oc + if x.f1 = oc then 1 else 0 := by
  simp [cntOc, List.countP_cons]
def bad (x : S37) : Bool := x.f1 == 1 || x.f1 == 2
/-- The ids of the bad ones. -/
def badIds (rs : List S37) : List ByteArray := (rs.filter bad).map (·.f0)
theorem badIds_snoc (rs : List S37) (x : S37) : badIds (rs ++ [x]) = badIds rs ++ if bad x = true then [x.f0] else [] := by
  unfold badIds
  rw [List.filter_append, List.map_append]
  congr 1
  by_cases h : bad x = true <;> simp [List.filter_cons, h]
theorem badIds_le (rs : List S37) : (badIds rs).length ≤ rs.length := by
  unfold badIds
  rw [List.length_map]
  exact List.length_filter_le _ _
theorem badIds_len (rs : List S37) : (badIds rs).length = cntOc rs 1 + cntOc rs 2 := by
  induction rs with
  | nil => rfl
  | cons x rs ih =>
    rw [cntOc_cons, cntOc_cons]
    unfold badIds at ih ⊢
    rw [List.length_map] at ih ⊢
    rw [List.filter_cons]
    by_cases h1 : x.f1 = 1
    · have : bad x = true := by simp [bad, h1]
      rw [if_pos this, if_pos h1, if_neg (by omega), List.length_cons, ih]
      omega
    · by_cases h2 : x.f1 = 2
      · have : bad x = true := by simp [bad, h2]
        rw [if_pos this, if_neg h1, if_pos h2, List.length_cons, ih]
        omega
      · have : bad x = false := by simp [bad, h1, h2]
        rw [this, if_neg (by simp), if_neg h1, if_neg h2, ih]
        omega
theorem impl_isBad.ok (n : Int) : EvP (fun _ => impl_isBad.f n) (· = (n == 1 || n == 2)) := by
  unfold impl_isBad.f
  refine EvP.ite (fun h => EvP.now (by simp [h])) (fun h => EvP.now ?_)
  have : (n == 1) = false := by simpa using h
  simp [this]
theorem impl_FailedIds.ok (rs : List S37) (ds : List ByteArray) (h : (rs.length : Int) ≤ 8796093022208) : EvP (fun k => impl_FailedIds.f k rs ds) (· = badIds rs) := by
  unfold impl_FailedIds.f
  refine EvP.range (L := fun k s i => impl_FailedIds.l0 k s rs (rs.length : Int) i) (xs := rs) (Inv := fun pre s => s = badIds pre) ?_ ?_ [] rfl
  · rintro pre x rest s hx rfl ih
    have hl := len_at hx
    have hc := badIds_le pre
    have hr : rd_T37 rs (pre.length : Int) = x := getD_at hx _
    simp only [impl_FailedIds.l0, hr, wrap_at hx (by omega)]
    refine EvP.pos hl (EvP.pos (nat_nonneg _) (EvP.pos hl ?_))
    refine EvP.bind (impl_isBad.ok _) ?_
    rintro _ rfl
    refine EvP.ite (fun e => EvP.pos (by omega) (ih _ ?_)) (fun e => ih _ ?_)
    · rw [badIds_snoc, if_pos (show bad x = true from e)]
    · rw [badIds_snoc, if_neg (show ¬ bad x = true from e), List.append_nil]
  · rintro s rfl
    simp only [impl_FailedIds.l0]
    exact EvP.neg (by omega) (EvP.now rfl)
theorem spec_isBad.ok (n : Int) : EvP (fun _ => spec_isBad.f n) (· = (n == 1 || n == 2)) := by
  unfold spec_isBad.f
  refine EvP.ite (fun h => EvP.now (by simp [h])) (fun h => EvP.now ?_)
  have : (n == 1) = false := by simpa using h
  simp [this]
theorem spec_failedIds.ok (rs : List S37) (ds : List ByteArray) (h : (rs.length : Int) ≤ 8796093022208) : EvP (fun k => spec_failedIds.f k rs ds) (· = badIds rs) := by
  unfold spec_failedIds.f
  refine EvP.range (L := fun k s i => spec_failedIds.l0 k s i rs ds) (xs := rs) (Inv := fun pre s => s = badIds pre) ?_ ?_ [] rfl
  · rintro pre x rest s hx rfl ih
    have hl := len_at hx
    have hc := badIds_le pre
    have hr : rd_T37 rs (pre.length : Int) = x := getD_at hx _
    simp only [spec_failedIds.l0, hr, wrap_at hx (by omega)]
    refine EvP.pos hl (EvP.pos (nat_nonneg _) ?_)
    refine EvP.bind (spec_isBad.ok _) ?_
    rintro _ rfl
    refine EvP.ite (fun e => EvP.pos (by omega) (ih _ ?_)) (fun e => ih _ ?_)
    · rw [badIds_snoc, if_pos (show bad x = true from e)]
    · rw [badIds_snoc, if_neg (show ¬ bad x = true from e), List.append_nil]
  · rintro s rfl
    simp only [spec_failedIds.l0]
    exact EvP.neg (by omega) (EvP.now rfl)
theorem spec_FailedIds.ok (rs : List S37) (ds : List ByteArray) (h : (rs.length : Int) ≤ 8796093022208) : EvP (fun k => spec_FailedIds.f k rs ds) (· = badIds rs) := by
  unfold spec_FailedIds.f
  refine EvP.bind (spec_failedIds.ok rs ds h) ?_
  rintro _ rfl
  exact EvP.now rfl
theorem main (rs : List S80) (ds : List ByteArray) (hq : (rs.length ≤ 9223372036854775807 ∧ ∀ y ∈ rs, Q80 y) ∧ (ds.length ≤ 9223372036854775807 ∧ ∀ y ∈ ds, y.size ≤ 9223372036854775807)) : ∃ k, laws_FnExactFailedIds.f k rs ds = some true := by
  refine EvP.rounds ?_
  unfold laws_FnExactFailedIds.f
  refine EvP.bind (laws_szReport.ok rs ds hq _ (by omega) (by omega)) ?_
  rintro r (g | ⟨g0, g1⟩)
  · exact EvP.pos g (EvP.now rfl)
  refine EvP.neg (by omega) ?_
  have n1 : (rs.length : Int) ≤ 1048576 := by omega
  have n2 : (ds.length : Int) ≤ 1048576 := by omega
  have m1 : ((rs.map cResult).length : Int) ≤ 1048576 := by simpa using n1
  have hb := badIds_le (rs.map cResult)
  refine EvP.bind (laws_toReport.ok rs ds n1 n2) ?_
  rintro _ rfl
  dsimp only
  refine EvP.bind (spec_FailedIds.ok _ _ (by omega)) ?_
  rintro _ rfl
  refine EvP.bind (laws_toReport.ok rs ds n1 n2) ?_
  rintro _ rfl
  dsimp only
  refine EvP.bind (impl_FailedIds.ok _ _ (by omega)) ?_
  rintro _ rfl
  refine EvP.bind (laws_eqStringS.ok _ (by omega)) ?_
  rintro _ rfl
  refine EvP.pos rfl ?_
  refine EvP.bind (laws_toReport.ok rs ds n1 n2) ?_
  rintro _ rfl
  dsimp only
  refine EvP.bind (laws_eqReport.ok _ _ (by omega) (by omega)) ?_
  rintro _ rfl
  refine EvP.pos rfl ?_
  refine EvP.bind (laws_markReport.ge _ _ 1 (by omega) (by omega)) ?_
  intro y hy
  refine EvP.neg (by omega) ?_
  refine EvP.bind (laws_eqStringS.ok _ (by omega)) ?_
  rintro _ rfl
  refine EvP.succ ?_
  simp only [laws_FnExactFailedIds.j0]
  refine EvP.neg (by simp) ?_
  refine EvP.bind (laws_markStringS.ok _ 1 (by omega) (by omega)) ?_
  rintro ⟨m, s⟩ ⟨e1, e2⟩
  simp only at e1 e2
  subst e1 e2
  refine EvP.bind (laws_heldStringS.ok _ 1 (by omega) (by omega)) ?_
  rintro _ rfl
  refine EvP.neg (by omega) (EvP.pos rfl ?_)
  refine EvP.bind (laws_toReport.ok rs ds n1 n2) ?_
  rintro _ rfl
  dsimp only
  refine EvP.bind (impl_FailedIds.ok _ _ (by omega)) ?_
  rintro _ rfl
  refine EvP.bind (laws_eqStringS.ok _ (by omega)) ?_
  rintro _ rfl
  refine EvP.pos rfl ?_
  refine EvP.bind (laws_heldStringS.ok _ 1 (by omega) (by omega)) ?_
  rintro _ rfl
  exact EvP.neg (by omega) (EvP.pos rfl (EvP.now rfl))
end QFnExactFailedIds
end Go.Proofs.Ytfpoihcpjmkbkaa.Pure

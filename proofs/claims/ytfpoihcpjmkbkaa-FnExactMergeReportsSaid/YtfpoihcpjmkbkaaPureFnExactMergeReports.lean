/- FnExactMergeReports answers true for all pairs of reports: the program's MergeReports returns what the reference's returns, shares no memory with its arguments, and leaves them as they are. Conditions: those of the printed statement alone (bounds on sizes that every input meets). -/
import Derived.Test.YtfpoihcpjmkbkaaOFnExactMergeReportsx7
import Derived.Test.YtfpoihcpjmkbkaaBase
namespace Go.Proofs.Ytfpoihcpjmkbkaa.Pure
open Go.RowKit Go.Proofs.Ytfpoihcpjmkbkaa.OFnExactMergeReports Go.Proofs.YtfpoihcpjmkbkaaW.PrintWords Go.Proofs.YtfpoihcpjmkbkaaW.PrintLast Go.Proofs.YtfpoihcpjmkbkaaW.PrintMore Go.Proofs.Ytfpoihcpjmkbkaa.Base
set_option linter.unusedVariables false
set_option linter.unusedSimpArgs false
namespace QFnExactMergeReports
def Q80 (x : S80) : Prop := (x.f0.size ≤ 9223372036854775807) ∧ ((Lit.int .i64 x.f1).wf = true)
def cResult (x : S80) : S37 := ⟨x.f0, x.f1⟩
theorem laws_szResult.ok (x : S80) (h : Q80 x) (left : Int) (h0 : 0 ≤ left) (h1 : left ≤ 1048576) : EvP (fun _ => laws_szResult.f x.f0 x.f1 left) (fun r => r < 0 ∨ (0 ≤ r ∧ r ≤ left)) := by
  unfold laws_szResult.f
  have := h.1
  rw [wrap_id (by omega) (by omega)]
  exact EvP.ite (fun _ => EvP.now (.inl (by omega))) (fun _ => EvP.now (.inr (by omega)))
theorem laws_szResultS.ok (l : List S80) (hl : l.length ≤ 9223372036854775807) (hq : ∀ x ∈ l, Q80 x) (left : Int) (h0 : 0 ≤ left) (h1 : left ≤ 1048576) :
    EvP (fun k => laws_szResultS.f k l left) (fun r => r < 0 ∨ (0 ≤ r ∧ r + l.length ≤ left)) := by
  unfold laws_szResultS.f
  rw [wrap_id (by omega) (by omega)]
  refine EvP.ite (fun _ => EvP.now (.inl (by omega))) (fun hn => ?_)
  refine EvP.range (L := fun k s i => laws_szResultS.l0 k l s i) (xs := l) (Inv := fun _ s => 0 ≤ s ∧ s + l.length ≤ left) ?_ ?_ _ ⟨by omega, by omega⟩
  · rintro pre x rest s hx ⟨a0, a1⟩ ih
    have hlt := len_at hx
    have hr : rd_T80 l (pre.length : Int) = x := getD_at hx _
    simp only [laws_szResultS.l0, hr, wrap_at hx (by omega)]
    refine EvP.pos hlt (EvP.pos (nat_nonneg _) ?_)
    refine EvP.bind (laws_szResult.ok x (hq x (by rw [hx]; simp)) s a0 (by omega)) ?_
    rintro r (g | ⟨g0, g1⟩)
    · exact EvP.pos g (EvP.now (.inl (by omega)))
    · exact EvP.neg (by omega) (ih r ⟨g0, by omega⟩)
  · rintro s ⟨a0, a1⟩
    simp only [laws_szResultS.l0]
    exact EvP.neg (by omega) (EvP.now (.inr ⟨a0, a1⟩))
theorem laws_szStringS.ok (l : List ByteArray) (hl : l.length ≤ 9223372036854775807) (hq : ∀ x ∈ l, x.size ≤ 9223372036854775807) (left : Int) (h0 : 0 ≤ left) (h1 : left ≤ 1048576) :
    EvP (fun k => laws_szStringS.f k l left) (fun r => r < 0 ∨ (0 ≤ r ∧ r + l.length ≤ left)) := by
  unfold laws_szStringS.f
  rw [wrap_id (by omega) (by omega)]
  refine EvP.ite (fun _ => EvP.now (.inl (by omega))) (fun hn => ?_)
  refine EvP.range (L := fun k s i => laws_szStringS.l0 k l s i) (xs := l) (Inv := fun _ s => 0 ≤ s ∧ s + l.length ≤ left) ?_ ?_ _ ⟨by omega, by omega⟩
  · rintro pre x rest s hx ⟨a0, a1⟩ ih
    have hlt := len_at hx
    have hr : rdOf ByteArray.empty l (pre.length : Int) = x := getD_at hx _
    have hxs := hq x (by rw [hx]; simp)
    simp only [laws_szStringS.l0, hr, wrap_at hx (by omega), wrap_id (x := s - (x.size : Int)) (by omega) (by omega)]
    refine EvP.pos hlt (EvP.pos (nat_nonneg _) ?_)
    exact EvP.ite (fun _ => EvP.now (.inl (by omega))) (fun hs => ih _ ⟨by omega, by omega⟩)
  · rintro s ⟨a0, a1⟩
    simp only [laws_szStringS.l0]
    exact EvP.neg (by omega) (EvP.now (.inr ⟨a0, a1⟩))
theorem laws_szReport.ok (rs : List S80) (ds : List ByteArray) (hq : (rs.length ≤ 9223372036854775807 ∧ ∀ y ∈ rs, Q80 y) ∧ (ds.length ≤ 9223372036854775807 ∧ ∀ y ∈ ds, y.size ≤ 9223372036854775807)) (left : Int) (h0 : 0 ≤ left) (h1 : left ≤ 1048576) :
    EvP (fun k => laws_szReport.f k rs ds left) (fun r => r < 0 ∨ (0 ≤ r ∧ r + rs.length + ds.length ≤ left)) := by
  unfold laws_szReport.f
  refine EvP.bind (laws_szResultS.ok rs hq.1.1 hq.1.2 left h0 h1) ?_
  rintro r (g | ⟨g0, g1⟩)
  · exact EvP.pos g (EvP.now (.inl (by omega)))
  refine EvP.neg (by omega) ?_
  refine EvP.bind (laws_szStringS.ok ds hq.2.1 hq.2.2 r g0 (by omega)) ?_
  rintro u (k | ⟨k0, k1⟩)
  · exact EvP.pos k (EvP.now (.inl (by omega)))
  exact EvP.neg (by omega) (EvP.now (.inr ⟨k0, by omega⟩))
theorem laws_toResult.ok (x : S80) : EvP (fun _ => laws_toResult.f x.f0 x.f1) (fun r => (⟨r.1, r.2⟩ : S37) = cResult x) := by
  unfold laws_toResult.f
  exact EvP.now rfl
theorem laws_toResultS.ok (l : List S80) (hl : (l.length : Int) ≤ 1048576) : EvP (fun k => laws_toResultS.f k l) (· = l.map cResult) := by
  unfold laws_toResultS.f
  refine EvP.pos (by omega) (EvP.pos (by omega) ?_)
  rw [Int.toNat_natCast]
  refine EvP.fill (L := fun k s i => laws_toResultS.l0 k l s i) (xs := l) cResult _ ?_ ?_
  · intro pre x rest s hx hs ih
    have hlt := len_at hx
    have hr : rd_T80 l (pre.length : Int) = x := getD_at hx _
    simp only [laws_toResultS.l0, hr, wrap_at hx (by omega)]
    refine EvP.pos hlt (EvP.pos (nat_nonneg _) ?_)
    refine EvP.bind (laws_toResult.ok x) ?_
    intro r g
    rw [g]
    exact EvP.pos (by omega) ih
  · intro s
    simp only [laws_toResultS.l0]
    exact EvP.neg (by omega) (EvP.now rfl)
theorem laws_toStringS.ok (l : List ByteArray) (hl : (l.length : Int) ≤ 1048576) : EvP (fun k => laws_toStringS.f k l) (· = l) := by
  have main : EvP (fun k => laws_toStringS.f k l) (· = l.map id) := by
    unfold laws_toStringS.f
    refine EvP.pos (by omega) (EvP.pos (by omega) ?_)
    rw [Int.toNat_natCast]
    refine EvP.fill (L := fun k s i => laws_toStringS.l0 k l s i) (xs := l) id _ ?_ ?_
    · intro pre x rest s hx hs ih
      have hlt := len_at hx
      have hr : rdOf ByteArray.empty l (pre.length : Int) = x := getD_at hx _
      simp only [laws_toStringS.l0, hr, wrap_at hx (by omega)]
      exact EvP.pos hlt (EvP.pos (nat_nonneg _) (EvP.pos (by omega) ih))
    · intro s
      simp only [laws_toStringS.l0]
      exact EvP.neg (by omega) (EvP.now rfl)
  simpa using main
theorem laws_toReport.ok (rs : List S80) (ds : List ByteArray) (h1 : (rs.length : Int) ≤ 1048576) (h2 : (ds.length : Int) ≤ 1048576) : EvP (fun k => laws_toReport.f k rs ds) (· = (rs.map cResult, ds)) := by
  unfold laws_toReport.f
  refine EvP.bind (laws_toResultS.ok rs h1) ?_
  rintro _ rfl
  refine EvP.bind (laws_toStringS.ok ds h2) ?_
  rintro _ rfl
  exact EvP.now rfl
theorem laws_eqStringS.ok (l : List ByteArray) (hl : (l.length : Int) ≤ 9223372036854775807) : EvP (fun k => laws_eqStringS.f k l l) (· = true) := by
  unfold laws_eqStringS.f
  refine EvP.pos rfl ?_
  refine EvP.range (L := fun k (_ : Unit) i => laws_eqStringS.l0 k l l i) (xs := l) (Inv := fun _ _ => True) ?_ ?_ () trivial
  · rintro pre x rest s hx _ ih
    have hlt := len_at hx
    simp only [laws_eqStringS.l0, wrap_at hx hl]
    exact EvP.pos hlt (EvP.pos (nat_nonneg _) (EvP.pos hlt (EvP.pos trivial (ih () trivial))))
  · rintro s _
    simp only [laws_eqStringS.l0]
    exact EvP.neg (by omega) (EvP.now rfl)
theorem laws_eqResultS.ok (l : List S37) (hl : (l.length : Int) ≤ 9223372036854775807) : EvP (fun k => laws_eqResultS.f k l l) (· = true) := by
  unfold laws_eqResultS.f
  refine EvP.pos rfl ?_
  refine EvP.range (L := fun k (_ : Unit) i => laws_eqResultS.l0 k l l i) (xs := l) (Inv := fun _ _ => True) ?_ ?_ () trivial
  · rintro pre x rest s hx _ ih
    have hlt := len_at hx
    have hr : rd_T37 l (pre.length : Int) = x := getD_at hx _
    simp only [laws_eqResultS.l0, hr, wrap_at hx hl]
    refine EvP.pos hlt (EvP.pos (nat_nonneg _) (EvP.pos hlt ?_))
    refine EvP.bind (P := (· = true)) ?_ ?_
    · unfold laws_eqResult.f
      exact EvP.pos rfl (EvP.pos rfl (EvP.now rfl))
    · rintro _ rfl
      exact EvP.pos rfl (ih () trivial)
  · rintro s _
    simp only [laws_eqResultS.l0]
    exact EvP.neg (by omega) (EvP.now rfl)
theorem laws_eqReport.ok (rs : List S37) (ds : List ByteArray) (h1 : (rs.length : Int) ≤ 9223372036854775807) (h2 : (ds.length : Int) ≤ 9223372036854775807) : EvP (fun k => laws_eqReport.f k rs ds rs ds) (· = true) := by
  unfold laws_eqReport.f
  refine EvP.bind (laws_eqResultS.ok rs h1) ?_
  rintro _ rfl
  refine EvP.pos rfl ?_
  refine EvP.bind (laws_eqStringS.ok ds h2) ?_
  rintro _ rfl
  exact EvP.pos rfl (EvP.now rfl)
/-! #### marks -/
theorem strOf_one (n : Int) : (strOfNums [n]).size = 1 := rfl
theorem laws_markText.all (n : Int) (h0 : 0 ≤ n) (h1 : n ≤ 9223372036854775807) : EvP (fun k => laws_markText.f k n) (fun _ => True) := by
  unfold laws_markText.f
  refine EvP.ite (fun _ => EvP.now trivial) (fun hn => ?_)
  have loop : ∀ (d : Nat) (x : Int) (s : ByteArray), x.toNat < d → 0 ≤ x → x ≤ 9223372036854775807 → (s.size : Int) + x ≤ 9223372036854775807 + 0 ∨ s.size ≤ 20 ∧ x < 10 ^ (20 - s.size) → s.size ≤ 20 ∧ x < 10 ^ (20 - s.size) →
      EvP (fun k => laws_markText.l0 k x s) (fun _ => True) := by
    intro d
    induction d with
    | zero => intro x s a0; omega
    | succ d ih =>
      intro x s a0 a1 a2 _ a3
      refine EvP.succ ?_
      simp only [laws_markText.l0]
      refine EvP.ite (fun hx => ?_) (fun hx => EvP.pos (by omega) (EvP.now trivial))
      have hd : s.size ≠ 20 := by
        intro e
        rw [e] at a3
        simp at a3
        omega
      refine EvP.bind (P := fun y => (strOfNums y).size = 1) (EvP.now (strOf_one _)) ?_
      intro y hy
      refine EvP.pos (by omega) ?_
      have e1 : Int.tdiv x 10 = x / 10 := Int.tdiv_eq_ediv_of_nonneg a1
      rw [e1, wrap_id (by omega) (by omega)]
      have e2 : (strOfNums y ++ s).size = s.size + 1 := by rw [ByteArray.size_append, hy]; omega
      have e3 : x / 10 < 10 ^ (20 - (strOfNums y ++ s).size) := by
        rw [e2]
        have : (10 : Int) ^ (20 - s.size) = 10 ^ (20 - (s.size + 1)) * 10 := by
          rw [← Int.pow_succ]
          congr 1
          omega
        have h3 := a3.2
        rw [this] at h3
        omega
      exact ih _ _ (by omega) (by omega) (by omega) (.inr ⟨by omega, e3⟩) ⟨by omega, e3⟩
  refine loop (n.toNat + 1) n _ (by omega) (by omega) h1 (.inr ⟨by decide, ?_⟩) ⟨by decide, ?_⟩
  · have : (10 : Int) ^ (20 - (⟨#[]⟩ : ByteArray).size) = 100000000000000000000 := by decide
    omega
  · have : (10 : Int) ^ (20 - (⟨#[]⟩ : ByteArray).size) = 100000000000000000000 := by decide
    omega
noncomputable def mkT (n : Int) : ByteArray := endOf ByteArray.empty (fun k => laws_markText.f k n)
theorem laws_markText.ok (n : Int) (h0 : 0 ≤ n) (h1 : n ≤ 9223372036854775807) : EvP (fun k => laws_markText.f k n) (· = mkT n) := (laws_markText.all n h0 h1).ended _
noncomputable def marks (n : Int) (m : Nat) : List ByteArray := (List.range m).map fun (i : Nat) => mkT (n + (i : Int))
theorem marks_len (n : Int) (m : Nat) : (marks n m).length = m := by simp [marks]
theorem marks_snoc (n : Int) (m : Nat) : marks n (m + 1) = marks n m ++ [mkT (n + m)] := by simp [marks, List.range_succ]
theorem laws_markStringS.ok (l : List ByteArray) (n : Int) (h0 : 0 ≤ n) (h1 : n + l.length ≤ 1000000000) : EvP (fun k => laws_markStringS.f k l n) (fun r => r.1 = n + l.length ∧ r.2 = marks n l.length) := by
  unfold laws_markStringS.f
  refine EvP.upto (L := fun k (s : List ByteArray × Int) i => laws_markStringS.l0 k s.1 s.2 i) (n := l.length) (Inv := fun i s => s.1.length = l.length ∧ s.1.take i = marks n i ∧ s.2 = n + i) ?_ ?_ (l, n) ⟨rfl, by simp [marks], by simp⟩
  · rintro i ⟨s, m⟩ hi ⟨a0, a1, a2⟩ ih
    simp only at a0 a1 a2
    subst a2
    simp only [laws_markStringS.l0]
    refine EvP.pos (by omega) ?_
    refine EvP.bind (laws_markText.ok _ (by omega) (by omega)) ?_
    rintro _ rfl
    refine EvP.pos (by omega) ?_
    rw [wrap_id (x := n + (i : Int) + 1) (by omega) (by omega), wrap_id (x := (i : Int) + 1) (by omega) (by omega), Int.toNat_natCast]
    refine ih (s.set i (mkT (n + i)), n + (i : Int) + 1) ⟨by simpa using a0, ?_, by simp only; omega⟩
    rw [take_set _ _ _ (by omega), a1, marks_snoc]
  · rintro ⟨s, m⟩ ⟨a0, a1, a2⟩
    simp only at a0 a1 a2
    simp only [laws_markStringS.l0]
    refine EvP.neg (by omega) (EvP.now ⟨a2, ?_⟩)
    simp only
    rw [← a1, List.take_of_length_le (by omega)]
theorem laws_heldStringS.ok (m : Nat) (n : Int) (h0 : 0 ≤ n) (h1 : n + m ≤ 1000000000) : EvP (fun k => laws_heldStringS.f k (marks n m) n) (· = n + m) := by
  unfold laws_heldStringS.f
  have hm := marks_len n m
  refine EvP.upto (L := fun k s i => laws_heldStringS.l0 k (marks n m) s i) (n := m) (Inv := fun i s => s = n + i) ?_ ?_ n (by simp)
  · rintro i s hi rfl ih
    simp only [laws_heldStringS.l0]
    have hr : rdOf ByteArray.empty (marks n m) (i : Int) = mkT (n + i) := by
      unfold rdOf marks
      rw [Int.toNat_natCast, List.getD_eq_getElem?_getD, List.getElem?_map, List.getElem?_range hi]
      rfl
    refine EvP.pos (by omega) (EvP.pos (by omega) ?_)
    refine EvP.bind (laws_markText.ok _ (by omega) (by omega)) ?_
    rintro _ rfl
    rw [hr, wrap_id (x := n + (i : Int) + 1) (by omega) (by omega), wrap_id (x := (i : Int) + 1) (by omega) (by omega)]
    exact EvP.pos rfl (ih _ (by omega))
  · rintro s rfl
    simp only [laws_heldStringS.l0]
    exact EvP.neg (by omega) (EvP.now rfl)
/-! #### marks in reports, and what is held of them -/
noncomputable def markedR (n : Int) : List S37 → List S37
  | [] => []
  | x :: l => ⟨mkT n, n + 1⟩ :: markedR (n + 2) l
theorem markedR_len (l : List S37) : ∀ n, (markedR n l).length = l.length := by
  induction l with
  | nil => exact fun _ => rfl
  | cons x l ih => intro n; rw [markedR, List.length_cons, List.length_cons, ih]
theorem laws_markResultS.ok (l : List S37) (n : Int) (h0 : 0 ≤ n) (h1 : n + 2 * l.length ≤ 1000000000) : EvP (fun k => laws_markResultS.f k l n) (· = (n + 2 * l.length, markedR n l)) := by
  unfold laws_markResultS.f
  have key : ∀ (rest pre : List S37) (m : Int), 0 ≤ m → m + 2 * rest.length ≤ 1000000000 → (pre.length : Int) + rest.length ≤ 1000000000 → EvP (fun k => laws_markResultS.l0 k (pre ++ rest) m (pre.length : Int)) (· = (m + 2 * rest.length, pre ++ markedR m rest)) := by
    intro rest
    induction rest with
    | nil =>
      intro pre m _ _ _
      refine EvP.succ ?_
      simp only [laws_markResultS.l0]
      exact EvP.neg (by simp) (EvP.now (by simp [markedR]))
    | cons x rest ih =>
      intro pre m g0 g1 g2
      rw [List.length_cons] at g1 g2
      refine EvP.succ ?_
      have hr : rd_T37 (pre ++ x :: rest) (pre.length : Int) = x := getD_at rfl _
      simp only [laws_markResultS.l0, hr]
      refine EvP.pos (by simp; omega) ?_
      refine EvP.bind (laws_markText.ok m g0 (by omega)) ?_
      rintro _ rfl
      refine EvP.pos (nat_nonneg _) ?_
      refine EvP.bind (P := (· = pre ++ (⟨mkT m, x.f1⟩ : S37) :: rest)) (EvP.now (by simp)) ?_
      rintro _ rfl
      have hr2 : rd_T37 (pre ++ (⟨mkT m, x.f1⟩ : S37) :: rest) (pre.length : Int) = ⟨mkT m, x.f1⟩ := getD_at rfl _
      have e : (pre ++ (⟨mkT m, x.f1⟩ : S37) :: rest).set ((pre.length : Nat) : Int).toNat (⟨mkT m, m + 1⟩ : S37) = (pre ++ [⟨mkT m, m + 1⟩]) ++ rest := by simp
      rw [hr2]
      dsimp only
      rw [wrap_id (x := m + 1) (by omega) (by omega), e, wrap_id (x := m + 1 + 1) (by omega) (by omega), wrap_id (x := (pre.length : Int) + 1) (by omega) (by omega), show (pre.length : Int) + 1 = ((pre ++ [(⟨mkT m, m + 1⟩ : S37)]).length : Int) by simp, show m + 1 + 1 = m + 2 by omega]
      refine (ih _ (m + 2) (by omega) (by omega) (by simp; omega)).mono ?_
      rintro _ rfl
      rw [List.length_cons, markedR]
      refine Prod.ext ?_ ?_
      · simp only; omega
      · simp
  exact key l [] n h0 h1 (by simp; omega)
theorem laws_heldResultS.ok (l : List S37) (n : Int) (h0 : 0 ≤ n) (h1 : n + 2 * l.length ≤ 1000000000) : EvP (fun k => laws_heldResultS.f k (markedR n l) n) (· = n + 2 * l.length) := by
  unfold laws_heldResultS.f
  have key : ∀ (rest pre : List S37) (a : Int), 0 ≤ a → a + 2 * rest.length ≤ 1000000000 → (pre.length : Int) + rest.length ≤ 1000000000 → EvP (fun k => laws_heldResultS.l0 k (pre ++ markedR a rest) a (pre.length : Int)) (· = a + 2 * rest.length) := by
    intro rest
    induction rest with
    | nil =>
      intro pre a _ _ _
      refine EvP.succ ?_
      simp only [laws_heldResultS.l0]
      exact EvP.neg (by simp [markedR]) (EvP.now (by simp))
    | cons x rest ih =>
      intro pre a g0 g1 g2
      rw [List.length_cons] at g1 g2
      rw [markedR]
      obtain ⟨Y, hY⟩ : ∃ Y, Y = pre ++ (⟨mkT a, a + 1⟩ : S37) :: markedR (a + 2) rest := ⟨_, rfl⟩
      rw [← hY]
      have hr : rd_T37 Y (pre.length : Int) = ⟨mkT a, a + 1⟩ := by rw [hY]; exact getD_at rfl _
      have hYl : Y.length = pre.length + 1 + rest.length := by rw [hY, List.length_append, List.length_cons, markedR_len]; omega
      have hY2 : Y = (pre ++ [(⟨mkT a, a + 1⟩ : S37)]) ++ markedR (a + 2) rest := by rw [hY]; simp
      clear hY
      refine EvP.succ ?_
      simp only [laws_heldResultS.l0, hr]
      refine EvP.pos (by omega) (EvP.pos (nat_nonneg _) ?_)
      refine EvP.bind (laws_markText.ok a g0 (by omega)) ?_
      rintro _ rfl
      rw [wrap_id (x := a + 1) (by omega) (by omega)]
      refine EvP.pos rfl (EvP.pos rfl ?_)
      rw [wrap_id (x := a + 1 + 1) (by omega) (by omega), wrap_id (x := (pre.length : Int) + 1) (by omega) (by omega), show (pre.length : Int) + 1 = ((pre ++ [(⟨mkT a, a + 1⟩ : S37)]).length : Int) by simp, show a + 1 + 1 = a + 2 by omega, hY2]
      refine (ih _ (a + 2) (by omega) (by omega) (by simp; omega)).mono ?_
      rintro _ rfl
      rw [List.length_cons]
      omega
  exact key l [] n h0 h1 (by simp; omega)
theorem laws_markReport.ok (rs : List S37) (ds : List ByteArray) (n : Int) (h0 : 0 ≤ n) (h1 : n + 2 * rs.length + ds.length ≤ 100000000) : EvP (fun k => laws_markReport.f k rs ds n) (· = (n + 2 * rs.length + ds.length, markedR n rs, marks (n + 2 * rs.length) ds.length)) := by
  unfold laws_markReport.f
  refine EvP.bind (laws_markResultS.ok rs n h0 (by omega)) ?_
  rintro _ rfl
  refine EvP.bind (laws_markStringS.ok ds _ (by dsimp only; omega) (by dsimp only; omega)) ?_
  rintro ⟨m, l⟩ ⟨e, e2⟩
  dsimp only at e e2
  subst e e2
  exact EvP.now rfl
theorem laws_heldReport.ok (rs : List S37) (d : Nat) (n : Int) (h0 : 0 ≤ n) (h1 : n + 2 * rs.length + d ≤ 100000000) : EvP (fun k => laws_heldReport.f k (markedR n rs) (marks (n + 2 * rs.length) d) n) (· = n + 2 * rs.length + d) := by
  unfold laws_heldReport.f
  refine EvP.bind (laws_heldResultS.ok rs n h0 (by omega)) ?_
  rintro _ rfl
  refine EvP.neg (by omega) ?_
  refine EvP.bind (laws_heldStringS.ok d _ (by omega) (by omega)) ?_
  rintro _ rfl
  exact EvP.neg (by omega) (EvP.now rfl)
/-- The outcome of the first result of an id, -1 if there is none. -/
def ocOf (rs : List S37) (id : ByteArray) : Int := ((rs.find? fun x => decide (x.f0.toList = id.toList)).map (·.f1)).getD (-1)
def noId (rs : List S37) (id : ByteArray) : Prop := ∀ x ∈ rs, x.f0.toList ≠ id.toList
theorem noId_snoc {rs : List S37} {id : ByteArray} {x : S37} (h : noId rs id) (e : x.f0.toList ≠ id.toList) : noId (rs ++ [x]) id := by
  intro y hy
  rcases List.mem_append.1 hy with hy | hy
  · exact h y hy
  · rw [List.mem_singleton.1 hy]
    exact e
theorem find_none {rs : List S37} {id : ByteArray} (h : noId rs id) : rs.find? (fun x => decide (x.f0.toList = id.toList)) = none := by
  rw [List.find?_eq_none]
  intro x hx
  simpa using h x hx
theorem ocOf_none {rs : List S37} {id : ByteArray} (h : noId rs id) : ocOf rs id = -1 := by
  unfold ocOf
  rw [find_none h]
  rfl
theorem ocOf_some {rs pre rest : List S37} {x : S37} {id : ByteArray} (hx : rs = pre ++ x :: rest) (h : noId pre id) (e : x.f0.toList = id.toList) : ocOf rs id = x.f1 := by
  subst hx
  unfold ocOf
  rw [List.find?_append, find_none h]
  simp [e]
theorem impl_OutcomeOf.ok (rs : List S37) (ds : List ByteArray) (id : ByteArray) (h : (rs.length : Int) ≤ 9223372036854775807) : EvP (fun k => impl_OutcomeOf.f k rs ds id) (· = ocOf rs id) := by
  unfold impl_OutcomeOf.f
  refine EvP.range (L := fun k (_ : Unit) i => impl_OutcomeOf.l0 k id rs (rs.length : Int) i) (xs := rs) (Inv := fun pre _ => noId pre id) ?_ ?_ () (fun x hx => by cases hx)
  · intro pre x rest s hx hi ih
    have hl := len_at hx
    have hr : rd_T37 rs (pre.length : Int) = x := getD_at hx _
    simp only [impl_OutcomeOf.l0, hr, wrap_at hx h]
    refine EvP.pos hl (EvP.pos (nat_nonneg _) (EvP.pos hl ?_))
    exact EvP.ite (fun e => EvP.now (ocOf_some hx hi e).symm) (fun e => ih () (noId_snoc hi e))
  · intro s hi
    simp only [impl_OutcomeOf.l0]
    exact EvP.neg (by omega) (EvP.now (ocOf_none hi).symm)
def mrg1 (b l : List S37) : List S37 := l.map fun r => ⟨r.f0, if ocOf b r.f0 ≥ 0 then ocOf b r.f0 else r.f1⟩
def mrg2 (a l : List S37) : List S37 := l.filter fun r => decide (ocOf a r.f0 < 0)
def mrg (a b : List S37) : List S37 := mrg1 b a ++ mrg2 a b
theorem slices_Clone_string_string.ok (l : List ByteArray) (h : (l.length : Int) ≤ 4398046511104) : EvP (fun (_ : Nat) => slices_Clone_string_string.f l) (· = l) := by
  unfold slices_Clone_string_string.f
  exact EvP.pos (by omega) (EvP.now rfl)
theorem impl_MergeReports.ok (a : List S37) (da : List ByteArray) (b : List S37) (db : List ByteArray) (ha : (a.length : Int) ≤ 1048576) (hb : (b.length : Int) ≤ 1048576) (hda : (da.length : Int) ≤ 1048576) (hdb : (db.length : Int) ≤ 1048576) : EvP (fun k => impl_MergeReports.f k a da b db) (· = (mrg a b, da ++ db)) := by
  unfold impl_MergeReports.f
  refine EvP.range (L := fun k s i => impl_MergeReports.l0 k a (a.length : Int) i a da b db s) (xs := a) (Inv := fun pre s => s = mrg1 b pre) ?_ ?_ [] rfl
  · rintro pre x rest s hx rfl ih
    have hl := len_at hx
    have hw : (mrg1 b pre).length = pre.length := by simp [mrg1]
    have hr : rd_T37 a (pre.length : Int) = x := getD_at hx _
    simp only [impl_MergeReports.l0, hr, wrap_at hx (show (a.length : Int) ≤ 9223372036854775807 by omega)]
    refine EvP.pos hl (EvP.pos (nat_nonneg _) (EvP.pos hl ?_))
    refine EvP.bind (impl_OutcomeOf.ok b db x.f0 (by omega)) ?_
    rintro _ rfl
    refine EvP.ite (fun e => EvP.pos (by omega) (ih _ ?_)) (fun e => EvP.pos (by omega) (ih _ ?_))
    · unfold mrg1
      rw [List.map_append, List.map_cons, if_pos e]
      rfl
    · unfold mrg1
      rw [List.map_append, List.map_cons, if_neg e]
      rfl
  · rintro s rfl
    have hw : (mrg1 b a).length = a.length := by simp [mrg1]
    simp only [impl_MergeReports.l0]
    refine EvP.neg (by omega) ?_
    refine EvP.range (L := fun k s i => impl_MergeReports.l1 k b (b.length : Int) i a da b db s) (xs := b) (Inv := fun pre s => s = mrg1 b a ++ mrg2 a pre) ?_ ?_ _ (by simp [mrg2])
    · rintro pre x rest s hx rfl ih
      have hl := len_at hx
      have hw2 : (mrg2 a pre).length ≤ pre.length := List.length_filter_le _ _
      have hr : rd_T37 b (pre.length : Int) = x := getD_at hx _
      simp only [impl_MergeReports.l1, hr, wrap_at hx (show (b.length : Int) ≤ 9223372036854775807 by omega)]
      refine EvP.pos hl (EvP.pos (nat_nonneg _) (EvP.pos hl ?_))
      refine EvP.bind (impl_OutcomeOf.ok a da x.f0 (by omega)) ?_
      rintro _ rfl
      refine EvP.ite (fun e => EvP.pos (by rw [List.length_append]; omega) (ih _ ?_)) (fun e => ih _ ?_)
      · unfold mrg2
        rw [List.filter_append, List.filter_cons, if_pos (decide_eq_true e)]
        simp
      · unfold mrg2
        rw [List.filter_append, List.filter_cons, if_neg (by simpa using e)]
        simp
    · rintro s rfl
      simp only [impl_MergeReports.l1]
      refine EvP.neg (by omega) ?_
      refine EvP.bind (slices_Clone_string_string.ok da (by omega)) ?_
      intro r hr
      rw [hr]
      exact EvP.pos (by omega) (EvP.now rfl)
theorem spec_outcomeOf.ok (rs : List S37) (id : ByteArray) (h : (rs.length : Int) ≤ 9223372036854775807) : EvP (fun k => spec_outcomeOf.f k rs id) (· = ocOf rs id) := by
  unfold spec_outcomeOf.f
  refine EvP.range (L := fun k (_ : Unit) i => spec_outcomeOf.l0 k rs id i) (xs := rs) (Inv := fun pre _ => noId pre id) ?_ ?_ () (fun x hx => by cases hx)
  · intro pre x rest s hx hi ih
    have hl := len_at hx
    have hr : rd_T37 rs (pre.length : Int) = x := getD_at hx _
    simp only [spec_outcomeOf.l0, hr, wrap_at hx h]
    refine EvP.pos hl (EvP.pos (nat_nonneg _) ?_)
    exact EvP.ite (fun e => EvP.now (ocOf_some hx hi e).symm) (fun e => ih () (noId_snoc hi e))
  · intro s hi
    simp only [spec_outcomeOf.l0]
    exact EvP.neg (by omega) (EvP.now (ocOf_none hi).symm)
theorem spec_MergeReports.ok (a : List S37) (da : List ByteArray) (b : List S37) (db : List ByteArray) (ha : (a.length : Int) ≤ 1048576) (hb : (b.length : Int) ≤ 1048576) (hda : (da.length : Int) ≤ 1048576) (hdb : (db.length : Int) ≤ 1048576) : EvP (fun k => spec_MergeReports.f k a da b db) (· = (mrg a b, da ++ db)) := by
  unfold spec_MergeReports.f
  refine EvP.bind (P := (· = [])) (EvP.now rfl) ?_
  rintro _ rfl
  refine EvP.pos (by simp only [List.length_nil]; omega) ?_
  refine EvP.bind (P := (· = [])) (EvP.now rfl) ?_
  rintro _ rfl
  refine EvP.pos (by simp only [List.length_nil]; omega) ?_
  refine EvP.bind (P := fun r => r = da) (EvP.now (List.nil_append _)) ?_
  intro r hr
  rw [hr, List.nil_append]
  clear hr r
  refine EvP.pos (by omega) ?_
  refine EvP.range (L := fun k s i => spec_MergeReports.l0 k i a da b db s (da ++ db)) (xs := a) (Inv := fun pre s => ∃ rest, a = pre ++ rest ∧ s = mrg1 b pre ++ rest) ?_ ?_ _ ⟨a, rfl, rfl⟩
  · rintro pre x rest s hx ⟨rest2, e1, rfl⟩ ih
    have er : rest2 = x :: rest := by
      rw [hx] at e1
      exact (List.append_cancel_left e1).symm
    subst er
    have hl := len_at hx
    have hw : (mrg1 b pre).length = pre.length := by simp [mrg1]
    have hr : rd_T37 (mrg1 b pre ++ x :: rest) (pre.length : Int) = x := by
      have := getD_at (xs := mrg1 b pre ++ x :: rest) rfl z37
      rw [hw] at this
      exact this
    simp only [spec_MergeReports.l0, hr, wrap_at hx (show (a.length : Int) ≤ 9223372036854775807 by omega)]
    refine EvP.pos (by rw [List.length_append, List.length_cons]; omega) (EvP.pos (nat_nonneg _) ?_)
    refine EvP.bind (spec_outcomeOf.ok b x.f0 (by omega)) ?_
    rintro _ rfl
    refine EvP.ite (fun e => ih _ ⟨rest, by rw [hx]; simp, ?_⟩) (fun e => ih _ ⟨rest, by rw [hx]; simp, ?_⟩)
    · rw [Int.toNat_natCast, ← hw, List.set_append_right _ _ (Nat.le_refl _)]
      simp [mrg1, e]
    · simp [mrg1, e]
  · rintro s ⟨rest, e1, rfl⟩
    have er : rest = [] := by
      have : (a ++ rest).length = a.length := by rw [← e1]
      rw [List.length_append] at this
      exact List.eq_nil_of_length_eq_zero (by omega)
    subst er
    have hw : (mrg1 b a).length = a.length := by simp [mrg1]
    rw [List.append_nil]
    simp only [spec_MergeReports.l0]
    refine EvP.neg (by omega) ?_
    refine EvP.range (L := fun k s i => spec_MergeReports.l1 k i a da b db s (da ++ db)) (xs := b) (Inv := fun pre s => s = mrg1 b a ++ mrg2 a pre) ?_ ?_ _ (by simp [mrg2])
    · rintro pre x rest s hx rfl ih
      have hl := len_at hx
      have hw2 : (mrg2 a pre).length ≤ pre.length := List.length_filter_le _ _
      have hr : rd_T37 b (pre.length : Int) = x := getD_at hx _
      simp only [spec_MergeReports.l1, hr, wrap_at hx (show (b.length : Int) ≤ 9223372036854775807 by omega)]
      refine EvP.pos hl (EvP.pos (nat_nonneg _) ?_)
      refine EvP.bind (spec_outcomeOf.ok a x.f0 (by omega)) ?_
      rintro _ rfl
      refine EvP.ite (fun e => EvP.pos (by rw [List.length_append]; omega) (ih _ ?_)) (fun e => ih _ ?_)
      · unfold mrg2
        rw [List.filter_append, List.filter_cons, if_pos (decide_eq_true e)]
        simp
      · unfold mrg2
        rw [List.filter_append, List.filter_cons, if_neg (by simpa using e)]
        simp
    · rintro s rfl
      simp only [spec_MergeReports.l1]
      exact EvP.neg (by omega) (EvP.now rfl)
theorem mrg_le (a b : List S37) : (mrg a b).length ≤ a.length + b.length := by
  unfold mrg mrg1 mrg2
  rw [List.length_append, List.length_map]
  have := List.length_filter_le (fun r : S37 => decide (ocOf a r.f0 < 0)) b
  omega
theorem main (rs : List S80) (ds : List ByteArray) (hq : (rs.length ≤ 9223372036854775807 ∧ ∀ y ∈ rs, Q80 y) ∧ (ds.length ≤ 9223372036854775807 ∧ ∀ y ∈ ds, y.size ≤ 9223372036854775807)) (rs2 : List S80) (ds2 : List ByteArray) (hq2 : (rs2.length ≤ 9223372036854775807 ∧ ∀ y ∈ rs2, Q80 y) ∧ (ds2.length ≤ 9223372036854775807 ∧ ∀ y ∈ ds2, y.size ≤ 9223372036854775807)) : ∃ k, laws_FnExactMergeReports.f k rs ds rs2 ds2 = some true := by
  refine EvP.rounds ?_
  unfold laws_FnExactMergeReports.f
  refine EvP.bind (laws_szReport.ok rs ds hq _ (by omega) (by omega)) ?_
  rintro r (g | ⟨g0, g1⟩)
  · exact EvP.pos g (EvP.now rfl)
  refine EvP.neg (by omega) ?_
  refine EvP.bind (laws_szReport.ok rs2 ds2 hq2 _ (by omega) (by omega)) ?_
  rintro r2 (g | ⟨g2, g3⟩)
  · exact EvP.pos g (EvP.now rfl)
  refine EvP.neg (by omega) ?_
  have n1 : (rs.length : Int) ≤ 1048576 := by omega
  have n2 : (ds.length : Int) ≤ 1048576 := by omega
  have n3 : (rs2.length : Int) ≤ 1048576 := by omega
  have n4 : (ds2.length : Int) ≤ 1048576 := by omega
  have m1 : ((rs.map cResult).length : Int) ≤ 1048576 := by simpa using n1
  have m2 : ((rs2.map cResult).length : Int) ≤ 1048576 := by simpa using n3
  have hb := mrg_le (rs.map cResult) (rs2.map cResult)
  have hd : (ds ++ ds2).length = ds.length + ds2.length := List.length_append
  have T1 := laws_toReport.ok rs ds n1 n2
  have T2 := laws_toReport.ok rs2 ds2 n3 n4
  have D := impl_MergeReports.ok (rs.map cResult) ds (rs2.map cResult) ds2 m1 m2 n2 n4
  have E := laws_eqReport.ok (mrg (rs.map cResult) (rs2.map cResult)) (ds ++ ds2) (by omega) (by omega)
  refine EvP.bind T1 ?_
  rintro _ rfl
  refine EvP.bind T2 ?_
  rintro _ rfl
  dsimp only
  refine EvP.bind (spec_MergeReports.ok _ _ _ _ m1 m2 n2 n4) ?_
  rintro _ rfl
  refine EvP.bind T1 ?_
  rintro _ rfl
  refine EvP.bind T2 ?_
  rintro _ rfl
  dsimp only
  refine EvP.bind D ?_
  rintro _ rfl
  dsimp only
  refine EvP.bind E ?_
  rintro _ rfl
  refine EvP.pos rfl ?_
  refine EvP.bind T1 ?_
  rintro _ rfl
  dsimp only
  refine EvP.bind (laws_eqReport.ok _ _ (by omega) (by omega)) ?_
  rintro _ rfl
  refine EvP.pos rfl ?_
  refine EvP.bind T2 ?_
  rintro _ rfl
  dsimp only
  refine EvP.bind (laws_eqReport.ok _ _ (by omega) (by omega)) ?_
  rintro _ rfl
  refine EvP.pos rfl ?_
  refine EvP.bind (laws_markReport.ok _ _ 1 (by omega) (by omega)) ?_
  rintro _ rfl
  dsimp only
  refine EvP.bind (laws_markReport.ok _ _ _ (by omega) (by omega)) ?_
  rintro _ rfl
  dsimp only
  refine EvP.neg (by omega) ?_
  refine EvP.bind E ?_
  rintro _ rfl
  refine EvP.succ ?_
  simp only [laws_FnExactMergeReports.j0]
  refine EvP.neg (by simp) ?_
  refine EvP.bind (laws_markReport.ok _ _ 1 (by omega) (by omega)) ?_
  rintro _ rfl
  dsimp only
  have K := laws_heldReport.ok (mrg (rs.map cResult) (rs2.map cResult)) (ds ++ ds2).length 1 (by omega) (by omega)
  refine EvP.bind K ?_
  rintro _ rfl
  refine EvP.neg (by omega) (EvP.pos rfl ?_)
  refine EvP.bind T1 ?_
  rintro _ rfl
  refine EvP.bind T2 ?_
  rintro _ rfl
  dsimp only
  refine EvP.bind D ?_
  rintro _ rfl
  dsimp only
  refine EvP.bind E ?_
  rintro _ rfl
  refine EvP.pos rfl ?_
  refine EvP.bind K ?_
  rintro _ rfl
  exact EvP.neg (by omega) (EvP.pos rfl (EvP.now rfl))
end QFnExactMergeReports
end Go.Proofs.Ytfpoihcpjmkbkaa.Pure

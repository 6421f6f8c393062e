/- FnExactDiffReports answers true for all pairs of reports: the program's DiffReports returns what the reference's returns, shares no memory with its arguments, and leaves them as they are. Conditions: those of the printed statement alone (bounds on sizes that every input meets). -/
import Derived.Test.YtfpoihcpjmkbkaaOFnExactDiffReportsx6
import Derived.Test.YtfpoihcpjmkbkaaBase
namespace Go.Proofs.Ytfpoihcpjmkbkaa.Pure
open Go.RowKit Go.Proofs.Ytfpoihcpjmkbkaa.OFnExactDiffReports Go.Proofs.YtfpoihcpjmkbkaaW.PrintWords Go.Proofs.YtfpoihcpjmkbkaaW.PrintLast Go.Proofs.YtfpoihcpjmkbkaaW.PrintMore Go.Proofs.Ytfpoihcpjmkbkaa.Base
set_option linter.unusedVariables false
set_option linter.unusedSimpArgs false
namespace QFnExactDiffReports
def Q80 (x : S80) : Prop := (x.f0.size ≤ 9223372036854775807) ∧ ((Lit.int .i64 x.f1).wf = true)
def cResult (x : S80) : S37 := ⟨x.f0, x.f1⟩
theorem laws_szResult.ok (x : S80) (h : Q80 x) (left : Int) (h0 : 0 ≤ left) (h1 : left ≤ 1048576) : EvP (fun _ => laws_szResult.f x.f0 x.f1 left) (fun r => r < 0 ∨ (0 ≤ r ∧ r ≤ left)) := by
  unfold laws_szResult.f
  have := h.1
  rw [wrap_id (by omega) (by omega)]
  exact EvP.ite (fun _ => EvP.now (.inl (by omega))) (fun _ => EvP.now (.inr (by omega)))
theorem laws_szResultS.ok (l : List S80) (hl : l.length ≤ 9223372036854775807) (hq : ∀ x ∈ l, Q80 x) (left : Int) (h0 : 0 ≤ left) (h1 : left ≤ 1048576) :
    EvP (fun k => laws_szResultS.f k l left) (fun r => r < 0 ∨ (0 ≤ r ∧ r + l.length ≤ left)) := by
  unfold laws_szResultS.f
  rw [wrap_id (by omega) (by omega)]
  refine EvP.ite (fun _ => EvP.now (.inl (by omega))) (fun hn => ?_)
  refine EvP.range (L := fun k s i => laws_szResultS.l0 k l s i) (xs := l) (Inv := fun _ s => 0 ≤ s ∧ s + l.length ≤ left) ?_ ?_ _ ⟨by omega, by omega⟩
  · rintro pre x rest s hx ⟨a0, a1⟩ ih
    have hlt := len_at hx
    have hr : rd_T80 l (pre.length : Int) = x := getD_at hx _
    simp only [laws_szResultS.l0, hr, wrap_at hx (by omega)]
    refine EvP.pos hlt (EvP.pos (nat_nonneg _) ?_)
    refine EvP.bind (laws_szResult.ok x (hq x (by rw [hx]; simp)) s a0 (by omega)) ?_
    rintro r (g | ⟨g0, g1⟩)
    · exact EvP.pos g (EvP.now (.inl (by omega)))
    · exact EvP.neg (by omega) (ih r ⟨g0, by omega⟩)
  · rintro s ⟨a0, a1⟩
    simp only [laws_szResultS.l0]
    exact EvP.neg (by omega) (EvP.now (.inr ⟨a0, a1⟩))
theorem laws_szStringS.ok (l : List ByteArray) (hl : l.length ≤ 9223372036854775807) (hq : ∀ x ∈ l, x.size ≤ 9223372036854775807) (left : Int) (h0 : 0 ≤ left) (h1 : left ≤ 1048576) :
    EvP (fun k => laws_szStringS.f k l left) (fun r => r < 0 ∨ (0 ≤ r ∧ r + l.length ≤ left)) := by
  unfold laws_szStringS.f
  rw [wrap_id (by omega) (by omega)]
  refine EvP.ite (fun _ => EvP.now (.inl (by omega))) (fun hn => ?_)
  refine EvP.range (L := fun k s i => laws_szStringS.l0 k l s i) (xs := l) (Inv := fun _ s => 0 ≤ s ∧ s + l.length ≤ left) ?_ ?_ _ ⟨by omega, by omega⟩
  · rintro pre x rest s hx ⟨a0, a1⟩ ih
    have hlt := len_at hx
    have hr : rdOf ByteArray.empty l (pre.length : Int) = x := getD_at hx _
    have hxs := hq x (by rw [hx]; simp)
    simp only [laws_szStringS.l0, hr, wrap_at hx (by omega), wrap_id (x := s - (x.size : Int)) (by omega) (by omega)]
    refine EvP.pos hlt (EvP.pos (nat_nonneg _) ?_)
    exact EvP.ite (fun _ => EvP.now (.inl (by omega))) (fun hs => ih _ ⟨by omega, by omega⟩)
  · rintro s ⟨a0, a1⟩
    simp only [laws_szStringS.l0]
    exact EvP.neg (by omega) (EvP.now (.inr ⟨a0, a1⟩))
theorem laws_szReport.ok (rs : List S80) (ds : List ByteArray) (hq : (rs.length ≤ 9223372036854775807 ∧ ∀ y ∈ rs, Q80 y) ∧ (ds.length ≤ 9223372036854775807 ∧ ∀ y ∈ ds, y.size ≤ 9223372036854775807)) (left : Int) (h0 : 0 ≤ left) (h1 : left ≤ 1048576) :
    EvP (fun k => laws_szReport.f k rs ds left) (fun r => r < 0 ∨ (0 ≤ r ∧ r + rs.length + ds.length ≤ left)) := by
  unfold laws_szReport.f
  refine EvP.bind (laws_szResultS.ok rs hq.1.1 hq.1.2 left h0 h1) ?_
  rintro r (g | ⟨g0, g1⟩)
  · exact EvP.pos g (EvP.now (.inl (by omega)))
  refine EvP.neg (by omega) ?_
  refine EvP.bind (laws_szStringS.ok ds hq.2.1 hq.2.2 r g0 (by omega)) ?_
  rintro u (k | ⟨k0, k1⟩)
  · exact EvP.pos k (EvP.now (.inl (by omega)))
  exact EvP.neg (by omega) (EvP.now (.inr ⟨k0, by omega⟩))
theorem laws_toResult.ok (x : S80) : EvP (fun _ => laws_toResult.f x.f0 x.f1) (fun r => (⟨r.1, r.2⟩ : S37) = cResult x) := by
  unfold laws_toResult.f
  exact EvP.now rfl
theorem laws_toResultS.ok (l : List S80) (hl : (l.length : Int) ≤ 1048576) : EvP (fun k => laws_toResultS.f k l) (· = l.map cResult) := by
  unfold laws_toResultS.f
  refine EvP.pos (by omega) (EvP.pos (by omega) ?_)
  rw [Int.toNat_natCast]
  refine EvP.fill (L := fun k s i => laws_toResultS.l0 k l s i) (xs := l) cResult _ ?_ ?_
  · intro pre x rest s hx hs ih
    have hlt := len_at hx
    have hr : rd_T80 l (pre.length : Int) = x := getD_at hx _
    simp only [laws_toResultS.l0, hr, wrap_at hx (by omega)]
    refine EvP.pos hlt (EvP.pos (nat_nonneg _) ?_)
    refine EvP.bind (laws_toResult.ok x) ?_
    intro r g
    rw [g]
    exact EvP.pos (by omega) ih
  · intro s
    simp only [laws_toResultS.l0]
    exact EvP.neg (by omega) (EvP.now rfl)
theorem laws_toStringS.ok (l : List ByteArray) (hl : (l.length : Int) ≤ 1048576) : EvP (fun k => laws_toStringS.f k l) (· = l) := by
  have main : EvP (fun k => laws_toStringS.f k l) (· = l.map id) := by
    unfold laws_toStringS.f
    refine EvP.pos (by omega) (EvP.pos (by omega) ?_)
    rw [Int.toNat_natCast]
    refine EvP.fill (L := fun k s i => laws_toStringS.l0 k l s i) (xs := l) id _ ?_ ?_
    · intro pre x rest s hx hs ih
      have hlt := len_at hx
      have hr : rdOf ByteArray.empty l (pre.length : Int) = x := getD_at hx _
      simp only [laws_toStringS.l0, hr, wrap_at hx (by omega)]
      exact EvP.pos hlt (EvP.pos (nat_nonneg _) (EvP.pos (by omega) ih))
    · intro s
      simp only [laws_toStringS.l0]
      exact EvP.neg (by omega) (EvP.now rfl)
  simpa using main
theorem laws_toReport.ok (rs : List S80) (ds : List ByteArray) (h1 : (rs.length : Int) ≤ 1048576) (h2 : (ds.length : Int) ≤ 1048576) : EvP (fun k => laws_toReport.f k rs ds) (· = (rs.map cResult, ds)) := by
  unfold laws_toReport.f
  refine EvP.bind (laws_toResultS.ok rs h1) ?_
  rintro _ rfl
  refine EvP.bind (laws_toStringS.ok ds h2) ?_
  rintro _ rfl
  exact EvP.now rfl
theorem laws_eqStringS.ok (l : List ByteArray) (hl : (l.length : Int) ≤ 9223372036854775807) : EvP (fun k => laws_eqStringS.f k l l) (· = true) := by
  unfold laws_eqStringS.f
  refine EvP.pos rfl ?_
  refine EvP.range (L := fun k (_ : Unit) i => laws_eqStringS.l0 k l l i) (xs := l) (Inv := fun _ _ => True) ?_ ?_ () trivial
  · rintro pre x rest s hx _ ih
    have hlt := len_at hx
    simp only [laws_eqStringS.l0, wrap_at hx hl]
    exact EvP.pos hlt (EvP.pos (nat_nonneg _) (EvP.pos hlt (EvP.pos trivial (ih () trivial))))
  · rintro s _
    simp only [laws_eqStringS.l0]
    exact EvP.neg (by omega) (EvP.now rfl)
theorem laws_eqResultS.ok (l : List S37) (hl : (l.length : Int) ≤ 9223372036854775807) : EvP (fun k => laws_eqResultS.f k l l) (· = true) := by
  unfold laws_eqResultS.f
  refine EvP.pos rfl ?_
  refine EvP.range (L := fun k (_ : Unit) i => laws_eqResultS.l0 k l l i) (xs := l) (Inv := fun _ _ => True) ?_ ?_ () trivial
  · rintro pre x rest s hx _ ih
    have hlt := len_at hx
    have hr : rd_T37 l (pre.length : Int) = x := getD_at hx _
    simp only [laws_eqResultS.l0, hr, wrap_at hx hl]
    refine EvP.pos hlt (EvP.pos (nat_nonneg _) (EvP.pos hlt ?_))
    refine EvP.bind (P := (· = true)) ?_ ?_
    · unfold laws_eqResult.f
      exact EvP.pos rfl (EvP.pos rfl (EvP.now rfl))
    · rintro _ rfl
      exact EvP.pos rfl (ih () trivial)
  · rintro s _
    simp only [laws_eqResultS.l0]
    exact EvP.neg (by omega) (EvP.now rfl)
theorem laws_eqReport.ok (rs : List S37) (ds : List ByteArray) (h1 : (rs.length : Int) ≤ 9223372036854775807) (h2 : (ds.length : Int) ≤ 9223372036854775807) : EvP (fun k => laws_eqReport.f k rs ds rs ds) (· = true) := by
  unfold laws_eqReport.f
  refine EvP.bind (laws_eqResultS.ok rs h1) ?_
  rintro _ rfl
  refine EvP.pos rfl ?_
  refine EvP.bind (laws_eqStringS.ok ds h2) ?_
  rintro _ rfl
  exact EvP.pos rfl (EvP.now rfl)
/-! #### marks -/
theorem strOf_one (n : Int) : (strOfNums [n]).size = 1 := rfl
theorem laws_markText.all (n : Int) (h0 : 0 ≤ n) (h1 : n ≤ 9223372036854775807) : EvP (fun k => laws_markText.f k n) (fun _ => True) := by
  unfold laws_markText.f
  refine EvP.ite (fun _ => EvP.now trivial) (fun hn => ?_)
  have loop : ∀ (d : Nat) (x : Int) (s : ByteArray), x.toNat < d → 0 ≤ x → x ≤ 9223372036854775807 → (s.size : Int) + x ≤ 9223372036854775807 + 0 ∨ s.size ≤ 20 ∧ x < 10 ^ (20 - s.size) → s.size ≤ 20 ∧ x < 10 ^ (20 - s.size) →
      EvP (fun k => laws_markText.l0 k x s) (fun _ => True) := by
    intro d
    induction d with
    | zero => intro x s a0; omega
    | succ d ih =>
      intro x s a0 a1 a2 _ a3
      refine EvP.succ ?_
      simp only [laws_markText.l0]
      refine EvP.ite (fun hx => ?_) (fun hx => EvP.pos (by omega) (EvP.now trivial))
      have hd : s.size ≠ 20 := by
        intro e
        rw [e] at a3
        simp at a3
        omega
      refine EvP.bind (P := fun y => (strOfNums y).size = 1) (EvP.now (strOf_one _)) ?_
      intro y hy
      refine EvP.pos (by omega) ?_
      have e1 : Int.tdiv x 10 = x / 10 := Int.tdiv_eq_ediv_of_nonneg a1
      rw [e1, wrap_id (by omega) (by omega)]
      have e2 : (strOfNums y ++ s).size = s.size + 1 := by rw [ByteArray.size_append, hy]; omega
      have e3 : x / 10 < 10 ^ (20 - (strOfNums y ++ s).size) := by
        rw [e2]
        have : (10 : Int) ^ (20 - s.size) = 10 ^ (20 - (s.size + 1)) * 10 := by
          rw [← Int.pow_succ]
          congr 1
          omega
        have h3 := a3.2
        rw [this] at h3
        omega
      exact ih _ _ (by omega) (by omega) (by omega) (.inr ⟨by omega, e3⟩) ⟨by omega, e3⟩
  refine loop (n.toNat + 1) n _ (by omega) (by omega) h1 (.inr ⟨by decide, ?_⟩) ⟨by decide, ?_⟩
  · have : (10 : Int) ^ (20 - (⟨#[]⟩ : ByteArray).size) = 100000000000000000000 := by decide
    omega
  · have : (10 : Int) ^ (20 - (⟨#[]⟩ : ByteArray).size) = 100000000000000000000 := by decide
    omega
noncomputable def mkT (n : Int) : ByteArray := endOf ByteArray.empty (fun k => laws_markText.f k n)
theorem laws_markText.ok (n : Int) (h0 : 0 ≤ n) (h1 : n ≤ 9223372036854775807) : EvP (fun k => laws_markText.f k n) (· = mkT n) := (laws_markText.all n h0 h1).ended _
noncomputable def marks (n : Int) (m : Nat) : List ByteArray := (List.range m).map fun (i : Nat) => mkT (n + (i : Int))
theorem marks_len (n : Int) (m : Nat) : (marks n m).length = m := by simp [marks]
theorem marks_snoc (n : Int) (m : Nat) : marks n (m + 1) = marks n m ++ [mkT (n + m)] := by simp [marks, List.range_succ]
theorem laws_markStringS.ok (l : List ByteArray) (n : Int) (h0 : 0 ≤ n) (h1 : n + l.length ≤ 1000000000) : EvP (fun k => laws_markStringS.f k l n) (fun r => r.1 = n + l.length ∧ r.2 = marks n l.length) := by
  unfold laws_markStringS.f
  refine EvP.upto (L := fun k (s : List ByteArray × Int) i => laws_markStringS.l0 k s.1 s.2 i) (n := l.length) (Inv := fun i s => s.1.length = l.length ∧ s.1.take i = marks n i ∧ s.2 = n + i) ?_ ?_ (l, n) ⟨rfl, by simp [marks], by simp⟩
  · rintro i ⟨s, m⟩ hi ⟨a0, a1, a2⟩ ih
    simp only at a0 a1 a2
    subst a2
    simp only [laws_markStringS.l0]
    refine EvP.pos (by omega) ?_
    refine EvP.bind (laws_markText.ok _ (by omega) (by omega)) ?_
    rintro _ rfl
    refine EvP.pos (by omega) ?_
    rw [wrap_id (x := n + (i : Int) + 1) (by omega) (by omega), wrap_id (x := (i : Int) + 1) (by omega) (by omega), Int.toNat_natCast]
    refine ih (s.set i (mkT (n + i)), n + (i : Int) + 1) ⟨by simpa using a0, ?_, by simp only; omega⟩
    rw [take_set _ _ _ (by omega), a1, marks_snoc]
  · rintro ⟨s, m⟩ ⟨a0, a1, a2⟩
    simp only at a0 a1 a2
    simp only [laws_markStringS.l0]
    refine EvP.neg (by omega) (EvP.now ⟨a2, ?_⟩)
    simp only
    rw [← a1, List.take_of_length_le (by omega)]
theorem laws_markResultS.ge (l : List S37) (n : Int) (h0 : 0 ≤ n) (h1 : n + 2 * l.length ≤ 100000000) : EvP (fun k => laws_markResultS.f k l n) (fun r => r.1 = n + 2 * l.length) := by
  unfold laws_markResultS.f
  refine EvP.upto (L := fun k (s : List S37 × Int) i => laws_markResultS.l0 k s.1 s.2 i) (n := l.length) (Inv := fun i s => s.1.length = l.length ∧ s.2 = n + 2 * i) ?_ ?_ (l, n) ⟨rfl, by simp⟩
  · rintro i ⟨s, m⟩ hi ⟨a0, a2⟩ ih
    simp only at a0 a2
    subst a2
    simp only [laws_markResultS.l0]
    refine EvP.pos (by omega) ?_
    refine EvP.bind (laws_markText.ok _ (by omega) (by omega)) ?_
    rintro _ rfl
    refine EvP.pos (by omega) ?_
    refine EvP.bind (P := fun y => y.length = s.length) (EvP.now (by simp)) ?_
    intro y hy
    rw [wrap_id (x := n + 2 * (i : Int) + 1) (by omega) (by omega), wrap_id (x := n + 2 * (i : Int) + 1 + 1) (by omega) (by omega), wrap_id (x := (i : Int) + 1) (by omega) (by omega)]
    exact ih (_, n + 2 * (i : Int) + 1 + 1) ⟨by simp only [List.length_set]; omega, by simp only; omega⟩
  · rintro ⟨s, m⟩ ⟨a0, a2⟩
    simp only at a0 a2
    simp only [laws_markResultS.l0]
    exact EvP.neg (by omega) (EvP.now (by simp only; omega))
theorem laws_markReport.ge (rs : List S37) (ds : List ByteArray) (n : Int) (h0 : 0 ≤ n) (h1 : n + 2 * rs.length + ds.length ≤ 100000000) : EvP (fun k => laws_markReport.f k rs ds n) (fun r => r.1 = n + 2 * rs.length + ds.length) := by
  unfold laws_markReport.f
  refine EvP.bind (laws_markResultS.ge rs n h0 (by omega)) ?_
  rintro ⟨m, l⟩ e
  simp only at e
  subst e
  refine EvP.bind (laws_markStringS.ok ds _ (by omega) (by omega)) ?_
  rintro ⟨m, l⟩ ⟨e, _⟩
  exact EvP.now e
theorem laws_heldStringS.ok (m : Nat) (n : Int) (h0 : 0 ≤ n) (h1 : n + m ≤ 1000000000) : EvP (fun k => laws_heldStringS.f k (marks n m) n) (· = n + m) := by
  unfold laws_heldStringS.f
  have hm := marks_len n m
  refine EvP.upto (L := fun k s i => laws_heldStringS.l0 k (marks n m) s i) (n := m) (Inv := fun i s => s = n + i) ?_ ?_ n (by simp)
  · rintro i s hi rfl ih
    simp only [laws_heldStringS.l0]
    have hr : rdOf ByteArray.empty (marks n m) (i : Int) = mkT (n + i) := by
      unfold rdOf marks
      rw [Int.toNat_natCast, List.getD_eq_getElem?_getD, List.getElem?_map, List.getElem?_range hi]
      rfl
    refine EvP.pos (by omega) (EvP.pos (by omega) ?_)
    refine EvP.bind (laws_markText.ok _ (by omega) (by omega)) ?_
    rintro _ rfl
    rw [hr, wrap_id (x := n + (i : Int) + 1) (by omega) (by omega), wrap_id (x := (i : Int) + 1) (by omega) (by omega)]
    exact EvP.pos rfl (ih _ (by omega))
  · rintro s rfl
    simp only [laws_heldStringS.l0]
    exact EvP.neg (by omega) (EvP.now rfl)
/-- Is a text in a list? -/
def hasT (l : List ByteArray) (s : ByteArray) : Bool := l.any fun y => decide (y.toList = s.toList)
theorem hasT_cons (y : ByteArray) (l : List ByteArray) (s : ByteArray) : hasT (y :: l) s = (decide (y.toList = s.toList) || hasT l s) := rfl
theorem hasT_append (a b : List ByteArray) (s : ByteArray) : hasT (a ++ b) s = (hasT a s || hasT b s) := by simp [hasT, List.any_append]
theorem hasT_iff (l : List ByteArray) (s : ByteArray) : hasT l s = true ↔ ∃ y ∈ l, y.toList = s.toList := by simp [hasT]
/-! #### different texts -/
def apartB (l : List ByteArray) : Bool := decide (l.Pairwise fun a b => a.toList ≠ b.toList)
theorem apartB_no {l pre rest : List ByteArray} {x : ByteArray} (h : l = pre ++ x :: rest) (hx : hasT pre x = true) : apartB l = false := by
  rw [apartB, decide_eq_false_iff_not, h]
  intro g
  obtain ⟨y, hy, e⟩ := (hasT_iff pre x).1 hx
  exact (List.pairwise_append.1 g).2.2 y hy x (by simp) e
theorem apartB_yes {pre : List ByteArray} {x : ByteArray} (h : apartB pre = true) (hx : hasT pre x = false) : apartB (pre ++ [x]) = true := by
  rw [apartB, decide_eq_true_iff] at h ⊢
  refine List.pairwise_append.2 ⟨h, by simp, fun a ha b hb => ?_⟩
  rw [List.mem_singleton.1 hb]
  intro e
  have : hasT pre x = true := (hasT_iff pre x).2 ⟨a, ha, e⟩
  rw [hx] at this
  cases this
theorem apartB_nil : apartB [] = true := rfl
def uniq (l : List ByteArray) : List ByteArray := l.foldl (fun acc x => if hasT acc x = true then acc else acc ++ [x]) []
theorem uniq_snoc (l : List ByteArray) (x : ByteArray) : uniq (l ++ [x]) = if hasT (uniq l) x = true then uniq l else uniq l ++ [x] := by
  unfold uniq
  rw [List.foldl_append]
  rfl
theorem uniq_le (l : List ByteArray) : (uniq l).length ≤ l.length := by
  induction l using snoc_ind with
  | nil => simp [uniq]
  | snoc l x ih =>
    rw [uniq_snoc]
    split <;> simp <;> omega
theorem uniq_apart (l : List ByteArray) : apartB (uniq l) = true := by
  induction l using snoc_ind with
  | nil => rfl
  | snoc l x ih =>
    rw [uniq_snoc]
    by_cases h : hasT (uniq l) x = true
    · rw [if_pos h]; exact ih
    · rw [if_neg h]; exact apartB_yes ih (by simpa using h)
theorem hasT_congr (l : List ByteArray) {s t : ByteArray} (h : s.toList = t.toList) : hasT l s = hasT l t := by simp [hasT, h]
theorem hasT_uniq (l : List ByteArray) (s : ByteArray) : hasT (uniq l) s = hasT l s := by
  induction l using snoc_ind with
  | nil => rfl
  | snoc l x ih =>
    rw [uniq_snoc, hasT_append]
    by_cases h : hasT (uniq l) x = true
    · rw [if_pos h, ih]
      have h' := h
      by_cases e : x.toList = s.toList
      · have : hasT l s = true := by rw [← ih, ← hasT_congr _ e]; exact h'
        rw [this]
        rfl
      · simp [hasT, e]
    · rw [if_neg h, hasT_append, ih]
theorem apart_filter {p : ByteArray → Bool} {l : List ByteArray} (h : apartB l = true) : apartB (l.filter p) = true := by
  rw [apartB, decide_eq_true_iff] at h ⊢
  exact h.filter p
/-- Different texts that are all in another list are no more than it has. -/
theorem apart_len : ∀ {a b : List ByteArray}, apartB a = true → (∀ x ∈ a, hasT b x = true) → a.length ≤ b.length
  | [], _, _, _ => by simp
  | x :: a, b, h, hb => by
    rw [apartB, decide_eq_true_iff, List.pairwise_cons] at h
    obtain ⟨y, hy, e⟩ := (hasT_iff b x).1 (hb x (by simp))
    obtain ⟨b1, b2, rfl⟩ := List.append_of_mem hy
    have ih := apart_len (a := a) (b := b1 ++ b2) (by rw [apartB, decide_eq_true_iff]; exact h.2) (fun z hz => by
      have h3 := hb z (List.mem_cons_of_mem _ hz)
      rw [hasT_append, hasT_cons] at h3
      have h4 : y.toList ≠ z.toList := fun g => h.1 z hz (by rw [← e]; exact g)
      rw [hasT_append]
      simpa [h4] using h3)
    simp only [List.length_append, List.length_cons] at ih ⊢
    omega
/-- How many results end so. -/
def cntOc (rs : List S37) (oc : Int) : Nat := rs.countP fun x => decide (x.f1 = oc)
theorem cntOc_le (rs : List S37) (oc : Int) : cntOc rs oc ≤ rs.length := List.countP_le_length
theorem cntOc_snoc (rs : List S37) (x : S37) (oc : Int) : cntOc (rs ++ [x]) oc = cntOc rs oc + if x.f1 = oc then 1 else 0 := by
  simp [cntOc, List.countP_append, List.countP_cons]
theorem cntOc_cons (rs : List S37) (x : S37) (oc : Int) : cntOc (x :: rs) oc = cntOc rs oc + if x.f1 = oc then 1 else 0 := by
  simp [cntOc, List.countP_cons]
def bad (x : S37) : Bool := x.f1 == 1 || x.f1 == 2
/-- The ids of the bad ones. -/
def badIds (rs : List S37) : List ByteArray := (rs.filter bad).map (·.f0)
theorem badIds_snoc (rs : List S37) (x : S37) : badIds (rs ++ [x]) = badIds rs ++ if bad x = true then [x.f0] else [] := by
  unfold badIds
  rw [List.filter_append, List.map_append]
  congr 1
  by_cases h : bad x = true <;> simp [List.filter_cons, h]
theorem badIds_le (rs : List S37) : (badIds rs).length ≤ rs.length := by
  unfold badIds
  rw [List.length_map]
  exact List.length_filter_le _ _
theorem badIds_len (rs : List S37) : (badIds rs).length = cntOc rs 1 + cntOc rs 2 := by
  induction rs with
  | nil => rfl
  | cons x rs ih =>
    rw [cntOc_cons, cntOc_cons]
    unfold badIds at ih ⊢
    rw [List.length_map] at ih ⊢
    rw [List.filter_cons]
    by_cases h1 : x.f1 = 1
    · have : bad x = true := by simp [bad, h1]
      rw [if_pos this, if_pos h1, if_neg (by omega), List.length_cons, ih]
      omega
    · by_cases h2 : x.f1 = 2
      · have : bad x = true := by simp [bad, h2]
        rw [if_pos this, if_neg h1, if_pos h2, List.length_cons, ih]
        omega
      · have : bad x = false := by simp [bad, h1, h2]
        rw [this, if_neg (by simp), if_neg h1, if_neg h2, ih]
        omega
/-- The outcome of the first result of an id, -1 if there is none. -/
def ocOf (rs : List S37) (id : ByteArray) : Int := ((rs.find? fun x => decide (x.f0.toList = id.toList)).map (·.f1)).getD (-1)
def noId (rs : List S37) (id : ByteArray) : Prop := ∀ x ∈ rs, x.f0.toList ≠ id.toList
theorem noId_snoc {rs : List S37} {id : ByteArray} {x : S37} (h : noId rs id) (e : x.f0.toList ≠ id.toList) : noId (rs ++ [x]) id := by
  intro y hy
  rcases List.mem_append.1 hy with hy | hy
  · exact h y hy
  · rw [List.mem_singleton.1 hy]
    exact e
theorem find_none {rs : List S37} {id : ByteArray} (h : noId rs id) : rs.find? (fun x => decide (x.f0.toList = id.toList)) = none := by
  rw [List.find?_eq_none]
  intro x hx
  simpa using h x hx
theorem ocOf_none {rs : List S37} {id : ByteArray} (h : noId rs id) : ocOf rs id = -1 := by
  unfold ocOf
  rw [find_none h]
  rfl
theorem ocOf_some {rs pre rest : List S37} {x : S37} {id : ByteArray} (hx : rs = pre ++ x :: rest) (h : noId pre id) (e : x.f0.toList = id.toList) : ocOf rs id = x.f1 := by
  subst hx
  unfold ocOf
  rw [List.find?_append, find_none h]
  simp [e]
theorem impl_isBad.ok (n : Int) : EvP (fun _ => impl_isBad.f n) (· = (n == 1 || n == 2)) := by
  unfold impl_isBad.f
  refine EvP.ite (fun h => EvP.now (by simp [h])) (fun h => EvP.now ?_)
  have : (n == 1) = false := by simpa using h
  simp [this]
theorem spec_hasText.ok (l : List ByteArray) (s : ByteArray) (h : (l.length : Int) ≤ 9223372036854775807) : EvP (fun k => spec_hasText.f k l s) (· = hasT l s) := by
  unfold spec_hasText.f
  refine EvP.range (L := fun k (_ : Unit) i => spec_hasText.l0 k l s i) (xs := l) (Inv := fun pre _ => hasT pre s = false) ?_ ?_ () rfl
  · rintro pre x rest _ hx hi ih
    have hl := len_at hx
    have hr : rdOf ByteArray.empty l (pre.length : Int) = x := getD_at hx _
    simp only [spec_hasText.l0, hr, wrap_at hx h]
    refine EvP.pos hl (EvP.pos (nat_nonneg _) ?_)
    refine EvP.ite (fun e => EvP.now ?_) (fun e => ih () ?_)
    · rw [hx, hasT_append, hasT_cons, e]
      simp
    · rw [hasT_append, hasT_cons, hi]
      simp [e, hasT]
  · rintro _ hi
    simp only [spec_hasText.l0]
    exact EvP.neg (by omega) (EvP.now hi.symm)
theorem spec_addText.ok (l : List ByteArray) (x : ByteArray) (h : (l.length : Int) < 8796093022208) : EvP (fun k => spec_addText.f k l x) (· = if hasT l x = true then l else l ++ [x]) := by
  unfold spec_addText.f
  refine EvP.bind (spec_hasText.ok l x (by omega)) ?_
  rintro _ rfl
  exact EvP.ite (fun e => EvP.now (by rw [if_pos e])) (fun e => EvP.pos (by omega) (EvP.now (by rw [if_neg e])))
theorem impl_OutcomeOf.ok (rs : List S37) (ds : List ByteArray) (id : ByteArray) (h : (rs.length : Int) ≤ 9223372036854775807) : EvP (fun k => impl_OutcomeOf.f k rs ds id) (· = ocOf rs id) := by
  unfold impl_OutcomeOf.f
  refine EvP.range (L := fun k (_ : Unit) i => impl_OutcomeOf.l0 k id rs (rs.length : Int) i) (xs := rs) (Inv := fun pre _ => noId pre id) ?_ ?_ () (fun x hx => by cases hx)
  · intro pre x rest s hx hi ih
    have hl := len_at hx
    have hr : rd_T37 rs (pre.length : Int) = x := getD_at hx _
    simp only [impl_OutcomeOf.l0, hr, wrap_at hx h]
    refine EvP.pos hl (EvP.pos (nat_nonneg _) (EvP.pos hl ?_))
    exact EvP.ite (fun e => EvP.now (ocOf_some hx hi e).symm) (fun e => ih () (noId_snoc hi e))
  · intro s hi
    simp only [impl_OutcomeOf.l0]
    exact EvP.neg (by omega) (EvP.now (ocOf_none hi).symm)
theorem spec_outcomeOf.ok (rs : List S37) (id : ByteArray) (h : (rs.length : Int) ≤ 9223372036854775807) : EvP (fun k => spec_outcomeOf.f k rs id) (· = ocOf rs id) := by
  unfold spec_outcomeOf.f
  refine EvP.range (L := fun k (_ : Unit) i => spec_outcomeOf.l0 k rs id i) (xs := rs) (Inv := fun pre _ => noId pre id) ?_ ?_ () (fun x hx => by cases hx)
  · intro pre x rest s hx hi ih
    have hl := len_at hx
    have hr : rd_T37 rs (pre.length : Int) = x := getD_at hx _
    simp only [spec_outcomeOf.l0, hr, wrap_at hx h]
    refine EvP.pos hl (EvP.pos (nat_nonneg _) ?_)
    exact EvP.ite (fun e => EvP.now (ocOf_some hx hi e).symm) (fun e => ih () (noId_snoc hi e))
  · intro s hi
    simp only [spec_outcomeOf.l0]
    exact EvP.neg (by omega) (EvP.now (ocOf_none hi).symm)
theorem slices_Index_string_string.ok (l : List ByteArray) (s : ByteArray) (h : (l.length : Int) ≤ 9223372036854775807) : EvP (fun k => slices_Index_string_string.f k l s) (fun r => decide (r ≥ 0) = hasT l s) := by
  unfold slices_Index_string_string.f
  refine EvP.range (L := fun k (_ : Unit) i => slices_Index_string_string.l0 k l s (l.length : Int) i) (xs := l) (Inv := fun pre _ => hasT pre s = false) ?_ ?_ () rfl
  · rintro pre x rest _ hx hi ih
    have hl := len_at hx
    have hr : rdOf ByteArray.empty l (pre.length : Int) = x := getD_at hx _
    simp only [slices_Index_string_string.l0, hr, wrap_at hx h]
    refine EvP.pos hl (EvP.pos (nat_nonneg _) (EvP.pos hl ?_))
    refine EvP.ite (fun e => EvP.now ?_) (fun e => ih () ?_)
    · rw [hx, hasT_append, hasT_cons, e]
      simp
    · rw [hasT_append, hasT_cons, hi]
      simp [Ne.symm e, hasT]
  · rintro _ hi
    simp only [slices_Index_string_string.l0]
    exact EvP.neg (by omega) (EvP.now (by rw [hi]; rfl))
theorem slices_Contains_string_string.ok (l : List ByteArray) (s : ByteArray) (h : (l.length : Int) ≤ 9223372036854775807) : EvP (fun k => slices_Contains_string_string.f k l s) (· = hasT l s) := by
  unfold slices_Contains_string_string.f
  refine EvP.bind (slices_Index_string_string.ok l s h) ?_
  intro r hr
  exact EvP.now hr
abbrev R := S37
theorem spec_isBad.ok (n : Int) : EvP (fun _ => spec_isBad.f n) (· = (n == 1 || n == 2)) := by
  unfold spec_isBad.f
  refine EvP.ite (fun h => EvP.now (by simp [h])) (fun h => EvP.now ?_)
  have : (n == 1) = false := by simpa using h
  simp [this]
def wc (a b : List R) (s : ByteArray) : Bool := (ocOf b s == 1 || ocOf b s == 2) && (decide (ocOf a s ≥ 0) && !(ocOf a s == 1 || ocOf a s == 2))
theorem wc_yes {a b : List R} {s : ByteArray} (h1 : (ocOf b s == 1 || ocOf b s == 2) = true) (h2 : ocOf a s ≥ 0) (h3 : ¬ (ocOf a s == 1 || ocOf a s == 2) = true) : wc a b s = true := by
  rw [wc, h1, decide_eq_true h2, show (ocOf a s == 1 || ocOf a s == 2) = false by simpa using h3]
  rfl
theorem wc_no1 {a b : List R} {s : ByteArray} (h1 : ¬ (ocOf b s == 1 || ocOf b s == 2) = true) : wc a b s = false := by
  rw [wc, show (ocOf b s == 1 || ocOf b s == 2) = false by simpa using h1]
  rfl
theorem wc_no2 {a b : List R} {s : ByteArray} (h2 : ¬ ocOf a s ≥ 0) : wc a b s = false := by
  rw [wc, decide_eq_false h2]
  simp
theorem wc_no3 {a b : List R} {s : ByteArray} (h3 : (ocOf a s == 1 || ocOf a s == 2) = true) : wc a b s = false := by
  rw [wc, h3]
  simp
def cand (a b l : List R) : List ByteArray := (l.filter fun r => wc a b r.f0).map (·.f0)
theorem cand_le (a b l : List R) : (cand a b l).length ≤ l.length := by
  rw [cand, List.length_map]
  exact List.length_filter_le _ _
def wors (a b l : List R) : List ByteArray := uniq (cand a b l)
theorem wors_le (a b l : List R) : (wors a b l).length ≤ l.length := Nat.le_trans (uniq_le _) (cand_le a b l)
theorem wors_yes {a b l : List R} {x : R} (h : wc a b x.f0 = true) : wors a b (l ++ [x]) = if hasT (wors a b l) x.f0 = true then wors a b l else wors a b l ++ [x.f0] := by
  have e : cand a b (l ++ [x]) = cand a b l ++ [x.f0] := by
    unfold cand
    rw [List.filter_append, List.map_append, List.filter_cons, if_pos h]
    rfl
  rw [wors, e, uniq_snoc]
  rfl
theorem wors_no {a b l : List R} {x : R} (h : wc a b x.f0 = false) : wors a b (l ++ [x]) = wors a b l := by
  have e : cand a b (l ++ [x]) = cand a b l := by
    unfold cand
    rw [List.filter_append, List.map_append, List.filter_cons, if_neg (by rw [h]; simp)]
    simp
  rw [wors, e]
  rfl
theorem impl_worse.ok (a : List R) (da : List ByteArray) (b : List R) (db : List ByteArray) (ha : (a.length : Int) ≤ 1048576) (hb : (b.length : Int) ≤ 1048576) : EvP (fun k => impl_worse.f k a da b db) (· = wors a b b) := by
  unfold impl_worse.f
  refine EvP.range (L := fun k s i => impl_worse.l0 k s b (b.length : Int) i a da b db) (xs := b) (Inv := fun pre s => s = wors a b pre) ?_ ?_ [] rfl
  · rintro pre x rest s hx rfl ih
    have hl := len_at hx
    have hw := wors_le a b pre
    have hr : rd_T37 b (pre.length : Int) = x := getD_at hx _
    simp only [impl_worse.l0, hr, wrap_at hx (show (b.length : Int) ≤ 9223372036854775807 by omega)]
    refine EvP.pos hl (EvP.pos (nat_nonneg _) (EvP.pos hl ?_))
    refine EvP.bind (impl_OutcomeOf.ok a da x.f0 (by omega)) ?_
    rintro _ rfl
    refine EvP.bind (slices_Contains_string_string.ok _ x.f0 (by omega)) ?_
    rintro _ rfl
    refine EvP.ite (fun e => ih _ ?_) (fun e => ?_)
    · cases g : wc a b x.f0 with
      | true => rw [wors_yes g, if_pos e]
      | false => rw [wors_no g]
    refine EvP.bind (impl_OutcomeOf.ok b db x.f0 (by omega)) ?_
    rintro _ rfl
    refine EvP.bind (impl_isBad.ok _) ?_
    rintro _ rfl
    refine EvP.ite (fun e1 => EvP.ite (fun e2 => ?_) (fun e2 => ih _ (wors_no (wc_no2 e2)).symm)) (fun e1 => ih _ (wors_no (wc_no1 e1)).symm)
    refine EvP.bind (impl_isBad.ok _) ?_
    rintro _ rfl
    refine EvP.ite (fun e3 => ih _ (wors_no (wc_no3 e3)).symm) (fun e3 => EvP.pos (by omega) (ih _ ?_))
    rw [wors_yes (wc_yes e1 e2 e3), if_neg e]
  · rintro s rfl
    simp only [impl_worse.l0]
    exact EvP.neg (by omega) (EvP.now rfl)
theorem impl_DiffReports.ok (a : List R) (da : List ByteArray) (b : List R) (db : List ByteArray) (ha : (a.length : Int) ≤ 1048576) (hb : (b.length : Int) ≤ 1048576) : EvP (fun k => impl_DiffReports.f k a da b db) (· = (wors a b b, wors b a a)) := by
  unfold impl_DiffReports.f
  refine EvP.bind (impl_worse.ok a da b db ha hb) ?_
  rintro _ rfl
  refine EvP.bind (impl_worse.ok b db a da hb ha) ?_
  rintro _ rfl
  exact EvP.now rfl
theorem spec_DiffReports.ok (a : List R) (da : List ByteArray) (b : List R) (db : List ByteArray) (ha : (a.length : Int) ≤ 1048576) (hb : (b.length : Int) ≤ 1048576) : EvP (fun k => spec_DiffReports.f k a da b db) (· = (wors a b b, wors b a a)) := by
  unfold spec_DiffReports.f
  refine EvP.range (L := fun k s i => spec_DiffReports.l0 k s [] i a da b db) (xs := b) (Inv := fun pre s => s = wors a b pre) ?_ ?_ [] rfl
  · rintro pre x rest s hx rfl ih
    have hl := len_at hx
    have hw := wors_le a b pre
    have hr : rd_T37 b (pre.length : Int) = x := getD_at hx _
    simp only [spec_DiffReports.l0, hr, wrap_at hx (show (b.length : Int) ≤ 9223372036854775807 by omega)]
    refine EvP.pos hl (EvP.pos (nat_nonneg _) ?_)
    refine EvP.bind (spec_outcomeOf.ok a x.f0 (by omega)) ?_
    rintro _ rfl
    refine EvP.bind (spec_outcomeOf.ok b x.f0 (by omega)) ?_
    rintro _ rfl
    refine EvP.ite (fun e2 => ?_) (fun e2 => ih _ (wors_no (wc_no2 e2)).symm)
    refine EvP.bind (spec_isBad.ok _) ?_
    rintro _ rfl
    refine EvP.ite (fun e3 => ih _ (wors_no (wc_no3 e3)).symm) (fun e3 => ?_)
    refine EvP.bind (spec_isBad.ok _) ?_
    rintro _ rfl
    refine EvP.ite (fun e1 => ?_) (fun e1 => ih _ (wors_no (wc_no1 e1)).symm)
    refine EvP.bind (spec_addText.ok _ x.f0 (by omega)) ?_
    rintro _ rfl
    exact ih _ (wors_yes (wc_yes e1 e2 e3)).symm
  · rintro s rfl
    simp only [spec_DiffReports.l0]
    refine EvP.neg (by omega) ?_
    refine EvP.range (L := fun k s i => spec_DiffReports.l1 k (wors a b b) s i a da b db) (xs := a) (Inv := fun pre s => s = wors b a pre) ?_ ?_ [] rfl
    · rintro pre x rest s hx rfl ih
      have hl := len_at hx
      have hw := wors_le b a pre
      have hr : rd_T37 a (pre.length : Int) = x := getD_at hx _
      simp only [spec_DiffReports.l1, hr, wrap_at hx (show (a.length : Int) ≤ 9223372036854775807 by omega)]
      refine EvP.pos hl (EvP.pos (nat_nonneg _) ?_)
      refine EvP.bind (spec_outcomeOf.ok a x.f0 (by omega)) ?_
      rintro _ rfl
      refine EvP.bind (spec_outcomeOf.ok b x.f0 (by omega)) ?_
      rintro _ rfl
      refine EvP.ite (fun e2 => ?_) (fun e2 => ih _ (wors_no (wc_no2 e2)).symm)
      refine EvP.bind (spec_isBad.ok _) ?_
      rintro _ rfl
      refine EvP.ite (fun e1 => ?_) (fun e1 => ih _ (wors_no (wc_no1 e1)).symm)
      refine EvP.bind (spec_isBad.ok _) ?_
      rintro _ rfl
      refine EvP.ite (fun e3 => ih _ (wors_no (wc_no3 e3)).symm) (fun e3 => ?_)
      refine EvP.bind (spec_addText.ok _ x.f0 (by omega)) ?_
      rintro _ rfl
      exact ih _ (wors_yes (wc_yes e1 e2 e3)).symm
    · rintro s rfl
      simp only [spec_DiffReports.l1]
      exact EvP.neg (by omega) (EvP.now rfl)
theorem main (rs : List S80) (ds : List ByteArray) (hq : (rs.length ≤ 9223372036854775807 ∧ ∀ y ∈ rs, Q80 y) ∧ (ds.length ≤ 9223372036854775807 ∧ ∀ y ∈ ds, y.size ≤ 9223372036854775807)) (rs2 : List S80) (ds2 : List ByteArray) (hq2 : (rs2.length ≤ 9223372036854775807 ∧ ∀ y ∈ rs2, Q80 y) ∧ (ds2.length ≤ 9223372036854775807 ∧ ∀ y ∈ ds2, y.size ≤ 9223372036854775807)) : ∃ k, laws_FnExactDiffReports.f k rs ds rs2 ds2 = some true := by
  refine EvP.rounds ?_
  unfold laws_FnExactDiffReports.f
  refine EvP.bind (laws_szReport.ok rs ds hq _ (by omega) (by omega)) ?_
  rintro r (g | ⟨g0, g1⟩)
  · exact EvP.pos g (EvP.now rfl)
  refine EvP.neg (by omega) ?_
  refine EvP.bind (laws_szReport.ok rs2 ds2 hq2 _ (by omega) (by omega)) ?_
  rintro r2 (g | ⟨g2, g3⟩)
  · exact EvP.pos g (EvP.now rfl)
  refine EvP.neg (by omega) ?_
  have n1 : (rs.length : Int) ≤ 1048576 := by omega
  have n2 : (ds.length : Int) ≤ 1048576 := by omega
  have n3 : (rs2.length : Int) ≤ 1048576 := by omega
  have n4 : (ds2.length : Int) ≤ 1048576 := by omega
  have m1 : ((rs.map cResult).length : Int) ≤ 1048576 := by simpa using n1
  have m2 : ((rs2.map cResult).length : Int) ≤ 1048576 := by simpa using n3
  have hb := wors_le (rs.map cResult) (rs2.map cResult) (rs2.map cResult)
  have hb2 := wors_le (rs2.map cResult) (rs.map cResult) (rs.map cResult)
  have T1 := laws_toReport.ok rs ds n1 n2
  have T2 := laws_toReport.ok rs2 ds2 n3 n4
  have D := impl_DiffReports.ok (rs.map cResult) ds (rs2.map cResult) ds2 m1 m2
  refine EvP.bind T1 ?_
  rintro _ rfl
  refine EvP.bind T2 ?_
  rintro _ rfl
  dsimp only
  refine EvP.bind (spec_DiffReports.ok _ _ _ _ m1 m2) ?_
  rintro _ rfl
  refine EvP.bind T1 ?_
  rintro _ rfl
  refine EvP.bind T2 ?_
  rintro _ rfl
  dsimp only
  refine EvP.bind D ?_
  rintro _ rfl
  dsimp only
  refine EvP.bind (laws_eqStringS.ok _ (by omega)) ?_
  rintro _ rfl
  refine EvP.pos rfl ?_
  refine EvP.bind (laws_eqStringS.ok _ (by omega)) ?_
  rintro _ rfl
  refine EvP.succ ?_
  simp only [laws_FnExactDiffReports.j0]
  refine EvP.neg (by simp) ?_
  refine EvP.bind T1 ?_
  rintro _ rfl
  dsimp only
  refine EvP.bind (laws_eqReport.ok _ _ (by omega) (by omega)) ?_
  rintro _ rfl
  refine EvP.pos rfl ?_
  refine EvP.bind T2 ?_
  rintro _ rfl
  dsimp only
  refine EvP.bind (laws_eqReport.ok _ _ (by omega) (by omega)) ?_
  rintro _ rfl
  refine EvP.pos rfl ?_
  refine EvP.bind (laws_markReport.ge _ _ 1 (by omega) (by omega)) ?_
  intro y hy
  refine EvP.bind (laws_markReport.ge _ _ y.1 (by omega) (by omega)) ?_
  intro y2 hy2
  refine EvP.neg (by omega) ?_
  refine EvP.bind (laws_eqStringS.ok _ (by omega)) ?_
  rintro _ rfl
  refine EvP.pos rfl ?_
  refine EvP.bind (laws_eqStringS.ok _ (by omega)) ?_
  rintro _ rfl
  refine EvP.succ ?_
  simp only [laws_FnExactDiffReports.j1]
  refine EvP.neg (by simp) ?_
  refine EvP.bind (laws_markStringS.ok _ 1 (by omega) (by omega)) ?_
  rintro ⟨m, s⟩ ⟨e1, e2⟩
  simp only at e1 e2
  subst e1 e2
  refine EvP.bind (laws_markStringS.ok _ _ (by omega) (by omega)) ?_
  rintro ⟨m, s⟩ ⟨e1, e2⟩
  simp only at e1 e2
  subst e1 e2
  refine EvP.bind (laws_heldStringS.ok _ 1 (by omega) (by omega)) ?_
  rintro _ rfl
  refine EvP.neg (by omega) ?_
  refine EvP.bind (laws_heldStringS.ok _ _ (by omega) (by omega)) ?_
  rintro _ rfl
  refine EvP.neg (by omega) (EvP.pos rfl ?_)
  refine EvP.bind T1 ?_
  rintro _ rfl
  refine EvP.bind T2 ?_
  rintro _ rfl
  dsimp only
  refine EvP.bind D ?_
  rintro _ rfl
  dsimp only
  refine EvP.bind (laws_eqStringS.ok _ (by omega)) ?_
  rintro _ rfl
  refine EvP.pos rfl ?_
  refine EvP.bind (laws_eqStringS.ok _ (by omega)) ?_
  rintro _ rfl
  refine EvP.succ ?_
  simp only [laws_FnExactDiffReports.j2]
  refine EvP.neg (by simp) ?_
  refine EvP.bind (laws_heldStringS.ok _ 1 (by omega) (by omega)) ?_
  rintro _ rfl
  refine EvP.neg (by omega) ?_
  refine EvP.bind (laws_heldStringS.ok _ _ (by omega) (by omega)) ?_
  rintro _ rfl
  exact EvP.neg (by omega) (EvP.pos rfl (EvP.now rfl))
end QFnExactDiffReports
end Go.Proofs.Ytfpoihcpjmkbkaa.Pure

/- FnExactLiveAfter answers true for all events and numbers: the program's LiveAfter returns what the reference's returns, shares no memory with its argument, and leaves it as it is. Conditions: those of the printed statement alone (bounds on sizes that every input meets). -/
import Derived.Test.YtcfdaffpifbfcaaPFnExactLiveAfterx6
import Derived.Test.YtcfdaffpifbfcaaBase
namespace Go.Proofs.Ytcfdaffpifbfcaa.Pure
open Go.RowKit Go.Proofs.Ytcfdaffpifbfcaa.PFnExactLiveAfter Go.Proofs.YtcfdaffpifbfcaaW.PrintWords Go.Proofs.YtcfdaffpifbfcaaW.PrintLast Go.Proofs.YtcfdaffpifbfcaaW.PrintMore Go.Proofs.Ytcfdaffpifbfcaa.Base
set_option linter.unusedVariables false
set_option linter.unusedSimpArgs false
namespace QFnExactLiveAfter
def Q38 (x : S38) : Prop := ((Lit.int .i64 x.f0).wf = true) ∧ (x.f1.size ≤ 9223372036854775807)
def cEvent (x : S38) : S39 := ⟨x.f0, x.f1⟩
theorem laws_szEvent.ok (x : S38) (h : Q38 x) (left : Int) (h0 : 0 ≤ left) (h1 : left ≤ 1048576) : EvP (fun _ => laws_szEvent.f x.f0 x.f1 left) (fun r => r < 0 ∨ (0 ≤ r ∧ r ≤ left)) := by
  unfold laws_szEvent.f
  have := h.2
  rw [wrap_id (by omega) (by omega)]
  exact EvP.ite (fun _ => EvP.now (.inl (by omega))) (fun _ => EvP.now (.inr (by omega)))
theorem laws_szEventS.ok (l : List S38) (hl : l.length ≤ 9223372036854775807) (hq : ∀ x ∈ l, Q38 x) (left : Int) (h0 : 0 ≤ left) (h1 : left ≤ 1048576) :
    EvP (fun k => laws_szEventS.f k l left) (fun r => r < 0 ∨ (0 ≤ r ∧ r + l.length ≤ left)) := by
  unfold laws_szEventS.f
  rw [wrap_id (by omega) (by omega)]
  refine EvP.ite (fun _ => EvP.now (.inl (by omega))) (fun hn => ?_)
  refine EvP.range (L := fun k s i => laws_szEventS.l0 k l s i) (xs := l) (Inv := fun _ s => 0 ≤ s ∧ s + l.length ≤ left) ?_ ?_ _ ⟨by omega, by omega⟩
  · rintro pre x rest s hx ⟨a0, a1⟩ ih
    have hlt := len_at hx
    have hr : rd_T38 l (pre.length : Int) = x := getD_at hx _
    simp only [laws_szEventS.l0, hr, wrap_at hx (by omega)]
    refine EvP.pos hlt (EvP.pos (nat_nonneg _) ?_)
    refine EvP.bind (laws_szEvent.ok x (hq x (by rw [hx]; simp)) s a0 (by omega)) ?_
    rintro r (g | ⟨g0, g1⟩)
    · exact EvP.pos g (EvP.now (.inl (by omega)))
    · exact EvP.neg (by omega) (ih r ⟨g0, by omega⟩)
  · rintro s ⟨a0, a1⟩
    simp only [laws_szEventS.l0]
    exact EvP.neg (by omega) (EvP.now (.inr ⟨a0, a1⟩))
theorem laws_toEvent.ok (x : S38) : EvP (fun _ => laws_toEvent.f x.f0 x.f1) (fun r => (⟨r.1, r.2⟩ : S39) = cEvent x) := by
  unfold laws_toEvent.f
  exact EvP.now rfl
theorem laws_toEventS.ok (l : List S38) (hl : (l.length : Int) ≤ 1048576) : EvP (fun k => laws_toEventS.f k l) (· = l.map cEvent) := by
  unfold laws_toEventS.f
  refine EvP.pos (by omega) (EvP.pos (by omega) ?_)
  rw [Int.toNat_natCast]
  refine EvP.fill (L := fun k s i => laws_toEventS.l0 k l s i) (xs := l) cEvent _ ?_ ?_
  · intro pre x rest s hx hs ih
    have hlt := len_at hx
    have hr : rd_T38 l (pre.length : Int) = x := getD_at hx _
    simp only [laws_toEventS.l0, hr, wrap_at hx (by omega)]
    refine EvP.pos hlt (EvP.pos (nat_nonneg _) ?_)
    refine EvP.bind (laws_toEvent.ok x) ?_
    intro r g
    rw [g]
    exact EvP.pos (by omega) ih
  · intro s
    simp only [laws_toEventS.l0]
    exact EvP.neg (by omega) (EvP.now rfl)
theorem laws_eqEventS.ok (l : List S39) (hl : (l.length : Int) ≤ 9223372036854775807) : EvP (fun k => laws_eqEventS.f k l l) (· = true) := by
  unfold laws_eqEventS.f
  refine EvP.pos rfl ?_
  refine EvP.range (L := fun k (_ : Unit) i => laws_eqEventS.l0 k l l i) (xs := l) (Inv := fun _ _ => True) ?_ ?_ () trivial
  · rintro pre x rest s hx _ ih
    have hlt := len_at hx
    have hr : rd_T39 l (pre.length : Int) = x := getD_at hx _
    simp only [laws_eqEventS.l0, hr, wrap_at hx hl]
    refine EvP.pos hlt (EvP.pos (nat_nonneg _) (EvP.pos hlt ?_))
    refine EvP.bind (P := (· = true)) ?_ ?_
    · unfold laws_eqEvent.f
      exact EvP.pos rfl (EvP.pos rfl (EvP.now rfl))
    · rintro _ rfl
      exact EvP.pos rfl (ih () trivial)
  · rintro s _
    simp only [laws_eqEventS.l0]
    exact EvP.neg (by omega) (EvP.now rfl)
theorem laws_eqStringS.ok (l : List ByteArray) (hl : (l.length : Int) ≤ 9223372036854775807) : EvP (fun k => laws_eqStringS.f k l l) (· = true) := by
  unfold laws_eqStringS.f
  refine EvP.pos rfl ?_
  refine EvP.range (L := fun k (_ : Unit) i => laws_eqStringS.l0 k l l i) (xs := l) (Inv := fun _ _ => True) ?_ ?_ () trivial
  · rintro pre x rest s hx _ ih
    have hlt := len_at hx
    simp only [laws_eqStringS.l0, wrap_at hx hl]
    exact EvP.pos hlt (EvP.pos (nat_nonneg _) (EvP.pos hlt (EvP.pos trivial (ih () trivial))))
  · rintro s _
    simp only [laws_eqStringS.l0]
    exact EvP.neg (by omega) (EvP.now rfl)
/-! #### marks -/
theorem strOf_one (n : Int) : (strOfNums [n]).size = 1 := rfl
theorem laws_markText.all (n : Int) (h0 : 0 ≤ n) (h1 : n ≤ 9223372036854775807) : EvP (fun k => laws_markText.f k n) (fun _ => True) := by
  unfold laws_markText.f
  refine EvP.ite (fun _ => EvP.now trivial) (fun hn => ?_)
  have loop : ∀ (d : Nat) (x : Int) (s : ByteArray), x.toNat < d → 0 ≤ x → x ≤ 9223372036854775807 → (s.size : Int) + x ≤ 9223372036854775807 + 0 ∨ s.size ≤ 20 ∧ x < 10 ^ (20 - s.size) → s.size ≤ 20 ∧ x < 10 ^ (20 - s.size) →
      EvP (fun k => laws_markText.l0 k x s) (fun _ => True) := by
    intro d
    induction d with
    | zero => intro x s a0; omega
    | succ d ih =>
      intro x s a0 a1 a2 _ a3
      refine EvP.succ ?_
      simp only [laws_markText.l0]
      refine EvP.ite (fun hx => ?_) (fun hx => EvP.pos (by omega) (EvP.now trivial))
      have hd : s.size ≠ 20 := by
        intro e
        rw [e] at a3
        simp at a3
        omega
      refine EvP.bind (P := fun y => (strOfNums y).size = 1) (EvP.now (strOf_one _)) ?_
      intro y hy
      refine EvP.pos (by omega) ?_
      have e1 : Int.tdiv x 10 = x / 10 := Int.tdiv_eq_ediv_of_nonneg a1
      rw [e1, wrap_id (by omega) (by omega)]
      have e2 : (strOfNums y ++ s).size = s.size + 1 := by rw [ByteArray.size_append, hy]; omega
      have e3 : x / 10 < 10 ^ (20 - (strOfNums y ++ s).size) := by
        rw [e2]
        have : (10 : Int) ^ (20 - s.size) = 10 ^ (20 - (s.size + 1)) * 10 := by
          rw [← Int.pow_succ]
          congr 1
          omega
        have h3 := a3.2
        rw [this] at h3
        omega
      exact ih _ _ (by omega) (by omega) (by omega) (.inr ⟨by omega, e3⟩) ⟨by omega, e3⟩
  refine loop (n.toNat + 1) n _ (by omega) (by omega) h1 (.inr ⟨by decide, ?_⟩) ⟨by decide, ?_⟩
  · have : (10 : Int) ^ (20 - (⟨#[]⟩ : ByteArray).size) = 100000000000000000000 := by decide
    omega
  · have : (10 : Int) ^ (20 - (⟨#[]⟩ : ByteArray).size) = 100000000000000000000 := by decide
    omega
noncomputable def mkT (n : Int) : ByteArray := endOf ByteArray.empty (fun k => laws_markText.f k n)
theorem laws_markText.ok (n : Int) (h0 : 0 ≤ n) (h1 : n ≤ 9223372036854775807) : EvP (fun k => laws_markText.f k n) (· = mkT n) := (laws_markText.all n h0 h1).ended _
noncomputable def marks (n : Int) (m : Nat) : List ByteArray := (List.range m).map fun (i : Nat) => mkT (n + (i : Int))
theorem marks_len (n : Int) (m : Nat) : (marks n m).length = m := by simp [marks]
theorem marks_snoc (n : Int) (m : Nat) : marks n (m + 1) = marks n m ++ [mkT (n + m)] := by simp [marks, List.range_succ]
theorem laws_markStringS.ok (l : List ByteArray) (n : Int) (h0 : 0 ≤ n) (h1 : n + l.length ≤ 1000000000) : EvP (fun k => laws_markStringS.f k l n) (fun r => r.1 = n + l.length ∧ r.2 = marks n l.length) := by
  unfold laws_markStringS.f
  refine EvP.upto (L := fun k (s : List ByteArray × Int) i => laws_markStringS.l0 k s.1 s.2 i) (n := l.length) (Inv := fun i s => s.1.length = l.length ∧ s.1.take i = marks n i ∧ s.2 = n + i) ?_ ?_ (l, n) ⟨rfl, by simp [marks], by simp⟩
  · rintro i ⟨s, m⟩ hi ⟨a0, a1, a2⟩ ih
    simp only at a0 a1 a2
    subst a2
    simp only [laws_markStringS.l0]
    refine EvP.pos (by omega) ?_
    refine EvP.bind (laws_markText.ok _ (by omega) (by omega)) ?_
    rintro _ rfl
    refine EvP.pos (by omega) ?_
    rw [wrap_id (x := n + (i : Int) + 1) (by omega) (by omega), wrap_id (x := (i : Int) + 1) (by omega) (by omega), Int.toNat_natCast]
    refine ih (s.set i (mkT (n + i)), n + (i : Int) + 1) ⟨by simpa using a0, ?_, by simp only; omega⟩
    rw [take_set _ _ _ (by omega), a1, marks_snoc]
  · rintro ⟨s, m⟩ ⟨a0, a1, a2⟩
    simp only at a0 a1 a2
    simp only [laws_markStringS.l0]
    refine EvP.neg (by omega) (EvP.now ⟨a2, ?_⟩)
    simp only
    rw [← a1, List.take_of_length_le (by omega)]
theorem laws_heldStringS.ok (m : Nat) (n : Int) (h0 : 0 ≤ n) (h1 : n + m ≤ 1000000000) : EvP (fun k => laws_heldStringS.f k (marks n m) n) (· = n + m) := by
  unfold laws_heldStringS.f
  have hm := marks_len n m
  refine EvP.upto (L := fun k s i => laws_heldStringS.l0 k (marks n m) s i) (n := m) (Inv := fun i s => s = n + i) ?_ ?_ n (by simp)
  · rintro i s hi rfl ih
    simp only [laws_heldStringS.l0]
    have hr : rdOf ByteArray.empty (marks n m) (i : Int) = mkT (n + i) := by
      unfold rdOf marks
      rw [Int.toNat_natCast, List.getD_eq_getElem?_getD, List.getElem?_map, List.getElem?_range hi]
      rfl
    refine EvP.pos (by omega) (EvP.pos (by omega) ?_)
    refine EvP.bind (laws_markText.ok _ (by omega) (by omega)) ?_
    rintro _ rfl
    rw [hr, wrap_id (x := n + (i : Int) + 1) (by omega) (by omega), wrap_id (x := (i : Int) + 1) (by omega) (by omega)]
    exact EvP.pos rfl (ih _ (by omega))
  · rintro s rfl
    simp only [laws_heldStringS.l0]
    exact EvP.neg (by omega) (EvP.now rfl)
theorem laws_markEventS.ok (l : List S39) (n : Int) (h0 : 0 ≤ n) (h1 : n + 2 * l.length ≤ 1000000000) : EvP (fun k => laws_markEventS.f k l n) (fun r => 0 ≤ r.1) := by
  unfold laws_markEventS.f
  refine EvP.upto (L := fun k (s : List S39 × Int) i => laws_markEventS.l0 k s.1 s.2 i) (n := l.length) (Inv := fun i s => s.1.length = l.length ∧ s.2 = n + 2 * i) ?_ ?_ (l, n) ⟨rfl, by simp⟩
  · rintro i ⟨s, m⟩ hi ⟨a0, a2⟩ ih
    simp only at a0 a2
    subst a2
    simp only [laws_markEventS.l0]
    refine EvP.pos (by omega) (EvP.pos (by omega) ?_)
    refine EvP.bind (P := fun y => y.length = s.length) (EvP.now (by simp)) ?_
    intro y hy
    rw [wrap_id (x := n + 2 * (i : Int) + 1) (by omega) (by omega), wrap_id (x := n + 2 * (i : Int) + 1 + 1) (by omega) (by omega), wrap_id (x := (i : Int) + 1) (by omega) (by omega)]
    refine EvP.bind (laws_markText.ok _ (by omega) (by omega)) ?_
    rintro _ rfl
    exact ih (_, n + 2 * (i : Int) + 1 + 1) ⟨by simp only [List.length_set]; omega, by simp only; omega⟩
  · rintro ⟨s, m⟩ ⟨a0, a2⟩
    simp only at a0 a2
    simp only [laws_markEventS.l0]
    exact EvP.neg (by omega) (EvP.now (by simp only; omega))
/-- Is a text in a list? -/
def hasT (l : List ByteArray) (s : ByteArray) : Bool := l.any fun y => decide (y.toList = s.toList)
theorem hasT_cons (y : ByteArray) (l : List ByteArray) (s : ByteArray) : hasT (y :: l) s = (decide (y.toList = s.toList) || hasT l s) := rfl
theorem hasT_append (a b : List ByteArray) (s : ByteArray) : hasT (a ++ b) s = (hasT a s || hasT b s) := by simp [hasT, List.any_append]
theorem hasT_iff (l : List ByteArray) (s : ByteArray) : hasT l s = true ↔ ∃ y ∈ l, y.toList = s.toList := by simp [hasT]
theorem spec_hasText.ok (l : List ByteArray) (s : ByteArray) (h : (l.length : Int) ≤ 9223372036854775807) : EvP (fun k => spec_hasText.f k l s) (· = hasT l s) := by
  unfold spec_hasText.f
  refine EvP.range (L := fun k (_ : Unit) i => spec_hasText.l0 k l s i) (xs := l) (Inv := fun pre _ => hasT pre s = false) ?_ ?_ () rfl
  · rintro pre x rest _ hx hi ih
    have hl := len_at hx
    have hr : rdOf ByteArray.empty l (pre.length : Int) = x := getD_at hx _
    simp only [spec_hasText.l0, hr, wrap_at hx h]
    refine EvP.pos hl (EvP.pos (nat_nonneg _) ?_)
    refine EvP.ite (fun e => EvP.now ?_) (fun e => ih () ?_)
    · rw [hx, hasT_append, hasT_cons, e]
      simp
    · rw [hasT_append, hasT_cons, hi]
      simp [e, hasT]
  · rintro _ hi
    simp only [spec_hasText.l0]
    exact EvP.neg (by omega) (EvP.now hi.symm)
/-! #### what is live -/
def evEq (a : Int) (b : ByteArray) (y : S39) : Bool := a == y.f0 && (b.toList == y.f1.toList)
def hasEv (l : List S39) (a : Int) (b : ByteArray) : Bool := l.any (evEq a b)
/-- As the program has it: the names of those that come up and have no fall behind them. -/
def liveI : List S39 → List ByteArray
  | [] => []
  | x :: rest => (if x.f0 = 0 ∧ hasEv (x :: rest) 1 x.f1 = false then [x.f1] else []) ++ liveI rest
theorem liveI_le (l : List S39) : (liveI l).length ≤ l.length := by
  induction l with
  | nil => simp [liveI]
  | cons x l ih =>
    rw [liveI, List.length_append, List.length_cons]
    split <;> simp <;> omega
theorem liveI_snoc (l : List S39) (e : S39) : liveI (l ++ [e]) = (liveI l).filter (fun n => !evEq 1 n e) ++ if e.f0 = 0 then [e.f1] else [] := by
  induction l with
  | nil =>
    simp only [List.nil_append, liveI, List.append_nil, List.filter_nil]
    by_cases h : e.f0 = 0
    · have : hasEv [e] 1 e.f1 = false := by simp [hasEv, evEq, h]
      rw [if_pos ⟨h, this⟩, if_pos h]
    · rw [if_neg (fun g => h g.1), if_neg h]
  | cons x l ih =>
    rw [List.cons_append, liveI, liveI, ih, List.filter_append, List.append_assoc]
    rw [← List.append_assoc, ← List.append_assoc]
    congr 2
    have hh : hasEv (x :: (l ++ [e])) 1 x.f1 = (hasEv (x :: l) 1 x.f1 || evEq 1 x.f1 e) := by
      rw [← List.cons_append]
      simp [hasEv, List.any_append, Bool.or_assoc]
    rw [hh]
    by_cases h1 : x.f0 = 0
    · cases h2 : hasEv (x :: l) 1 x.f1 <;> cases h3 : evEq 1 x.f1 e <;> simp [h1, h3]
    · simp [h1]
/-- As the reference has it: one event after the other. -/
def stepS (acc : List ByteArray) (x : S39) : List ByteArray := if x.f0 = 0 then acc ++ [x.f1] else if x.f0 = 1 then acc.filter (fun y => !hasT [x.f1] y) else acc
def liveS (l : List S39) : List ByteArray := l.foldl stepS []
theorem liveS_snoc (l : List S39) (x : S39) : liveS (l ++ [x]) = stepS (liveS l) x := by simp [liveS]
theorem live_eq (l : List S39) : liveS l = liveI l := by
  induction l using snoc_ind with
  | nil => rfl
  | snoc l x ih =>
    rw [liveS_snoc, liveI_snoc, ih]
    unfold stepS
    by_cases h0 : x.f0 = 0
    · rw [if_pos h0, if_pos h0]
      congr 1
      symm
      rw [List.filter_eq_self]
      intro n _
      simp [evEq, h0]
    · rw [if_neg h0, if_neg h0, List.append_nil]
      by_cases h1 : x.f0 = 1
      · rw [if_pos h1]
        apply List.filter_congr
        intro n _
        rw [Bool.eq_iff_iff]
        simp only [evEq, hasT, h1, List.any_cons, List.any_nil, Bool.or_false, beq_self_eq_true, Bool.true_and, Bool.not_eq_true', decide_eq_false_iff_not, beq_eq_false_iff_ne, ne_eq]
        rw [eq_comm]
      · rw [if_neg h1]
        symm
        rw [List.filter_eq_self]
        intro n _
        have : (1 == x.f0) = false := by simp; omega
        simp [evEq, this]
theorem spec_without.ok (l d : List ByteArray) (h : (l.length : Int) ≤ 8796093022208) (hd : (d.length : Int) ≤ 8796093022208) : EvP (fun k => spec_without.f k l d) (· = l.filter fun y => !hasT d y) := by
  unfold spec_without.f
  refine EvP.range (L := fun k s i => spec_without.l0 k l d s i) (xs := l) (Inv := fun pre s => s = pre.filter fun y => !hasT d y) ?_ ?_ [] rfl
  · rintro pre x rest s hx rfl ih
    have hl := len_at hx
    have hc := List.length_filter_le (fun y => !hasT d y) pre
    have hr : rdOf ByteArray.empty l (pre.length : Int) = x := getD_at hx _
    simp only [spec_without.l0, hr, wrap_at hx (by omega)]
    refine EvP.pos hl (EvP.pos (nat_nonneg _) ?_)
    refine EvP.bind (spec_hasText.ok d x (by omega)) ?_
    rintro _ rfl
    refine EvP.ite (fun e => ih _ ?_) (fun e => EvP.pos (by omega) (ih _ ?_))
    · simp [List.filter_append, List.filter_cons, e]
    · simp [List.filter_append, List.filter_cons, e]
  · rintro s rfl
    simp only [spec_without.l0]
    exact EvP.neg (by omega) (EvP.now rfl)
theorem spec_liveAfter.ok (l : List S39) (h : (l.length : Int) ≤ 8796093022208) : EvP (fun k => spec_liveAfter.f k l) (· = liveI l) := by
  unfold spec_liveAfter.f
  refine EvP.range (L := fun k s i => spec_liveAfter.l0 k l s i) (xs := l) (Inv := fun pre s => s = liveI pre) ?_ ?_ [] rfl
  · rintro pre x rest s hx rfl ih
    have hl := len_at hx
    have hc := liveI_le pre
    have hr : rd_T39 l (pre.length : Int) = x := getD_at hx _
    have hs : liveI (pre ++ [x]) = stepS (liveI pre) x := by rw [← live_eq, liveS_snoc, live_eq]
    simp only [spec_liveAfter.l0, hr, wrap_at hx (by omega)]
    refine EvP.pos hl (EvP.pos (nat_nonneg _) ?_)
    refine EvP.ite (fun e => EvP.pos (by omega) (ih _ ?_)) (fun e => EvP.ite (fun e2 => ?_) (fun e2 => ih _ ?_))
    · rw [hs, stepS, if_pos e]
    · refine EvP.bind (spec_without.ok _ _ (by omega) (by simp)) ?_
      rintro _ rfl
      exact ih _ (by rw [hs, stepS, if_neg e, if_pos e2])
    · rw [hs, stepS, if_neg e, if_neg e2]
  · rintro s rfl
    simp only [spec_liveAfter.l0]
    exact EvP.neg (by omega) (EvP.now rfl)
theorem impl_Event_27.ok (l : List S39) (a : Int) (b : ByteArray) (h : (l.length : Int) ≤ 9223372036854775807) : EvP (fun k => impl_Event_27.f k l a b) (fun r => decide (r ≥ 0) = hasEv l a b) := by
  unfold impl_Event_27.f
  refine EvP.range (L := fun k (_ : Unit) i => impl_Event_27.l0 k l (l.length : Int) i a b) (xs := l) (Inv := fun pre _ => hasEv pre a b = false) ?_ ?_ () rfl
  · rintro pre x rest _ hx hi ih
    have hl := len_at hx
    have hr : rd_T39 l (pre.length : Int) = x := getD_at hx _
    simp only [impl_Event_27.l0, hr, wrap_at hx h]
    refine EvP.pos hl (EvP.pos (nat_nonneg _) (EvP.pos hl ?_))
    refine EvP.ite (fun e => EvP.now ?_) (fun e => ih () ?_)
    · have : hasEv l a b = true := by
        rw [hx, hasEv, List.any_append, List.any_cons, show evEq a b x = true from e]
        simp
      rw [this]
      simp
    · rw [hasEv, List.any_append, ← hasEv, hi, List.any_cons, show evEq a b x = false from by simpa [evEq] using e]
      rfl
  · rintro _ hi
    simp only [impl_Event_27.l0]
    exact EvP.neg (by omega) (EvP.now (by rw [hi]; rfl))
theorem impl_Event_25.ok (l : List S39) (a : Int) (b : ByteArray) (h : (l.length : Int) ≤ 9223372036854775807) : EvP (fun k => impl_Event_25.f k l a b) (· = hasEv l a b) := by
  unfold impl_Event_25.f
  refine EvP.bind (impl_Event_27.ok l a b h) ?_
  intro r hr
  exact EvP.now hr
theorem impl_LiveAfter.ok (l : List S39) (n : Int) (h : (l.length : Int) ≤ 8796093022208) : EvP (fun k => impl_LiveAfter.f k l n) (· = if 0 ≤ n ∧ n ≤ (l.length : Int) then liveI (l.take n.toNat) else []) := by
  have out : ∀ b : Bool, b = true → ¬ (0 ≤ n ∧ n ≤ (l.length : Int)) → EvP (fun k => impl_LiveAfter.j0 k l n b) (· = if 0 ≤ n ∧ n ≤ (l.length : Int) then liveI (l.take n.toNat) else []) := by
    intro b hb hn
    refine EvP.succ ?_
    simp only [impl_LiveAfter.j0]
    exact EvP.pos hb (EvP.now (by rw [if_neg hn]))
  unfold impl_LiveAfter.f
  refine EvP.ite (fun h0 => out _ rfl (by omega)) (fun h0 => ?_)
  by_cases h1 : n > (l.length : Int)
  · exact out _ (by simpa using h1) (by omega)
  · have hd : decide (n > (l.length : Int)) = false := by simpa using h1
    rw [hd, if_pos ⟨by omega, by omega⟩]
    refine EvP.succ ?_
    simp only [impl_LiveAfter.j0]
    refine EvP.neg (by simp) (EvP.pos (by omega) (EvP.pos (by omega) ?_))
    refine EvP.bind (P := (· = l.take n.toNat)) (EvP.now rfl) ?_
    rintro _ rfl
    have hlen : (l.take n.toNat).length ≤ l.length := by simp; omega
    generalize hy : l.take n.toNat = y at *
    refine EvP.range (L := fun k s i => impl_LiveAfter.l0 k l n s y (y.length : Int) i) (xs := y) (Inv := fun pre s => s.length ≤ pre.length ∧ s ++ liveI (y.drop pre.length) = liveI y) ?_ ?_ [] ⟨by simp, by simp⟩
    · rintro pre x rest s hx ⟨hi0, hi⟩ ih
      have hl := len_at hx
      have hr : rd_T39 y (pre.length : Int) = x := getD_at hx _
      have hdr : y.drop pre.length = x :: rest := by rw [hx]; simp
      have hdr2 : y.drop (pre ++ [x]).length = rest := by rw [hx]; simp
      rw [hdr, liveI] at hi
      have hnl : (pre.length : Int) ≤ n := by
        have : y.length ≤ n.toNat := by rw [← hy]; simp; omega
        omega
      simp only [impl_LiveAfter.l0, hr, wrap_at hx (by omega)]
      refine EvP.pos hl (EvP.pos (nat_nonneg _) (EvP.pos hl ?_))
      refine EvP.ite (fun e => EvP.pos hnl (EvP.pos (by omega) ?_)) (fun e => ih _ ?_)
      · rw [hy, Int.toNat_natCast, hdr]
        refine EvP.bind (impl_Event_25.ok _ _ _ (by rw [← hdr, List.length_drop]; omega)) ?_
        rintro _ rfl
        refine EvP.ite (fun e2 => ih _ ?_) (fun e2 => EvP.pos (by omega) (ih _ ?_))
        · rw [hdr2]
          refine ⟨by simp; omega, ?_⟩
          rw [← hi, if_neg (by rw [e2]; simp)]
          rfl
        · rw [hdr2]
          refine ⟨by simp; omega, ?_⟩
          rw [← hi, if_pos ⟨e, by simpa using e2⟩, List.append_assoc]
      · rw [hdr2]
        refine ⟨by simp; omega, ?_⟩
        rw [← hi, if_neg (fun g => e g.1)]
        rfl
    · rintro s ⟨_, hi⟩
      simp only [impl_LiveAfter.l0]
      refine EvP.neg (by omega) (EvP.now ?_)
      rw [← hi, List.drop_length, liveI, List.append_nil]
theorem spec_inRange.ok (a b c : Int) : EvP (fun _ => spec_inRange.f a b c) (· = decide (b ≤ a ∧ a ≤ c)) := by
  unfold spec_inRange.f
  exact EvP.ite (fun h => EvP.now (by simp [h])) (fun h => EvP.now (by simp [h]))
def liveAt (l : List S39) (n : Int) : List ByteArray := if 0 ≤ n ∧ n ≤ (l.length : Int) then liveI (l.take n.toNat) else []
theorem liveAt_le (l : List S39) (n : Int) : (liveAt l n).length ≤ l.length := by
  unfold liveAt
  split
  · have := liveI_le (l.take n.toNat)
    rw [List.length_take] at this
    omega
  · simp
theorem spec_LiveAfter.ok (l : List S39) (n : Int) (h : (l.length : Int) ≤ 8796093022208) : EvP (fun k => spec_LiveAfter.f k l n) (· = liveAt l n) := by
  unfold spec_LiveAfter.f
  refine EvP.bind (spec_inRange.ok _ _ _) ?_
  rintro _ rfl
  refine EvP.ite (fun e => ?_) (fun e => ?_)
  · have e' : 0 ≤ n ∧ n ≤ (l.length : Int) := by simpa using e
    refine EvP.pos e'.1 (EvP.pos e'.2 ?_)
    refine EvP.bind (spec_liveAfter.ok _ (by rw [List.length_take]; omega)) ?_
    rintro _ rfl
    exact EvP.now (by rw [liveAt, if_pos e'])
  · have e' : ¬ (0 ≤ n ∧ n ≤ (l.length : Int)) := by simpa using e
    exact EvP.now (by rw [liveAt, if_neg e'])
theorem main (l0 : List S38) (hl : l0.length ≤ 9223372036854775807) (hq : ∀ x ∈ l0, Q38 x) (a1 : Int) (w1 : (Lit.int .i64 a1).wf = true) : ∃ k, laws_FnExactLiveAfter.f k l0 a1 = some true := by
  refine EvP.rounds ?_
  unfold laws_FnExactLiveAfter.f
  refine EvP.bind (laws_szEventS.ok l0 hl hq _ (by omega) (by omega)) ?_
  rintro r (g | ⟨g0, g1⟩)
  · exact EvP.pos g (EvP.now rfl)
  refine EvP.neg (by omega) ?_
  have hn : (l0.length : Int) ≤ 1048576 := by omega
  have hm : ((l0.map cEvent).length : Int) ≤ 1048576 := by simpa using hn
  have hr := liveAt_le (l0.map cEvent) a1
  have impl := impl_LiveAfter.ok (l0.map cEvent) a1 (by omega)
  change EvP _ (· = liveAt (l0.map cEvent) a1) at impl
  refine EvP.bind (laws_toEventS.ok l0 hn) ?_
  rintro _ rfl
  refine EvP.bind (spec_LiveAfter.ok _ _ (by omega)) ?_
  rintro _ rfl
  refine EvP.bind (laws_toEventS.ok l0 hn) ?_
  rintro _ rfl
  refine EvP.bind impl ?_
  rintro _ rfl
  refine EvP.bind (laws_eqStringS.ok _ (by omega)) ?_
  rintro _ rfl
  refine EvP.pos rfl ?_
  refine EvP.bind (laws_toEventS.ok l0 hn) ?_
  rintro _ rfl
  refine EvP.bind (laws_eqEventS.ok _ (by omega)) ?_
  rintro _ rfl
  refine EvP.pos rfl ?_
  refine EvP.bind (laws_markEventS.ok _ 1 (by omega) (by omega)) ?_
  intro y hy
  refine EvP.neg (by omega) ?_
  refine EvP.bind (laws_eqStringS.ok _ (by omega)) ?_
  rintro _ rfl
  refine EvP.succ ?_
  simp only [laws_FnExactLiveAfter.j0]
  refine EvP.neg (by simp) ?_
  refine EvP.bind (laws_markStringS.ok _ 1 (by omega) (by omega)) ?_
  rintro ⟨m, s⟩ ⟨e1, e2⟩
  simp only at e1 e2
  subst e1 e2
  refine EvP.bind (laws_heldStringS.ok _ 1 (by omega) (by omega)) ?_
  rintro _ rfl
  refine EvP.neg (by omega) (EvP.pos rfl ?_)
  refine EvP.bind (laws_toEventS.ok l0 hn) ?_
  rintro _ rfl
  refine EvP.bind impl ?_
  rintro _ rfl
  refine EvP.bind (laws_eqStringS.ok _ (by omega)) ?_
  rintro _ rfl
  refine EvP.pos rfl ?_
  refine EvP.bind (laws_heldStringS.ok _ 1 (by omega) (by omega)) ?_
  rintro _ rfl
  exact EvP.neg (by omega) (EvP.pos rfl (EvP.now rfl))
end QFnExactLiveAfter
end Go.Proofs.Ytcfdaffpifbfcaa.Pure

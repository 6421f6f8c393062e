/- FnExactCallsOf answers true for all arguments: the program's CallsOf returns what the reference's returns, shares no memory with its argument, and leaves it as it is. Conditions: those of the printed statement alone (bounds on sizes that every input meets). -/
import Derived.Test.YtdhppadgpkgpeaaOFnExactCallsOfx6
import Derived.Test.YtdhppadgpkgpeaaBase
namespace Go.Proofs.Ytdhppadgpkgpeaa.Pure
open Go.RowKit Go.Proofs.Ytdhppadgpkgpeaa.OFnExactCallsOf Go.Proofs.YtdhppadgpkgpeaaW.PrintWords Go.Proofs.YtdhppadgpkgpeaaW.PrintLast Go.Proofs.YtdhppadgpkgpeaaW.PrintMore Go.Proofs.Ytdhppadgpkgpeaa.Base
set_option linter.unusedVariables false
set_option linter.unusedSimpArgs false
namespace QFnExactCallsOf
/-! #### names -/
def azB (s : ByteArray) : Bool := decide (∀ j : Nat, j < s.size → 97 ≤ bt s (j : Int) ∧ bt s (j : Int) ≤ 122)
def wordB (s : ByteArray) : Bool := decide (s.toList ≠ [97, 110, 100]) && (decide (s.toList ≠ [111, 114]) && decide (s.toList ≠ [110, 111, 116]))
def nameB (s : ByteArray) : Bool := azB s && (decide (1 ≤ s.size ∧ s.size ≤ 6) && wordB s)
theorem azB_no {s : ByteArray} {i : Nat} (hi : i < s.size) (h : ¬ (97 ≤ bt s (i : Int) ∧ bt s (i : Int) ≤ 122)) : nameB s = false := by
  have : azB s = false := by
    rw [azB, decide_eq_false_iff_not]
    exact fun g => h (g i hi)
  rw [nameB, this]
  rfl
theorem azB_yes {s : ByteArray} (h : ∀ j : Nat, j < s.size → 97 ≤ bt s (j : Int) ∧ bt s (j : Int) ≤ 122) : azB s = true := by
  rw [azB, decide_eq_true_iff]
  exact h
theorem words_ok (s : ByteArray) : EvP (fun _ => if s.toList = ([97, 110, 100] : List UInt8) then (some false) else (if s.toList = ([111, 114] : List UInt8) then (some false) else (some (s.toList != ([110, 111, 116] : List UInt8))))) (· = wordB s) := by
  unfold wordB
  refine EvP.ite (fun h => EvP.now (by simp [h])) (fun h => EvP.ite (fun h2 => EvP.now (by simp [h2])) (fun h2 => EvP.now ?_))
  simp [h, h2, bne]
  rw [Bool.eq_iff_iff]
  simp
def numB (n : Int) : Bool := decide (-99 ≤ n ∧ n ≤ 99)
def numsB (l : List Int) : Bool := l.all numB
theorem numsB_no {l pre rest : List Int} {x : Int} (h : l = pre ++ x :: rest) (hx : ¬ (-99 ≤ x ∧ x ≤ 99)) : numsB l = false := by
  rw [h, numsB, List.all_append, List.all_cons, numB, decide_eq_false hx]
  simp
theorem numsB_snoc {pre : List Int} {x : Int} (h : numsB pre = true) (hx : -99 ≤ x ∧ x ≤ 99) : numsB (pre ++ [x]) = true := by
  rw [numsB, List.all_append, ← numsB, h, List.all_cons, numB, decide_eq_true hx]
  rfl
/-! #### calls -/
def callB (x : S45) : Bool := nameB x.f0 && (decide (x.f1.length ≤ 3) && numsB x.f1)
def callsB (l : List S45) : Bool := l.all callB && decide (l.length ≤ 12)
/-- Sizes that no machine sum passes. -/
def GoodC (l : List S45) : Prop := (l.length : Int) ≤ 4398046511104 ∧ ∀ x ∈ l, (x.f0.size : Int) ≤ 4398046511104 ∧ (x.f1.length : Int) ≤ 4398046511104
theorem callsB_no {l pre rest : List S45} {x : S45} (h : l = pre ++ x :: rest) (hx : callB x = false) : callsB l = false := by
  rw [h, callsB, List.all_append, List.all_cons, hx]
  simp
theorem all_snoc {α : Type} {p : α → Bool} {pre : List α} {x : α} (h : pre.all p = true) (hx : p x = true) : (pre ++ [x]).all p = true := by
  rw [List.all_append, h, List.all_cons, hx]
  rfl
theorem laws_szIntS.ok (l : List Int) (h : l.length ≤ 9223372036854775807) (left : Int) (h0 : 0 ≤ left) (h1 : left ≤ 1048576) : EvP (fun _ => laws_szIntS.f l left) (fun r => r < 0 ∨ (0 ≤ r ∧ r + l.length ≤ left)) := by
  unfold laws_szIntS.f
  rw [wrap_id (by omega) (by omega)]
  exact EvP.ite (fun _ => EvP.now (.inl (by omega))) (fun _ => EvP.now (.inr (by omega)))
theorem laws_toIntS.ok (l : List Int) (hl : (l.length : Int) ≤ 1048576) : EvP (fun k => laws_toIntS.f k l) (· = l) := by
  have main : EvP (fun k => laws_toIntS.f k l) (· = l.map id) := by
    unfold laws_toIntS.f
    refine EvP.pos (by omega) (EvP.pos (by omega) ?_)
    rw [Int.toNat_natCast]
    refine EvP.fill (L := fun k s i => laws_toIntS.l0 k l s i) (xs := l) id _ ?_ ?_
    · intro pre x rest s hx hs ih
      have hlt := len_at hx
      have hr : rd l (pre.length : Int) = x := getD_at hx _
      simp only [laws_toIntS.l0, hr, wrap_at hx (by omega)]
      exact EvP.pos hlt (EvP.pos (nat_nonneg _) (EvP.pos (by omega) ih))
    · intro s
      simp only [laws_toIntS.l0]
      exact EvP.neg (by omega) (EvP.now rfl)
  simpa using main
theorem laws_eqIntS.ok (l : List Int) (hl : (l.length : Int) ≤ 9223372036854775807) : EvP (fun k => laws_eqIntS.f k l l) (· = true) := by
  unfold laws_eqIntS.f
  refine EvP.pos rfl ?_
  refine EvP.range (L := fun k (_ : Unit) i => laws_eqIntS.l0 k l l i) (xs := l) (Inv := fun _ _ => True) ?_ ?_ () trivial
  · rintro pre x rest s hx _ ih
    have hlt := len_at hx
    simp only [laws_eqIntS.l0, wrap_at hx hl]
    exact EvP.pos hlt (EvP.pos (nat_nonneg _) (EvP.pos hlt (EvP.pos trivial (ih () trivial))))
  · rintro s _
    simp only [laws_eqIntS.l0]
    exact EvP.neg (by omega) (EvP.now rfl)
def Q42 (x : S42) : Prop := (x.f0.size ≤ 9223372036854775807) ∧ (x.f1.length ≤ 9223372036854775807 ∧ ∀ y ∈ x.f1, (Lit.int .i64 y).wf = true)
def cCall (x : S42) : S45 := ⟨x.f0, x.f1⟩
theorem laws_szCall.ok (s : ByteArray) (a : List Int) (hs : s.size ≤ 9223372036854775807) (ha : a.length ≤ 9223372036854775807) (left : Int) (h0 : 0 ≤ left) (h1 : left ≤ 1048576) : EvP (fun _ => laws_szCall.f s a left) (fun r => r < 0 ∨ (0 ≤ r ∧ r + s.size + a.length ≤ left)) := by
  unfold laws_szCall.f
  rw [wrap_id (by omega) (by omega)]
  refine EvP.ite (fun _ => EvP.now (.inl (by omega))) (fun hn => ?_)
  refine EvP.bind (laws_szIntS.ok a ha _ (by omega) (by omega)) ?_
  rintro r (g | ⟨g0, g1⟩)
  · exact EvP.pos g (EvP.now (.inl (by omega)))
  · exact EvP.neg (by omega) (EvP.now (.inr ⟨g0, by omega⟩))
theorem laws_szCallS.ok (l : List S42) (hl : l.length ≤ 9223372036854775807) (hq : ∀ x ∈ l, Q42 x) (left : Int) (h0 : 0 ≤ left) (h1 : left ≤ 1048576) :
    EvP (fun k => laws_szCallS.f k l left) (fun r => r < 0 ∨ (0 ≤ r ∧ r + l.length ≤ left ∧ GoodC (l.map cCall) ∧ ∀ x ∈ l, (x.f1.length : Int) ≤ 1048576)) := by
  unfold laws_szCallS.f
  rw [wrap_id (by omega) (by omega)]
  refine EvP.ite (fun _ => EvP.now (.inl (by omega))) (fun hn => ?_)
  refine EvP.range (L := fun k s i => laws_szCallS.l0 k l s i) (xs := l) (Inv := fun pre s => 0 ≤ s ∧ s + l.length ≤ left ∧ ∀ x ∈ pre, (x.f0.size : Int) ≤ left ∧ (x.f1.length : Int) ≤ left) ?_ ?_ _ ⟨by omega, by omega, fun x hx => by cases hx⟩
  · rintro pre x rest s hx ⟨a0, a1, a2⟩ ih
    have hlt := len_at hx
    have hr : rd_T42 l (pre.length : Int) = x := getD_at hx _
    have hg := hq x (by rw [hx]; simp)
    simp only [laws_szCallS.l0, hr, wrap_at hx (by omega)]
    refine EvP.pos hlt (EvP.pos (nat_nonneg _) ?_)
    refine EvP.bind (laws_szCall.ok x.f0 x.f1 hg.1 hg.2.1 s a0 (by omega)) ?_
    rintro r (g | ⟨g0, g1⟩)
    · exact EvP.pos g (EvP.now (.inl (by omega)))
    · refine EvP.neg (by omega) (ih r ⟨g0, by omega, fun y hy => ?_⟩)
      rcases List.mem_append.1 hy with hy | hy
      · exact a2 y hy
      · rw [List.mem_singleton.1 hy]
        omega
  · rintro s ⟨a0, a1, a2⟩
    simp only [laws_szCallS.l0]
    refine EvP.neg (by omega) (EvP.now (.inr ⟨a0, a1, ⟨by rw [List.length_map]; omega, fun x hx => ?_⟩, fun x hx => by have := a2 x hx; omega⟩))
    obtain ⟨y, hy, rfl⟩ := List.mem_map.1 hx
    have := a2 y hy
    exact ⟨by simp only [cCall]; omega, by simp only [cCall]; omega⟩
theorem laws_toCall.ok (s : ByteArray) (a : List Int) (ha : (a.length : Int) ≤ 1048576) : EvP (fun k => laws_toCall.f k s a) (· = (s, a)) := by
  unfold laws_toCall.f
  refine EvP.bind (laws_toIntS.ok a ha) ?_
  rintro _ rfl
  exact EvP.now rfl
theorem laws_toCallS.ok (l : List S42) (hl : (l.length : Int) ≤ 1048576) (hq : ∀ x ∈ l, (x.f1.length : Int) ≤ 1048576) : EvP (fun k => laws_toCallS.f k l) (· = l.map cCall) := by
  unfold laws_toCallS.f
  refine EvP.pos (by omega) (EvP.pos (by omega) ?_)
  rw [Int.toNat_natCast]
  refine EvP.fill (L := fun k s i => laws_toCallS.l0 k l s i) (xs := l) cCall _ ?_ ?_
  · intro pre x rest s hx hs ih
    have hlt := len_at hx
    have hr : rd_T42 l (pre.length : Int) = x := getD_at hx _
    simp only [laws_toCallS.l0, hr, wrap_at hx (by omega)]
    refine EvP.pos hlt (EvP.pos (nat_nonneg _) ?_)
    refine EvP.bind (laws_toCall.ok x.f0 x.f1 (hq x (by rw [hx]; simp))) ?_
    rintro _ rfl
    exact EvP.pos (by omega) ih
  · intro s
    simp only [laws_toCallS.l0]
    exact EvP.neg (by omega) (EvP.now rfl)
theorem laws_eqCall.ok (s : ByteArray) (a : List Int) (ha : (a.length : Int) ≤ 9223372036854775807) : EvP (fun k => laws_eqCall.f k s a s a) (· = true) := by
  unfold laws_eqCall.f
  refine EvP.pos rfl ?_
  refine EvP.bind (laws_eqIntS.ok a ha) ?_
  rintro _ rfl
  exact EvP.pos rfl (EvP.now rfl)
theorem laws_eqCallS.ok (l : List S45) (h : GoodC l) : EvP (fun k => laws_eqCallS.f k l l) (· = true) := by
  have hl := h.1
  unfold laws_eqCallS.f
  refine EvP.pos rfl ?_
  refine EvP.range (L := fun k (_ : Unit) i => laws_eqCallS.l0 k l l i) (xs := l) (Inv := fun _ _ => True) ?_ ?_ () trivial
  · rintro pre x rest s hx _ ih
    have hlt := len_at hx
    have hr : rd_T45 l (pre.length : Int) = x := getD_at hx _
    have hg := h.2 x (by rw [hx]; simp)
    simp only [laws_eqCallS.l0, hr, wrap_at hx (show (l.length : Int) ≤ 9223372036854775807 by omega)]
    refine EvP.pos hlt (EvP.pos (nat_nonneg _) (EvP.pos hlt ?_))
    refine EvP.bind (laws_eqCall.ok x.f0 x.f1 (by omega)) ?_
    rintro _ rfl
    exact EvP.pos rfl (ih () trivial)
  · rintro s _
    simp only [laws_eqCallS.l0]
    exact EvP.neg (by omega) (EvP.now rfl)
/-! #### marks -/
theorem strOf_one (n : Int) : (strOfNums [n]).size = 1 := rfl
theorem laws_markText.all (n : Int) (h0 : 0 ≤ n) (h1 : n ≤ 9223372036854775807) : EvP (fun k => laws_markText.f k n) (fun _ => True) := by
  unfold laws_markText.f
  refine EvP.ite (fun _ => EvP.now trivial) (fun hn => ?_)
  have loop : ∀ (d : Nat) (x : Int) (s : ByteArray), x.toNat < d → 0 ≤ x → x ≤ 9223372036854775807 → (s.size : Int) + x ≤ 9223372036854775807 + 0 ∨ s.size ≤ 20 ∧ x < 10 ^ (20 - s.size) → s.size ≤ 20 ∧ x < 10 ^ (20 - s.size) →
      EvP (fun k => laws_markText.l0 k x s) (fun _ => True) := by
    intro d
    induction d with
    | zero => intro x s a0; omega
    | succ d ih =>
      intro x s a0 a1 a2 _ a3
      refine EvP.succ ?_
      simp only [laws_markText.l0]
      refine EvP.ite (fun hx => ?_) (fun hx => EvP.pos (by omega) (EvP.now trivial))
      have hd : s.size ≠ 20 := by
        intro e
        rw [e] at a3
        simp at a3
        omega
      refine EvP.bind (P := fun y => (strOfNums y).size = 1) (EvP.now (strOf_one _)) ?_
      intro y hy
      refine EvP.pos (by omega) ?_
      have e1 : Int.tdiv x 10 = x / 10 := Int.tdiv_eq_ediv_of_nonneg a1
      rw [e1, wrap_id (by omega) (by omega)]
      have e2 : (strOfNums y ++ s).size = s.size + 1 := by rw [ByteArray.size_append, hy]; omega
      have e3 : x / 10 < 10 ^ (20 - (strOfNums y ++ s).size) := by
        rw [e2]
        have : (10 : Int) ^ (20 - s.size) = 10 ^ (20 - (s.size + 1)) * 10 := by
          rw [← Int.pow_succ]
          congr 1
          omega
        have h3 := a3.2
        rw [this] at h3
        omega
      exact ih _ _ (by omega) (by omega) (by omega) (.inr ⟨by omega, e3⟩) ⟨by omega, e3⟩
  refine loop (n.toNat + 1) n _ (by omega) (by omega) h1 (.inr ⟨by decide, ?_⟩) ⟨by decide, ?_⟩
  · have : (10 : Int) ^ (20 - (⟨#[]⟩ : ByteArray).size) = 100000000000000000000 := by decide
    omega
  · have : (10 : Int) ^ (20 - (⟨#[]⟩ : ByteArray).size) = 100000000000000000000 := by decide
    omega
noncomputable def mkT (n : Int) : ByteArray := endOf ByteArray.empty (fun k => laws_markText.f k n)
theorem laws_markText.ok (n : Int) (h0 : 0 ≤ n) (h1 : n ≤ 9223372036854775807) : EvP (fun k => laws_markText.f k n) (· = mkT n) := (laws_markText.all n h0 h1).ended _
def isN (s : ByteArray) (x : S45) : Bool := decide (x.f0.toList = s.toList)
def callsOf (l : List S45) (s : ByteArray) : List S45 := if callsB l = true then l.filter (isN s) else []
theorem filter_snoc_yes {l : List S45} {x : S45} {s : ByteArray} (h : x.f0.toList = s.toList) : (l ++ [x]).filter (isN s) = l.filter (isN s) ++ [x] := by
  rw [List.filter_append, List.filter_cons, isN, decide_eq_true h]
  rfl
theorem filter_snoc_no {l : List S45} {x : S45} {s : ByteArray} (h : ¬ x.f0.toList = s.toList) : (l ++ [x]).filter (isN s) = l.filter (isN s) := by
  rw [List.filter_append, List.filter_cons, isN, decide_eq_false h]
  simp
theorem callsOf_good {l : List S45} (s : ByteArray) (h : GoodC l) : GoodC (callsOf l s) := by
  have h1 := h.1
  unfold callsOf
  split
  · have := List.length_filter_le (isN s) l
    exact ⟨by omega, fun x hx => h.2 x (List.mem_filter.1 hx).1⟩
  · exact ⟨by simp, fun x hx => by cases hx⟩
/-! #### marks in calls, and what is held of them -/
def iota (n : Int) : Nat → List Int
  | 0 => []
  | m + 1 => n :: iota (n + 1) m
theorem iota_len (m : Nat) : ∀ n : Int, (iota n m).length = m := by
  induction m with
  | zero => exact fun _ => rfl
  | succ m ih => intro n; rw [iota, List.length_cons, ih]
def tot (l : List S45) : Nat := (l.map fun x => 1 + x.f1.length).sum
theorem tot_cons (x : S45) (l : List S45) : tot (x :: l) = 1 + x.f1.length + tot l := by simp [tot]
theorem tot_filter (p : S45 → Bool) (l : List S45) : tot (l.filter p) ≤ tot l := by
  induction l with
  | nil => simp
  | cons x l ih =>
    rw [List.filter_cons, tot_cons]
    split
    · rw [tot_cons]; omega
    · omega
theorem tot_snoc (l : List S45) (x : S45) : tot (l ++ [x]) = tot l + (1 + x.f1.length) := by simp [tot]
noncomputable def marked (n : Int) : List S45 → List S45
  | [] => []
  | x :: l => ⟨mkT n, iota (n + 1) x.f1.length⟩ :: marked (n + 1 + (x.f1.length : Int)) l
theorem marked_len (l : List S45) : ∀ n, (marked n l).length = l.length := by
  induction l with
  | nil => exact fun _ => rfl
  | cons x l ih => intro n; rw [marked, List.length_cons, List.length_cons, ih]
theorem laws_markIntS.ok (l : List Int) (n : Int) (h0 : 0 ≤ n) (h1 : n + l.length ≤ 1000000000) : EvP (fun k => laws_markIntS.f k l n) (· = (n + l.length, iota n l.length)) := by
  unfold laws_markIntS.f
  have key : ∀ (rest pre : List Int) (m : Int), 0 ≤ m → m + rest.length ≤ 1000000000 → (pre.length : Int) + rest.length ≤ 1000000000 → EvP (fun k => laws_markIntS.l0 k (pre ++ rest) m (pre.length : Int)) (· = (m + rest.length, pre ++ iota m rest.length)) := by
    intro rest
    induction rest with
    | nil =>
      intro pre m _ _ _
      refine EvP.succ ?_
      simp only [laws_markIntS.l0]
      exact EvP.neg (by simp) (EvP.now (by simp [iota]))
    | cons x rest ih =>
      intro pre m g0 g1 g2
      rw [List.length_cons] at g1 g2
      refine EvP.succ ?_
      simp only [laws_markIntS.l0]
      refine EvP.pos (by simp; omega) (EvP.pos (nat_nonneg _) ?_)
      have e : (pre ++ x :: rest).set ((pre.length : Nat) : Int).toNat m = (pre ++ [m]) ++ rest := by simp
      rw [e, wrap_id (x := m + 1) (by omega) (by omega), wrap_id (x := (pre.length : Int) + 1) (by omega) (by omega), show (pre.length : Int) + 1 = ((pre ++ [m]).length : Int) by simp]
      refine (ih (pre ++ [m]) (m + 1) (by omega) (by omega) (by simp; omega)).mono ?_
      rintro _ rfl
      rw [List.length_cons, iota]
      refine Prod.ext ?_ ?_
      · simp only; omega
      · simp
  exact key l [] n h0 h1 (by simp; omega)
theorem laws_heldIntS.ok (m : Nat) (n : Int) (h0 : 0 ≤ n) (h1 : n + m ≤ 1000000000) : EvP (fun k => laws_heldIntS.f k (iota n m) n) (· = n + m) := by
  unfold laws_heldIntS.f
  have key : ∀ (d : Nat) (pre : List Int) (a : Int), 0 ≤ a → a + d ≤ 1000000000 → (pre.length : Int) + d ≤ 1000000000 → EvP (fun k => laws_heldIntS.l0 k (pre ++ iota a d) a (pre.length : Int)) (· = a + d) := by
    intro d
    induction d with
    | zero =>
      intro pre a _ _ _
      refine EvP.succ ?_
      simp only [laws_heldIntS.l0]
      exact EvP.neg (by simp [iota]) (EvP.now (by simp))
    | succ d ih =>
      intro pre a g0 g1 g2
      refine EvP.succ ?_
      simp only [laws_heldIntS.l0, iota]
      have hr : rd (pre ++ a :: iota (a + 1) d) (pre.length : Int) = a := by simp [rd]
      refine EvP.pos (by simp; omega) (EvP.pos (nat_nonneg _) (EvP.pos hr ?_))
      rw [wrap_id (x := a + 1) (by omega) (by omega), wrap_id (x := (pre.length : Int) + 1) (by omega) (by omega), show (pre.length : Int) + 1 = ((pre ++ [a]).length : Int) by simp, show pre ++ a :: iota (a + 1) d = (pre ++ [a]) ++ iota (a + 1) d by simp]
      refine (ih (pre ++ [a]) (a + 1) (by omega) (by omega) (by simp; omega)).mono ?_
      rintro _ rfl
      omega
  exact key m [] n h0 h1 (by simp; omega)
theorem laws_markCallS.ok (l : List S45) (n : Int) (h0 : 0 ≤ n) (h1 : n + tot l ≤ 1000000000) (h2 : (l.length : Int) ≤ 1000000000) : EvP (fun k => laws_markCallS.f k l n) (· = (n + tot l, marked n l)) := by
  unfold laws_markCallS.f
  have key : ∀ (rest pre : List S45) (m : Int), 0 ≤ m → m + tot rest ≤ 1000000000 → (pre.length : Int) + rest.length ≤ 1000000000 → EvP (fun k => laws_markCallS.l0 k (pre ++ rest) m (pre.length : Int)) (· = (m + tot rest, pre ++ marked m rest)) := by
    intro rest
    induction rest with
    | nil =>
      intro pre m _ _ _
      refine EvP.succ ?_
      simp only [laws_markCallS.l0]
      exact EvP.neg (by simp) (EvP.now (by simp [tot, marked]))
    | cons x rest ih =>
      intro pre m g0 g1 g2
      rw [tot_cons] at g1
      rw [List.length_cons] at g2
      refine EvP.succ ?_
      simp only [laws_markCallS.l0]
      have hr : rd_T45 (pre ++ x :: rest) (pre.length : Int) = x := getD_at rfl _
      refine EvP.pos (by simp; omega) (EvP.pos (nat_nonneg _) ?_)
      refine EvP.bind (laws_markText.ok m g0 (by omega)) ?_
      rintro _ rfl
      rw [hr, wrap_id (x := m + 1) (by omega) (by omega)]
      refine EvP.bind (laws_markIntS.ok x.f1 (m + 1) (by omega) (by omega)) ?_
      rintro _ rfl
      have e : (pre ++ x :: rest).set ((pre.length : Nat) : Int).toNat (⟨mkT m, iota (m + 1) x.f1.length⟩ : S45) = (pre ++ [⟨mkT m, iota (m + 1) x.f1.length⟩]) ++ rest := by simp
      dsimp only
      rw [e, wrap_id (x := (pre.length : Int) + 1) (by omega) (by omega), show (pre.length : Int) + 1 = ((pre ++ [(⟨mkT m, iota (m + 1) x.f1.length⟩ : S45)]).length : Int) by simp]
      refine (ih _ (m + 1 + (x.f1.length : Int)) (by omega) (by omega) (by simp; omega)).mono ?_
      rintro _ rfl
      rw [tot_cons, marked]
      refine Prod.ext ?_ ?_
      · simp only; omega
      · simp
  exact key l [] n h0 h1 (by simp; omega)
theorem laws_heldCallS.ok (l : List S45) (n : Int) (h0 : 0 ≤ n) (h1 : n + tot l ≤ 1000000000) (h2 : (l.length : Int) ≤ 1000000000) : EvP (fun k => laws_heldCallS.f k (marked n l) n) (· = n + tot l) := by
  unfold laws_heldCallS.f
  have key : ∀ (rest pre : List S45) (a : Int), 0 ≤ a → a + tot rest ≤ 1000000000 → (pre.length : Int) + rest.length ≤ 1000000000 → EvP (fun k => laws_heldCallS.l0 k (pre ++ marked a rest) a (pre.length : Int)) (· = a + tot rest) := by
    intro rest
    induction rest with
    | nil =>
      intro pre a _ _ _
      refine EvP.succ ?_
      simp only [laws_heldCallS.l0]
      exact EvP.neg (by simp [marked]) (EvP.now (by simp [tot]))
    | cons x rest ih =>
      intro pre a g0 g1 g2
      rw [tot_cons] at g1
      rw [List.length_cons] at g2
      rw [marked]
      obtain ⟨Y, hY⟩ : ∃ Y, Y = pre ++ (⟨mkT a, iota (a + 1) x.f1.length⟩ : S45) :: marked (a + 1 + (x.f1.length : Int)) rest := ⟨_, rfl⟩
      rw [← hY]
      have hr : rd_T45 Y (pre.length : Int) = ⟨mkT a, iota (a + 1) x.f1.length⟩ := by rw [hY]; exact getD_at rfl _
      have hYl : Y.length = pre.length + 1 + rest.length := by rw [hY, List.length_append, List.length_cons, marked_len]; omega
      have hY2 : Y = (pre ++ [(⟨mkT a, iota (a + 1) x.f1.length⟩ : S45)]) ++ marked (a + 1 + (x.f1.length : Int)) rest := by rw [hY]; simp
      clear hY
      refine EvP.succ ?_
      simp only [laws_heldCallS.l0, hr]
      refine EvP.pos (by omega) (EvP.pos (nat_nonneg _) ?_)
      refine EvP.bind (laws_markText.ok a g0 (by omega)) ?_
      rintro _ rfl
      rw [wrap_id (x := a + 1) (by omega) (by omega)]
      refine EvP.pos rfl ?_
      refine EvP.bind (laws_heldIntS.ok x.f1.length (a + 1) (by omega) (by omega)) ?_
      rintro _ rfl
      refine EvP.neg (by omega) ?_
      rw [wrap_id (x := (pre.length : Int) + 1) (by omega) (by omega), show (pre.length : Int) + 1 = ((pre ++ [(⟨mkT a, iota (a + 1) x.f1.length⟩ : S45)]).length : Int) by simp, hY2]
      refine (ih _ (a + 1 + (x.f1.length : Int)) (by omega) (by omega) (by simp; omega)).mono ?_
      rintro _ rfl
      rw [tot_cons]
      omega
  exact key l [] n h0 h1 (by simp; omega)
theorem laws_szCallS.sum (l : List S42) (hl : l.length ≤ 9223372036854775807) (hq : ∀ x ∈ l, Q42 x) (left : Int) (h0 : 0 ≤ left) (h1 : left ≤ 1048576) :
    EvP (fun k => laws_szCallS.f k l left) (fun r => r < 0 ∨ (0 ≤ r ∧ r + tot (l.map cCall) ≤ left)) := by
  unfold laws_szCallS.f
  rw [wrap_id (by omega) (by omega)]
  refine EvP.ite (fun _ => EvP.now (.inl (by omega))) (fun hn => ?_)
  refine EvP.range (L := fun k s i => laws_szCallS.l0 k l s i) (xs := l) (Inv := fun pre (s : Int) => 0 ≤ s ∧ s + (tot (pre.map cCall) : Int) + (l.length : Int) - (pre.length : Int) ≤ left) ?_ ?_ _ ⟨by omega, by simp [tot]⟩
  · rintro pre x rest s hx ⟨a0, a1⟩ ih
    have hlt := len_at hx
    have hr : rd_T42 l (pre.length : Int) = x := getD_at hx _
    have hg := hq x (by rw [hx]; simp)
    simp only [laws_szCallS.l0, hr, wrap_at hx (by omega)]
    refine EvP.pos hlt (EvP.pos (nat_nonneg _) ?_)
    refine EvP.bind (laws_szCall.ok x.f0 x.f1 hg.1 hg.2.1 s a0 (by omega)) ?_
    rintro r (g | ⟨g0, g1⟩)
    · exact EvP.pos g (EvP.now (.inl (by omega)))
    · refine EvP.neg (by omega) (ih r ⟨g0, ?_⟩)
      rw [List.map_append, List.map_cons, List.map_nil, tot_snoc, List.length_append, List.length_singleton]
      simp only [cCall]
      omega
  · rintro s ⟨a0, a1⟩
    simp only [laws_szCallS.l0]
    exact EvP.neg (by omega) (EvP.now (.inr ⟨a0, by omega⟩))
theorem impl_nameOk.ok (s : ByteArray) (h : (s.size : Int) ≤ 9223372036854775807) : EvP (fun k => impl_nameOk.f k s) (· = nameB s) := by
  unfold impl_nameOk.f
  refine EvP.upto (L := fun k (_ : Unit) i => impl_nameOk.l0 k s (s.size : Int) i) (n := s.size) (Inv := fun i _ => ∀ j : Nat, j < i → 97 ≤ bt s (j : Int) ∧ bt s (j : Int) ≤ 122) ?_ ?_ () (fun j hj => by omega)
  · rintro i _ hi hv ih
    simp only [impl_nameOk.l0]
    refine EvP.pos (by omega) (EvP.pos (by omega) (EvP.pos (by omega) ?_))
    refine EvP.ite (fun e => EvP.now (azB_no hi (by omega)).symm) (fun e => EvP.ite (fun e2 => EvP.now (azB_no hi (by omega)).symm) (fun e2 => ?_))
    rw [wrap_id (by omega) (by omega)]
    refine ih () (fun j hj => ?_)
    rcases Nat.lt_succ_iff_lt_or_eq.1 hj with hj | rfl
    · exact hv j hj
    · omega
  · rintro _ hv
    simp only [impl_nameOk.l0]
    have ha := azB_yes hv
    refine EvP.neg (by omega) (EvP.ite (fun e => EvP.ite (fun e2 => ?_) (fun e2 => EvP.now ?_)) (fun e => EvP.now ?_))
    · refine (words_ok s).mono ?_
      rintro _ rfl
      rw [nameB, ha, decide_eq_true (show 1 ≤ s.size ∧ s.size ≤ 6 by omega)]
      rfl
    · rw [nameB, decide_eq_false (show ¬ (1 ≤ s.size ∧ s.size ≤ 6) by omega)]
      simp
    · rw [nameB, decide_eq_false (show ¬ (1 ≤ s.size ∧ s.size ≤ 6) by omega)]
      simp
theorem impl_numbersOk.ok (l : List Int) (h : (l.length : Int) ≤ 9223372036854775807) : EvP (fun k => impl_numbersOk.f k l) (· = numsB l) := by
  unfold impl_numbersOk.f
  refine EvP.range (L := fun k (_ : Unit) i => impl_numbersOk.l0 k l (l.length : Int) i) (xs := l) (Inv := fun pre _ => numsB pre = true) ?_ ?_ () rfl
  · rintro pre x rest _ hx hi ih
    have hl := len_at hx
    have hr : rd l (pre.length : Int) = x := getD_at hx _
    simp only [impl_numbersOk.l0, hr, wrap_at hx h]
    refine EvP.pos hl (EvP.pos (nat_nonneg _) (EvP.pos hl ?_))
    exact EvP.ite (fun e => EvP.now (numsB_no hx (by omega)).symm) (fun e => EvP.ite (fun e2 => EvP.now (numsB_no hx (by omega)).symm) (fun e2 => ih () (numsB_snoc hi (by omega))))
  · rintro _ hi
    simp only [impl_numbersOk.l0]
    exact EvP.neg (by omega) (EvP.now hi.symm)
theorem impl_callOk.ok (s : ByteArray) (a : List Int) (h : (s.size : Int) ≤ 4398046511104) (h2 : (a.length : Int) ≤ 4398046511104) : EvP (fun k => impl_callOk.f k s a) (· = callB ⟨s, a⟩) := by
  unfold impl_callOk.f
  refine EvP.bind (impl_nameOk.ok s (by omega)) ?_
  rintro _ rfl
  refine EvP.ite (fun e => EvP.ite (fun e2 => ?_) (fun e2 => EvP.now ?_)) (fun e => EvP.now ?_)
  · refine EvP.bind (impl_numbersOk.ok a (by omega)) ?_
    rintro _ rfl
    exact EvP.now (by rw [callB, e, decide_eq_true (show a.length ≤ 3 by omega)]; rfl)
  · rw [callB, decide_eq_false (show ¬ a.length ≤ 3 by omega)]
    simp
  · rw [callB, show nameB s = false by simpa using e]
    rfl
theorem impl_ValidCalls.ok (l : List S45) (h : GoodC l) : EvP (fun k => impl_ValidCalls.f k l) (· = callsB l) := by
  have h1 := h.1
  unfold impl_ValidCalls.f
  refine EvP.range (L := fun k (_ : Unit) i => impl_ValidCalls.l0 k l l (l.length : Int) i) (xs := l) (Inv := fun pre _ => pre.all callB = true) ?_ ?_ () rfl
  · rintro pre x rest _ hx hi ih
    have hl := len_at hx
    have hr : rd_T45 l (pre.length : Int) = x := getD_at hx _
    have hg := h.2 x (by rw [hx]; simp)
    simp only [impl_ValidCalls.l0, hr, wrap_at hx (by omega)]
    refine EvP.pos hl (EvP.pos (nat_nonneg _) (EvP.pos hl ?_))
    refine EvP.bind (impl_callOk.ok x.f0 x.f1 hg.1 hg.2) ?_
    rintro _ rfl
    exact EvP.ite (fun e => ih () (all_snoc hi e)) (fun e => EvP.now (callsB_no hx (by simpa using e)).symm)
  · rintro _ hi
    simp only [impl_ValidCalls.l0]
    refine EvP.neg (by omega) (EvP.now ?_)
    rw [callsB, hi, Bool.true_and]
    congr 1
    simp
    omega
theorem slices_Clone_int_int.ok (l : List Int) (h : (l.length : Int) ≤ 4398046511104) : EvP (fun (_ : Nat) => slices_Clone_int_int.f l) (· = l) := by
  unfold slices_Clone_int_int.f
  exact EvP.pos (by omega) (EvP.now rfl)
theorem impl_CallsOf.ok (l : List S45) (s : ByteArray) (h : GoodC l) (hs : (l.length : Int) ≤ 2199023255552) : EvP (fun k => impl_CallsOf.f k l s) (· = callsOf l s) := by
  have h1 := h.1
  unfold impl_CallsOf.f
  refine EvP.bind (impl_ValidCalls.ok l h) ?_
  rintro _ rfl
  refine EvP.ite (fun e => ?_) (fun e => EvP.now (by rw [callsOf, if_neg e]))
  refine EvP.range (L := fun k t i => impl_CallsOf.l0 k s t l (l.length : Int) i) (xs := l) (Inv := fun pre t => t = pre.filter (isN s)) ?_ ?_ [] rfl
  · rintro pre x rest t hx rfl ih
    have hl := len_at hx
    have hc := List.length_filter_le (isN s) pre
    have hr : rd_T45 l (pre.length : Int) = x := getD_at hx _
    have hg := h.2 x (by rw [hx]; simp)
    simp only [impl_CallsOf.l0, hr, wrap_at hx (show (l.length : Int) ≤ 9223372036854775807 by omega)]
    refine EvP.pos hl (EvP.pos (nat_nonneg _) (EvP.pos hl ?_))
    refine EvP.ite (fun e3 => ?_) (fun e3 => ih _ (filter_snoc_no e3).symm)
    refine EvP.bind (slices_Clone_int_int.ok x.f1 hg.2) ?_
    rintro _ rfl
    exact EvP.pos (by omega) (ih _ (filter_snoc_yes e3).symm)
  · rintro t rfl
    simp only [impl_CallsOf.l0]
    exact EvP.neg (by omega) (EvP.now (by rw [callsOf, if_pos e]))
theorem spec_inRange.ok (a b c : Int) : EvP (fun _ => spec_inRange.f a b c) (· = decide (b ≤ a ∧ a ≤ c)) := by
  unfold spec_inRange.f
  exact EvP.ite (fun h => EvP.now (by simp [h])) (fun h => EvP.now (by simp [h]))
theorem spec_validName.ok (s : ByteArray) (h : (s.size : Int) ≤ 9223372036854775807) : EvP (fun k => spec_validName.f k s) (· = nameB s) := by
  unfold spec_validName.f
  refine EvP.upto (L := fun k (_ : Unit) i => spec_validName.l0 k s i) (n := s.size) (Inv := fun i _ => ∀ j : Nat, j < i → 97 ≤ bt s (j : Int) ∧ bt s (j : Int) ≤ 122) ?_ ?_ () (fun j hj => by omega)
  · rintro i _ hi hv ih
    simp only [spec_validName.l0]
    refine EvP.pos (by omega) (EvP.pos (by omega) ?_)
    refine EvP.ite (fun e => EvP.now (azB_no hi (by omega)).symm) (fun e => EvP.ite (fun e2 => EvP.now (azB_no hi (by omega)).symm) (fun e2 => ?_))
    rw [wrap_id (by omega) (by omega)]
    refine ih () (fun j hj => ?_)
    rcases Nat.lt_succ_iff_lt_or_eq.1 hj with hj | rfl
    · exact hv j hj
    · omega
  · rintro _ hv
    simp only [spec_validName.l0]
    have ha := azB_yes hv
    refine EvP.neg (by omega) ?_
    refine EvP.bind (spec_inRange.ok _ _ _) ?_
    rintro _ rfl
    refine EvP.ite (fun e => ?_) (fun e => EvP.now ?_)
    · have e' := of_decide_eq_true e
      refine (words_ok s).mono ?_
      rintro _ rfl
      rw [nameB, ha, decide_eq_true (show 1 ≤ s.size ∧ s.size ≤ 6 by omega)]
      rfl
    · have e' : ¬ (1 ≤ (s.size : Int) ∧ (s.size : Int) ≤ 6) := fun g => e (decide_eq_true g)
      rw [nameB, decide_eq_false (show ¬ (1 ≤ s.size ∧ s.size ≤ 6) by omega)]
      simp
theorem spec_validCalls.ok (l : List S45) (h : GoodC l) : EvP (fun k => spec_validCalls.f k l) (· = callsB l) := by
  have h1 := h.1
  unfold spec_validCalls.f
  refine EvP.range (L := fun k (_ : Unit) i => spec_validCalls.l0 k l i) (xs := l) (Inv := fun pre _ => pre.all callB = true) ?_ ?_ () rfl
  · rintro pre x rest _ hx hi ih
    have hl := len_at hx
    have hr : rd_T45 l (pre.length : Int) = x := getD_at hx _
    have hg := h.2 x (by rw [hx]; simp)
    have bad : callB x = false → EvP (fun k => spec_validCalls.j1 k l (pre.length : Int) true) (· = callsB l) := fun hb => by
      refine EvP.succ ?_
      simp only [spec_validCalls.j1]
      exact EvP.pos (by simp) (EvP.now (callsB_no hx hb).symm)
    simp only [spec_validCalls.l0, hr]
    refine EvP.pos hl (EvP.pos (nat_nonneg _) ?_)
    refine EvP.bind (spec_validName.ok x.f0 (by omega)) ?_
    rintro _ rfl
    refine EvP.ite (fun e => ?_) (fun e => bad (by rw [callB, show nameB x.f0 = false by simpa using e]; rfl))
    by_cases e2 : (x.f1.length : Int) > 3
    · rw [decide_eq_true e2]
      exact bad (by rw [callB, decide_eq_false (show ¬ x.f1.length ≤ 3 by omega)]; simp)
    · rw [decide_eq_false e2]
      refine EvP.succ ?_
      simp only [spec_validCalls.j1]
      refine EvP.neg (by simp) ?_
      refine EvP.range (L := fun k (_ : Unit) i => spec_validCalls.l1 k l (pre.length : Int) i) (xs := x.f1) (Inv := fun p _ => numsB p = true) ?_ ?_ () rfl
      · rintro p n r _ hp hv ih2
        have hpl := len_at hp
        have hrr : rd x.f1 (p.length : Int) = n := getD_at hp _
        simp only [spec_validCalls.l1, hr, hrr, wrap_at hp (by omega)]
        refine EvP.pos (nat_nonneg _) (EvP.pos hl (EvP.pos hpl (EvP.pos (nat_nonneg _) ?_)))
        refine EvP.bind (spec_inRange.ok _ _ _) ?_
        rintro _ rfl
        refine EvP.ite (fun e3 => ih2 () (numsB_snoc hv (of_decide_eq_true e3))) (fun e3 => EvP.now ?_)
        refine (callsB_no hx ?_).symm
        rw [callB, numsB_no hp (fun g => e3 (decide_eq_true g))]
        simp
      · rintro _ hv
        simp only [spec_validCalls.l1, hr, wrap_at hx (show (l.length : Int) ≤ 9223372036854775807 by omega)]
        refine EvP.pos (nat_nonneg _) (EvP.pos hl (EvP.neg (by omega) (ih () (all_snoc hi ?_))))
        rw [callB, e, hv, decide_eq_true (show x.f1.length ≤ 3 by omega)]
        rfl
  · rintro _ hi
    simp only [spec_validCalls.l0]
    refine EvP.neg (by omega) (EvP.now ?_)
    rw [callsB, hi, Bool.true_and]
    congr 1
    simp
    omega
theorem spec_CallsOf.ok (l : List S45) (s : ByteArray) (h : GoodC l) (hs : (l.length : Int) ≤ 2199023255552) : EvP (fun k => spec_CallsOf.f k l s) (· = callsOf l s) := by
  have h1 := h.1
  unfold spec_CallsOf.f
  refine EvP.bind (spec_validCalls.ok l h) ?_
  rintro _ rfl
  refine EvP.ite (fun e => ?_) (fun e => EvP.now (by rw [callsOf, if_neg e]))
  refine EvP.range (L := fun k t i => spec_CallsOf.l0 k l s t i) (xs := l) (Inv := fun pre t => t = pre.filter (isN s)) ?_ ?_ [] rfl
  · rintro pre x rest t hx rfl ih
    have hl := len_at hx
    have hc := List.length_filter_le (isN s) pre
    have hr : rd_T45 l (pre.length : Int) = x := getD_at hx _
    have hg := h.2 x (by rw [hx]; simp)
    simp only [spec_CallsOf.l0, hr, wrap_at hx (show (l.length : Int) ≤ 9223372036854775807 by omega)]
    refine EvP.pos hl (EvP.pos (nat_nonneg _) ?_)
    refine EvP.ite (fun e3 => ?_) (fun e3 => ih _ (filter_snoc_no e3).symm)
    refine EvP.bind (P := (· = [])) (EvP.now rfl) ?_
    rintro _ rfl
    exact EvP.pos (by simp only [List.length_nil]; omega) (EvP.pos (by omega) (ih _ (by rw [List.nil_append]; exact (filter_snoc_yes e3).symm)))
  · rintro t rfl
    simp only [spec_CallsOf.l0]
    exact EvP.neg (by omega) (EvP.now (by rw [callsOf, if_pos e]))
theorem both {α : Type} {g : Nat → Option α} {P Q : α → Prop} (h : EvP g P) (k : EvP g Q) : EvP g (fun r => P r ∧ Q r) := by
  obtain ⟨r, ⟨K, e⟩, p⟩ := h
  obtain ⟨r2, ⟨K2, e2⟩, q⟩ := k
  have : r = r2 := Option.some.inj ((e (max K K2) (Nat.le_max_left _ _)).symm.trans (e2 (max K K2) (Nat.le_max_right _ _)))
  subst this
  exact ⟨r, ⟨K, e⟩, p, q⟩
theorem main (l0 : List S42) (hl : l0.length ≤ 9223372036854775807) (hq : ∀ x ∈ l0, Q42 x) (s : ByteArray) (hs : s.size ≤ 140737488351232) : ∃ k, laws_FnExactCallsOf.f k l0 s = some true := by
  refine EvP.rounds ?_
  unfold laws_FnExactCallsOf.f
  refine EvP.ite (fun _ => EvP.now rfl) (fun _ => ?_)
  refine EvP.bind (both (laws_szCallS.ok l0 hl hq 1048576 (by omega) (by omega)) (laws_szCallS.sum l0 hl hq 1048576 (by omega) (by omega))) ?_
  rintro r ⟨g | ⟨g0, g1, gg, gl⟩, g2⟩
  · exact EvP.pos g (EvP.now rfl)
  refine EvP.neg (by omega) ?_
  have gt : tot (l0.map cCall) ≤ 1048576 := by
    rcases g2 with g2 | ⟨_, g2⟩ <;> omega
  have hto := laws_toCallS.ok l0 (by omega) gl
  have hc := callsOf_good s gg
  have ht : tot (callsOf (l0.map cCall) s) ≤ 1048576 := by
    unfold callsOf
    split
    · exact Nat.le_trans (tot_filter _ _) gt
    · simp [tot]
  have hn : ((l0.map cCall).length : Int) ≤ 1048576 := by rw [List.length_map]; omega
  have hn2 : ((callsOf (l0.map cCall) s).length : Int) ≤ 1048576 := by
    unfold callsOf
    split
    · have := List.length_filter_le (isN s) (l0.map cCall); omega
    · simp
  refine EvP.bind hto ?_
  rintro _ rfl
  refine EvP.bind (spec_CallsOf.ok _ s gg (by omega)) ?_
  rintro _ rfl
  refine EvP.bind (impl_CallsOf.ok _ s gg (by omega)) ?_
  rintro _ rfl
  refine EvP.bind (laws_eqCallS.ok _ hc) ?_
  rintro _ rfl
  refine EvP.pos rfl ?_
  refine EvP.bind (laws_eqCallS.ok _ gg) ?_
  rintro _ rfl
  refine EvP.pos rfl ?_
  refine EvP.bind (laws_markCallS.ok _ 1 (by omega) (by omega) (by omega)) ?_
  rintro _ rfl
  refine EvP.neg (by dsimp only; omega) ?_
  refine EvP.bind (laws_markCallS.ok _ 1 (by omega) (by omega) (by omega)) ?_
  rintro _ rfl
  dsimp only
  refine EvP.bind (laws_heldCallS.ok _ 1 (by omega) (by omega) (by omega)) ?_
  rintro _ rfl
  exact EvP.neg (by omega) (EvP.pos rfl (EvP.now rfl))
end QFnExactCallsOf
end Go.Proofs.Ytdhppadgpkgpeaa.Pure

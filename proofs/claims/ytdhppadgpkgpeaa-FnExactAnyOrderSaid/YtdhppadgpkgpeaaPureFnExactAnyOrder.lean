/- FnExactAnyOrder answers true for all arguments: the program's AnyOrder returns what the reference's returns, and leaves its arguments as they are. Conditions: those of the printed statement alone (bounds on sizes that every input meets). -/
import Derived.Test.YtdhppadgpkgpeaaOFnExactAnyOrderx6
import Derived.Test.YtdhppadgpkgpeaaBase
namespace Go.Proofs.Ytdhppadgpkgpeaa.Pure
open Go.RowKit Go.Proofs.Ytdhppadgpkgpeaa.OFnExactAnyOrder Go.Proofs.YtdhppadgpkgpeaaW.PrintWords Go.Proofs.YtdhppadgpkgpeaaW.PrintLast Go.Proofs.YtdhppadgpkgpeaaW.PrintMore Go.Proofs.Ytdhppadgpkgpeaa.Base
set_option linter.unusedVariables false
set_option linter.unusedSimpArgs false
namespace QFnExactAnyOrder
/-! #### names -/
def azB (s : ByteArray) : Bool := decide (∀ j : Nat, j < s.size → 97 ≤ bt s (j : Int) ∧ bt s (j : Int) ≤ 122)
def wordB (s : ByteArray) : Bool := decide (s.toList ≠ [97, 110, 100]) && (decide (s.toList ≠ [111, 114]) && decide (s.toList ≠ [110, 111, 116]))
def nameB (s : ByteArray) : Bool := azB s && (decide (1 ≤ s.size ∧ s.size ≤ 6) && wordB s)
theorem azB_no {s : ByteArray} {i : Nat} (hi : i < s.size) (h : ¬ (97 ≤ bt s (i : Int) ∧ bt s (i : Int) ≤ 122)) : nameB s = false := by
  have : azB s = false := by
    rw [azB, decide_eq_false_iff_not]
    exact fun g => h (g i hi)
  rw [nameB, this]
  rfl
theorem azB_yes {s : ByteArray} (h : ∀ j : Nat, j < s.size → 97 ≤ bt s (j : Int) ∧ bt s (j : Int) ≤ 122) : azB s = true := by
  rw [azB, decide_eq_true_iff]
  exact h
theorem words_ok (s : ByteArray) : EvP (fun _ => if s.toList = ([97, 110, 100] : List UInt8) then (some false) else (if s.toList = ([111, 114] : List UInt8) then (some false) else (some (s.toList != ([110, 111, 116] : List UInt8))))) (· = wordB s) := by
  unfold wordB
  refine EvP.ite (fun h => EvP.now (by simp [h])) (fun h => EvP.ite (fun h2 => EvP.now (by simp [h2])) (fun h2 => EvP.now ?_))
  simp [h, h2, bne]
  rw [Bool.eq_iff_iff]
  simp
def numB (n : Int) : Bool := decide (-99 ≤ n ∧ n ≤ 99)
def numsB (l : List Int) : Bool := l.all numB
theorem numsB_no {l pre rest : List Int} {x : Int} (h : l = pre ++ x :: rest) (hx : ¬ (-99 ≤ x ∧ x ≤ 99)) : numsB l = false := by
  rw [h, numsB, List.all_append, List.all_cons, numB, decide_eq_false hx]
  simp
theorem numsB_snoc {pre : List Int} {x : Int} (h : numsB pre = true) (hx : -99 ≤ x ∧ x ≤ 99) : numsB (pre ++ [x]) = true := by
  rw [numsB, List.all_append, ← numsB, h, List.all_cons, numB, decide_eq_true hx]
  rfl
/-! #### calls -/
def callB (x : S45) : Bool := nameB x.f0 && (decide (x.f1.length ≤ 3) && numsB x.f1)
def callsB (l : List S45) : Bool := l.all callB && decide (l.length ≤ 12)
/-- Sizes that no machine sum passes. -/
def GoodC (l : List S45) : Prop := (l.length : Int) ≤ 4398046511104 ∧ ∀ x ∈ l, (x.f0.size : Int) ≤ 4398046511104 ∧ (x.f1.length : Int) ≤ 4398046511104
theorem callsB_no {l pre rest : List S45} {x : S45} (h : l = pre ++ x :: rest) (hx : callB x = false) : callsB l = false := by
  rw [h, callsB, List.all_append, List.all_cons, hx]
  simp
theorem all_snoc {α : Type} {p : α → Bool} {pre : List α} {x : α} (h : pre.all p = true) (hx : p x = true) : (pre ++ [x]).all p = true := by
  rw [List.all_append, h, List.all_cons, hx]
  rfl
theorem laws_szIntS.ok (l : List Int) (h : l.length ≤ 9223372036854775807) (left : Int) (h0 : 0 ≤ left) (h1 : left ≤ 1048576) : EvP (fun _ => laws_szIntS.f l left) (fun r => r < 0 ∨ (0 ≤ r ∧ r + l.length ≤ left)) := by
  unfold laws_szIntS.f
  rw [wrap_id (by omega) (by omega)]
  exact EvP.ite (fun _ => EvP.now (.inl (by omega))) (fun _ => EvP.now (.inr (by omega)))
theorem laws_toIntS.ok (l : List Int) (hl : (l.length : Int) ≤ 1048576) : EvP (fun k => laws_toIntS.f k l) (· = l) := by
  have main : EvP (fun k => laws_toIntS.f k l) (· = l.map id) := by
    unfold laws_toIntS.f
    refine EvP.pos (by omega) (EvP.pos (by omega) ?_)
    rw [Int.toNat_natCast]
    refine EvP.fill (L := fun k s i => laws_toIntS.l0 k l s i) (xs := l) id _ ?_ ?_
    · intro pre x rest s hx hs ih
      have hlt := len_at hx
      have hr : rd l (pre.length : Int) = x := getD_at hx _
      simp only [laws_toIntS.l0, hr, wrap_at hx (by omega)]
      exact EvP.pos hlt (EvP.pos (nat_nonneg _) (EvP.pos (by omega) ih))
    · intro s
      simp only [laws_toIntS.l0]
      exact EvP.neg (by omega) (EvP.now rfl)
  simpa using main
theorem laws_eqIntS.ok (l : List Int) (hl : (l.length : Int) ≤ 9223372036854775807) : EvP (fun k => laws_eqIntS.f k l l) (· = true) := by
  unfold laws_eqIntS.f
  refine EvP.pos rfl ?_
  refine EvP.range (L := fun k (_ : Unit) i => laws_eqIntS.l0 k l l i) (xs := l) (Inv := fun _ _ => True) ?_ ?_ () trivial
  · rintro pre x rest s hx _ ih
    have hlt := len_at hx
    simp only [laws_eqIntS.l0, wrap_at hx hl]
    exact EvP.pos hlt (EvP.pos (nat_nonneg _) (EvP.pos hlt (EvP.pos trivial (ih () trivial))))
  · rintro s _
    simp only [laws_eqIntS.l0]
    exact EvP.neg (by omega) (EvP.now rfl)
def Q42 (x : S42) : Prop := (x.f0.size ≤ 9223372036854775807) ∧ (x.f1.length ≤ 9223372036854775807 ∧ ∀ y ∈ x.f1, (Lit.int .i64 y).wf = true)
def cCall (x : S42) : S45 := ⟨x.f0, x.f1⟩
theorem laws_szCall.ok (s : ByteArray) (a : List Int) (hs : s.size ≤ 9223372036854775807) (ha : a.length ≤ 9223372036854775807) (left : Int) (h0 : 0 ≤ left) (h1 : left ≤ 1048576) : EvP (fun _ => laws_szCall.f s a left) (fun r => r < 0 ∨ (0 ≤ r ∧ r + s.size + a.length ≤ left)) := by
  unfold laws_szCall.f
  rw [wrap_id (by omega) (by omega)]
  refine EvP.ite (fun _ => EvP.now (.inl (by omega))) (fun hn => ?_)
  refine EvP.bind (laws_szIntS.ok a ha _ (by omega) (by omega)) ?_
  rintro r (g | ⟨g0, g1⟩)
  · exact EvP.pos g (EvP.now (.inl (by omega)))
  · exact EvP.neg (by omega) (EvP.now (.inr ⟨g0, by omega⟩))
theorem laws_szCallS.ok (l : List S42) (hl : l.length ≤ 9223372036854775807) (hq : ∀ x ∈ l, Q42 x) (left : Int) (h0 : 0 ≤ left) (h1 : left ≤ 1048576) :
    EvP (fun k => laws_szCallS.f k l left) (fun r => r < 0 ∨ (0 ≤ r ∧ r + l.length ≤ left ∧ GoodC (l.map cCall) ∧ ∀ x ∈ l, (x.f1.length : Int) ≤ 1048576)) := by
  unfold laws_szCallS.f
  rw [wrap_id (by omega) (by omega)]
  refine EvP.ite (fun _ => EvP.now (.inl (by omega))) (fun hn => ?_)
  refine EvP.range (L := fun k s i => laws_szCallS.l0 k l s i) (xs := l) (Inv := fun pre s => 0 ≤ s ∧ s + l.length ≤ left ∧ ∀ x ∈ pre, (x.f0.size : Int) ≤ left ∧ (x.f1.length : Int) ≤ left) ?_ ?_ _ ⟨by omega, by omega, fun x hx => by cases hx⟩
  · rintro pre x rest s hx ⟨a0, a1, a2⟩ ih
    have hlt := len_at hx
    have hr : rd_T42 l (pre.length : Int) = x := getD_at hx _
    have hg := hq x (by rw [hx]; simp)
    simp only [laws_szCallS.l0, hr, wrap_at hx (by omega)]
    refine EvP.pos hlt (EvP.pos (nat_nonneg _) ?_)
    refine EvP.bind (laws_szCall.ok x.f0 x.f1 hg.1 hg.2.1 s a0 (by omega)) ?_
    rintro r (g | ⟨g0, g1⟩)
    · exact EvP.pos g (EvP.now (.inl (by omega)))
    · refine EvP.neg (by omega) (ih r ⟨g0, by omega, fun y hy => ?_⟩)
      rcases List.mem_append.1 hy with hy | hy
      · exact a2 y hy
      · rw [List.mem_singleton.1 hy]
        omega
  · rintro s ⟨a0, a1, a2⟩
    simp only [laws_szCallS.l0]
    refine EvP.neg (by omega) (EvP.now (.inr ⟨a0, a1, ⟨by rw [List.length_map]; omega, fun x hx => ?_⟩, fun x hx => by have := a2 x hx; omega⟩))
    obtain ⟨y, hy, rfl⟩ := List.mem_map.1 hx
    have := a2 y hy
    exact ⟨by simp only [cCall]; omega, by simp only [cCall]; omega⟩
theorem laws_toCall.ok (s : ByteArray) (a : List Int) (ha : (a.length : Int) ≤ 1048576) : EvP (fun k => laws_toCall.f k s a) (· = (s, a)) := by
  unfold laws_toCall.f
  refine EvP.bind (laws_toIntS.ok a ha) ?_
  rintro _ rfl
  exact EvP.now rfl
theorem laws_toCallS.ok (l : List S42) (hl : (l.length : Int) ≤ 1048576) (hq : ∀ x ∈ l, (x.f1.length : Int) ≤ 1048576) : EvP (fun k => laws_toCallS.f k l) (· = l.map cCall) := by
  unfold laws_toCallS.f
  refine EvP.pos (by omega) (EvP.pos (by omega) ?_)
  rw [Int.toNat_natCast]
  refine EvP.fill (L := fun k s i => laws_toCallS.l0 k l s i) (xs := l) cCall _ ?_ ?_
  · intro pre x rest s hx hs ih
    have hlt := len_at hx
    have hr : rd_T42 l (pre.length : Int) = x := getD_at hx _
    simp only [laws_toCallS.l0, hr, wrap_at hx (by omega)]
    refine EvP.pos hlt (EvP.pos (nat_nonneg _) ?_)
    refine EvP.bind (laws_toCall.ok x.f0 x.f1 (hq x (by rw [hx]; simp))) ?_
    rintro _ rfl
    exact EvP.pos (by omega) ih
  · intro s
    simp only [laws_toCallS.l0]
    exact EvP.neg (by omega) (EvP.now rfl)
theorem laws_eqCall.ok (s : ByteArray) (a : List Int) (ha : (a.length : Int) ≤ 9223372036854775807) : EvP (fun k => laws_eqCall.f k s a s a) (· = true) := by
  unfold laws_eqCall.f
  refine EvP.pos rfl ?_
  refine EvP.bind (laws_eqIntS.ok a ha) ?_
  rintro _ rfl
  exact EvP.pos rfl (EvP.now rfl)
theorem laws_eqCallS.ok (l : List S45) (h : GoodC l) : EvP (fun k => laws_eqCallS.f k l l) (· = true) := by
  have hl := h.1
  unfold laws_eqCallS.f
  refine EvP.pos rfl ?_
  refine EvP.range (L := fun k (_ : Unit) i => laws_eqCallS.l0 k l l i) (xs := l) (Inv := fun _ _ => True) ?_ ?_ () trivial
  · rintro pre x rest s hx _ ih
    have hlt := len_at hx
    have hr : rd_T45 l (pre.length : Int) = x := getD_at hx _
    have hg := h.2 x (by rw [hx]; simp)
    simp only [laws_eqCallS.l0, hr, wrap_at hx (show (l.length : Int) ≤ 9223372036854775807 by omega)]
    refine EvP.pos hlt (EvP.pos (nat_nonneg _) (EvP.pos hlt ?_))
    refine EvP.bind (laws_eqCall.ok x.f0 x.f1 (by omega)) ?_
    rintro _ rfl
    exact EvP.pos rfl (ih () trivial)
  · rintro s _
    simp only [laws_eqCallS.l0]
    exact EvP.neg (by omega) (EvP.now rfl)
def sameB (s : ByteArray) (a : List Int) (t : ByteArray) (b : List Int) : Bool := decide (s.toList = t.toList) && decide (a = b)
theorem ints_eq {a b : List Int} (hl : a.length = b.length) (h : ∀ j : Nat, j < a.length → rd a (j : Int) = rd b (j : Int)) : a = b := by
  apply List.ext_getElem hl
  intro j h1 h2
  have := h j h1
  unfold rd at this
  simpa [List.getD_eq_getElem?_getD, List.getElem?_eq_getElem h1, List.getElem?_eq_getElem h2] using this
theorem ints_ne {a b : List Int} {i : Int} (h : ¬ rd a i = rd b i) : decide (a = b) = false := by
  rw [decide_eq_false_iff_not]
  intro e
  exact h (by rw [e])
def cntC (l : List S45) (s : ByteArray) (a : List Int) : Nat := l.countP fun x => sameB x.f0 x.f1 s a
theorem cntC_le (l : List S45) (s : ByteArray) (a : List Int) : cntC l s a ≤ l.length := List.countP_le_length
theorem cntC_snoc (l : List S45) (x : S45) (s : ByteArray) (a : List Int) : cntC (l ++ [x]) s a = cntC l s a + if sameB x.f0 x.f1 s a = true then 1 else 0 := by
  simp [cntC, List.countP_append, List.countP_cons]
def enough (l w : List S45) (x : S45) : Bool := decide (cntC w x.f0 x.f1 ≤ cntC l x.f0 x.f1)
def anyB (l w : List S45) : Bool := callsB l && (callsB w && w.all (enough l w))
theorem enough_no {l w pre rest : List S45} {x : S45} (hx : w = pre ++ x :: rest) (h : enough l w x = false) : w.all (enough l w) = false := by
  have : ¬ w.all (enough l w) = true := by
    intro g
    have := List.all_eq_true.1 g x (by rw [hx]; simp)
    rw [h] at this
    cases this
  simpa using this
theorem impl_nameOk.ok (s : ByteArray) (h : (s.size : Int) ≤ 9223372036854775807) : EvP (fun k => impl_nameOk.f k s) (· = nameB s) := by
  unfold impl_nameOk.f
  refine EvP.upto (L := fun k (_ : Unit) i => impl_nameOk.l0 k s (s.size : Int) i) (n := s.size) (Inv := fun i _ => ∀ j : Nat, j < i → 97 ≤ bt s (j : Int) ∧ bt s (j : Int) ≤ 122) ?_ ?_ () (fun j hj => by omega)
  · rintro i _ hi hv ih
    simp only [impl_nameOk.l0]
    refine EvP.pos (by omega) (EvP.pos (by omega) (EvP.pos (by omega) ?_))
    refine EvP.ite (fun e => EvP.now (azB_no hi (by omega)).symm) (fun e => EvP.ite (fun e2 => EvP.now (azB_no hi (by omega)).symm) (fun e2 => ?_))
    rw [wrap_id (by omega) (by omega)]
    refine ih () (fun j hj => ?_)
    rcases Nat.lt_succ_iff_lt_or_eq.1 hj with hj | rfl
    · exact hv j hj
    · omega
  · rintro _ hv
    simp only [impl_nameOk.l0]
    have ha := azB_yes hv
    refine EvP.neg (by omega) (EvP.ite (fun e => EvP.ite (fun e2 => ?_) (fun e2 => EvP.now ?_)) (fun e => EvP.now ?_))
    · refine (words_ok s).mono ?_
      rintro _ rfl
      rw [nameB, ha, decide_eq_true (show 1 ≤ s.size ∧ s.size ≤ 6 by omega)]
      rfl
    · rw [nameB, decide_eq_false (show ¬ (1 ≤ s.size ∧ s.size ≤ 6) by omega)]
      simp
    · rw [nameB, decide_eq_false (show ¬ (1 ≤ s.size ∧ s.size ≤ 6) by omega)]
      simp
theorem impl_numbersOk.ok (l : List Int) (h : (l.length : Int) ≤ 9223372036854775807) : EvP (fun k => impl_numbersOk.f k l) (· = numsB l) := by
  unfold impl_numbersOk.f
  refine EvP.range (L := fun k (_ : Unit) i => impl_numbersOk.l0 k l (l.length : Int) i) (xs := l) (Inv := fun pre _ => numsB pre = true) ?_ ?_ () rfl
  · rintro pre x rest _ hx hi ih
    have hl := len_at hx
    have hr : rd l (pre.length : Int) = x := getD_at hx _
    simp only [impl_numbersOk.l0, hr, wrap_at hx h]
    refine EvP.pos hl (EvP.pos (nat_nonneg _) (EvP.pos hl ?_))
    exact EvP.ite (fun e => EvP.now (numsB_no hx (by omega)).symm) (fun e => EvP.ite (fun e2 => EvP.now (numsB_no hx (by omega)).symm) (fun e2 => ih () (numsB_snoc hi (by omega))))
  · rintro _ hi
    simp only [impl_numbersOk.l0]
    exact EvP.neg (by omega) (EvP.now hi.symm)
theorem impl_callOk.ok (s : ByteArray) (a : List Int) (h : (s.size : Int) ≤ 4398046511104) (h2 : (a.length : Int) ≤ 4398046511104) : EvP (fun k => impl_callOk.f k s a) (· = callB ⟨s, a⟩) := by
  unfold impl_callOk.f
  refine EvP.bind (impl_nameOk.ok s (by omega)) ?_
  rintro _ rfl
  refine EvP.ite (fun e => EvP.ite (fun e2 => ?_) (fun e2 => EvP.now ?_)) (fun e => EvP.now ?_)
  · refine EvP.bind (impl_numbersOk.ok a (by omega)) ?_
    rintro _ rfl
    exact EvP.now (by rw [callB, e, decide_eq_true (show a.length ≤ 3 by omega)]; rfl)
  · rw [callB, decide_eq_false (show ¬ a.length ≤ 3 by omega)]
    simp
  · rw [callB, show nameB s = false by simpa using e]
    rfl
theorem impl_ValidCalls.ok (l : List S45) (h : GoodC l) : EvP (fun k => impl_ValidCalls.f k l) (· = callsB l) := by
  have h1 := h.1
  unfold impl_ValidCalls.f
  refine EvP.range (L := fun k (_ : Unit) i => impl_ValidCalls.l0 k l l (l.length : Int) i) (xs := l) (Inv := fun pre _ => pre.all callB = true) ?_ ?_ () rfl
  · rintro pre x rest _ hx hi ih
    have hl := len_at hx
    have hr : rd_T45 l (pre.length : Int) = x := getD_at hx _
    have hg := h.2 x (by rw [hx]; simp)
    simp only [impl_ValidCalls.l0, hr, wrap_at hx (by omega)]
    refine EvP.pos hl (EvP.pos (nat_nonneg _) (EvP.pos hl ?_))
    refine EvP.bind (impl_callOk.ok x.f0 x.f1 hg.1 hg.2) ?_
    rintro _ rfl
    exact EvP.ite (fun e => ih () (all_snoc hi e)) (fun e => EvP.now (callsB_no hx (by simpa using e)).symm)
  · rintro _ hi
    simp only [impl_ValidCalls.l0]
    refine EvP.neg (by omega) (EvP.now ?_)
    rw [callsB, hi, Bool.true_and]
    congr 1
    simp
    omega
theorem slices_Equal_int_int.ok (a b : List Int) (h : (a.length : Int) ≤ 9223372036854775807) : EvP (fun k => slices_Equal_int_int.f k a b) (· = decide (a = b)) := by
  unfold slices_Equal_int_int.f
  refine EvP.ite (fun hl => ?_) (fun hl => EvP.now ?_)
  · refine EvP.upto (L := fun k (_ : Unit) i => slices_Equal_int_int.l0 k a b (a.length : Int) i) (n := a.length) (Inv := fun i _ => ∀ j : Nat, j < i → rd a (j : Int) = rd b (j : Int)) ?_ ?_ () (fun j hj => by omega)
    · rintro i _ hi hv ih
      simp only [slices_Equal_int_int.l0]
      refine EvP.pos (by omega) (EvP.pos (by omega) (EvP.pos (by omega) (EvP.pos (by omega) ?_)))
      refine EvP.ite (fun e => ?_) (fun e => EvP.now (ints_ne e).symm)
      rw [wrap_id (by omega) (by omega)]
      refine ih () (fun j hj => ?_)
      rcases Nat.lt_succ_iff_lt_or_eq.1 hj with hj | rfl
      · exact hv j hj
      · exact e
    · rintro _ hv
      simp only [slices_Equal_int_int.l0]
      exact EvP.neg (by omega) (EvP.now (decide_eq_true (ints_eq (by omega) hv)).symm)
  · symm
    rw [decide_eq_false_iff_not]
    intro e
    exact hl (by rw [e])
theorem impl_sameCall.ok (s : ByteArray) (a : List Int) (t : ByteArray) (b : List Int) (h : (a.length : Int) ≤ 4398046511104) : EvP (fun k => impl_sameCall.f k s a t b) (· = sameB s a t b) := by
  unfold impl_sameCall.f
  refine EvP.ite (fun e => ?_) (fun e => EvP.now ?_)
  · refine EvP.bind (slices_Equal_int_int.ok a b (by omega)) ?_
    rintro _ rfl
    exact EvP.now (by rw [sameB, decide_eq_true e]; rfl)
  · rw [sameB, decide_eq_false e]
    rfl
theorem impl_countCall.ok (l : List S45) (s : ByteArray) (a : List Int) (h : GoodC l) : EvP (fun k => impl_countCall.f k l s a) (· = (cntC l s a : Int)) := by
  have h1 := h.1
  unfold impl_countCall.f
  refine EvP.range (L := fun k n i => impl_countCall.l0 k n l (l.length : Int) i s a) (xs := l) (Inv := fun pre n => n = (cntC pre s a : Int)) ?_ ?_ 0 rfl
  · rintro pre x rest n hx rfl ih
    have hl := len_at hx
    have hc := cntC_le pre s a
    have hr : rd_T45 l (pre.length : Int) = x := getD_at hx _
    have hg := h.2 x (by rw [hx]; simp)
    simp only [impl_countCall.l0, hr, wrap_at hx (show (l.length : Int) ≤ 9223372036854775807 by omega)]
    refine EvP.pos hl (EvP.pos (nat_nonneg _) (EvP.pos hl ?_))
    refine EvP.bind (impl_sameCall.ok x.f0 x.f1 s a hg.2) ?_
    rintro _ rfl
    refine EvP.ite (fun e => ?_) (fun e => ih _ (by rw [cntC_snoc, if_neg e]; rfl))
    rw [wrap_id (by omega) (by omega)]
    exact ih _ (by rw [cntC_snoc, if_pos e]; rfl)
  · rintro n rfl
    simp only [impl_countCall.l0]
    exact EvP.neg (by omega) (EvP.now rfl)
theorem impl_AnyOrder.ok (l w : List S45) (h : GoodC l) (hw : GoodC w) : EvP (fun k => impl_AnyOrder.f k l w) (· = anyB l w) := by
  have h1 := h.1
  have h2 := hw.1
  have no : ∀ c : Bool, c = true → anyB l w = false → EvP (fun k => impl_AnyOrder.j0 k l w c) (· = anyB l w) := by
    intro c hc hb
    refine EvP.succ ?_
    simp only [impl_AnyOrder.j0]
    exact EvP.pos hc (EvP.now hb.symm)
  unfold impl_AnyOrder.f
  refine EvP.bind (impl_ValidCalls.ok l h) ?_
  rintro _ rfl
  refine EvP.ite (fun e => ?_) (fun e => no _ rfl (by rw [anyB, show callsB l = false by simpa using e]; rfl))
  refine EvP.bind (impl_ValidCalls.ok w hw) ?_
  rintro _ rfl
  cases e2 : callsB w with
  | false => exact no _ rfl (by rw [anyB, e2]; simp)
  | true =>
    refine EvP.succ ?_
    simp only [impl_AnyOrder.j0]
    refine EvP.neg (by simp) ?_
    refine EvP.range (L := fun k (_ : Unit) i => impl_AnyOrder.l0 k l w w (w.length : Int) i) (xs := w) (Inv := fun pre _ => pre.all (enough l w) = true) ?_ ?_ () rfl
    · rintro pre x rest _ hx hi ih
      have hl := len_at hx
      have hr : rd_T45 w (pre.length : Int) = x := getD_at hx _
      simp only [impl_AnyOrder.l0, hr, wrap_at hx (show (w.length : Int) ≤ 9223372036854775807 by omega)]
      refine EvP.pos hl (EvP.pos (nat_nonneg _) (EvP.pos hl ?_))
      refine EvP.bind (impl_countCall.ok l x.f0 x.f1 h) ?_
      rintro _ rfl
      refine EvP.bind (impl_countCall.ok w x.f0 x.f1 hw) ?_
      rintro _ rfl
      refine EvP.ite (fun e3 => EvP.now ?_) (fun e3 => ih () (all_snoc hi (decide_eq_true (by omega))))
      rw [anyB, enough_no hx (decide_eq_false (by omega))]
      simp
    · rintro _ hi
      simp only [impl_AnyOrder.l0]
      exact EvP.neg (by omega) (EvP.now (by rw [anyB, e, e2, hi]; rfl))
theorem spec_inRange.ok (a b c : Int) : EvP (fun _ => spec_inRange.f a b c) (· = decide (b ≤ a ∧ a ≤ c)) := by
  unfold spec_inRange.f
  exact EvP.ite (fun h => EvP.now (by simp [h])) (fun h => EvP.now (by simp [h]))
theorem spec_validName.ok (s : ByteArray) (h : (s.size : Int) ≤ 9223372036854775807) : EvP (fun k => spec_validName.f k s) (· = nameB s) := by
  unfold spec_validName.f
  refine EvP.upto (L := fun k (_ : Unit) i => spec_validName.l0 k s i) (n := s.size) (Inv := fun i _ => ∀ j : Nat, j < i → 97 ≤ bt s (j : Int) ∧ bt s (j : Int) ≤ 122) ?_ ?_ () (fun j hj => by omega)
  · rintro i _ hi hv ih
    simp only [spec_validName.l0]
    refine EvP.pos (by omega) (EvP.pos (by omega) ?_)
    refine EvP.ite (fun e => EvP.now (azB_no hi (by omega)).symm) (fun e => EvP.ite (fun e2 => EvP.now (azB_no hi (by omega)).symm) (fun e2 => ?_))
    rw [wrap_id (by omega) (by omega)]
    refine ih () (fun j hj => ?_)
    rcases Nat.lt_succ_iff_lt_or_eq.1 hj with hj | rfl
    · exact hv j hj
    · omega
  · rintro _ hv
    simp only [spec_validName.l0]
    have ha := azB_yes hv
    refine EvP.neg (by omega) ?_
    refine EvP.bind (spec_inRange.ok _ _ _) ?_
    rintro _ rfl
    refine EvP.ite (fun e => ?_) (fun e => EvP.now ?_)
    · have e' := of_decide_eq_true e
      refine (words_ok s).mono ?_
      rintro _ rfl
      rw [nameB, ha, decide_eq_true (show 1 ≤ s.size ∧ s.size ≤ 6 by omega)]
      rfl
    · have e' : ¬ (1 ≤ (s.size : Int) ∧ (s.size : Int) ≤ 6) := fun g => e (decide_eq_true g)
      rw [nameB, decide_eq_false (show ¬ (1 ≤ s.size ∧ s.size ≤ 6) by omega)]
      simp
theorem spec_validCalls.ok (l : List S45) (h : GoodC l) : EvP (fun k => spec_validCalls.f k l) (· = callsB l) := by
  have h1 := h.1
  unfold spec_validCalls.f
  refine EvP.range (L := fun k (_ : Unit) i => spec_validCalls.l0 k l i) (xs := l) (Inv := fun pre _ => pre.all callB = true) ?_ ?_ () rfl
  · rintro pre x rest _ hx hi ih
    have hl := len_at hx
    have hr : rd_T45 l (pre.length : Int) = x := getD_at hx _
    have hg := h.2 x (by rw [hx]; simp)
    have bad : callB x = false → EvP (fun k => spec_validCalls.j1 k l (pre.length : Int) true) (· = callsB l) := fun hb => by
      refine EvP.succ ?_
      simp only [spec_validCalls.j1]
      exact EvP.pos (by simp) (EvP.now (callsB_no hx hb).symm)
    simp only [spec_validCalls.l0, hr]
    refine EvP.pos hl (EvP.pos (nat_nonneg _) ?_)
    refine EvP.bind (spec_validName.ok x.f0 (by omega)) ?_
    rintro _ rfl
    refine EvP.ite (fun e => ?_) (fun e => bad (by rw [callB, show nameB x.f0 = false by simpa using e]; rfl))
    by_cases e2 : (x.f1.length : Int) > 3
    · rw [decide_eq_true e2]
      exact bad (by rw [callB, decide_eq_false (show ¬ x.f1.length ≤ 3 by omega)]; simp)
    · rw [decide_eq_false e2]
      refine EvP.succ ?_
      simp only [spec_validCalls.j1]
      refine EvP.neg (by simp) ?_
      refine EvP.range (L := fun k (_ : Unit) i => spec_validCalls.l1 k l (pre.length : Int) i) (xs := x.f1) (Inv := fun p _ => numsB p = true) ?_ ?_ () rfl
      · rintro p n r _ hp hv ih2
        have hpl := len_at hp
        have hrr : rd x.f1 (p.length : Int) = n := getD_at hp _
        simp only [spec_validCalls.l1, hr, hrr, wrap_at hp (by omega)]
        refine EvP.pos (nat_nonneg _) (EvP.pos hl (EvP.pos hpl (EvP.pos (nat_nonneg _) ?_)))
        refine EvP.bind (spec_inRange.ok _ _ _) ?_
        rintro _ rfl
        refine EvP.ite (fun e3 => ih2 () (numsB_snoc hv (of_decide_eq_true e3))) (fun e3 => EvP.now ?_)
        refine (callsB_no hx ?_).symm
        rw [callB, numsB_no hp (fun g => e3 (decide_eq_true g))]
        simp
      · rintro _ hv
        simp only [spec_validCalls.l1, hr, wrap_at hx (show (l.length : Int) ≤ 9223372036854775807 by omega)]
        refine EvP.pos (nat_nonneg _) (EvP.pos hl (EvP.neg (by omega) (ih () (all_snoc hi ?_))))
        rw [callB, e, hv, decide_eq_true (show x.f1.length ≤ 3 by omega)]
        rfl
  · rintro _ hi
    simp only [spec_validCalls.l0]
    refine EvP.neg (by omega) (EvP.now ?_)
    rw [callsB, hi, Bool.true_and]
    congr 1
    simp
    omega
theorem spec_bothCalls.ok (l w : List S45) (h : GoodC l) (hw : GoodC w) : EvP (fun k => spec_bothCalls.f k l w) (· = (callsB l && callsB w)) := by
  unfold spec_bothCalls.f
  refine EvP.bind (spec_validCalls.ok l h) ?_
  rintro _ rfl
  refine EvP.ite (fun e => ?_) (fun e => EvP.now (by rw [show callsB l = false by simpa using e]; rfl))
  refine EvP.bind (spec_validCalls.ok w hw) ?_
  rintro _ rfl
  exact EvP.now (by rw [e]; rfl)
theorem spec_sameCall.ok (s : ByteArray) (a : List Int) (t : ByteArray) (b : List Int) (h : (a.length : Int) ≤ 4398046511104) : EvP (fun k => spec_sameCall.f k s a t b) (· = sameB s a t b) := by
  have no : ∀ c : Bool, c = true → sameB s a t b = false → EvP (fun k => spec_sameCall.j0 k c s a t b) (· = sameB s a t b) := by
    intro c hc hb
    refine EvP.succ ?_
    simp only [spec_sameCall.j0]
    exact EvP.pos hc (EvP.now hb.symm)
  unfold spec_sameCall.f
  refine EvP.ite (fun e => ?_) (fun e => no _ rfl (by rw [sameB, decide_eq_false e]; rfl))
  by_cases hl : a.length = b.length
  · have hc : ((a.length : Int) != (b.length : Int)) = false := by simp [hl]
    rw [hc]
    refine EvP.succ ?_
    simp only [spec_sameCall.j0]
    refine EvP.neg (by simp) ?_
    refine EvP.upto (L := fun k (_ : Unit) i => spec_sameCall.l0 k i s a t b) (n := a.length) (Inv := fun i _ => ∀ j : Nat, j < i → rd a (j : Int) = rd b (j : Int)) ?_ ?_ () (fun j hj => by omega)
    · rintro i _ hi hv ih
      simp only [spec_sameCall.l0]
      refine EvP.pos (by omega) (EvP.pos (by omega) (EvP.pos (by omega) ?_))
      refine EvP.ite (fun e => ?_) (fun e => EvP.now (by rw [sameB, ints_ne e]; simp))
      rw [wrap_id (by omega) (by omega)]
      refine ih () (fun j hj => ?_)
      rcases Nat.lt_succ_iff_lt_or_eq.1 hj with hj | rfl
      · exact hv j hj
      · exact e
    · rintro _ hv
      simp only [spec_sameCall.l0]
      exact EvP.neg (by omega) (EvP.now (by rw [sameB, decide_eq_true e, decide_eq_true (ints_eq hl hv)]; rfl))
  · refine no _ (by simp; omega) ?_
    rw [sameB, decide_eq_false (show ¬ a = b from fun g => hl (by rw [g]))]
    simp
theorem spec_countCall.ok (l : List S45) (s : ByteArray) (a : List Int) (h : GoodC l) : EvP (fun k => spec_countCall.f k l s a) (· = (cntC l s a : Int)) := by
  have h1 := h.1
  unfold spec_countCall.f
  refine EvP.range (L := fun k n i => spec_countCall.l0 k l n i s a) (xs := l) (Inv := fun pre n => n = (cntC pre s a : Int)) ?_ ?_ 0 rfl
  · rintro pre x rest n hx rfl ih
    have hl := len_at hx
    have hc := cntC_le pre s a
    have hr : rd_T45 l (pre.length : Int) = x := getD_at hx _
    have hg := h.2 x (by rw [hx]; simp)
    simp only [spec_countCall.l0, hr, wrap_at hx (show (l.length : Int) ≤ 9223372036854775807 by omega)]
    refine EvP.pos hl (EvP.pos (nat_nonneg _) ?_)
    refine EvP.bind (spec_sameCall.ok x.f0 x.f1 s a hg.2) ?_
    rintro _ rfl
    refine EvP.ite (fun e => ?_) (fun e => ih _ (by rw [cntC_snoc, if_neg e]; rfl))
    rw [wrap_id (by omega) (by omega)]
    exact ih _ (by rw [cntC_snoc, if_pos e]; rfl)
  · rintro n rfl
    simp only [spec_countCall.l0]
    exact EvP.neg (by omega) (EvP.now rfl)
theorem spec_AnyOrder.ok (l w : List S45) (h : GoodC l) (hw : GoodC w) : EvP (fun k => spec_AnyOrder.f k l w) (· = anyB l w) := by
  have h1 := h.1
  have h2 := hw.1
  unfold spec_AnyOrder.f
  refine EvP.bind (spec_bothCalls.ok l w h hw) ?_
  rintro _ rfl
  refine EvP.ite (fun e => ?_) (fun e => EvP.now (by rw [anyB, ← Bool.and_assoc, show (callsB l && callsB w) = false by simpa using e]; rfl))
  refine EvP.range (L := fun k (_ : Unit) i => spec_AnyOrder.l0 k l w i) (xs := w) (Inv := fun pre _ => pre.all (enough l w) = true) ?_ ?_ () rfl
  · rintro pre x rest _ hx hi ih
    have hl := len_at hx
    have hr : rd_T45 w (pre.length : Int) = x := getD_at hx _
    simp only [spec_AnyOrder.l0, hr, wrap_at hx (show (w.length : Int) ≤ 9223372036854775807 by omega)]
    refine EvP.pos hl (EvP.pos (nat_nonneg _) ?_)
    refine EvP.bind (spec_countCall.ok l x.f0 x.f1 h) ?_
    rintro _ rfl
    refine EvP.bind (spec_countCall.ok w x.f0 x.f1 hw) ?_
    rintro _ rfl
    refine EvP.ite (fun e3 => EvP.now ?_) (fun e3 => ih () (all_snoc hi (decide_eq_true (by omega))))
    rw [anyB, enough_no hx (decide_eq_false (by omega))]
    simp
  · rintro _ hi
    simp only [spec_AnyOrder.l0]
    exact EvP.neg (by omega) (EvP.now (by rw [anyB, ← Bool.and_assoc, e, hi]; rfl))
theorem main (l0 : List S42) (hl : l0.length ≤ 9223372036854775807) (hq : ∀ x ∈ l0, Q42 x) (l1 : List S42) (hl1 : l1.length ≤ 9223372036854775807) (hq1 : ∀ x ∈ l1, Q42 x) : ∃ k, laws_FnExactAnyOrder.f k l0 l1 = some true := by
  refine EvP.rounds ?_
  unfold laws_FnExactAnyOrder.f
  refine EvP.bind (laws_szCallS.ok l0 hl hq _ (by omega) (by omega)) ?_
  rintro r (g | ⟨g0, g1, gg, gl⟩)
  · exact EvP.pos g (EvP.now rfl)
  refine EvP.neg (by omega) ?_
  refine EvP.bind (laws_szCallS.ok l1 hl1 hq1 r (by omega) (by omega)) ?_
  rintro r2 (g | ⟨g2, g3, gg2, gl2⟩)
  · exact EvP.pos g (EvP.now rfl)
  refine EvP.neg (by omega) ?_
  have hto := laws_toCallS.ok l0 (by omega) gl
  have hto2 := laws_toCallS.ok l1 (by omega) gl2
  refine EvP.bind hto ?_
  rintro _ rfl
  refine EvP.bind (hto2) ?_
  rintro _ rfl
  refine EvP.bind (spec_AnyOrder.ok _ _ gg gg2) ?_
  rintro _ rfl
  refine EvP.bind hto ?_
  rintro _ rfl
  refine EvP.bind (hto2) ?_
  rintro _ rfl
  refine EvP.bind (impl_AnyOrder.ok _ _ gg gg2) ?_
  rintro _ rfl
  refine EvP.neg (by simp) ?_
  refine EvP.bind hto ?_
  rintro _ rfl
  refine EvP.bind (laws_eqCallS.ok _ gg) ?_
  rintro _ rfl
  refine EvP.pos rfl ?_
  refine EvP.bind (hto2) ?_
  rintro _ rfl
  refine EvP.bind (laws_eqCallS.ok _ gg2) ?_
  rintro _ rfl
  exact EvP.pos rfl (EvP.now rfl)
end QFnExactAnyOrder
end Go.Proofs.Ytdhppadgpkgpeaa.Pure

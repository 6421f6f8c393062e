/- FnExactFindTest answers true for all tests and ids: the program's FindTest returns what the reference's returns, and leaves its argument as it is. Conditions: those of the printed statement alone (bounds on sizes that every input meets). -/
import Derived.Test.YtboppbejnadpmaaOFnExactFindTestx6
import Derived.Test.YtboppbejnadpmaaBase
namespace Go.Proofs.Ytboppbejnadpmaa.Pure
open Go.RowKit Go.Proofs.Ytboppbejnadpmaa.OFnExactFindTest Go.Proofs.YtboppbejnadpmaaW.PrintWords Go.Proofs.YtboppbejnadpmaaW.PrintLast Go.Proofs.YtboppbejnadpmaaW.PrintMore Go.Proofs.Ytboppbejnadpmaa.Base
set_option linter.unusedVariables false
set_option linter.unusedSimpArgs false
namespace QFnExactFindTest
/-! #### names -/
def azB (s : ByteArray) : Bool := decide (∀ j : Nat, j < s.size → 97 ≤ bt s (j : Int) ∧ bt s (j : Int) ≤ 122)
def wordB (s : ByteArray) : Bool := decide (s.toList ≠ [97, 110, 100]) && (decide (s.toList ≠ [111, 114]) && decide (s.toList ≠ [110, 111, 116]))
def nameB (s : ByteArray) : Bool := azB s && (decide (1 ≤ s.size ∧ s.size ≤ 6) && wordB s)
theorem azB_no {s : ByteArray} {i : Nat} (hi : i < s.size) (h : ¬ (97 ≤ bt s (i : Int) ∧ bt s (i : Int) ≤ 122)) : nameB s = false := by
  have : azB s = false := by
    rw [azB, decide_eq_false_iff_not]
    exact fun g => h (g i hi)
  rw [nameB, this]
  rfl
theorem azB_yes {s : ByteArray} (h : ∀ j : Nat, j < s.size → 97 ≤ bt s (j : Int) ∧ bt s (j : Int) ≤ 122) : azB s = true := by
  rw [azB, decide_eq_true_iff]
  exact h
theorem words_ok (s : ByteArray) : EvP (fun _ => if s.toList = ([97, 110, 100] : List UInt8) then (some false) else (if s.toList = ([111, 114] : List UInt8) then (some false) else (some (s.toList != ([110, 111, 116] : List UInt8))))) (· = wordB s) := by
  unfold wordB
  refine EvP.ite (fun h => EvP.now (by simp [h])) (fun h => EvP.ite (fun h2 => EvP.now (by simp [h2])) (fun h2 => EvP.now ?_))
  simp [h, h2, bne]
  rw [Bool.eq_iff_iff]
  simp
/-- Is a text in a list? -/
def hasT (l : List ByteArray) (s : ByteArray) : Bool := l.any fun y => decide (y.toList = s.toList)
theorem hasT_cons (y : ByteArray) (l : List ByteArray) (s : ByteArray) : hasT (y :: l) s = (decide (y.toList = s.toList) || hasT l s) := rfl
theorem hasT_append (a b : List ByteArray) (s : ByteArray) : hasT (a ++ b) s = (hasT a s || hasT b s) := by simp [hasT, List.any_append]
theorem hasT_iff (l : List ByteArray) (s : ByteArray) : hasT l s = true ↔ ∃ y ∈ l, y.toList = s.toList := by simp [hasT]
/-! #### different texts -/
def apartB (l : List ByteArray) : Bool := decide (l.Pairwise fun a b => a.toList ≠ b.toList)
theorem apartB_no {l pre rest : List ByteArray} {x : ByteArray} (h : l = pre ++ x :: rest) (hx : hasT pre x = true) : apartB l = false := by
  rw [apartB, decide_eq_false_iff_not, h]
  intro g
  obtain ⟨y, hy, e⟩ := (hasT_iff pre x).1 hx
  exact (List.pairwise_append.1 g).2.2 y hy x (by simp) e
theorem apartB_yes {pre : List ByteArray} {x : ByteArray} (h : apartB pre = true) (hx : hasT pre x = false) : apartB (pre ++ [x]) = true := by
  rw [apartB, decide_eq_true_iff] at h ⊢
  refine List.pairwise_append.2 ⟨h, by simp, fun a ha b hb => ?_⟩
  rw [List.mem_singleton.1 hb]
  intro e
  have : hasT pre x = true := (hasT_iff pre x).2 ⟨a, ha, e⟩
  rw [hx] at this
  cases this
theorem apartB_nil : apartB [] = true := rfl
def namesB (l : List ByteArray) (most : Int) : Bool := l.all nameB && (apartB l && decide ((l.length : Int) ≤ most))
theorem all_no {α : Type} {p : α → Bool} {l pre rest : List α} {x : α} (h : l = pre ++ x :: rest) (hx : p x = false) : l.all p = false := by
  rw [h, List.all_append, List.all_cons, hx]
  simp
theorem all_yes {α : Type} {p : α → Bool} {pre : List α} {x : α} (h : pre.all p = true) (hx : p x = true) : (pre ++ [x]).all p = true := by
  rw [List.all_append, h, List.all_cons, hx]
  rfl
theorem take_at {α : Type} {l pre rest : List α} {x : α} (h : l = pre ++ x :: rest) : l.take (pre.length : Int).toNat = pre := by
  rw [h]
  simp
def Small (l : List ByteArray) : Prop := (l.length : Int) ≤ 4398046511104 ∧ ∀ x ∈ l, (x.size : Int) ≤ 4398046511104
theorem laws_eqStringS.ok (l : List ByteArray) (hl : (l.length : Int) ≤ 9223372036854775807) : EvP (fun k => laws_eqStringS.f k l l) (· = true) := by
  unfold laws_eqStringS.f
  refine EvP.pos rfl ?_
  refine EvP.range (L := fun k (_ : Unit) i => laws_eqStringS.l0 k l l i) (xs := l) (Inv := fun _ _ => True) ?_ ?_ () trivial
  · rintro pre x rest s hx _ ih
    have hlt := len_at hx
    simp only [laws_eqStringS.l0, wrap_at hx hl]
    exact EvP.pos hlt (EvP.pos (nat_nonneg _) (EvP.pos hlt (EvP.pos trivial (ih () trivial))))
  · rintro s _
    simp only [laws_eqStringS.l0]
    exact EvP.neg (by omega) (EvP.now rfl)
theorem laws_szStringS.ok (l : List ByteArray) (hl : l.length ≤ 9223372036854775807) (hq : ∀ x ∈ l, x.size ≤ 9223372036854775807) (left : Int) (h0 : 0 ≤ left) (h1 : left ≤ 1048576) :
    EvP (fun k => laws_szStringS.f k l left) (fun r => r < 0 ∨ (0 ≤ r ∧ r + l.length ≤ left ∧ Small l)) := by
  unfold laws_szStringS.f
  rw [wrap_id (by omega) (by omega)]
  refine EvP.ite (fun _ => EvP.now (.inl (by omega))) (fun hn => ?_)
  refine EvP.range (L := fun k s i => laws_szStringS.l0 k l s i) (xs := l) (Inv := fun pre s => 0 ≤ s ∧ s + l.length ≤ left ∧ ∀ x ∈ pre, (x.size : Int) ≤ left) ?_ ?_ _ ⟨by omega, by omega, fun x hx => by cases hx⟩
  · rintro pre x rest s hx ⟨a0, a1, a2⟩ ih
    have hlt := len_at hx
    have hr : rdOf ByteArray.empty l (pre.length : Int) = x := getD_at hx _
    have hxs := hq x (by rw [hx]; simp)
    simp only [laws_szStringS.l0, hr, wrap_at hx (by omega), wrap_id (x := s - (x.size : Int)) (by omega) (by omega)]
    refine EvP.pos hlt (EvP.pos (nat_nonneg _) ?_)
    refine EvP.ite (fun _ => EvP.now (.inl (by omega))) (fun hs => ih _ ⟨by omega, by omega, fun y hy => ?_⟩)
    rcases List.mem_append.1 hy with hy | hy
    · exact a2 y hy
    · rw [List.mem_singleton.1 hy]
      omega
  · rintro s ⟨a0, a1, a2⟩
    simp only [laws_szStringS.l0]
    exact EvP.neg (by omega) (EvP.now (.inr ⟨a0, a1, by omega, fun x hx => by have := a2 x hx; omega⟩))
theorem laws_toStringS.ok (l : List ByteArray) (hl : (l.length : Int) ≤ 1048576) : EvP (fun k => laws_toStringS.f k l) (· = l) := by
  have main : EvP (fun k => laws_toStringS.f k l) (· = l.map id) := by
    unfold laws_toStringS.f
    refine EvP.pos (by omega) (EvP.pos (by omega) ?_)
    rw [Int.toNat_natCast]
    refine EvP.fill (L := fun k s i => laws_toStringS.l0 k l s i) (xs := l) id _ ?_ ?_
    · intro pre x rest s hx hs ih
      have hlt := len_at hx
      have hr : rdOf ByteArray.empty l (pre.length : Int) = x := getD_at hx _
      simp only [laws_toStringS.l0, hr, wrap_at hx (by omega)]
      exact EvP.pos hlt (EvP.pos (nat_nonneg _) (EvP.pos (by omega) ih))
    · intro s
      simp only [laws_toStringS.l0]
      exact EvP.neg (by omega) (EvP.now rfl)
  simpa using main
/-- What the size's test tells of a test. -/
def OkT (m n : ByteArray) (marks needs : List ByteArray) : Prop := (m.size : Int) ≤ 1048576 ∧ (n.size : Int) ≤ 1048576 ∧ (Small marks ∧ (marks.length : Int) ≤ 1048576) ∧ (Small needs ∧ (needs.length : Int) ≤ 1048576)
theorem laws_szTest.ok (m n : ByteArray) (marks needs : List ByteArray) (hq : (m.size ≤ 9223372036854775807) ∧ (n.size ≤ 9223372036854775807) ∧ (marks.length ≤ 9223372036854775807 ∧ ∀ y ∈ marks, y.size ≤ 9223372036854775807) ∧ (needs.length ≤ 9223372036854775807 ∧ ∀ y ∈ needs, y.size ≤ 9223372036854775807)) (left : Int) (h0 : 0 ≤ left) (h1 : left ≤ 1048576) :
    EvP (fun k => laws_szTest.f k m n marks needs left) (fun r => r < 0 ∨ (0 ≤ r ∧ r ≤ left ∧ OkT m n marks needs)) := by
  unfold laws_szTest.f
  obtain ⟨q0, q1, q2, q3⟩ := hq
  rw [wrap_id (x := left - (m.size : Int)) (by omega) (by omega)]
  refine EvP.ite (fun _ => EvP.now (.inl (by omega))) (fun hn => ?_)
  rw [wrap_id (by omega) (by omega)]
  refine EvP.ite (fun _ => EvP.now (.inl (by omega))) (fun hn2 => ?_)
  refine EvP.bind (laws_szStringS.ok marks q2.1 q2.2 _ (by omega) (by omega)) ?_
  rintro r (g | ⟨g0, g1, g2⟩)
  · exact EvP.pos g (EvP.now (.inl (by omega)))
  refine EvP.neg (by omega) ?_
  refine EvP.bind (laws_szStringS.ok needs q3.1 q3.2 r g0 (by omega)) ?_
  rintro u (k | ⟨k0, k1, k2⟩)
  · exact EvP.pos k (EvP.now (.inl (by omega)))
  exact EvP.neg (by omega) (EvP.now (.inr ⟨k0, by omega, by omega, by omega, ⟨g2, by omega⟩, ⟨k2, by omega⟩⟩))
theorem laws_toTest.ok (m n : ByteArray) (marks needs : List ByteArray) (h : OkT m n marks needs) : EvP (fun k => laws_toTest.f k m n marks needs) (· = (m, n, marks, needs)) := by
  unfold laws_toTest.f
  refine EvP.bind (laws_toStringS.ok marks h.2.2.1.2) ?_
  rintro _ rfl
  refine EvP.bind (laws_toStringS.ok needs h.2.2.2.2) ?_
  rintro _ rfl
  exact EvP.now rfl
theorem laws_eqTest.ok (m n : ByteArray) (marks needs : List ByteArray) (h : OkT m n marks needs) : EvP (fun k => laws_eqTest.f k m n marks needs m n marks needs) (· = true) := by
  unfold laws_eqTest.f
  have e1 := h.2.2.1.2
  have e2 := h.2.2.2.2
  refine EvP.pos rfl (EvP.pos rfl ?_)
  refine EvP.bind (laws_eqStringS.ok marks (by omega)) ?_
  rintro _ rfl
  refine EvP.pos rfl ?_
  refine EvP.bind (laws_eqStringS.ok needs (by omega)) ?_
  rintro _ rfl
  exact EvP.pos rfl (EvP.now rfl)
/-! #### tests -/
def txt (l : List ByteArray) (j : Nat) : List UInt8 := (rdOf ByteArray.empty l (j : Int)).toList
def ascB (l : List ByteArray) : Bool := decide (∀ j : Nat, j < l.length - 1 → Op.bytesLess (txt l j) (txt l (j + 1)) = true)
def sortB (l : List ByteArray) : Bool := decide (∀ j : Nat, j < l.length - 1 → Op.bytesLess (txt l (j + 1)) (txt l j) = false)
theorem txt_ne {l : List ByteArray} (h : apartB l = true) (j : Nat) (hj : j < l.length - 1) : txt l j ≠ txt l (j + 1) := by
  rw [apartB, decide_eq_true_iff] at h
  have := List.pairwise_iff_getElem.1 h j (j + 1) (by omega) (by omega) (by omega)
  have e1 : txt l j = l[j].toList := by
    unfold txt rdOf
    rw [Int.toNat_natCast, List.getD_eq_getElem?_getD, List.getElem?_eq_getElem (by omega)]
    rfl
  have e2 : txt l (j + 1) = l[j + 1].toList := by
    unfold txt rdOf
    rw [Int.toNat_natCast, List.getD_eq_getElem?_getD, List.getElem?_eq_getElem (by omega)]
    rfl
  rw [e1, e2]
  exact this
theorem sort_asc {l : List ByteArray} (h : apartB l = true) : sortB l = ascB l := by
  unfold sortB ascB
  rw [Bool.eq_iff_iff, decide_eq_true_iff, decide_eq_true_iff]
  constructor
  · intro g j hj
    have t := bytes_total (txt l j) (txt l (j + 1))
    rw [g j hj] at t
    have e : (txt l j == txt l (j + 1)) = false := by simpa using txt_ne h j hj
    rw [e, Bool.or_false] at t
    exact t
  · intro g j hj
    have t := bytes_total (txt l j) (txt l (j + 1))
    rw [g j hj] at t
    simpa using t.symm
def testB (m n : ByteArray) (marks needs : List ByteArray) : Bool := nameB m && (nameB n && (namesB marks 3 && (ascB marks && namesB needs 4)))
def idT (m n : ByteArray) : ByteArray := (m ++ (⟨#[46]⟩ : ByteArray)) ++ n
def tB (x : S31) : Bool := testB x.f0 x.f1 x.f2 x.f3
def idS (x : S31) : ByteArray := idT x.f0 x.f1
def testsB (l : List S31) : Bool := l.all tB && (apartB (l.map idS) && decide ((l.length : Int) ≤ 10))
/-- Sizes that no machine sum passes. -/
def GoodT (l : List S31) : Prop := (l.length : Int) ≤ 4398046511104 ∧ ∀ x ∈ l, (x.f0.size : Int) ≤ 4398046511104 ∧ (x.f1.size : Int) ≤ 4398046511104 ∧ Small x.f2 ∧ Small x.f3
def Q40 (x : S40) : Prop := (x.f0.size ≤ 9223372036854775807) ∧ (x.f1.size ≤ 9223372036854775807) ∧ (x.f2.length ≤ 9223372036854775807 ∧ ∀ y ∈ x.f2, y.size ≤ 9223372036854775807) ∧ (x.f3.length ≤ 9223372036854775807 ∧ ∀ y ∈ x.f3, y.size ≤ 9223372036854775807)
def cTest (x : S40) : S31 := ⟨x.f0, x.f1, x.f2, x.f3⟩
theorem good_of {l : List S40} (hl : (l.length : Int) ≤ 1048576) (h : ∀ x ∈ l, OkT x.f0 x.f1 x.f2 x.f3) : GoodT (l.map cTest) := by
  refine ⟨by rw [List.length_map]; omega, fun y hy => ?_⟩
  obtain ⟨x, hx, rfl⟩ := List.mem_map.1 hy
  have g := h x hx
  have g0 := g.1
  have g1 := g.2.1
  exact ⟨by simp only [cTest]; omega, by simp only [cTest]; omega, g.2.2.1.1, g.2.2.2.1⟩
theorem laws_szTestS.ok (l : List S40) (hl : l.length ≤ 9223372036854775807) (hq : ∀ x ∈ l, Q40 x) (left : Int) (h0 : 0 ≤ left) (h1 : left ≤ 1048576) :
    EvP (fun k => laws_szTestS.f k l left) (fun r => r < 0 ∨ (0 ≤ r ∧ r + l.length ≤ left ∧ ∀ x ∈ l, OkT x.f0 x.f1 x.f2 x.f3)) := by
  unfold laws_szTestS.f
  rw [wrap_id (by omega) (by omega)]
  refine EvP.ite (fun _ => EvP.now (.inl (by omega))) (fun hn => ?_)
  refine EvP.range (L := fun k s i => laws_szTestS.l0 k l s i) (xs := l) (Inv := fun pre s => 0 ≤ s ∧ s + l.length ≤ left ∧ ∀ x ∈ pre, OkT x.f0 x.f1 x.f2 x.f3) ?_ ?_ _ ⟨by omega, by omega, fun x hx => by cases hx⟩
  · rintro pre x rest s hx ⟨a0, a1, a2⟩ ih
    have hlt := len_at hx
    have hr : rd_T40 l (pre.length : Int) = x := getD_at hx _
    simp only [laws_szTestS.l0, hr, wrap_at hx (by omega)]
    refine EvP.pos hlt (EvP.pos (nat_nonneg _) ?_)
    refine EvP.bind (laws_szTest.ok x.f0 x.f1 x.f2 x.f3 (hq x (by rw [hx]; simp)) s a0 (by omega)) ?_
    rintro r (g | ⟨g0, g1, g2⟩)
    · exact EvP.pos g (EvP.now (.inl (by omega)))
    · refine EvP.neg (by omega) (ih r ⟨g0, by omega, fun y hy => ?_⟩)
      rcases List.mem_append.1 hy with hy | hy
      · exact a2 y hy
      · rw [List.mem_singleton.1 hy]
        exact g2
  · rintro s ⟨a0, a1, a2⟩
    simp only [laws_szTestS.l0]
    exact EvP.neg (by omega) (EvP.now (.inr ⟨a0, a1, a2⟩))
theorem laws_toTestS.ok (l : List S40) (hl : (l.length : Int) ≤ 1048576) (hq : ∀ x ∈ l, OkT x.f0 x.f1 x.f2 x.f3) : EvP (fun k => laws_toTestS.f k l) (· = l.map cTest) := by
  unfold laws_toTestS.f
  refine EvP.pos (by omega) (EvP.pos (by omega) ?_)
  rw [Int.toNat_natCast]
  refine EvP.fill (L := fun k s i => laws_toTestS.l0 k l s i) (xs := l) cTest _ ?_ ?_
  · intro pre x rest s hx hs ih
    have hlt := len_at hx
    have hr : rd_T40 l (pre.length : Int) = x := getD_at hx _
    simp only [laws_toTestS.l0, hr, wrap_at hx (by omega)]
    refine EvP.pos hlt (EvP.pos (nat_nonneg _) ?_)
    refine EvP.bind (laws_toTest.ok x.f0 x.f1 x.f2 x.f3 (hq x (by rw [hx]; simp))) ?_
    rintro _ rfl
    exact EvP.pos (by omega) ih
  · intro s
    simp only [laws_toTestS.l0]
    exact EvP.neg (by omega) (EvP.now rfl)
theorem laws_eqTestS.ok (l : List S40) (hl : (l.length : Int) ≤ 1048576) (hq : ∀ x ∈ l, OkT x.f0 x.f1 x.f2 x.f3) : EvP (fun k => laws_eqTestS.f k (l.map cTest) (l.map cTest)) (· = true) := by
  unfold laws_eqTestS.f
  refine EvP.pos rfl ?_
  refine EvP.range (L := fun k (_ : Unit) i => laws_eqTestS.l0 k (l.map cTest) (l.map cTest) i) (xs := l.map cTest) (Inv := fun _ _ => True) ?_ ?_ () trivial
  · rintro pre x rest s hx _ ih
    have hlt := len_at hx
    have hr : rd_T31 (l.map cTest) (pre.length : Int) = x := getD_at hx _
    obtain ⟨y, hy, rfl⟩ : ∃ y ∈ l, cTest y = x := List.mem_map.1 (show x ∈ l.map cTest by rw [hx]; simp)
    simp only [laws_eqTestS.l0, hr, wrap_at hx (show ((l.map cTest).length : Int) ≤ 9223372036854775807 by rw [List.length_map]; omega)]
    refine EvP.pos hlt (EvP.pos (nat_nonneg _) (EvP.pos hlt ?_))
    refine EvP.bind (laws_eqTest.ok (cTest y).f0 (cTest y).f1 (cTest y).f2 (cTest y).f3 (hq y hy)) ?_
    rintro _ rfl
    exact EvP.pos rfl (ih () trivial)
  · rintro s _
    simp only [laws_eqTestS.l0]
    exact EvP.neg (by omega) (EvP.now rfl)
theorem impl_nameOk.ok (s : ByteArray) (h : (s.size : Int) ≤ 9223372036854775807) : EvP (fun k => impl_nameOk.f k s) (· = nameB s) := by
  unfold impl_nameOk.f
  refine EvP.upto (L := fun k (_ : Unit) i => impl_nameOk.l0 k s (s.size : Int) i) (n := s.size) (Inv := fun i _ => ∀ j : Nat, j < i → 97 ≤ bt s (j : Int) ∧ bt s (j : Int) ≤ 122) ?_ ?_ () (fun j hj => by omega)
  · rintro i _ hi hv ih
    simp only [impl_nameOk.l0]
    refine EvP.pos (by omega) (EvP.pos (by omega) (EvP.pos (by omega) ?_))
    refine EvP.ite (fun e => EvP.now (azB_no hi (by omega)).symm) (fun e => EvP.ite (fun e2 => EvP.now (azB_no hi (by omega)).symm) (fun e2 => ?_))
    rw [wrap_id (by omega) (by omega)]
    refine ih () (fun j hj => ?_)
    rcases Nat.lt_succ_iff_lt_or_eq.1 hj with hj | rfl
    · exact hv j hj
    · omega
  · rintro _ hv
    simp only [impl_nameOk.l0]
    have ha := azB_yes hv
    refine EvP.neg (by omega) (EvP.ite (fun e => EvP.ite (fun e2 => ?_) (fun e2 => EvP.now ?_)) (fun e => EvP.now ?_))
    · refine (words_ok s).mono ?_
      rintro _ rfl
      rw [nameB, ha, decide_eq_true (show 1 ≤ s.size ∧ s.size ≤ 6 by omega)]
      rfl
    · rw [nameB, decide_eq_false (show ¬ (1 ≤ s.size ∧ s.size ≤ 6) by omega)]
      simp
    · rw [nameB, decide_eq_false (show ¬ (1 ≤ s.size ∧ s.size ≤ 6) by omega)]
      simp
theorem slices_Index_string_string.ok (l : List ByteArray) (s : ByteArray) (h : (l.length : Int) ≤ 9223372036854775807) : EvP (fun k => slices_Index_string_string.f k l s) (fun r => decide (r ≥ 0) = hasT l s) := by
  unfold slices_Index_string_string.f
  refine EvP.range (L := fun k (_ : Unit) i => slices_Index_string_string.l0 k l s (l.length : Int) i) (xs := l) (Inv := fun pre _ => hasT pre s = false) ?_ ?_ () rfl
  · rintro pre x rest _ hx hi ih
    have hl := len_at hx
    have hr : rdOf ByteArray.empty l (pre.length : Int) = x := getD_at hx _
    simp only [slices_Index_string_string.l0, hr, wrap_at hx h]
    refine EvP.pos hl (EvP.pos (nat_nonneg _) (EvP.pos hl ?_))
    refine EvP.ite (fun e => EvP.now ?_) (fun e => ih () ?_)
    · rw [hx, hasT_append, hasT_cons, e]
      simp
    · rw [hasT_append, hasT_cons, hi]
      simp [Ne.symm e, hasT]
  · rintro _ hi
    simp only [slices_Index_string_string.l0]
    exact EvP.neg (by omega) (EvP.now (by rw [hi]; rfl))
theorem slices_Contains_string_string.ok (l : List ByteArray) (s : ByteArray) (h : (l.length : Int) ≤ 9223372036854775807) : EvP (fun k => slices_Contains_string_string.f k l s) (· = hasT l s) := by
  unfold slices_Contains_string_string.f
  refine EvP.bind (slices_Index_string_string.ok l s h) ?_
  intro r hr
  exact EvP.now hr
theorem impl_namesOk.ok (l : List ByteArray) (most : Int) (h : Small l) : EvP (fun k => impl_namesOk.f k l most) (· = namesB l most) := by
  have h1 := h.1
  unfold impl_namesOk.f
  refine EvP.range (L := fun k (_ : Unit) i => impl_namesOk.l0 k l most l (l.length : Int) i) (xs := l) (Inv := fun pre _ => pre.all nameB = true ∧ apartB pre = true) ?_ ?_ () ⟨rfl, rfl⟩
  · rintro pre x rest _ hx ⟨hi, ha⟩ ih
    have hl := len_at hx
    have hr : rdOf ByteArray.empty l (pre.length : Int) = x := getD_at hx _
    have hg := h.2 x (by rw [hx]; simp)
    simp only [impl_namesOk.l0, hr, wrap_at hx (show (l.length : Int) ≤ 9223372036854775807 by omega)]
    refine EvP.pos hl (EvP.pos (nat_nonneg _) (EvP.pos hl ?_))
    refine EvP.bind (impl_nameOk.ok x (by omega)) ?_
    rintro _ rfl
    refine EvP.ite (fun e => EvP.pos (by omega) ?_) (fun e => EvP.now (by rw [namesB, all_no hx (by simpa using e)]; rfl))
    rw [take_at hx]
    refine EvP.bind (slices_Contains_string_string.ok pre x (by omega)) ?_
    rintro _ rfl
    exact EvP.ite (fun e2 => EvP.now (by rw [namesB, apartB_no hx e2]; simp)) (fun e2 => ih () ⟨all_yes hi e, apartB_yes ha (by simpa using e2)⟩)
  · rintro _ ⟨hi, ha⟩
    simp only [impl_namesOk.l0]
    exact EvP.neg (by omega) (EvP.now (by rw [namesB, hi, ha]; rfl))
theorem cmp_Less_string.ok (a b : ByteArray) : EvP (fun _ => cmp_Less_string.f a b) (· = Op.bytesLess a.toList b.toList) := by
  unfold cmp_Less_string.f cmp_isNaN_string.f
  refine EvP.bind (P := (· = false)) (EvP.now (by simp)) ?_
  rintro _ rfl
  exact EvP.neg (by simp) (EvP.now rfl)
theorem slices_IsSorted_string_string.ok (l : List ByteArray) (h : (l.length : Int) ≤ 4398046511104) : EvP (fun k => slices_IsSorted_string_string.f k l) (· = sortB l) := by
  unfold slices_IsSorted_string_string.f
  rw [wrap_id (by omega) (by omega)]
  refine EvP.down (L := fun k (_ : Unit) n => slices_IsSorted_string_string.l0 k l n) (Inv := fun n _ => n < (l.length : Int) ∧ ∀ j : Nat, n ≤ (j : Int) → j < l.length - 1 → Op.bytesLess (txt l (j + 1)) (txt l j) = false) ?_ ?_ _ () ⟨by omega, fun j h1 h2 => by omega⟩
  · rintro n _ hn ⟨hv1, hv⟩ ih
    obtain ⟨m, rfl⟩ := Int.eq_ofNat_of_zero_le (show 0 ≤ n by omega)
    have hm : m = (m - 1) + 1 := by omega
    have hc : ((m : Int) - 1) = ((m - 1 : Nat) : Int) := by omega
    simp only [slices_IsSorted_string_string.l0]
    rw [wrap_id (x := (m : Int) - 1) (by omega) (by omega)]
    refine EvP.pos hn (EvP.pos (by omega) (EvP.pos (by omega) (EvP.pos (by omega) (EvP.pos (by omega) ?_))))
    refine EvP.bind (cmp_Less_string.ok _ _) ?_
    rintro _ rfl
    refine EvP.ite (fun e => EvP.now ?_) (fun e => ih () ⟨by omega, fun j h1 h2 => ?_⟩)
    · symm
      rw [sortB, decide_eq_false_iff_not]
      intro g
      have := g (m - 1) (by omega)
      rw [← hm, txt, txt, ← hc, e] at this
      cases this
    · by_cases hj : j = m - 1
      · subst hj
        rw [← hm, txt, txt, ← hc]
        simpa using e
      · exact hv j (by omega) h2
  · rintro n _ hn ⟨hv1, hv⟩
    simp only [slices_IsSorted_string_string.l0]
    refine EvP.neg (by omega) (EvP.now ?_)
    symm
    rw [sortB, decide_eq_true_iff]
    exact fun j hj => hv j (by omega) hj
theorem impl_testOk.ok (m n : ByteArray) (marks needs : List ByteArray) (hm : (m.size : Int) ≤ 4398046511104) (hn : (n.size : Int) ≤ 4398046511104) (h2 : Small marks) (h3 : Small needs) : EvP (fun k => impl_testOk.f k m n marks needs) (· = testB m n marks needs) := by
  unfold impl_testOk.f
  refine EvP.bind (impl_nameOk.ok m (by omega)) ?_
  rintro _ rfl
  refine EvP.ite (fun e1 => ?_) (fun e1 => EvP.now (by rw [testB, show nameB m = false by simpa using e1]; rfl))
  refine EvP.bind (impl_nameOk.ok n (by omega)) ?_
  rintro _ rfl
  refine EvP.ite (fun e2 => ?_) (fun e2 => EvP.now (by rw [testB, show nameB n = false by simpa using e2]; simp))
  refine EvP.bind (impl_namesOk.ok marks 3 h2) ?_
  rintro _ rfl
  refine EvP.ite (fun e3 => ?_) (fun e3 => EvP.now (by rw [testB, show namesB marks 3 = false by simpa using e3]; simp))
  have ha : apartB marks = true := by
    rw [namesB] at e3
    simp only [Bool.and_eq_true] at e3
    exact e3.2.1
  refine EvP.bind (slices_IsSorted_string_string.ok marks h2.1) ?_
  rintro _ rfl
  rw [sort_asc ha]
  refine EvP.ite (fun e4 => ?_) (fun e4 => EvP.now (by rw [testB, show ascB marks = false by simpa using e4]; simp))
  refine EvP.bind (impl_namesOk.ok needs 4 h3) ?_
  rintro _ rfl
  exact EvP.now (by rw [testB, e1, e2, e3, e4]; rfl)
theorem size_id (m n : ByteArray) : (idT m n).size = m.size + 1 + n.size := by
  unfold idT
  rw [ByteArray.size_append, ByteArray.size_append]
  rfl
theorem impl_idOf.ok (m n : ByteArray) (marks needs : List ByteArray) (hm : (m.size : Int) ≤ 4398046511104) (hn : (n.size : Int) ≤ 4398046511104) : EvP (fun _ => impl_idOf.f m n marks needs) (· = idT m n) := by
  have h1 : (m ++ (⟨#[46]⟩ : ByteArray)).size = m.size + 1 := by rw [ByteArray.size_append]; rfl
  unfold impl_idOf.f
  exact EvP.pos (by omega) (EvP.pos (by omega) (EvP.now rfl))
theorem impl_ValidTests.ok (l : List S31) (h : GoodT l) : EvP (fun k => impl_ValidTests.f k l) (· = testsB l) := by
  have h1 := h.1
  unfold impl_ValidTests.f
  refine EvP.range (L := fun k s i => impl_ValidTests.l0 k l s l (l.length : Int) i) (xs := l) (Inv := fun pre s => s = pre.map idS ∧ pre.all tB = true ∧ apartB (pre.map idS) = true) ?_ ?_ [] ⟨rfl, rfl, rfl⟩
  · rintro pre x rest _ hx ⟨rfl, hi, ha⟩ ih
    have hl := len_at hx
    have hr : rd_T31 l (pre.length : Int) = x := getD_at hx _
    have hg := h.2 x (by rw [hx]; simp)
    have hm : l.map idS = pre.map idS ++ idS x :: rest.map idS := by rw [hx]; simp
    simp only [impl_ValidTests.l0, hr, wrap_at hx (show (l.length : Int) ≤ 9223372036854775807 by omega)]
    refine EvP.pos hl (EvP.pos (nat_nonneg _) (EvP.pos hl ?_))
    refine EvP.bind (impl_testOk.ok x.f0 x.f1 x.f2 x.f3 hg.1 hg.2.1 hg.2.2.1 hg.2.2.2) ?_
    rintro _ rfl
    refine EvP.ite (fun e => ?_) (fun e => EvP.now (by rw [testsB, all_no hx (show tB x = false by simpa [tB] using e)]; rfl))
    refine EvP.bind (impl_idOf.ok x.f0 x.f1 x.f2 x.f3 hg.1 hg.2.1) ?_
    rintro _ rfl
    refine EvP.bind (slices_Contains_string_string.ok _ _ (by rw [List.length_map]; omega)) ?_
    rintro _ rfl
    refine EvP.ite (fun e2 => EvP.now (by rw [testsB, apartB_no hm e2]; simp)) (fun e2 => ?_)
    refine EvP.bind (impl_idOf.ok x.f0 x.f1 x.f2 x.f3 hg.1 hg.2.1) ?_
    rintro _ rfl
    refine EvP.pos (by rw [List.length_map]; omega) (ih _ ⟨by simp [idS], all_yes hi e, ?_⟩)
    rw [List.map_append]
    exact apartB_yes ha (by rw [idS]; simpa using e2)
  · rintro _ ⟨rfl, hi, ha⟩
    simp only [impl_ValidTests.l0]
    exact EvP.neg (by omega) (EvP.now (by rw [testsB, hi, ha]; rfl))
/-! #### the place of an id -/
def posFrom (s : ByteArray) (n : Int) : List S31 → Int
  | [] => -1
  | x :: l => if (idS x).toList = s.toList then n else posFrom s (n + 1) l
def posT (l : List S31) (s : ByteArray) : Int := if testsB l = true then posFrom s 0 l else -1
theorem posFrom_skip (s : ByteArray) (pre rest : List S31) : ∀ n : Int, (∀ x ∈ pre, ¬ (idS x).toList = s.toList) → posFrom s n (pre ++ rest) = posFrom s (n + pre.length) rest := by
  induction pre with
  | nil => intro n _; simp
  | cons y pre ih =>
    intro n h
    rw [List.cons_append, posFrom, if_neg (h y (by simp)), ih _ (fun x hx => h x (by simp [hx]))]
    congr 1
    simp only [List.length_cons]
    omega
theorem impl_idOf.at_ (a b : ByteArray) (l m : List ByteArray) (h1 : (a.size : Int) ≤ 4398046511104) (h2 : (b.size : Int) ≤ 4398046511104) : impl_idOf.f a b l m = some (idT a b) := by
  obtain ⟨r, ⟨K, h⟩, e⟩ := impl_idOf.ok a b l m h1 h2
  subst e
  exact h K (Nat.le_refl _)
theorem impl_Test.ok (l : List S31) (s : ByteArray) (h : GoodT l) : ∀ (rest pre : List S31), l = pre ++ rest → ∀ k, rest.length < k → impl_Test.l0 l s k (pre.length : Int) = some (posFrom s (pre.length : Int) rest) := by
  have h1 := h.1
  intro rest
  induction rest with
  | nil =>
    intro pre hx k hk
    obtain ⟨k, rfl⟩ : ∃ m, k = m + 1 := ⟨k - 1, by simp at hk; omega⟩
    rw [impl_Test.l0, if_neg (by rw [hx]; simp), posFrom]
  | cons x rest ih =>
    intro pre hx k hk
    obtain ⟨k, rfl⟩ : ∃ m, k = m + 1 := ⟨k - 1, by simp at hk; omega⟩
    have hr : rd_T31 l (pre.length : Int) = x := getD_at hx _
    have hg := h.2 x (by rw [hx]; simp)
    rw [impl_Test.l0, if_pos (len_at hx), if_pos (nat_nonneg _), hr, impl_idOf.at_ _ _ _ _ hg.1 hg.2.1, Option.bind_some, posFrom, wrap_at hx (show (l.length : Int) ≤ 9223372036854775807 by omega)]
    by_cases e : (idS x).toList = s.toList
    · rw [if_pos e, if_pos (show (idT x.f0 x.f1).toList = s.toList from e)]
    · rw [if_neg e, if_neg (show ¬ (idT x.f0 x.f1).toList = s.toList from e), ih (pre ++ [x]) (by rw [hx]; simp) k (by simp only [List.length_cons] at hk; omega), len_snoc]
theorem impl_FindTest.ok (l : List S31) (s : ByteArray) (h : GoodT l) : EvP (fun k => impl_FindTest.f k l s) (· = posT l s) := by
  unfold impl_FindTest.f
  refine EvP.bind (impl_ValidTests.ok l h) ?_
  rintro _ rfl
  refine EvP.ite (fun e => ?_) (fun e => EvP.now (by rw [posT, if_neg e]))
  have := impl_Test.ok l s h l [] rfl (l.length + 1) (by omega)
  rw [show (([] : List S31).length : Int) = 0 from rfl] at this
  rw [this]
  exact EvP.now (by rw [posT, if_pos e])
theorem spec_inRange.ok (a b c : Int) : EvP (fun _ => spec_inRange.f a b c) (· = decide (b ≤ a ∧ a ≤ c)) := by
  unfold spec_inRange.f
  exact EvP.ite (fun h => EvP.now (by simp [h])) (fun h => EvP.now (by simp [h]))
theorem spec_validName.ok (s : ByteArray) (h : (s.size : Int) ≤ 9223372036854775807) : EvP (fun k => spec_validName.f k s) (· = nameB s) := by
  unfold spec_validName.f
  refine EvP.upto (L := fun k (_ : Unit) i => spec_validName.l0 k s i) (n := s.size) (Inv := fun i _ => ∀ j : Nat, j < i → 97 ≤ bt s (j : Int) ∧ bt s (j : Int) ≤ 122) ?_ ?_ () (fun j hj => by omega)
  · rintro i _ hi hv ih
    simp only [spec_validName.l0]
    refine EvP.pos (by omega) (EvP.pos (by omega) ?_)
    refine EvP.ite (fun e => EvP.now (azB_no hi (by omega)).symm) (fun e => EvP.ite (fun e2 => EvP.now (azB_no hi (by omega)).symm) (fun e2 => ?_))
    rw [wrap_id (by omega) (by omega)]
    refine ih () (fun j hj => ?_)
    rcases Nat.lt_succ_iff_lt_or_eq.1 hj with hj | rfl
    · exact hv j hj
    · omega
  · rintro _ hv
    simp only [spec_validName.l0]
    have ha := azB_yes hv
    refine EvP.neg (by omega) ?_
    refine EvP.bind (spec_inRange.ok _ _ _) ?_
    rintro _ rfl
    refine EvP.ite (fun e => ?_) (fun e => EvP.now ?_)
    · have e' := of_decide_eq_true e
      refine (words_ok s).mono ?_
      rintro _ rfl
      rw [nameB, ha, decide_eq_true (show 1 ≤ s.size ∧ s.size ≤ 6 by omega)]
      rfl
    · have e' : ¬ (1 ≤ (s.size : Int) ∧ (s.size : Int) ≤ 6) := fun g => e (decide_eq_true g)
      rw [nameB, decide_eq_false (show ¬ (1 ≤ s.size ∧ s.size ≤ 6) by omega)]
      simp
theorem spec_hasText.ok (l : List ByteArray) (s : ByteArray) (h : (l.length : Int) ≤ 9223372036854775807) : EvP (fun k => spec_hasText.f k l s) (· = hasT l s) := by
  unfold spec_hasText.f
  refine EvP.range (L := fun k (_ : Unit) i => spec_hasText.l0 k l s i) (xs := l) (Inv := fun pre _ => hasT pre s = false) ?_ ?_ () rfl
  · rintro pre x rest _ hx hi ih
    have hl := len_at hx
    have hr : rdOf ByteArray.empty l (pre.length : Int) = x := getD_at hx _
    simp only [spec_hasText.l0, hr, wrap_at hx h]
    refine EvP.pos hl (EvP.pos (nat_nonneg _) ?_)
    refine EvP.ite (fun e => EvP.now ?_) (fun e => ih () ?_)
    · rw [hx, hasT_append, hasT_cons, e]
      simp
    · rw [hasT_append, hasT_cons, hi]
      simp [e, hasT]
  · rintro _ hi
    simp only [spec_hasText.l0]
    exact EvP.neg (by omega) (EvP.now hi.symm)
theorem spec_validNames.ok (l : List ByteArray) (most : Int) (h : Small l) : EvP (fun k => spec_validNames.f k l most) (· = namesB l most) := by
  have h1 := h.1
  unfold spec_validNames.f
  refine EvP.range (L := fun k (_ : Unit) i => spec_validNames.l0 k l most i) (xs := l) (Inv := fun pre _ => pre.all nameB = true ∧ apartB pre = true) ?_ ?_ () ⟨rfl, rfl⟩
  · rintro pre x rest _ hx ⟨hi, ha⟩ ih
    have hl := len_at hx
    have hr : rdOf ByteArray.empty l (pre.length : Int) = x := getD_at hx _
    have hg := h.2 x (by rw [hx]; simp)
    simp only [spec_validNames.l0, hr, wrap_at hx (show (l.length : Int) ≤ 9223372036854775807 by omega)]
    refine EvP.pos hl (EvP.pos (nat_nonneg _) ?_)
    refine EvP.bind (spec_validName.ok x (by omega)) ?_
    rintro _ rfl
    refine EvP.ite (fun e => EvP.pos (by omega) ?_) (fun e => EvP.now (by rw [namesB, all_no hx (by simpa using e)]; rfl))
    rw [take_at hx]
    refine EvP.bind (spec_hasText.ok pre x (by omega)) ?_
    rintro _ rfl
    exact EvP.ite (fun e2 => EvP.now (by rw [namesB, apartB_no hx e2]; simp)) (fun e2 => ih () ⟨all_yes hi e, apartB_yes ha (by simpa using e2)⟩)
  · rintro _ ⟨hi, ha⟩
    simp only [spec_validNames.l0]
    exact EvP.neg (by omega) (EvP.now (by rw [namesB, hi, ha]; rfl))
theorem spec_ascending.ok (l : List ByteArray) (h : (l.length : Int) ≤ 4398046511104) : EvP (fun k => spec_ascending.f k l) (· = ascB l) := by
  unfold spec_ascending.f
  have main : ∀ (d i : Nat), l.length - i = d → 1 ≤ i → (∀ j : Nat, j + 1 < i → j < l.length - 1 → Op.bytesLess (txt l j) (txt l (j + 1)) = true) → EvP (fun k => spec_ascending.l0 k l (i : Int)) (· = ascB l) := by
    intro d
    induction d with
    | zero =>
      intro i hd hi hv
      refine EvP.succ ?_
      simp only [spec_ascending.l0]
      refine EvP.neg (by omega) (EvP.now ?_)
      symm
      rw [ascB, decide_eq_true_iff]
      exact fun j hj => hv j (by omega) hj
    | succ d ih =>
      intro i hd hi hv
      refine EvP.succ ?_
      have hc : ((i : Int) - 1) = ((i - 1 : Nat) : Int) := by omega
      have him : i = (i - 1) + 1 := by omega
      simp only [spec_ascending.l0]
      rw [wrap_id (x := (i : Int) - 1) (by omega) (by omega), wrap_id (x := (i : Int) + 1) (by omega) (by omega), show ((i : Int) + 1) = ((i + 1 : Nat) : Int) by omega]
      refine EvP.pos (by omega) (EvP.pos (by omega) (EvP.pos (by omega) (EvP.pos (by omega) ?_)))
      refine EvP.ite (fun e => ih (i + 1) (by omega) (by omega) (fun j h1 h2 => ?_)) (fun e => EvP.now ?_)
      · by_cases hj : j = i - 1
        · subst hj
          rw [← him, txt, txt, ← hc]
          exact e
        · exact hv j (by omega) h2
      · symm
        rw [ascB, decide_eq_false_iff_not]
        intro g
        have := g (i - 1) (by omega)
        rw [← him, txt, txt, ← hc] at this
        exact e this
  exact main _ 1 rfl (by omega) (fun j h1 h2 => by omega)
theorem spec_validTest.ok (m n : ByteArray) (marks needs : List ByteArray) (hm : (m.size : Int) ≤ 4398046511104) (hn : (n.size : Int) ≤ 4398046511104) (h2 : Small marks) (h3 : Small needs) : EvP (fun k => spec_validTest.f k m n marks needs) (· = testB m n marks needs) := by
  unfold spec_validTest.f
  refine EvP.bind (spec_validName.ok m (by omega)) ?_
  rintro _ rfl
  refine EvP.ite (fun e1 => ?_) (fun e1 => EvP.now (by rw [testB, show nameB m = false by simpa using e1]; rfl))
  refine EvP.bind (spec_validName.ok n (by omega)) ?_
  rintro _ rfl
  refine EvP.ite (fun e2 => ?_) (fun e2 => EvP.now (by rw [testB, show nameB n = false by simpa using e2]; simp))
  refine EvP.bind (spec_validNames.ok marks 3 h2) ?_
  rintro _ rfl
  refine EvP.ite (fun e3 => ?_) (fun e3 => EvP.now (by rw [testB, show namesB marks 3 = false by simpa using e3]; simp))
  refine EvP.bind (spec_ascending.ok marks h2.1) ?_
  rintro _ rfl
  refine EvP.ite (fun e4 => ?_) (fun e4 => EvP.now (by rw [testB, show ascB marks = false by simpa using e4]; simp))
  refine EvP.bind (spec_validNames.ok needs 4 h3) ?_
  rintro _ rfl
  exact EvP.now (by rw [testB, e1, e2, e3, e4]; rfl)
theorem spec_idOf.ok (m n : ByteArray) (marks needs : List ByteArray) (hm : (m.size : Int) ≤ 4398046511104) (hn : (n.size : Int) ≤ 4398046511104) : EvP (fun _ => spec_idOf.f m n marks needs) (· = idT m n) := by
  have h1 : (m ++ (⟨#[46]⟩ : ByteArray)).size = m.size + 1 := by rw [ByteArray.size_append]; rfl
  unfold spec_idOf.f
  exact EvP.pos (by omega) (EvP.pos (by omega) (EvP.now rfl))
theorem spec_findTest.ok (l : List S31) (s : ByteArray) (h : GoodT l) : EvP (fun k => spec_findTest.f k l s) (fun r => decide (r ≥ 0) = hasT (l.map idS) s) := by
  have h1 := h.1
  unfold spec_findTest.f
  refine EvP.range (L := fun k (_ : Unit) i => spec_findTest.l0 k l s i) (xs := l) (Inv := fun pre _ => hasT (pre.map idS) s = false) ?_ ?_ () rfl
  · rintro pre x rest _ hx hi ih
    have hl := len_at hx
    have hr : rd_T31 l (pre.length : Int) = x := getD_at hx _
    have hg := h.2 x (by rw [hx]; simp)
    simp only [spec_findTest.l0, hr, wrap_at hx (show (l.length : Int) ≤ 9223372036854775807 by omega)]
    refine EvP.pos hl (EvP.pos (nat_nonneg _) ?_)
    refine EvP.bind (spec_idOf.ok x.f0 x.f1 x.f2 x.f3 hg.1 hg.2.1) ?_
    rintro _ rfl
    refine EvP.ite (fun e => EvP.now ?_) (fun e => ih () ?_)
    · rw [hx, List.map_append, List.map_cons, hasT_append, hasT_cons, show (idS x).toList = s.toList from e]
      simp
    · rw [List.map_append, hasT_append, hi]
      simp [idS, e, hasT]
  · rintro _ hi
    simp only [spec_findTest.l0]
    exact EvP.neg (by omega) (EvP.now (by rw [hi]; rfl))
theorem spec_validTests.ok (l : List S31) (h : GoodT l) : EvP (fun k => spec_validTests.f k l) (· = testsB l) := by
  have h1 := h.1
  unfold spec_validTests.f
  refine EvP.range (L := fun k (_ : Unit) i => spec_validTests.l0 k l i) (xs := l) (Inv := fun pre _ => pre.all tB = true ∧ apartB (pre.map idS) = true) ?_ ?_ () ⟨rfl, rfl⟩
  · rintro pre x rest _ hx ⟨hi, ha⟩ ih
    have hl := len_at hx
    have hr : rd_T31 l (pre.length : Int) = x := getD_at hx _
    have hg := h.2 x (by rw [hx]; simp)
    have hm : l.map idS = pre.map idS ++ idS x :: rest.map idS := by rw [hx]; simp
    simp only [spec_validTests.l0, hr, wrap_at hx (show (l.length : Int) ≤ 9223372036854775807 by omega)]
    refine EvP.pos hl (EvP.pos (nat_nonneg _) ?_)
    refine EvP.bind (spec_validTest.ok x.f0 x.f1 x.f2 x.f3 hg.1 hg.2.1 hg.2.2.1 hg.2.2.2) ?_
    rintro _ rfl
    refine EvP.ite (fun e => EvP.pos (by omega) ?_) (fun e => EvP.now (by rw [testsB, all_no hx (show tB x = false by simpa [tB] using e)]; rfl))
    rw [take_at hx]
    refine EvP.bind (spec_idOf.ok x.f0 x.f1 x.f2 x.f3 hg.1 hg.2.1) ?_
    rintro _ rfl
    refine EvP.bind (spec_findTest.ok pre _ ⟨by omega, fun y hy => h.2 y (by rw [hx]; simp [hy])⟩) ?_
    intro r hr2
    refine EvP.ite (fun e2 => EvP.now ?_) (fun e2 => ih () ⟨all_yes hi e, ?_⟩)
    · rw [testsB, apartB_no hm (by rw [idS, ← hr2]; exact decide_eq_true e2)]
      simp
    · rw [List.map_append]
      exact apartB_yes ha (by rw [idS, ← hr2]; exact decide_eq_false e2)
  · rintro _ ⟨hi, ha⟩
    simp only [spec_validTests.l0]
    exact EvP.neg (by omega) (EvP.now (by rw [testsB, hi, ha]; rfl))
theorem spec_findTest.at_ (l : List S31) (s : ByteArray) (h : GoodT l) : EvP (fun k => spec_findTest.f k l s) (· = posFrom s 0 l) := by
  have h1 := h.1
  unfold spec_findTest.f
  refine EvP.range (L := fun k (_ : Unit) i => spec_findTest.l0 k l s i) (xs := l) (Inv := fun pre _ => ∀ x ∈ pre, ¬ (idS x).toList = s.toList) ?_ ?_ () (by simp)
  · rintro pre x rest _ hx hi ih
    have hl := len_at hx
    have hr : rd_T31 l (pre.length : Int) = x := getD_at hx _
    have hg := h.2 x (by rw [hx]; simp)
    simp only [spec_findTest.l0, hr, wrap_at hx (show (l.length : Int) ≤ 9223372036854775807 by omega)]
    refine EvP.pos hl (EvP.pos (nat_nonneg _) ?_)
    refine EvP.bind (spec_idOf.ok x.f0 x.f1 x.f2 x.f3 hg.1 hg.2.1) ?_
    rintro _ rfl
    refine EvP.ite (fun e => EvP.now ?_) (fun e => ih () ?_)
    · rw [hx, posFrom_skip s pre _ 0 hi, posFrom, if_pos (show (idS x).toList = s.toList from e)]
      omega
    · intro y hy
      rcases List.mem_append.1 hy with hy | hy
      · exact hi y hy
      · rw [List.mem_singleton.1 hy]
        exact e
  · rintro _ hi
    simp only [spec_findTest.l0]
    refine EvP.neg (by omega) (EvP.now ?_)
    have := posFrom_skip s l [] 0 hi
    rw [List.append_nil] at this
    rw [this]
    rfl
theorem spec_FindTest.ok (l : List S31) (s : ByteArray) (h : GoodT l) : EvP (fun k => spec_FindTest.f k l s) (· = posT l s) := by
  unfold spec_FindTest.f
  refine EvP.bind (spec_validTests.ok l h) ?_
  rintro _ rfl
  refine EvP.ite (fun e => ?_) (fun e => EvP.now (by rw [posT, if_neg e]))
  refine EvP.bind (spec_findTest.at_ l s h) ?_
  rintro _ rfl
  exact EvP.now (by rw [posT, if_pos e])
theorem main (l0 : List S40) (hl : l0.length ≤ 9223372036854775807) (hq : ∀ x ∈ l0, Q40 x) (s : ByteArray) (hs : s.size ≤ 140737488351232) : ∃ k, laws_FnExactFindTest.f k l0 s = some true := by
  refine EvP.rounds ?_
  unfold laws_FnExactFindTest.f
  refine EvP.ite (fun _ => EvP.now rfl) (fun _ => ?_)
  refine EvP.bind (laws_szTestS.ok l0 hl hq _ (by omega) (by omega)) ?_
  rintro r (g | ⟨g0, g1, gl⟩)
  · exact EvP.pos g (EvP.now rfl)
  refine EvP.neg (by omega) ?_
  have hn : (l0.length : Int) ≤ 1048576 := by omega
  have hto := laws_toTestS.ok l0 hn gl
  have gg := good_of hn gl
  refine EvP.bind hto ?_
  rintro _ rfl
  refine EvP.bind (spec_FindTest.ok _ s gg) ?_
  rintro _ rfl
  refine EvP.bind hto ?_
  rintro _ rfl
  refine EvP.bind (impl_FindTest.ok _ s gg) ?_
  rintro _ rfl
  refine EvP.pos rfl ?_
  refine EvP.bind hto ?_
  rintro _ rfl
  refine EvP.bind (laws_eqTestS.ok _ hn gl) ?_
  rintro _ rfl
  exact EvP.pos rfl (EvP.now rfl)
end QFnExactFindTest
end Go.Proofs.Ytboppbejnadpmaa.Pure

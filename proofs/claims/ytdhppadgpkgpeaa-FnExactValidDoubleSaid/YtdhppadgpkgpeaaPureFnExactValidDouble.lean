/- FnExactValidDouble answers true for all doubles: the program's ValidDouble returns what the reference's returns, and leaves its argument as it is. Conditions: those of the printed statement alone (bounds on sizes that every input meets). -/
import Derived.Test.YtdhppadgpkgpeaaOFnExactValidDoublex5
import Derived.Test.YtdhppadgpkgpeaaBase
namespace Go.Proofs.Ytdhppadgpkgpeaa.Pure
open Go.RowKit Go.Proofs.Ytdhppadgpkgpeaa.OFnExactValidDouble Go.Proofs.YtdhppadgpkgpeaaW.PrintWords Go.Proofs.YtdhppadgpkgpeaaW.PrintLast Go.Proofs.YtdhppadgpkgpeaaW.PrintMore Go.Proofs.Ytdhppadgpkgpeaa.Base
set_option linter.unusedVariables false
set_option linter.unusedSimpArgs false
namespace QFnExactValidDouble
/-! #### names -/
def azB (s : ByteArray) : Bool := decide (∀ j : Nat, j < s.size → 97 ≤ bt s (j : Int) ∧ bt s (j : Int) ≤ 122)
def wordB (s : ByteArray) : Bool := decide (s.toList ≠ [97, 110, 100]) && (decide (s.toList ≠ [111, 114]) && decide (s.toList ≠ [110, 111, 116]))
def nameB (s : ByteArray) : Bool := azB s && (decide (1 ≤ s.size ∧ s.size ≤ 6) && wordB s)
theorem azB_no {s : ByteArray} {i : Nat} (hi : i < s.size) (h : ¬ (97 ≤ bt s (i : Int) ∧ bt s (i : Int) ≤ 122)) : nameB s = false := by
  have : azB s = false := by
    rw [azB, decide_eq_false_iff_not]
    exact fun g => h (g i hi)
  rw [nameB, this]
  rfl
theorem azB_yes {s : ByteArray} (h : ∀ j : Nat, j < s.size → 97 ≤ bt s (j : Int) ∧ bt s (j : Int) ≤ 122) : azB s = true := by
  rw [azB, decide_eq_true_iff]
  exact h
theorem words_ok (s : ByteArray) : EvP (fun _ => if s.toList = ([97, 110, 100] : List UInt8) then (some false) else (if s.toList = ([111, 114] : List UInt8) then (some false) else (some (s.toList != ([110, 111, 116] : List UInt8))))) (· = wordB s) := by
  unfold wordB
  refine EvP.ite (fun h => EvP.now (by simp [h])) (fun h => EvP.ite (fun h2 => EvP.now (by simp [h2])) (fun h2 => EvP.now ?_))
  simp [h, h2, bne]
  rw [Bool.eq_iff_iff]
  simp
/-- Is a text in a list? -/
def hasT (l : List ByteArray) (s : ByteArray) : Bool := l.any fun y => decide (y.toList = s.toList)
theorem hasT_cons (y : ByteArray) (l : List ByteArray) (s : ByteArray) : hasT (y :: l) s = (decide (y.toList = s.toList) || hasT l s) := rfl
theorem hasT_append (a b : List ByteArray) (s : ByteArray) : hasT (a ++ b) s = (hasT a s || hasT b s) := by simp [hasT, List.any_append]
theorem hasT_iff (l : List ByteArray) (s : ByteArray) : hasT l s = true ↔ ∃ y ∈ l, y.toList = s.toList := by simp [hasT]
/-! #### different texts -/
def apartB (l : List ByteArray) : Bool := decide (l.Pairwise fun a b => a.toList ≠ b.toList)
theorem apartB_no {l pre rest : List ByteArray} {x : ByteArray} (h : l = pre ++ x :: rest) (hx : hasT pre x = true) : apartB l = false := by
  rw [apartB, decide_eq_false_iff_not, h]
  intro g
  obtain ⟨y, hy, e⟩ := (hasT_iff pre x).1 hx
  exact (List.pairwise_append.1 g).2.2 y hy x (by simp) e
theorem apartB_yes {pre : List ByteArray} {x : ByteArray} (h : apartB pre = true) (hx : hasT pre x = false) : apartB (pre ++ [x]) = true := by
  rw [apartB, decide_eq_true_iff] at h ⊢
  refine List.pairwise_append.2 ⟨h, by simp, fun a ha b hb => ?_⟩
  rw [List.mem_singleton.1 hb]
  intro e
  have : hasT pre x = true := (hasT_iff pre x).2 ⟨a, ha, e⟩
  rw [hx] at this
  cases this
theorem apartB_nil : apartB [] = true := rfl
def namesB (l : List ByteArray) (most : Int) : Bool := l.all nameB && (apartB l && decide ((l.length : Int) ≤ most))
theorem all_no {α : Type} {p : α → Bool} {l pre rest : List α} {x : α} (h : l = pre ++ x :: rest) (hx : p x = false) : l.all p = false := by
  rw [h, List.all_append, List.all_cons, hx]
  simp
theorem all_yes {α : Type} {p : α → Bool} {pre : List α} {x : α} (h : pre.all p = true) (hx : p x = true) : (pre ++ [x]).all p = true := by
  rw [List.all_append, h, List.all_cons, hx]
  rfl
theorem take_at {α : Type} {l pre rest : List α} {x : α} (h : l = pre ++ x :: rest) : l.take (pre.length : Int).toNat = pre := by
  rw [h]
  simp
def Small (l : List ByteArray) : Prop := (l.length : Int) ≤ 4398046511104 ∧ ∀ x ∈ l, (x.size : Int) ≤ 4398046511104
def numB (n : Int) : Bool := decide (-99 ≤ n ∧ n ≤ 99)
def numsB (l : List Int) : Bool := l.all numB
theorem numsB_no {l pre rest : List Int} {x : Int} (h : l = pre ++ x :: rest) (hx : ¬ (-99 ≤ x ∧ x ≤ 99)) : numsB l = false := by
  rw [h, numsB, List.all_append, List.all_cons, numB, decide_eq_false hx]
  simp
theorem numsB_snoc {pre : List Int} {x : Int} (h : numsB pre = true) (hx : -99 ≤ x ∧ x ≤ 99) : numsB (pre ++ [x]) = true := by
  rw [numsB, List.all_append, ← numsB, h, List.all_cons, numB, decide_eq_true hx]
  rfl
/-! #### doubles -/
def repB (x : S58) : Bool := numsB x.f1 && (nameB x.f0 && decide (1 ≤ x.f1.length ∧ x.f1.length ≤ 4))
def dblB (l : List S58) : Bool := l.all repB && (apartB (l.map (·.f0)) && decide ((l.length : Int) ≤ 4))
/-- Sizes that no machine sum passes. -/
def GoodP (l : List S58) : Prop := (l.length : Int) ≤ 4398046511104 ∧ ∀ x ∈ l, (x.f0.size : Int) ≤ 4398046511104 ∧ (x.f1.length : Int) ≤ 4398046511104
/-- What the program looks at first. -/
def valB (x : S58) : Bool := numsB x.f1 && decide (1 ≤ x.f1.length ∧ x.f1.length ≤ 4)
theorem valB_of {x : S58} (h : valB x = false) : repB x = false := by
  unfold valB at h
  unfold repB
  cases h1 : numsB x.f1 with
  | false => rfl
  | true =>
    rw [h1, Bool.true_and] at h
    rw [h]
    simp
theorem dbl_names : ∀ {l : List S58}, l.all valB = true → (l.map (·.f0)).all nameB = l.all repB
  | [], _ => rfl
  | x :: l, h => by
    rw [List.all_cons, Bool.and_eq_true] at h
    rw [List.map_cons, List.all_cons, List.all_cons, dbl_names h.2]
    congr 1
    have h1 := h.1
    unfold valB at h1
    rw [Bool.and_eq_true] at h1
    rw [repB, h1.1, h1.2]
    simp
theorem dbl_eq {l : List S58} (h : l.all valB = true) : namesB (l.map (·.f0)) 4 = dblB l := by
  rw [namesB, dblB, dbl_names h, List.length_map]
theorem dbl_no {l pre rest : List S58} {x : S58} (h : l = pre ++ x :: rest) (hx : repB x = false) : dblB l = false := by
  rw [dblB, all_no h hx]
  rfl
theorem laws_szIntS.ok (l : List Int) (h : l.length ≤ 9223372036854775807) (left : Int) (h0 : 0 ≤ left) (h1 : left ≤ 1048576) : EvP (fun _ => laws_szIntS.f l left) (fun r => r < 0 ∨ (0 ≤ r ∧ r + l.length ≤ left)) := by
  unfold laws_szIntS.f
  rw [wrap_id (by omega) (by omega)]
  exact EvP.ite (fun _ => EvP.now (.inl (by omega))) (fun _ => EvP.now (.inr (by omega)))
theorem laws_toIntS.ok (l : List Int) (hl : (l.length : Int) ≤ 1048576) : EvP (fun k => laws_toIntS.f k l) (· = l) := by
  have main : EvP (fun k => laws_toIntS.f k l) (· = l.map id) := by
    unfold laws_toIntS.f
    refine EvP.pos (by omega) (EvP.pos (by omega) ?_)
    rw [Int.toNat_natCast]
    refine EvP.fill (L := fun k s i => laws_toIntS.l0 k l s i) (xs := l) id _ ?_ ?_
    · intro pre x rest s hx hs ih
      have hlt := len_at hx
      have hr : rd l (pre.length : Int) = x := getD_at hx _
      simp only [laws_toIntS.l0, hr, wrap_at hx (by omega)]
      exact EvP.pos hlt (EvP.pos (nat_nonneg _) (EvP.pos (by omega) ih))
    · intro s
      simp only [laws_toIntS.l0]
      exact EvP.neg (by omega) (EvP.now rfl)
  simpa using main
theorem laws_eqIntS.ok (l : List Int) (hl : (l.length : Int) ≤ 9223372036854775807) : EvP (fun k => laws_eqIntS.f k l l) (· = true) := by
  unfold laws_eqIntS.f
  refine EvP.pos rfl ?_
  refine EvP.range (L := fun k (_ : Unit) i => laws_eqIntS.l0 k l l i) (xs := l) (Inv := fun _ _ => True) ?_ ?_ () trivial
  · rintro pre x rest s hx _ ih
    have hlt := len_at hx
    simp only [laws_eqIntS.l0, wrap_at hx hl]
    exact EvP.pos hlt (EvP.pos (nat_nonneg _) (EvP.pos hlt (EvP.pos trivial (ih () trivial))))
  · rintro s _
    simp only [laws_eqIntS.l0]
    exact EvP.neg (by omega) (EvP.now rfl)
def Q69 (x : S69) : Prop := (x.f0.size ≤ 9223372036854775807) ∧ (x.f1.length ≤ 9223372036854775807 ∧ ∀ y ∈ x.f1, (Lit.int .i64 y).wf = true)
def cReply (x : S69) : S58 := ⟨x.f0, x.f1⟩
theorem laws_szReply.ok (s : ByteArray) (a : List Int) (hs : s.size ≤ 9223372036854775807) (ha : a.length ≤ 9223372036854775807) (left : Int) (h0 : 0 ≤ left) (h1 : left ≤ 1048576) : EvP (fun _ => laws_szReply.f s a left) (fun r => r < 0 ∨ (0 ≤ r ∧ r + s.size + a.length ≤ left)) := by
  unfold laws_szReply.f
  rw [wrap_id (by omega) (by omega)]
  refine EvP.ite (fun _ => EvP.now (.inl (by omega))) (fun hn => ?_)
  refine EvP.bind (laws_szIntS.ok a ha _ (by omega) (by omega)) ?_
  rintro r (g | ⟨g0, g1⟩)
  · exact EvP.pos g (EvP.now (.inl (by omega)))
  · exact EvP.neg (by omega) (EvP.now (.inr ⟨g0, by omega⟩))
theorem laws_szReplyS.ok (l : List S69) (hl : l.length ≤ 9223372036854775807) (hq : ∀ x ∈ l, Q69 x) (left : Int) (h0 : 0 ≤ left) (h1 : left ≤ 1048576) :
    EvP (fun k => laws_szReplyS.f k l left) (fun r => r < 0 ∨ (0 ≤ r ∧ r + l.length ≤ left ∧ GoodP (l.map cReply) ∧ ∀ x ∈ l, (x.f1.length : Int) ≤ 1048576)) := by
  unfold laws_szReplyS.f
  rw [wrap_id (by omega) (by omega)]
  refine EvP.ite (fun _ => EvP.now (.inl (by omega))) (fun hn => ?_)
  refine EvP.range (L := fun k s i => laws_szReplyS.l0 k l s i) (xs := l) (Inv := fun pre s => 0 ≤ s ∧ s + l.length ≤ left ∧ ∀ x ∈ pre, (x.f0.size : Int) ≤ left ∧ (x.f1.length : Int) ≤ left) ?_ ?_ _ ⟨by omega, by omega, fun x hx => by cases hx⟩
  · rintro pre x rest s hx ⟨a0, a1, a2⟩ ih
    have hlt := len_at hx
    have hr : rd_T69 l (pre.length : Int) = x := getD_at hx _
    have hg := hq x (by rw [hx]; simp)
    simp only [laws_szReplyS.l0, hr, wrap_at hx (by omega)]
    refine EvP.pos hlt (EvP.pos (nat_nonneg _) ?_)
    refine EvP.bind (laws_szReply.ok x.f0 x.f1 hg.1 hg.2.1 s a0 (by omega)) ?_
    rintro r (g | ⟨g0, g1⟩)
    · exact EvP.pos g (EvP.now (.inl (by omega)))
    · refine EvP.neg (by omega) (ih r ⟨g0, by omega, fun y hy => ?_⟩)
      rcases List.mem_append.1 hy with hy | hy
      · exact a2 y hy
      · rw [List.mem_singleton.1 hy]
        omega
  · rintro s ⟨a0, a1, a2⟩
    simp only [laws_szReplyS.l0]
    refine EvP.neg (by omega) (EvP.now (.inr ⟨a0, a1, ⟨by rw [List.length_map]; omega, fun x hx => ?_⟩, fun x hx => by have := a2 x hx; omega⟩))
    obtain ⟨y, hy, rfl⟩ := List.mem_map.1 hx
    have := a2 y hy
    exact ⟨by simp only [cReply]; omega, by simp only [cReply]; omega⟩
theorem laws_toReply.ok (s : ByteArray) (a : List Int) (ha : (a.length : Int) ≤ 1048576) : EvP (fun k => laws_toReply.f k s a) (· = (s, a)) := by
  unfold laws_toReply.f
  refine EvP.bind (laws_toIntS.ok a ha) ?_
  rintro _ rfl
  exact EvP.now rfl
theorem laws_toReplyS.ok (l : List S69) (hl : (l.length : Int) ≤ 1048576) (hq : ∀ x ∈ l, (x.f1.length : Int) ≤ 1048576) : EvP (fun k => laws_toReplyS.f k l) (· = l.map cReply) := by
  unfold laws_toReplyS.f
  refine EvP.pos (by omega) (EvP.pos (by omega) ?_)
  rw [Int.toNat_natCast]
  refine EvP.fill (L := fun k s i => laws_toReplyS.l0 k l s i) (xs := l) cReply _ ?_ ?_
  · intro pre x rest s hx hs ih
    have hlt := len_at hx
    have hr : rd_T69 l (pre.length : Int) = x := getD_at hx _
    simp only [laws_toReplyS.l0, hr, wrap_at hx (by omega)]
    refine EvP.pos hlt (EvP.pos (nat_nonneg _) ?_)
    refine EvP.bind (laws_toReply.ok x.f0 x.f1 (hq x (by rw [hx]; simp))) ?_
    rintro _ rfl
    exact EvP.pos (by omega) ih
  · intro s
    simp only [laws_toReplyS.l0]
    exact EvP.neg (by omega) (EvP.now rfl)
theorem laws_eqReply.ok (s : ByteArray) (a : List Int) (ha : (a.length : Int) ≤ 9223372036854775807) : EvP (fun k => laws_eqReply.f k s a s a) (· = true) := by
  unfold laws_eqReply.f
  refine EvP.pos rfl ?_
  refine EvP.bind (laws_eqIntS.ok a ha) ?_
  rintro _ rfl
  exact EvP.pos rfl (EvP.now rfl)
theorem laws_eqReplyS.ok (l : List S58) (h : GoodP l) : EvP (fun k => laws_eqReplyS.f k l l) (· = true) := by
  have hl := h.1
  unfold laws_eqReplyS.f
  refine EvP.pos rfl ?_
  refine EvP.range (L := fun k (_ : Unit) i => laws_eqReplyS.l0 k l l i) (xs := l) (Inv := fun _ _ => True) ?_ ?_ () trivial
  · rintro pre x rest s hx _ ih
    have hlt := len_at hx
    have hr : rd_T58 l (pre.length : Int) = x := getD_at hx _
    have hg := h.2 x (by rw [hx]; simp)
    simp only [laws_eqReplyS.l0, hr, wrap_at hx (show (l.length : Int) ≤ 9223372036854775807 by omega)]
    refine EvP.pos hlt (EvP.pos (nat_nonneg _) (EvP.pos hlt ?_))
    refine EvP.bind (laws_eqReply.ok x.f0 x.f1 (by omega)) ?_
    rintro _ rfl
    exact EvP.pos rfl (ih () trivial)
  · rintro s _
    simp only [laws_eqReplyS.l0]
    exact EvP.neg (by omega) (EvP.now rfl)
theorem impl_nameOk.ok (s : ByteArray) (h : (s.size : Int) ≤ 9223372036854775807) : EvP (fun k => impl_nameOk.f k s) (· = nameB s) := by
  unfold impl_nameOk.f
  refine EvP.upto (L := fun k (_ : Unit) i => impl_nameOk.l0 k s (s.size : Int) i) (n := s.size) (Inv := fun i _ => ∀ j : Nat, j < i → 97 ≤ bt s (j : Int) ∧ bt s (j : Int) ≤ 122) ?_ ?_ () (fun j hj => by omega)
  · rintro i _ hi hv ih
    simp only [impl_nameOk.l0]
    refine EvP.pos (by omega) (EvP.pos (by omega) (EvP.pos (by omega) ?_))
    refine EvP.ite (fun e => EvP.now (azB_no hi (by omega)).symm) (fun e => EvP.ite (fun e2 => EvP.now (azB_no hi (by omega)).symm) (fun e2 => ?_))
    rw [wrap_id (by omega) (by omega)]
    refine ih () (fun j hj => ?_)
    rcases Nat.lt_succ_iff_lt_or_eq.1 hj with hj | rfl
    · exact hv j hj
    · omega
  · rintro _ hv
    simp only [impl_nameOk.l0]
    have ha := azB_yes hv
    refine EvP.neg (by omega) (EvP.ite (fun e => EvP.ite (fun e2 => ?_) (fun e2 => EvP.now ?_)) (fun e => EvP.now ?_))
    · refine (words_ok s).mono ?_
      rintro _ rfl
      rw [nameB, ha, decide_eq_true (show 1 ≤ s.size ∧ s.size ≤ 6 by omega)]
      rfl
    · rw [nameB, decide_eq_false (show ¬ (1 ≤ s.size ∧ s.size ≤ 6) by omega)]
      simp
    · rw [nameB, decide_eq_false (show ¬ (1 ≤ s.size ∧ s.size ≤ 6) by omega)]
      simp
theorem slices_Index_string_string.ok (l : List ByteArray) (s : ByteArray) (h : (l.length : Int) ≤ 9223372036854775807) : EvP (fun k => slices_Index_string_string.f k l s) (fun r => decide (r ≥ 0) = hasT l s) := by
  unfold slices_Index_string_string.f
  refine EvP.range (L := fun k (_ : Unit) i => slices_Index_string_string.l0 k l s (l.length : Int) i) (xs := l) (Inv := fun pre _ => hasT pre s = false) ?_ ?_ () rfl
  · rintro pre x rest _ hx hi ih
    have hl := len_at hx
    have hr : rdOf ByteArray.empty l (pre.length : Int) = x := getD_at hx _
    simp only [slices_Index_string_string.l0, hr, wrap_at hx h]
    refine EvP.pos hl (EvP.pos (nat_nonneg _) (EvP.pos hl ?_))
    refine EvP.ite (fun e => EvP.now ?_) (fun e => ih () ?_)
    · rw [hx, hasT_append, hasT_cons, e]
      simp
    · rw [hasT_append, hasT_cons, hi]
      simp [Ne.symm e, hasT]
  · rintro _ hi
    simp only [slices_Index_string_string.l0]
    exact EvP.neg (by omega) (EvP.now (by rw [hi]; rfl))
theorem slices_Contains_string_string.ok (l : List ByteArray) (s : ByteArray) (h : (l.length : Int) ≤ 9223372036854775807) : EvP (fun k => slices_Contains_string_string.f k l s) (· = hasT l s) := by
  unfold slices_Contains_string_string.f
  refine EvP.bind (slices_Index_string_string.ok l s h) ?_
  intro r hr
  exact EvP.now hr
theorem impl_namesOk.ok (l : List ByteArray) (most : Int) (h : Small l) : EvP (fun k => impl_namesOk.f k l most) (· = namesB l most) := by
  have h1 := h.1
  unfold impl_namesOk.f
  refine EvP.range (L := fun k (_ : Unit) i => impl_namesOk.l0 k l most l (l.length : Int) i) (xs := l) (Inv := fun pre _ => pre.all nameB = true ∧ apartB pre = true) ?_ ?_ () ⟨rfl, rfl⟩
  · rintro pre x rest _ hx ⟨hi, ha⟩ ih
    have hl := len_at hx
    have hr : rdOf ByteArray.empty l (pre.length : Int) = x := getD_at hx _
    have hg := h.2 x (by rw [hx]; simp)
    simp only [impl_namesOk.l0, hr, wrap_at hx (show (l.length : Int) ≤ 9223372036854775807 by omega)]
    refine EvP.pos hl (EvP.pos (nat_nonneg _) (EvP.pos hl ?_))
    refine EvP.bind (impl_nameOk.ok x (by omega)) ?_
    rintro _ rfl
    refine EvP.ite (fun e => EvP.pos (by omega) ?_) (fun e => EvP.now (by rw [namesB, all_no hx (by simpa using e)]; rfl))
    rw [take_at hx]
    refine EvP.bind (slices_Contains_string_string.ok pre x (by omega)) ?_
    rintro _ rfl
    exact EvP.ite (fun e2 => EvP.now (by rw [namesB, apartB_no hx e2]; simp)) (fun e2 => ih () ⟨all_yes hi e, apartB_yes ha (by simpa using e2)⟩)
  · rintro _ ⟨hi, ha⟩
    simp only [impl_namesOk.l0]
    exact EvP.neg (by omega) (EvP.now (by rw [namesB, hi, ha]; rfl))
theorem impl_numbersOk.ok (l : List Int) (h : (l.length : Int) ≤ 9223372036854775807) : EvP (fun k => impl_numbersOk.f k l) (· = numsB l) := by
  unfold impl_numbersOk.f
  refine EvP.range (L := fun k (_ : Unit) i => impl_numbersOk.l0 k l (l.length : Int) i) (xs := l) (Inv := fun pre _ => numsB pre = true) ?_ ?_ () rfl
  · rintro pre x rest _ hx hi ih
    have hl := len_at hx
    have hr : rd l (pre.length : Int) = x := getD_at hx _
    simp only [impl_numbersOk.l0, hr, wrap_at hx h]
    refine EvP.pos hl (EvP.pos (nat_nonneg _) (EvP.pos hl ?_))
    exact EvP.ite (fun e => EvP.now (numsB_no hx (by omega)).symm) (fun e => EvP.ite (fun e2 => EvP.now (numsB_no hx (by omega)).symm) (fun e2 => ih () (numsB_snoc hi (by omega))))
  · rintro _ hi
    simp only [impl_numbersOk.l0]
    exact EvP.neg (by omega) (EvP.now hi.symm)
theorem impl_ValidDouble.ok (l : List S58) (h : GoodP l) : EvP (fun k => impl_ValidDouble.f k l) (· = dblB l) := by
  have h1 := h.1
  unfold impl_ValidDouble.f
  refine EvP.range (L := fun k s i => impl_ValidDouble.l0 k s l (l.length : Int) i) (xs := l) (Inv := fun pre s => s = pre.map (·.f0) ∧ pre.all valB = true) ?_ ?_ [] ⟨rfl, rfl⟩
  · rintro pre x rest _ hx ⟨rfl, hi⟩ ih
    have hl := len_at hx
    have hr : rd_T58 l (pre.length : Int) = x := getD_at hx _
    have hg := h.2 x (by rw [hx]; simp)
    simp only [impl_ValidDouble.l0, hr, wrap_at hx (show (l.length : Int) ≤ 9223372036854775807 by omega)]
    refine EvP.pos hl (EvP.pos (nat_nonneg _) (EvP.pos hl ?_))
    have no : ¬ (1 ≤ x.f1.length ∧ x.f1.length ≤ 4) → dblB l = false := fun g => dbl_no hx (valB_of (by rw [valB, decide_eq_false g]; simp))
    refine EvP.ite (fun e => EvP.now (no (by omega)).symm) (fun e => EvP.ite (fun e2 => EvP.now (no (by omega)).symm) (fun e2 => ?_))
    refine EvP.bind (impl_numbersOk.ok x.f1 (by omega)) ?_
    rintro _ rfl
    refine EvP.ite (fun e3 => EvP.pos (by rw [List.length_map]; omega) (ih _ ⟨by simp, all_yes hi (by rw [valB, e3, decide_eq_true (show 1 ≤ x.f1.length ∧ x.f1.length ≤ 4 by omega)]; rfl)⟩)) (fun e3 => EvP.now ?_)
    exact (dbl_no hx (valB_of (by rw [valB, show numsB x.f1 = false by simpa using e3]; rfl))).symm
  · rintro _ ⟨rfl, hi⟩
    simp only [impl_ValidDouble.l0]
    refine EvP.neg (by omega) ?_
    refine EvP.bind (impl_namesOk.ok (l.map (·.f0)) 4 ⟨by rw [List.length_map]; omega, fun y hy => ?_⟩) ?_
    · obtain ⟨x, hx, rfl⟩ := List.mem_map.1 hy
      exact (h.2 x hx).1
    · rintro _ rfl
      exact EvP.now (dbl_eq hi)
theorem spec_inRange.ok (a b c : Int) : EvP (fun _ => spec_inRange.f a b c) (· = decide (b ≤ a ∧ a ≤ c)) := by
  unfold spec_inRange.f
  exact EvP.ite (fun h => EvP.now (by simp [h])) (fun h => EvP.now (by simp [h]))
theorem spec_validName.ok (s : ByteArray) (h : (s.size : Int) ≤ 9223372036854775807) : EvP (fun k => spec_validName.f k s) (· = nameB s) := by
  unfold spec_validName.f
  refine EvP.upto (L := fun k (_ : Unit) i => spec_validName.l0 k s i) (n := s.size) (Inv := fun i _ => ∀ j : Nat, j < i → 97 ≤ bt s (j : Int) ∧ bt s (j : Int) ≤ 122) ?_ ?_ () (fun j hj => by omega)
  · rintro i _ hi hv ih
    simp only [spec_validName.l0]
    refine EvP.pos (by omega) (EvP.pos (by omega) ?_)
    refine EvP.ite (fun e => EvP.now (azB_no hi (by omega)).symm) (fun e => EvP.ite (fun e2 => EvP.now (azB_no hi (by omega)).symm) (fun e2 => ?_))
    rw [wrap_id (by omega) (by omega)]
    refine ih () (fun j hj => ?_)
    rcases Nat.lt_succ_iff_lt_or_eq.1 hj with hj | rfl
    · exact hv j hj
    · omega
  · rintro _ hv
    simp only [spec_validName.l0]
    have ha := azB_yes hv
    refine EvP.neg (by omega) ?_
    refine EvP.bind (spec_inRange.ok _ _ _) ?_
    rintro _ rfl
    refine EvP.ite (fun e => ?_) (fun e => EvP.now ?_)
    · have e' := of_decide_eq_true e
      refine (words_ok s).mono ?_
      rintro _ rfl
      rw [nameB, ha, decide_eq_true (show 1 ≤ s.size ∧ s.size ≤ 6 by omega)]
      rfl
    · have e' : ¬ (1 ≤ (s.size : Int) ∧ (s.size : Int) ≤ 6) := fun g => e (decide_eq_true g)
      rw [nameB, decide_eq_false (show ¬ (1 ≤ s.size ∧ s.size ≤ 6) by omega)]
      simp
theorem spec_validReply.ok (s : ByteArray) (a : List Int) (h : (s.size : Int) ≤ 4398046511104) (h2 : (a.length : Int) ≤ 4398046511104) : EvP (fun k => spec_validReply.f k s a) (· = repB ⟨s, a⟩) := by
  unfold spec_validReply.f
  refine EvP.range (L := fun k (_ : Unit) i => spec_validReply.l0 k i s a) (xs := a) (Inv := fun p _ => numsB p = true) ?_ ?_ () rfl
  · rintro p n r _ hp hv ih
    have hpl := len_at hp
    have hrr : rd a (p.length : Int) = n := getD_at hp _
    simp only [spec_validReply.l0, hrr, wrap_at hp (by omega)]
    refine EvP.pos hpl (EvP.pos (nat_nonneg _) ?_)
    refine EvP.bind (spec_inRange.ok _ _ _) ?_
    rintro _ rfl
    refine EvP.ite (fun e3 => ih () (numsB_snoc hv (of_decide_eq_true e3))) (fun e3 => EvP.now ?_)
    rw [repB, numsB_no hp (fun g => e3 (decide_eq_true g))]
    rfl
  · rintro _ hv
    simp only [spec_validReply.l0]
    refine EvP.neg (by omega) ?_
    refine EvP.bind (spec_validName.ok s (by omega)) ?_
    rintro _ rfl
    refine EvP.ite (fun e => ?_) (fun e => EvP.now (by rw [repB, show nameB s = false by simpa using e]; simp))
    refine EvP.bind (spec_inRange.ok _ _ _) ?_
    rintro _ rfl
    refine EvP.now ?_
    rw [repB, hv, e, Bool.eq_iff_iff]
    simp
    omega
theorem spec_replyAt.ok (l : List S58) (s : ByteArray) (h : (l.length : Int) ≤ 4398046511104) : EvP (fun k => spec_replyAt.f k l s) (fun r => decide (r ≥ 0) = hasT (l.map (·.f0)) s) := by
  unfold spec_replyAt.f
  refine EvP.range (L := fun k (_ : Unit) i => spec_replyAt.l0 k l s i) (xs := l) (Inv := fun pre _ => hasT (pre.map (·.f0)) s = false) ?_ ?_ () rfl
  · rintro pre x rest _ hx hi ih
    have hl := len_at hx
    have hr : rd_T58 l (pre.length : Int) = x := getD_at hx _
    simp only [spec_replyAt.l0, hr, wrap_at hx (by omega)]
    refine EvP.pos hl (EvP.pos (nat_nonneg _) ?_)
    refine EvP.ite (fun e => EvP.now ?_) (fun e => ih () ?_)
    · rw [hx, List.map_append, List.map_cons, hasT_append, hasT_cons, e]
      simp
    · rw [List.map_append, hasT_append, hi]
      simp [e, hasT]
  · rintro _ hi
    simp only [spec_replyAt.l0]
    exact EvP.neg (by omega) (EvP.now (by rw [hi]; rfl))
theorem spec_validDouble.ok (l : List S58) (h : GoodP l) : EvP (fun k => spec_validDouble.f k l) (· = dblB l) := by
  have h1 := h.1
  unfold spec_validDouble.f
  refine EvP.range (L := fun k (_ : Unit) i => spec_validDouble.l0 k i l) (xs := l) (Inv := fun pre _ => pre.all repB = true ∧ apartB (pre.map (·.f0)) = true) ?_ ?_ () ⟨rfl, rfl⟩
  · rintro pre x rest _ hx ⟨hi, ha⟩ ih
    have hl := len_at hx
    have hr : rd_T58 l (pre.length : Int) = x := getD_at hx _
    have hg := h.2 x (by rw [hx]; simp)
    simp only [spec_validDouble.l0, hr, wrap_at hx (show (l.length : Int) ≤ 9223372036854775807 by omega)]
    refine EvP.pos hl (EvP.pos (nat_nonneg _) ?_)
    refine EvP.bind (spec_validReply.ok x.f0 x.f1 hg.1 hg.2) ?_
    rintro _ rfl
    refine EvP.ite (fun e => EvP.pos (by omega) ?_) (fun e => EvP.now (dbl_no hx (by simpa using e)).symm)
    rw [take_at hx]
    refine EvP.bind (spec_replyAt.ok pre x.f0 (by omega)) ?_
    intro r hr2
    have hm : l.map (·.f0) = pre.map (·.f0) ++ x.f0 :: rest.map (·.f0) := by rw [hx]; simp
    refine EvP.ite (fun e2 => EvP.now ?_) (fun e2 => ih () ⟨all_yes hi e, ?_⟩)
    · rw [dblB, apartB_no hm (by rw [← hr2]; exact decide_eq_true e2)]
      simp
    · rw [List.map_append]
      exact apartB_yes ha (by rw [← hr2]; exact decide_eq_false e2)
  · rintro _ ⟨hi, ha⟩
    simp only [spec_validDouble.l0]
    exact EvP.neg (by omega) (EvP.now (by rw [dblB, hi, ha]; rfl))
theorem spec_ValidDouble.ok (l : List S58) (h : GoodP l) : EvP (fun k => spec_ValidDouble.f k l) (· = dblB l) := by
  unfold spec_ValidDouble.f
  refine EvP.bind (spec_validDouble.ok l h) ?_
  rintro _ rfl
  exact EvP.now rfl
theorem laws_szDouble.ok (l0 : List S69) (hq : l0.length ≤ 9223372036854775807 ∧ ∀ x ∈ l0, Q69 x) : EvP (fun k => laws_szDouble.f k l0 1048576) (fun r => r < 0 ∨ (0 ≤ r ∧ r + l0.length ≤ 1048576 ∧ GoodP (l0.map cReply) ∧ ∀ x ∈ l0, (x.f1.length : Int) ≤ 1048576)) := by
  unfold laws_szDouble.f
  refine EvP.bind (laws_szReplyS.ok l0 hq.1 hq.2 _ (by omega) (by omega)) ?_
  rintro r (g | ⟨g0, g1, gg, gl⟩)
  · exact EvP.pos g (EvP.now (.inl (by omega)))
  · exact EvP.neg (by omega) (EvP.now (.inr ⟨g0, g1, gg, gl⟩))
theorem laws_toDouble.ok (l0 : List S69) (hl : (l0.length : Int) ≤ 1048576) (hq : ∀ x ∈ l0, (x.f1.length : Int) ≤ 1048576) : EvP (fun k => laws_toDouble.f k l0) (· = l0.map cReply) := by
  unfold laws_toDouble.f
  refine EvP.bind (laws_toReplyS.ok l0 hl hq) ?_
  rintro _ rfl
  exact EvP.now rfl
theorem laws_eqDouble.ok (l : List S58) (h : GoodP l) : EvP (fun k => laws_eqDouble.f k l l) (· = true) := by
  unfold laws_eqDouble.f
  refine EvP.bind (laws_eqReplyS.ok _ h) ?_
  rintro _ rfl
  exact EvP.pos rfl (EvP.now rfl)
theorem main (l0 : List S69) (hq : l0.length ≤ 9223372036854775807 ∧ ∀ x ∈ l0, Q69 x) : ∃ k, laws_FnExactValidDouble.f k l0 = some true := by
  refine EvP.rounds ?_
  unfold laws_FnExactValidDouble.f
  refine EvP.bind (laws_szDouble.ok l0 hq) ?_
  rintro r (g | ⟨g0, g1, gg, gl⟩)
  · exact EvP.pos g (EvP.now rfl)
  refine EvP.neg (by omega) ?_
  have hto := laws_toDouble.ok l0 (by omega) gl
  refine EvP.bind hto ?_
  rintro _ rfl
  refine EvP.bind (spec_ValidDouble.ok _ gg) ?_
  rintro _ rfl
  refine EvP.bind hto ?_
  rintro _ rfl
  refine EvP.bind (impl_ValidDouble.ok _ gg) ?_
  rintro _ rfl
  refine EvP.neg (by simp) ?_
  refine EvP.bind hto ?_
  rintro _ rfl
  refine EvP.bind (laws_eqDouble.ok _ gg) ?_
  rintro _ rfl
  exact EvP.pos rfl (EvP.now rfl)
end QFnExactValidDouble
end Go.Proofs.Ytdhppadgpkgpeaa.Pure

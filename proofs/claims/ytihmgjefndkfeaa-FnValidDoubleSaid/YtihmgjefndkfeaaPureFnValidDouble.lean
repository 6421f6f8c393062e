/- FnValidDouble answers true for every code: the program's ValidDouble answers as the reference's does, and a valid double without its last reply is valid. Conditions: those of the printed statement alone (bounds on sizes that every input meets). -/
import Derived.Test.YtihmgjefndkfeaaOFnValidDoublex6
import Derived.Test.YtihmgjefndkfeaaBase
namespace Go.Proofs.Ytihmgjefndkfeaa.Pure
open Go.RowKit Go.Proofs.Ytihmgjefndkfeaa.OFnValidDouble Go.Proofs.YtihmgjefndkfeaaW.PrintWords Go.Proofs.YtihmgjefndkfeaaW.PrintLast Go.Proofs.YtihmgjefndkfeaaW.PrintMore Go.Proofs.Ytihmgjefndkfeaa.Base
set_option linter.unusedVariables false
set_option linter.unusedSimpArgs false
namespace QFnValidDouble
/-! #### the reader of draws -/
def Bytes (b : List Int) : Prop := b.length ≤ 2000 ∧ ∀ x ∈ b, 0 ≤ x ∧ x ≤ 255
theorem spec_newReader.ok (l0 : List Int) (h : ∀ x ∈ l0, (Lit.int .u8 x).wf = true) : EvP (fun _ => spec_newReader.f l0) (fun r => Bytes r.1 ∧ r.2 = 0) := by
  have hw : ∀ x ∈ l0, 0 ≤ x ∧ x ≤ 255 := by
    intro x hx
    have := h x hx
    simp [Lit.wf, IntKind.min, IntKind.max, IntKind.signed, IntKind.bits] at this
    omega
  unfold spec_newReader.f
  refine EvP.ite (fun h1 => EvP.pos (by omega) (EvP.now ⟨⟨?_, fun x hx => hw x (List.mem_of_mem_take hx)⟩, rfl⟩)) (fun h1 => EvP.now ⟨⟨by simp only; omega, hw⟩, rfl⟩)
  show (l0.take 2000).length ≤ 2000
  simp
  omega
theorem rd_mem {l : List Int} {i : Int} (h0 : 0 ≤ i) (h1 : i < (l.length : Int)) : rd l i ∈ l := by
  unfold rd
  rw [List.getD_eq_getElem?_getD, List.getElem?_eq_getElem (by omega)]
  exact List.getElem_mem _
theorem rdOf_mem {α : Type} (d : α) {l : List α} {i : Int} (h0 : 0 ≤ i) (h1 : i < (l.length : Int)) : rdOf d l i ∈ l := by
  unfold rdOf
  rw [List.getD_eq_getElem?_getD, List.getElem?_eq_getElem (by omega)]
  exact List.getElem_mem _
theorem xor_nonneg (a b : Int) (ha : 0 ≤ a) (ha1 : a < 9223372036854775808) (hb : 0 ≤ b) (hb1 : b < 9223372036854775808) : 0 ≤ Go.bits .xor .i64 a b := by
  obtain ⟨m, rfl⟩ := Int.eq_ofNat_of_zero_le ha
  obtain ⟨n, rfl⟩ := Int.eq_ofNat_of_zero_le hb
  have hx : m ^^^ n < 2 ^ 63 := Nat.xor_lt_two_pow (by omega) (by omega)
  have h1 : (BitVec.ofInt 64 (m : Int)).toNat = m := by
    rw [BitVec.ofInt_natCast, BitVec.toNat_ofNat]; exact Nat.mod_eq_of_lt (by omega)
  have h2 : (BitVec.ofInt 64 (n : Int)).toNat = n := by
    rw [BitVec.ofInt_natCast, BitVec.toNat_ofNat]; exact Nat.mod_eq_of_lt (by omega)
  show 0 ≤ IntKind.i64.wrap ((BitVec.ofInt 64 (m : Int) ^^^ BitVec.ofInt 64 (n : Int)).toNat : Int)
  rw [BitVec.toNat_xor, h1, h2, IntKind.wrap_i64]
  omega
theorem tmod_in (a n : Int) (ha : 0 ≤ a) (hn : 0 < n) : 0 ≤ Int.tmod a n ∧ Int.tmod a n < n := by
  rw [Int.tmod_eq_emod_of_nonneg ha]
  exact ⟨Int.emod_nonneg _ (by omega), Int.emod_lt_of_pos _ hn⟩
theorem tdiv_in (a n : Int) (ha : 0 ≤ a) (hn : 0 < n) : 0 ≤ Int.tdiv a n ∧ Int.tdiv a n ≤ a := by
  rw [Int.tdiv_eq_ediv_of_nonneg ha]
  exact ⟨Int.ediv_nonneg ha (by omega), Int.ediv_le_self _ ha⟩
theorem spec_reader_pick.ok (b : List Int) (p n : Int) (hb : Bytes b) (h0 : 0 ≤ p) (h1 : p ≤ 1000000) : EvP (fun k => spec_reader_pick.f k b p n) (fun r => 0 ≤ r.1 ∧ (0 < n → r.1 < n) ∧ r.2 = p + 1) := by
  have e1 : wrap64 (p + 1) = p + 1 := wrap_id (by omega) (by omega)
  have e2 : wrap64 (p + 1 - 1) = p := by rw [wrap_id (by omega) (by omega)]; omega
  have none' : EvP (fun k => spec_reader_pick.j0 k n true b (p + 1)) (fun r => 0 ≤ r.1 ∧ (0 < n → r.1 < n) ∧ r.2 = p + 1) := by
    refine EvP.succ ?_
    simp only [spec_reader_pick.j0]
    exact EvP.pos (by simp) (EvP.now ⟨by simp, fun h => h, by simp⟩)
  unfold spec_reader_pick.f
  rw [e1]
  refine EvP.ite (fun _ => none') (fun hn => ?_)
  by_cases hl : b.length = 0
  · have : ((b.length : Int) == 0) = true := by simp [hl]
    rw [this]
    exact none'
  · have : ((b.length : Int) == 0) = false := by simp [hl]
    rw [this]
    have hr : ∀ i : Int, 0 ≤ i → i < (b.length : Int) → 0 ≤ rd b i ∧ rd b i ≤ 255 := fun i g0 g1 => hb.2 _ (rd_mem g0 g1)
    refine EvP.succ ?_
    simp only [spec_reader_pick.j0]
    refine EvP.neg (by simp) ?_
    simp only [e2]
    refine EvP.ite (fun hp => EvP.pos h0 (EvP.neg (by omega) (EvP.now ?_))) (fun hp => ?_)
    · have h := hr p h0 hp
      rw [wrap_id (by omega) (by omega)]
      have := tmod_in (rd b p) n h.1 (by omega)
      exact ⟨this.1, fun _ => this.2, by simp⟩
    · have w7 : wrap64 (p * 7) = p * 7 := wrap_id (by omega) (by omega)
      have w73 : wrap64 (p * 7 + 3) = p * 7 + 3 := wrap_id (by omega) (by omega)
      have w29 : wrap64 (p * 29) = p * 29 := wrap_id (by omega) (by omega)
      simp only [w7, w73, w29]
      have m1 := tmod_in p (b.length : Int) h0 (by omega)
      have m2 := tmod_in (p * 7 + 3) (b.length : Int) (by omega) (by omega)
      have d1 := tdiv_in p (b.length : Int) h0 (by omega)
      have r1 := hr _ m1.1 m1.2
      have r2 := hr _ m2.1 m2.2
      refine EvP.neg (by omega) (EvP.pos m1.1 (EvP.pos m1.2 (EvP.pos m2.1 (EvP.pos m2.2 (EvP.neg (by omega) (EvP.now ?_))))))
      generalize rd b (Int.tmod p (b.length : Int)) = u1 at *
      generalize rd b (Int.tmod (p * 7 + 3) (b.length : Int)) = u2 at *
      generalize Int.tdiv p (b.length : Int) = u3 at *
      have a1 : wrap64 u1 = u1 := wrap_id (by omega) (by omega)
      have a2 : wrap64 u2 = u2 := wrap_id (by omega) (by omega)
      have a3 : wrap64 u3 = u3 := wrap_id (by omega) (by omega)
      have a4 : wrap64 (u1 * 131) = u1 * 131 := wrap_id (by omega) (by omega)
      have a5 : wrap64 (u2 * 1117) = u2 * 1117 := wrap_id (by omega) (by omega)
      have a6 : wrap64 (u3 * 53) = u3 * 53 := wrap_id (by omega) (by omega)
      have a7 : wrap64 (u1 * 131 + u2 * 1117) = u1 * 131 + u2 * 1117 := wrap_id (by omega) (by omega)
      have a8 : wrap64 (u1 * 131 + u2 * 1117 + p * 29) = u1 * 131 + u2 * 1117 + p * 29 := wrap_id (by omega) (by omega)
      have a9 : wrap64 (u1 * 131 + u2 * 1117 + p * 29 + u3 * 53) = u1 * 131 + u2 * 1117 + p * 29 + u3 * 53 := wrap_id (by omega) (by omega)
      simp only [a1, a2, a3, a4, a5, a6, a7, a8, a9]
      have hE : 0 ≤ u1 * 131 + u2 * 1117 + p * 29 + u3 * 53 ∧ u1 * 131 + u2 * 1117 + p * 29 + u3 * 53 ≤ 1000000000 := by omega
      generalize u1 * 131 + u2 * 1117 + p * 29 + u3 * 53 = E at *
      have d2 := tdiv_in E 64 hE.1 (by omega)
      have a10 : wrap64 (Int.tdiv E 64) = Int.tdiv E 64 := wrap_id (by omega) (by omega)
      rw [a10]
      have := tmod_in (Go.bits .xor .i64 E (Int.tdiv E 64)) n (xor_nonneg _ _ hE.1 (by omega) d2.1 (by omega)) (by omega)
      exact ⟨this.1, fun _ => this.2, by simp⟩
theorem spec_reader_one.ok (b : List Int) (p : Int) (l : List Int) (hb : Bytes b) (h0 : 0 ≤ p) (h1 : p ≤ 1000000) (hl : 0 < l.length) : EvP (fun k => spec_reader_one.f k b p l) (fun r => r.1 ∈ l ∧ r.2 = p + 1) := by
  unfold spec_reader_one.f
  refine EvP.bind (spec_reader_pick.ok b p _ hb h0 h1) ?_
  rintro ⟨i, q⟩ ⟨g0, g1, rfl⟩
  have g2 := g1 (by omega)
  exact EvP.pos g0 (EvP.pos g2 (EvP.now ⟨rd_mem g0 g2, rfl⟩))
theorem spec_reader_of.ok (b : List Int) (p : Int) (l : List ByteArray) (hb : Bytes b) (h0 : 0 ≤ p) (h1 : p ≤ 1000000) (hl : 0 < l.length) : EvP (fun k => spec_reader_of.f k b p l) (fun r => r.1 ∈ l ∧ r.2 = p + 1) := by
  unfold spec_reader_of.f
  refine EvP.bind (spec_reader_pick.ok b p _ hb h0 h1) ?_
  rintro ⟨i, q⟩ ⟨g0, g1, rfl⟩
  have g2 := g1 (by omega)
  exact EvP.pos g0 (EvP.pos g2 (EvP.now ⟨rdOf_mem _ g0 g2, rfl⟩))
/-! #### names -/
def azB (s : ByteArray) : Bool := decide (∀ j : Nat, j < s.size → 97 ≤ bt s (j : Int) ∧ bt s (j : Int) ≤ 122)
def wordB (s : ByteArray) : Bool := decide (s.toList ≠ [97, 110, 100]) && (decide (s.toList ≠ [111, 114]) && decide (s.toList ≠ [110, 111, 116]))
def nameB (s : ByteArray) : Bool := azB s && (decide (1 ≤ s.size ∧ s.size ≤ 6) && wordB s)
theorem azB_no {s : ByteArray} {i : Nat} (hi : i < s.size) (h : ¬ (97 ≤ bt s (i : Int) ∧ bt s (i : Int) ≤ 122)) : nameB s = false := by
  have : azB s = false := by
    rw [azB, decide_eq_false_iff_not]
    exact fun g => h (g i hi)
  rw [nameB, this]
  rfl
theorem azB_yes {s : ByteArray} (h : ∀ j : Nat, j < s.size → 97 ≤ bt s (j : Int) ∧ bt s (j : Int) ≤ 122) : azB s = true := by
  rw [azB, decide_eq_true_iff]
  exact h
theorem words_ok (s : ByteArray) : EvP (fun _ => if s.toList = ([97, 110, 100] : List UInt8) then (some false) else (if s.toList = ([111, 114] : List UInt8) then (some false) else (some (s.toList != ([110, 111, 116] : List UInt8))))) (· = wordB s) := by
  unfold wordB
  refine EvP.ite (fun h => EvP.now (by simp [h])) (fun h => EvP.ite (fun h2 => EvP.now (by simp [h2])) (fun h2 => EvP.now ?_))
  simp [h, h2, bne]
  rw [Bool.eq_iff_iff]
  simp
/-- Is a text in a list? -/
def hasT (l : List ByteArray) (s : ByteArray) : Bool := l.any fun y => decide (y.toList = s.toList)
theorem hasT_cons (y : ByteArray) (l : List ByteArray) (s : ByteArray) : hasT (y :: l) s = (decide (y.toList = s.toList) || hasT l s) := rfl
theorem hasT_append (a b : List ByteArray) (s : ByteArray) : hasT (a ++ b) s = (hasT a s || hasT b s) := by simp [hasT, List.any_append]
theorem hasT_iff (l : List ByteArray) (s : ByteArray) : hasT l s = true ↔ ∃ y ∈ l, y.toList = s.toList := by simp [hasT]
/-! #### different texts -/
def apartB (l : List ByteArray) : Bool := decide (l.Pairwise fun a b => a.toList ≠ b.toList)
theorem apartB_no {l pre rest : List ByteArray} {x : ByteArray} (h : l = pre ++ x :: rest) (hx : hasT pre x = true) : apartB l = false := by
  rw [apartB, decide_eq_false_iff_not, h]
  intro g
  obtain ⟨y, hy, e⟩ := (hasT_iff pre x).1 hx
  exact (List.pairwise_append.1 g).2.2 y hy x (by simp) e
theorem apartB_yes {pre : List ByteArray} {x : ByteArray} (h : apartB pre = true) (hx : hasT pre x = false) : apartB (pre ++ [x]) = true := by
  rw [apartB, decide_eq_true_iff] at h ⊢
  refine List.pairwise_append.2 ⟨h, by simp, fun a ha b hb => ?_⟩
  rw [List.mem_singleton.1 hb]
  intro e
  have : hasT pre x = true := (hasT_iff pre x).2 ⟨a, ha, e⟩
  rw [hx] at this
  cases this
theorem apartB_nil : apartB [] = true := rfl
def namesB (l : List ByteArray) (most : Int) : Bool := l.all nameB && (apartB l && decide ((l.length : Int) ≤ most))
theorem all_no {α : Type} {p : α → Bool} {l pre rest : List α} {x : α} (h : l = pre ++ x :: rest) (hx : p x = false) : l.all p = false := by
  rw [h, List.all_append, List.all_cons, hx]
  simp
theorem all_yes {α : Type} {p : α → Bool} {pre : List α} {x : α} (h : pre.all p = true) (hx : p x = true) : (pre ++ [x]).all p = true := by
  rw [List.all_append, h, List.all_cons, hx]
  rfl
theorem take_at {α : Type} {l pre rest : List α} {x : α} (h : l = pre ++ x :: rest) : l.take (pre.length : Int).toNat = pre := by
  rw [h]
  simp
def Small (l : List ByteArray) : Prop := (l.length : Int) ≤ 4398046511104 ∧ ∀ x ∈ l, (x.size : Int) ≤ 4398046511104
def numB (n : Int) : Bool := decide (-99 ≤ n ∧ n ≤ 99)
def numsB (l : List Int) : Bool := l.all numB
theorem numsB_no {l pre rest : List Int} {x : Int} (h : l = pre ++ x :: rest) (hx : ¬ (-99 ≤ x ∧ x ≤ 99)) : numsB l = false := by
  rw [h, numsB, List.all_append, List.all_cons, numB, decide_eq_false hx]
  simp
theorem numsB_snoc {pre : List Int} {x : Int} (h : numsB pre = true) (hx : -99 ≤ x ∧ x ≤ 99) : numsB (pre ++ [x]) = true := by
  rw [numsB, List.all_append, ← numsB, h, List.all_cons, numB, decide_eq_true hx]
  rfl
/-! #### doubles -/
def repB (x : S60) : Bool := numsB x.f1 && (nameB x.f0 && decide (1 ≤ x.f1.length ∧ x.f1.length ≤ 4))
def dblB (l : List S60) : Bool := l.all repB && (apartB (l.map (·.f0)) && decide ((l.length : Int) ≤ 4))
/-- Sizes that no machine sum passes. -/
def GoodP (l : List S60) : Prop := (l.length : Int) ≤ 4398046511104 ∧ ∀ x ∈ l, (x.f0.size : Int) ≤ 4398046511104 ∧ (x.f1.length : Int) ≤ 4398046511104
/-- What the program looks at first. -/
def valB (x : S60) : Bool := numsB x.f1 && decide (1 ≤ x.f1.length ∧ x.f1.length ≤ 4)
theorem valB_of {x : S60} (h : valB x = false) : repB x = false := by
  unfold valB at h
  unfold repB
  cases h1 : numsB x.f1 with
  | false => rfl
  | true =>
    rw [h1, Bool.true_and] at h
    rw [h]
    simp
theorem dbl_names : ∀ {l : List S60}, l.all valB = true → (l.map (·.f0)).all nameB = l.all repB
  | [], _ => rfl
  | x :: l, h => by
    rw [List.all_cons, Bool.and_eq_true] at h
    rw [List.map_cons, List.all_cons, List.all_cons, dbl_names h.2]
    congr 1
    have h1 := h.1
    unfold valB at h1
    rw [Bool.and_eq_true] at h1
    rw [repB, h1.1, h1.2]
    simp
theorem dbl_eq {l : List S60} (h : l.all valB = true) : namesB (l.map (·.f0)) 4 = dblB l := by
  rw [namesB, dblB, dbl_names h, List.length_map]
theorem dbl_no {l pre rest : List S60} {x : S60} (h : l = pre ++ x :: rest) (hx : repB x = false) : dblB l = false := by
  rw [dblB, all_no h hx]
  rfl
theorem impl_nameOk.ok (s : ByteArray) (h : (s.size : Int) ≤ 9223372036854775807) : EvP (fun k => impl_nameOk.f k s) (· = nameB s) := by
  unfold impl_nameOk.f
  refine EvP.upto (L := fun k (_ : Unit) i => impl_nameOk.l0 k s (s.size : Int) i) (n := s.size) (Inv := fun i _ => ∀ j : Nat, j < i → 97 ≤ bt s (j : Int) ∧ bt s (j : Int) ≤ 122) ?_ ?_ () (fun j hj => by omega)
  · rintro i _ hi hv ih
    simp only [impl_nameOk.l0]
    refine EvP.pos (by omega) (EvP.pos (by omega) (EvP.pos (by omega) ?_))
    refine EvP.ite (fun e => EvP.now (azB_no hi (by omega)).symm) (fun e => EvP.ite (fun e2 => EvP.now (azB_no hi (by omega)).symm) (fun e2 => ?_))
    rw [wrap_id (by omega) (by omega)]
    refine ih () (fun j hj => ?_)
    rcases Nat.lt_succ_iff_lt_or_eq.1 hj with hj | rfl
    · exact hv j hj
    · omega
  · rintro _ hv
    simp only [impl_nameOk.l0]
    have ha := azB_yes hv
    refine EvP.neg (by omega) (EvP.ite (fun e => EvP.ite (fun e2 => ?_) (fun e2 => EvP.now ?_)) (fun e => EvP.now ?_))
    · refine (words_ok s).mono ?_
      rintro _ rfl
      rw [nameB, ha, decide_eq_true (show 1 ≤ s.size ∧ s.size ≤ 6 by omega)]
      rfl
    · rw [nameB, decide_eq_false (show ¬ (1 ≤ s.size ∧ s.size ≤ 6) by omega)]
      simp
    · rw [nameB, decide_eq_false (show ¬ (1 ≤ s.size ∧ s.size ≤ 6) by omega)]
      simp
theorem slices_Index_string_string.ok (l : List ByteArray) (s : ByteArray) (h : (l.length : Int) ≤ 9223372036854775807) : EvP (fun k => slices_Index_string_string.f k l s) (fun r => decide (r ≥ 0) = hasT l s) := by
  unfold slices_Index_string_string.f
  refine EvP.range (L := fun k (_ : Unit) i => slices_Index_string_string.l0 k l s (l.length : Int) i) (xs := l) (Inv := fun pre _ => hasT pre s = false) ?_ ?_ () rfl
  · rintro pre x rest _ hx hi ih
    have hl := len_at hx
    have hr : rdOf ByteArray.empty l (pre.length : Int) = x := getD_at hx _
    simp only [slices_Index_string_string.l0, hr, wrap_at hx h]
    refine EvP.pos hl (EvP.pos (nat_nonneg _) (EvP.pos hl ?_))
    refine EvP.ite (fun e => EvP.now ?_) (fun e => ih () ?_)
    · rw [hx, hasT_append, hasT_cons, e]
      simp
    · rw [hasT_append, hasT_cons, hi]
      simp [Ne.symm e, hasT]
  · rintro _ hi
    simp only [slices_Index_string_string.l0]
    exact EvP.neg (by omega) (EvP.now (by rw [hi]; rfl))
theorem slices_Contains_string_string.ok (l : List ByteArray) (s : ByteArray) (h : (l.length : Int) ≤ 9223372036854775807) : EvP (fun k => slices_Contains_string_string.f k l s) (· = hasT l s) := by
  unfold slices_Contains_string_string.f
  refine EvP.bind (slices_Index_string_string.ok l s h) ?_
  intro r hr
  exact EvP.now hr
theorem impl_namesOk.ok (l : List ByteArray) (most : Int) (h : Small l) : EvP (fun k => impl_namesOk.f k l most) (· = namesB l most) := by
  have h1 := h.1
  unfold impl_namesOk.f
  refine EvP.range (L := fun k (_ : Unit) i => impl_namesOk.l0 k l most l (l.length : Int) i) (xs := l) (Inv := fun pre _ => pre.all nameB = true ∧ apartB pre = true) ?_ ?_ () ⟨rfl, rfl⟩
  · rintro pre x rest _ hx ⟨hi, ha⟩ ih
    have hl := len_at hx
    have hr : rdOf ByteArray.empty l (pre.length : Int) = x := getD_at hx _
    have hg := h.2 x (by rw [hx]; simp)
    simp only [impl_namesOk.l0, hr, wrap_at hx (show (l.length : Int) ≤ 9223372036854775807 by omega)]
    refine EvP.pos hl (EvP.pos (nat_nonneg _) (EvP.pos hl ?_))
    refine EvP.bind (impl_nameOk.ok x (by omega)) ?_
    rintro _ rfl
    refine EvP.ite (fun e => EvP.pos (by omega) ?_) (fun e => EvP.now (by rw [namesB, all_no hx (by simpa using e)]; rfl))
    rw [take_at hx]
    refine EvP.bind (slices_Contains_string_string.ok pre x (by omega)) ?_
    rintro _ rfl
    exact EvP.ite (fun e2 => EvP.now (by rw [namesB, apartB_no hx e2]; simp)) (fun e2 => ih () ⟨all_yes hi e, apartB_yes ha (by simpa using e2)⟩)
  · rintro _ ⟨hi, ha⟩
    simp only [impl_namesOk.l0]
    exact EvP.neg (by omega) (EvP.now (by rw [namesB, hi, ha]; rfl))
theorem impl_numbersOk.ok (l : List Int) (h : (l.length : Int) ≤ 9223372036854775807) : EvP (fun k => impl_numbersOk.f k l) (· = numsB l) := by
  unfold impl_numbersOk.f
  refine EvP.range (L := fun k (_ : Unit) i => impl_numbersOk.l0 k l (l.length : Int) i) (xs := l) (Inv := fun pre _ => numsB pre = true) ?_ ?_ () rfl
  · rintro pre x rest _ hx hi ih
    have hl := len_at hx
    have hr : rd l (pre.length : Int) = x := getD_at hx _
    simp only [impl_numbersOk.l0, hr, wrap_at hx h]
    refine EvP.pos hl (EvP.pos (nat_nonneg _) (EvP.pos hl ?_))
    exact EvP.ite (fun e => EvP.now (numsB_no hx (by omega)).symm) (fun e => EvP.ite (fun e2 => EvP.now (numsB_no hx (by omega)).symm) (fun e2 => ih () (numsB_snoc hi (by omega))))
  · rintro _ hi
    simp only [impl_numbersOk.l0]
    exact EvP.neg (by omega) (EvP.now hi.symm)
theorem impl_ValidDouble.ok (l : List S60) (h : GoodP l) : EvP (fun k => impl_ValidDouble.f k l) (· = dblB l) := by
  have h1 := h.1
  unfold impl_ValidDouble.f
  refine EvP.range (L := fun k s i => impl_ValidDouble.l0 k s l (l.length : Int) i) (xs := l) (Inv := fun pre s => s = pre.map (·.f0) ∧ pre.all valB = true) ?_ ?_ [] ⟨rfl, rfl⟩
  · rintro pre x rest _ hx ⟨rfl, hi⟩ ih
    have hl := len_at hx
    have hr : rd_T60 l (pre.length : Int) = x := getD_at hx _
    have hg := h.2 x (by rw [hx]; simp)
    simp only [impl_ValidDouble.l0, hr, wrap_at hx (show (l.length : Int) ≤ 9223372036854775807 by omega)]
    refine EvP.pos hl (EvP.pos (nat_nonneg _) (EvP.pos hl ?_))
    have no : ¬ (1 ≤ x.f1.length ∧ x.f1.length ≤ 4) → dblB l = false := fun g => dbl_no hx (valB_of (by rw [valB, decide_eq_false g]; simp))
    refine EvP.ite (fun e => EvP.now (no (by omega)).symm) (fun e => EvP.ite (fun e2 => EvP.now (no (by omega)).symm) (fun e2 => ?_))
    refine EvP.bind (impl_numbersOk.ok x.f1 (by omega)) ?_
    rintro _ rfl
    refine EvP.ite (fun e3 => EvP.pos (by rw [List.length_map]; omega) (ih _ ⟨by simp, all_yes hi (by rw [valB, e3, decide_eq_true (show 1 ≤ x.f1.length ∧ x.f1.length ≤ 4 by omega)]; rfl)⟩)) (fun e3 => EvP.now ?_)
    exact (dbl_no hx (valB_of (by rw [valB, show numsB x.f1 = false by simpa using e3]; rfl))).symm
  · rintro _ ⟨rfl, hi⟩
    simp only [impl_ValidDouble.l0]
    refine EvP.neg (by omega) ?_
    refine EvP.bind (impl_namesOk.ok (l.map (·.f0)) 4 ⟨by rw [List.length_map]; omega, fun y hy => ?_⟩) ?_
    · obtain ⟨x, hx, rfl⟩ := List.mem_map.1 hy
      exact (h.2 x hx).1
    · rintro _ rfl
      exact EvP.now (dbl_eq hi)
theorem spec_inRange.ok (a b c : Int) : EvP (fun _ => spec_inRange.f a b c) (· = decide (b ≤ a ∧ a ≤ c)) := by
  unfold spec_inRange.f
  exact EvP.ite (fun h => EvP.now (by simp [h])) (fun h => EvP.now (by simp [h]))
theorem spec_validName.ok (s : ByteArray) (h : (s.size : Int) ≤ 9223372036854775807) : EvP (fun k => spec_validName.f k s) (· = nameB s) := by
  unfold spec_validName.f
  refine EvP.upto (L := fun k (_ : Unit) i => spec_validName.l0 k s i) (n := s.size) (Inv := fun i _ => ∀ j : Nat, j < i → 97 ≤ bt s (j : Int) ∧ bt s (j : Int) ≤ 122) ?_ ?_ () (fun j hj => by omega)
  · rintro i _ hi hv ih
    simp only [spec_validName.l0]
    refine EvP.pos (by omega) (EvP.pos (by omega) ?_)
    refine EvP.ite (fun e => EvP.now (azB_no hi (by omega)).symm) (fun e => EvP.ite (fun e2 => EvP.now (azB_no hi (by omega)).symm) (fun e2 => ?_))
    rw [wrap_id (by omega) (by omega)]
    refine ih () (fun j hj => ?_)
    rcases Nat.lt_succ_iff_lt_or_eq.1 hj with hj | rfl
    · exact hv j hj
    · omega
  · rintro _ hv
    simp only [spec_validName.l0]
    have ha := azB_yes hv
    refine EvP.neg (by omega) ?_
    refine EvP.bind (spec_inRange.ok _ _ _) ?_
    rintro _ rfl
    refine EvP.ite (fun e => ?_) (fun e => EvP.now ?_)
    · have e' := of_decide_eq_true e
      refine (words_ok s).mono ?_
      rintro _ rfl
      rw [nameB, ha, decide_eq_true (show 1 ≤ s.size ∧ s.size ≤ 6 by omega)]
      rfl
    · have e' : ¬ (1 ≤ (s.size : Int) ∧ (s.size : Int) ≤ 6) := fun g => e (decide_eq_true g)
      rw [nameB, decide_eq_false (show ¬ (1 ≤ s.size ∧ s.size ≤ 6) by omega)]
      simp
theorem spec_validReply.ok (s : ByteArray) (a : List Int) (h : (s.size : Int) ≤ 4398046511104) (h2 : (a.length : Int) ≤ 4398046511104) : EvP (fun k => spec_validReply.f k s a) (· = repB ⟨s, a⟩) := by
  unfold spec_validReply.f
  refine EvP.range (L := fun k (_ : Unit) i => spec_validReply.l0 k i s a) (xs := a) (Inv := fun p _ => numsB p = true) ?_ ?_ () rfl
  · rintro p n r _ hp hv ih
    have hpl := len_at hp
    have hrr : rd a (p.length : Int) = n := getD_at hp _
    simp only [spec_validReply.l0, hrr, wrap_at hp (by omega)]
    refine EvP.pos hpl (EvP.pos (nat_nonneg _) ?_)
    refine EvP.bind (spec_inRange.ok _ _ _) ?_
    rintro _ rfl
    refine EvP.ite (fun e3 => ih () (numsB_snoc hv (of_decide_eq_true e3))) (fun e3 => EvP.now ?_)
    rw [repB, numsB_no hp (fun g => e3 (decide_eq_true g))]
    rfl
  · rintro _ hv
    simp only [spec_validReply.l0]
    refine EvP.neg (by omega) ?_
    refine EvP.bind (spec_validName.ok s (by omega)) ?_
    rintro _ rfl
    refine EvP.ite (fun e => ?_) (fun e => EvP.now (by rw [repB, show nameB s = false by simpa using e]; simp))
    refine EvP.bind (spec_inRange.ok _ _ _) ?_
    rintro _ rfl
    refine EvP.now ?_
    rw [repB, hv, e, Bool.eq_iff_iff]
    simp
    omega
theorem spec_replyAt.ok (l : List S60) (s : ByteArray) (h : (l.length : Int) ≤ 4398046511104) : EvP (fun k => spec_replyAt.f k l s) (fun r => decide (r ≥ 0) = hasT (l.map (·.f0)) s) := by
  unfold spec_replyAt.f
  refine EvP.range (L := fun k (_ : Unit) i => spec_replyAt.l0 k l s i) (xs := l) (Inv := fun pre _ => hasT (pre.map (·.f0)) s = false) ?_ ?_ () rfl
  · rintro pre x rest _ hx hi ih
    have hl := len_at hx
    have hr : rd_T60 l (pre.length : Int) = x := getD_at hx _
    simp only [spec_replyAt.l0, hr, wrap_at hx (by omega)]
    refine EvP.pos hl (EvP.pos (nat_nonneg _) ?_)
    refine EvP.ite (fun e => EvP.now ?_) (fun e => ih () ?_)
    · rw [hx, List.map_append, List.map_cons, hasT_append, hasT_cons, e]
      simp
    · rw [List.map_append, hasT_append, hi]
      simp [e, hasT]
  · rintro _ hi
    simp only [spec_replyAt.l0]
    exact EvP.neg (by omega) (EvP.now (by rw [hi]; rfl))
theorem spec_validDouble.ok (l : List S60) (h : GoodP l) : EvP (fun k => spec_validDouble.f k l) (· = dblB l) := by
  have h1 := h.1
  unfold spec_validDouble.f
  refine EvP.range (L := fun k (_ : Unit) i => spec_validDouble.l0 k i l) (xs := l) (Inv := fun pre _ => pre.all repB = true ∧ apartB (pre.map (·.f0)) = true) ?_ ?_ () ⟨rfl, rfl⟩
  · rintro pre x rest _ hx ⟨hi, ha⟩ ih
    have hl := len_at hx
    have hr : rd_T60 l (pre.length : Int) = x := getD_at hx _
    have hg := h.2 x (by rw [hx]; simp)
    simp only [spec_validDouble.l0, hr, wrap_at hx (show (l.length : Int) ≤ 9223372036854775807 by omega)]
    refine EvP.pos hl (EvP.pos (nat_nonneg _) ?_)
    refine EvP.bind (spec_validReply.ok x.f0 x.f1 hg.1 hg.2) ?_
    rintro _ rfl
    refine EvP.ite (fun e => EvP.pos (by omega) ?_) (fun e => EvP.now (dbl_no hx (by simpa using e)).symm)
    rw [take_at hx]
    refine EvP.bind (spec_replyAt.ok pre x.f0 (by omega)) ?_
    intro r hr2
    have hm : l.map (·.f0) = pre.map (·.f0) ++ x.f0 :: rest.map (·.f0) := by rw [hx]; simp
    refine EvP.ite (fun e2 => EvP.now ?_) (fun e2 => ih () ⟨all_yes hi e, ?_⟩)
    · rw [dblB, apartB_no hm (by rw [← hr2]; exact decide_eq_true e2)]
      simp
    · rw [List.map_append]
      exact apartB_yes ha (by rw [← hr2]; exact decide_eq_false e2)
  · rintro _ ⟨hi, ha⟩
    simp only [spec_validDouble.l0]
    exact EvP.neg (by omega) (EvP.now (by rw [dblB, hi, ha]; rfl))
theorem spec_ValidDouble.ok (l : List S60) (h : GoodP l) : EvP (fun k => spec_ValidDouble.f k l) (· = dblB l) := by
  unfold spec_ValidDouble.f
  refine EvP.bind (spec_validDouble.ok l h) ?_
  rintro _ rfl
  exact EvP.now rfl
abbrev Y := S60
def fitR (x : Y) : Prop := x.f0.size ≤ 4 ∧ 1 ≤ x.f1.length ∧ x.f1.length ≤ 4
theorem nm_sz (i : Nat) : (rdOf ByteArray.empty (([(⟨#[103, 101, 116]⟩ : ByteArray), (⟨#[112, 117, 116]⟩ : ByteArray), (⟨#[100, 101, 108]⟩ : ByteArray), (⟨#[112, 105, 110, 103]⟩ : ByteArray)] : List ByteArray)) (i : Int)).size ≤ 4 := by
  unfold rdOf
  rw [Int.toNat_natCast]
  match i with
  | 0 => decide
  | 1 => decide
  | 2 => decide
  | 3 => decide
  | n + 4 => exact Nat.zero_le _
theorem spec_goodDouble.ok (b : List Int) (p : Int) (hb : Bytes b) (h0 : 0 ≤ p) (h1 : p ≤ 9000) : EvP (fun k => spec_goodDouble.f k b p) (fun r => (∀ x ∈ r.1, fitR x) ∧ r.1.length ≤ 4 ∧ 0 ≤ r.2 ∧ r.2 ≤ p + 30) := by
  unfold spec_goodDouble.f
  refine EvP.bind (spec_reader_one.ok b p _ hb h0 (by omega) (by simp)) ?_
  rintro ⟨n, q⟩ ⟨g0, g2⟩
  simp only at g0 g2
  subst g2
  have g1 : 0 ≤ n ∧ n ≤ 4 := by
    simp only [List.mem_cons, List.not_mem_nil, or_false] at g0
    omega
  obtain ⟨n, rfl⟩ := Int.eq_ofNat_of_zero_le g1.1
  refine EvP.upto (L := fun k (s : List Y × Int) i => spec_goodDouble.l0 k _ (n : Int) i b s.2 s.1) (n := n) (Inv := fun i s => (∀ x ∈ s.1, fitR x) ∧ s.1.length = i ∧ 0 ≤ s.2 ∧ s.2 ≤ p + 1 + 5 * i) ?_ ?_ ([], p + 1) ⟨fun x hx => (by cases hx), rfl, by simp only; omega, by simp only; omega⟩
  · rintro i ⟨l, q⟩ hi ⟨a0, a1, a2, a3⟩ ih
    simp only at a0 a1 a2 a3
    simp only [spec_goodDouble.l0]
    refine EvP.pos (by omega) (EvP.pos (by omega) (EvP.pos (by simp; omega) ?_))
    refine EvP.bind (spec_reader_one.ok b q _ hb a2 (by omega) (by simp)) ?_
    rintro ⟨m, q1⟩ ⟨m0, m1⟩
    simp only at m0 m1
    subst m1
    have m2 : 1 ≤ m ∧ m ≤ 4 := by
      simp only [List.mem_cons, List.not_mem_nil, or_false] at m0
      omega
    refine EvP.down (L := fun k (s : List Int × Int) m => spec_goodDouble.l1 k _ (n : Int) (i : Int) m b s.2 l _ s.1) (Inv := fun m s => 0 ≤ m ∧ (s.1.length : Int) + m ≤ 4 ∧ 1 ≤ (s.1.length : Int) + m ∧ 0 ≤ s.2 ∧ s.2 + m ≤ p + 1 + 5 * i + 5) ?_ ?_ m ([], q + 1) ⟨by omega, by simp only [List.length_nil]; omega, by simp only [List.length_nil]; omega, by simp only; omega, by simp only; omega⟩
    · rintro m ⟨vs, q⟩ hm ⟨b0, b1, b2, b3, b4⟩ ih2
      simp only at b1 b2 b3 b4
      simp only [spec_goodDouble.l1]
      refine EvP.pos hm ?_
      refine EvP.bind (spec_reader_one.ok b q _ hb b3 (by omega) (by simp)) ?_
      rintro ⟨v, q1⟩ ⟨_, m1⟩
      simp only at m1
      subst m1
      rw [wrap_id (by omega) (by omega)]
      exact EvP.pos (by omega) (ih2 (vs ++ [v], q + 1) ⟨by omega, by simp only [List.length_append, List.length_singleton]; omega, by simp only [List.length_append, List.length_singleton]; omega, by simp only; omega, by simp only; omega⟩)
    · rintro m ⟨vs, q⟩ hm ⟨b0, b1, b2, b3, b4⟩
      simp only at b1 b2 b3 b4
      simp only [spec_goodDouble.l1]
      rw [wrap_id (x := (i : Int) + 1) (by omega) (by omega)]
      refine EvP.neg (by omega) (EvP.pos (by omega) (ih (l ++ [⟨_, vs⟩], q) ⟨fun x hx => ?_, by simp only [List.length_append, List.length_singleton]; omega, by simp only; omega, by simp only; omega⟩))
      rcases List.mem_append.1 hx with hx | hx
      · exact a0 x hx
      · rw [List.mem_singleton.1 hx]
        exact ⟨nm_sz i, show 1 ≤ vs.length by omega, show vs.length ≤ 4 by omega⟩
  · rintro ⟨l, q⟩ ⟨a0, a1, a2, a3⟩
    simp only at a0 a1 a2 a3
    simp only [spec_goodDouble.l0]
    exact EvP.neg (by omega) (EvP.now ⟨a0, by simp only; omega, by simp only; omega, by simp only; omega⟩)
theorem goodP_of {l : List Y} (h : ∀ x ∈ l, (x.f0.size : Int) ≤ 1000 ∧ (x.f1.length : Int) ≤ 1000) (hl : (l.length : Int) ≤ 1000) : GoodP l := ⟨by omega, fun x hx => by have := h x hx; omega⟩
theorem rdY_mem {l : List Y} {i : Int} (h0 : 0 ≤ i) (h : i < (l.length : Int)) : rd_T60 l i ∈ l := by
  unfold rd_T60
  rw [List.getD_eq_getElem?_getD, List.getElem?_eq_getElem (by omega)]
  exact List.getElem_mem _
theorem set_good {l : List Y} (a0 : ∀ x ∈ l, fitR x) (a1 : l.length ≤ 4) (i : Nat) (y : Y) (h1 : (y.f0.size : Int) ≤ 1000) (h2 : (y.f1.length : Int) ≤ 1000) : GoodP (l.set i y) := by
  refine goodP_of (fun x hx => ?_) (by rw [List.length_set]; omega)
  rcases List.mem_or_eq_of_mem_set hx with hx | rfl
  · have := a0 x hx
    unfold fitR at this
    omega
  · exact ⟨h1, h2⟩
theorem spec_someDouble.ok (b : List Int) (p : Int) (hb : Bytes b) (h0 : 0 ≤ p) (h1 : p ≤ 9000) : EvP (fun k => spec_someDouble.f k b p) (fun r => GoodP r.1) := by
  unfold spec_someDouble.f
  refine EvP.bind (spec_goodDouble.ok b p hb h0 h1) ?_
  rintro ⟨l, q⟩ ⟨a0, a1, a2, a3⟩
  simp only at a0 a1 a2 a3
  have hg : GoodP l := goodP_of (fun x hx => by have := a0 x hx; unfold fitR at this; omega) (by omega)
  refine EvP.ite (fun e => ?_) (fun e => EvP.now hg)
  have e : (l.length : Int) > 0 := e
  refine EvP.bind (spec_reader_pick.ok b q _ hb a2 (by omega)) ?_
  rintro ⟨i, q1⟩ ⟨c0, c2, c1⟩
  simp only at c0 c1 c2
  subst c1
  have c3 : i < (l.length : Int) := c2 e
  have hx := a0 _ (rdY_mem c0 c3)
  unfold fitR at hx
  refine EvP.bind (spec_reader_pick.ok b (q + 1) 20 hb (by omega) (by omega)) ?_
  rintro ⟨j, q1⟩ ⟨_, _, c1⟩
  simp only at c1
  subst c1
  refine EvP.ite (fun _ => EvP.pos c0 (EvP.pos c3 (EvP.now (set_good a0 a1 _ _ (by simp only; omega) (by simp))))) (fun _ => ?_)
  refine EvP.ite (fun _ => ?_) (fun _ => ?_)
  · refine EvP.bind (spec_reader_of.ok b (q + 1 + 1) _ hb (by omega) (by omega) (by simp)) ?_
    rintro ⟨s, q1⟩ ⟨s0, _⟩
    refine EvP.pos c0 (EvP.pos c3 (EvP.now (set_good a0 a1 _ _ ?_ (by simp only; omega))))
    show (s.size : Int) ≤ 1000
    simp only [List.mem_cons, List.not_mem_nil, or_false] at s0
    clear a0 hg hx hb
    rcases s0 with rfl | rfl <;> decide
  · exact EvP.ite (fun _ => EvP.pos c0 (EvP.pos c3 (EvP.pos (by simp only; omega) (EvP.now (set_good a0 a1 _ _ (by simp only; omega) (by simp only [List.length_set]; omega)))))) (fun _ => EvP.now hg)
theorem dbl_take {l : List Y} (h : dblB l = true) (n : Nat) : dblB (l.take n) = true := by
  rw [dblB, Bool.and_eq_true, Bool.and_eq_true, decide_eq_true_iff] at h ⊢
  obtain ⟨d1, d2, d3⟩ := h
  refine ⟨List.all_eq_true.2 fun x hx => List.all_eq_true.1 d1 x (List.mem_of_mem_take hx), ?_, by rw [List.length_take]; omega⟩
  rw [apartB, decide_eq_true_iff] at d2 ⊢
  rw [List.map_take]
  exact d2.sublist (List.take_sublist _ _)
theorem main : laws_FnValidDouble.Pure := by
  intro l0 _ _ hw
  refine EvP.rounds ?_
  unfold laws_FnValidDouble.f
  refine EvP.ite (fun _ => EvP.now rfl) (fun _ => ?_)
  refine EvP.bind (P := fun r => GoodP r) ?_ ?_
  · unfold spec_DrawValidDouble.f
    refine EvP.bind (spec_newReader.ok l0 hw) ?_
    rintro ⟨b, p⟩ ⟨hb, hp⟩
    simp only at hb hp
    subst hp
    refine EvP.bind (spec_someDouble.ok b 0 hb (by omega) (by omega)) ?_
    rintro ⟨l, p⟩ h1
    exact EvP.now h1
  · intro l hg
    have hg1 := hg.1
    refine EvP.bind (impl_ValidDouble.ok l hg) ?_
    rintro _ rfl
    refine EvP.bind (spec_ValidDouble.ok l hg) ?_
    rintro _ rfl
    refine EvP.neg (by simp) (EvP.succ ?_)
    simp only [laws_FnValidDouble.j0]
    refine EvP.ite (fun _ => ?_) (fun hv => ?_)
    · refine EvP.bind (spec_ValidDouble.ok l hg) ?_
      rintro _ rfl
      exact EvP.now (by simp)
    have hv : dblB l = true := by simpa using hv
    refine EvP.ite (fun _ => EvP.now rfl) (fun hn => ?_)
    rw [wrap_id (by omega) (by omega)]
    refine EvP.pos (by omega) (EvP.pos (by omega) ?_)
    refine EvP.bind (impl_ValidDouble.ok _ ⟨by rw [List.length_take]; omega, fun x hx => hg.2 x (List.mem_of_mem_take hx)⟩) ?_
    rintro _ rfl
    exact EvP.now (dbl_take hv _)
end QFnValidDouble
theorem FnValidDouble : laws_FnValidDouble.Pure := QFnValidDouble.main
end Go.Proofs.Ytihmgjefndkfeaa.Pure

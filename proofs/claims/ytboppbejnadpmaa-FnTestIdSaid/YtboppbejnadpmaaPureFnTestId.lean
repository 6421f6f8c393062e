/- FnTestId answers true for every code: the program's TestId answers as the reference's does, and FindTest of the id of a test in a list of the test alone is its place. Conditions: those of the printed statement alone (bounds on sizes that every input meets). -/
import Derived.Test.YtboppbejnadpmaaOFnTestIdx6
import Derived.Test.YtboppbejnadpmaaBase
namespace Go.Proofs.Ytboppbejnadpmaa.Pure
open Go.RowKit Go.Proofs.Ytboppbejnadpmaa.OFnTestId Go.Proofs.YtboppbejnadpmaaW.PrintWords Go.Proofs.YtboppbejnadpmaaW.PrintLast Go.Proofs.YtboppbejnadpmaaW.PrintMore Go.Proofs.Ytboppbejnadpmaa.Base
set_option linter.unusedVariables false
set_option linter.unusedSimpArgs false
namespace QFnTestId
/-! #### the reader of draws -/
def Bytes (b : List Int) : Prop := b.length ≤ 2000 ∧ ∀ x ∈ b, 0 ≤ x ∧ x ≤ 255
theorem spec_newReader.ok (l0 : List Int) (h : ∀ x ∈ l0, (Lit.int .u8 x).wf = true) : EvP (fun _ => spec_newReader.f l0) (fun r => Bytes r.1 ∧ r.2 = 0) := by
  have hw : ∀ x ∈ l0, 0 ≤ x ∧ x ≤ 255 := by
    intro x hx
    have := h x hx
    simp [Lit.wf, IntKind.min, IntKind.max, IntKind.signed, IntKind.bits] at this
    omega
  unfold spec_newReader.f
  refine EvP.ite (fun h1 => EvP.pos (by omega) (EvP.now ⟨⟨?_, fun x hx => hw x (List.mem_of_mem_take hx)⟩, rfl⟩)) (fun h1 => EvP.now ⟨⟨by simp only; omega, hw⟩, rfl⟩)
  show (l0.take 2000).length ≤ 2000
  simp
  omega
theorem rd_mem {l : List Int} {i : Int} (h0 : 0 ≤ i) (h1 : i < (l.length : Int)) : rd l i ∈ l := by
  unfold rd
  rw [List.getD_eq_getElem?_getD, List.getElem?_eq_getElem (by omega)]
  exact List.getElem_mem _
theorem rdOf_mem {α : Type} (d : α) {l : List α} {i : Int} (h0 : 0 ≤ i) (h1 : i < (l.length : Int)) : rdOf d l i ∈ l := by
  unfold rdOf
  rw [List.getD_eq_getElem?_getD, List.getElem?_eq_getElem (by omega)]
  exact List.getElem_mem _
theorem xor_nonneg (a b : Int) (ha : 0 ≤ a) (ha1 : a < 9223372036854775808) (hb : 0 ≤ b) (hb1 : b < 9223372036854775808) : 0 ≤ Go.bits .xor .i64 a b := by
  obtain ⟨m, rfl⟩ := Int.eq_ofNat_of_zero_le ha
  obtain ⟨n, rfl⟩ := Int.eq_ofNat_of_zero_le hb
  have hx : m ^^^ n < 2 ^ 63 := Nat.xor_lt_two_pow (by omega) (by omega)
  have h1 : (BitVec.ofInt 64 (m : Int)).toNat = m := by
    rw [BitVec.ofInt_natCast, BitVec.toNat_ofNat]; exact Nat.mod_eq_of_lt (by omega)
  have h2 : (BitVec.ofInt 64 (n : Int)).toNat = n := by
    rw [BitVec.ofInt_natCast, BitVec.toNat_ofNat]; exact Nat.mod_eq_of_lt (by omega)
  show 0 ≤ IntKind.i64.wrap ((BitVec.ofInt 64 (m : Int) ^^^ BitVec.ofInt 64 (n : Int)).toNat : Int)
  rw [BitVec.toNat_xor, h1, h2, IntKind.wrap_i64]
  omega
theorem tmod_in (a n : Int) (ha : 0 ≤ a) (hn : 0 < n) : 0 ≤ Int.tmod a n ∧ Int.tmod a n < n := by
  rw [Int.tmod_eq_emod_of_nonneg ha]
  exact ⟨Int.emod_nonneg _ (by omega), Int.emod_lt_of_pos _ hn⟩
theorem tdiv_in (a n : Int) (ha : 0 ≤ a) (hn : 0 < n) : 0 ≤ Int.tdiv a n ∧ Int.tdiv a n ≤ a := by
  rw [Int.tdiv_eq_ediv_of_nonneg ha]
  exact ⟨Int.ediv_nonneg ha (by omega), Int.ediv_le_self _ ha⟩
theorem spec_reader_pick.ok (b : List Int) (p n : Int) (hb : Bytes b) (h0 : 0 ≤ p) (h1 : p ≤ 1000000) : EvP (fun k => spec_reader_pick.f k b p n) (fun r => 0 ≤ r.1 ∧ (0 < n → r.1 < n) ∧ r.2 = p + 1) := by
  have e1 : wrap64 (p + 1) = p + 1 := wrap_id (by omega) (by omega)
  have e2 : wrap64 (p + 1 - 1) = p := by rw [wrap_id (by omega) (by omega)]; omega
  have none' : EvP (fun k => spec_reader_pick.j0 k n true b (p + 1)) (fun r => 0 ≤ r.1 ∧ (0 < n → r.1 < n) ∧ r.2 = p + 1) := by
    refine EvP.succ ?_
    simp only [spec_reader_pick.j0]
    exact EvP.pos (by simp) (EvP.now ⟨by simp, fun h => h, by simp⟩)
  unfold spec_reader_pick.f
  rw [e1]
  refine EvP.ite (fun _ => none') (fun hn => ?_)
  by_cases hl : b.length = 0
  · have : ((b.length : Int) == 0) = true := by simp [hl]
    rw [this]
    exact none'
  · have : ((b.length : Int) == 0) = false := by simp [hl]
    rw [this]
    have hr : ∀ i : Int, 0 ≤ i → i < (b.length : Int) → 0 ≤ rd b i ∧ rd b i ≤ 255 := fun i g0 g1 => hb.2 _ (rd_mem g0 g1)
    refine EvP.succ ?_
    simp only [spec_reader_pick.j0]
    refine EvP.neg (by simp) ?_
    simp only [e2]
    refine EvP.ite (fun hp => EvP.pos h0 (EvP.neg (by omega) (EvP.now ?_))) (fun hp => ?_)
    · have h := hr p h0 hp
      rw [wrap_id (by omega) (by omega)]
      have := tmod_in (rd b p) n h.1 (by omega)
      exact ⟨this.1, fun _ => this.2, by simp⟩
    · have w7 : wrap64 (p * 7) = p * 7 := wrap_id (by omega) (by omega)
      have w73 : wrap64 (p * 7 + 3) = p * 7 + 3 := wrap_id (by omega) (by omega)
      have w29 : wrap64 (p * 29) = p * 29 := wrap_id (by omega) (by omega)
      simp only [w7, w73, w29]
      have m1 := tmod_in p (b.length : Int) h0 (by omega)
      have m2 := tmod_in (p * 7 + 3) (b.length : Int) (by omega) (by omega)
      have d1 := tdiv_in p (b.length : Int) h0 (by omega)
      have r1 := hr _ m1.1 m1.2
      have r2 := hr _ m2.1 m2.2
      refine EvP.neg (by omega) (EvP.pos m1.1 (EvP.pos m1.2 (EvP.pos m2.1 (EvP.pos m2.2 (EvP.neg (by omega) (EvP.now ?_))))))
      generalize rd b (Int.tmod p (b.length : Int)) = u1 at *
      generalize rd b (Int.tmod (p * 7 + 3) (b.length : Int)) = u2 at *
      generalize Int.tdiv p (b.length : Int) = u3 at *
      have a1 : wrap64 u1 = u1 := wrap_id (by omega) (by omega)
      have a2 : wrap64 u2 = u2 := wrap_id (by omega) (by omega)
      have a3 : wrap64 u3 = u3 := wrap_id (by omega) (by omega)
      have a4 : wrap64 (u1 * 131) = u1 * 131 := wrap_id (by omega) (by omega)
      have a5 : wrap64 (u2 * 1117) = u2 * 1117 := wrap_id (by omega) (by omega)
      have a6 : wrap64 (u3 * 53) = u3 * 53 := wrap_id (by omega) (by omega)
      have a7 : wrap64 (u1 * 131 + u2 * 1117) = u1 * 131 + u2 * 1117 := wrap_id (by omega) (by omega)
      have a8 : wrap64 (u1 * 131 + u2 * 1117 + p * 29) = u1 * 131 + u2 * 1117 + p * 29 := wrap_id (by omega) (by omega)
      have a9 : wrap64 (u1 * 131 + u2 * 1117 + p * 29 + u3 * 53) = u1 * 131 + u2 * 1117 + p * 29 + u3 * 53 := wrap_id (by omega) (by omega)
      simp only [a1, a2, a3, a4, a5, a6, a7, a8, a9]
      have hE : 0 ≤ u1 * 131 + u2 * 1117 + p * 29 + u3 * 53 ∧ u1 * 131 + u2 * 1117 + p * 29 + u3 * 53 ≤ 1000000000 := by omega
      generalize u1 * 131 + u2 * 1117 + p * 29 + u3 * 53 = E at *
      have d2 := tdiv_in E 64 hE.1 (by omega)
      have a10 : wrap64 (Int.tdiv E 64) = Int.tdiv E 64 := wrap_id (by omega) (by omega)
      rw [a10]
      have := tmod_in (Go.bits .xor .i64 E (Int.tdiv E 64)) n (xor_nonneg _ _ hE.1 (by omega) d2.1 (by omega)) (by omega)
      exact ⟨this.1, fun _ => this.2, by simp⟩
theorem spec_reader_one.ok (b : List Int) (p : Int) (l : List Int) (hb : Bytes b) (h0 : 0 ≤ p) (h1 : p ≤ 1000000) (hl : 0 < l.length) : EvP (fun k => spec_reader_one.f k b p l) (fun r => r.1 ∈ l ∧ r.2 = p + 1) := by
  unfold spec_reader_one.f
  refine EvP.bind (spec_reader_pick.ok b p _ hb h0 h1) ?_
  rintro ⟨i, q⟩ ⟨g0, g1, rfl⟩
  have g2 := g1 (by omega)
  exact EvP.pos g0 (EvP.pos g2 (EvP.now ⟨rd_mem g0 g2, rfl⟩))
theorem spec_reader_of.ok (b : List Int) (p : Int) (l : List ByteArray) (hb : Bytes b) (h0 : 0 ≤ p) (h1 : p ≤ 1000000) (hl : 0 < l.length) : EvP (fun k => spec_reader_of.f k b p l) (fun r => r.1 ∈ l ∧ r.2 = p + 1) := by
  unfold spec_reader_of.f
  refine EvP.bind (spec_reader_pick.ok b p _ hb h0 h1) ?_
  rintro ⟨i, q⟩ ⟨g0, g1, rfl⟩
  have g2 := g1 (by omega)
  exact EvP.pos g0 (EvP.pos g2 (EvP.now ⟨rdOf_mem _ g0 g2, rfl⟩))
/-- Is a text in a list? -/
def hasT (l : List ByteArray) (s : ByteArray) : Bool := l.any fun y => decide (y.toList = s.toList)
theorem hasT_cons (y : ByteArray) (l : List ByteArray) (s : ByteArray) : hasT (y :: l) s = (decide (y.toList = s.toList) || hasT l s) := rfl
theorem hasT_append (a b : List ByteArray) (s : ByteArray) : hasT (a ++ b) s = (hasT a s || hasT b s) := by simp [hasT, List.any_append]
theorem hasT_iff (l : List ByteArray) (s : ByteArray) : hasT l s = true ↔ ∃ y ∈ l, y.toList = s.toList := by simp [hasT]
theorem spec_hasText.ok (l : List ByteArray) (s : ByteArray) (h : (l.length : Int) ≤ 9223372036854775807) : EvP (fun k => spec_hasText.f k l s) (· = hasT l s) := by
  unfold spec_hasText.f
  refine EvP.range (L := fun k (_ : Unit) i => spec_hasText.l0 k l s i) (xs := l) (Inv := fun pre _ => hasT pre s = false) ?_ ?_ () rfl
  · rintro pre x rest _ hx hi ih
    have hl := len_at hx
    have hr : rdOf ByteArray.empty l (pre.length : Int) = x := getD_at hx _
    simp only [spec_hasText.l0, hr, wrap_at hx h]
    refine EvP.pos hl (EvP.pos (nat_nonneg _) ?_)
    refine EvP.ite (fun e => EvP.now ?_) (fun e => ih () ?_)
    · rw [hx, hasT_append, hasT_cons, e]
      simp
    · rw [hasT_append, hasT_cons, hi]
      simp [e, hasT]
  · rintro _ hi
    simp only [spec_hasText.l0]
    exact EvP.neg (by omega) (EvP.now hi.symm)
theorem spec_addText.ok (l : List ByteArray) (x : ByteArray) (h : (l.length : Int) < 8796093022208) : EvP (fun k => spec_addText.f k l x) (· = if hasT l x = true then l else l ++ [x]) := by
  unfold spec_addText.f
  refine EvP.bind (spec_hasText.ok l x (by omega)) ?_
  rintro _ rfl
  exact EvP.ite (fun e => EvP.now (by rw [if_pos e])) (fun e => EvP.pos (by omega) (EvP.now (by rw [if_neg e])))
/-! #### names -/
def azB (s : ByteArray) : Bool := decide (∀ j : Nat, j < s.size → 97 ≤ bt s (j : Int) ∧ bt s (j : Int) ≤ 122)
def wordB (s : ByteArray) : Bool := decide (s.toList ≠ [97, 110, 100]) && (decide (s.toList ≠ [111, 114]) && decide (s.toList ≠ [110, 111, 116]))
def nameB (s : ByteArray) : Bool := azB s && (decide (1 ≤ s.size ∧ s.size ≤ 6) && wordB s)
theorem azB_no {s : ByteArray} {i : Nat} (hi : i < s.size) (h : ¬ (97 ≤ bt s (i : Int) ∧ bt s (i : Int) ≤ 122)) : nameB s = false := by
  have : azB s = false := by
    rw [azB, decide_eq_false_iff_not]
    exact fun g => h (g i hi)
  rw [nameB, this]
  rfl
theorem azB_yes {s : ByteArray} (h : ∀ j : Nat, j < s.size → 97 ≤ bt s (j : Int) ∧ bt s (j : Int) ≤ 122) : azB s = true := by
  rw [azB, decide_eq_true_iff]
  exact h
theorem words_ok (s : ByteArray) : EvP (fun _ => if s.toList = ([97, 110, 100] : List UInt8) then (some false) else (if s.toList = ([111, 114] : List UInt8) then (some false) else (some (s.toList != ([110, 111, 116] : List UInt8))))) (· = wordB s) := by
  unfold wordB
  refine EvP.ite (fun h => EvP.now (by simp [h])) (fun h => EvP.ite (fun h2 => EvP.now (by simp [h2])) (fun h2 => EvP.now ?_))
  simp [h, h2, bne]
  rw [Bool.eq_iff_iff]
  simp
/-! #### different texts -/
def apartB (l : List ByteArray) : Bool := decide (l.Pairwise fun a b => a.toList ≠ b.toList)
theorem apartB_no {l pre rest : List ByteArray} {x : ByteArray} (h : l = pre ++ x :: rest) (hx : hasT pre x = true) : apartB l = false := by
  rw [apartB, decide_eq_false_iff_not, h]
  intro g
  obtain ⟨y, hy, e⟩ := (hasT_iff pre x).1 hx
  exact (List.pairwise_append.1 g).2.2 y hy x (by simp) e
theorem apartB_yes {pre : List ByteArray} {x : ByteArray} (h : apartB pre = true) (hx : hasT pre x = false) : apartB (pre ++ [x]) = true := by
  rw [apartB, decide_eq_true_iff] at h ⊢
  refine List.pairwise_append.2 ⟨h, by simp, fun a ha b hb => ?_⟩
  rw [List.mem_singleton.1 hb]
  intro e
  have : hasT pre x = true := (hasT_iff pre x).2 ⟨a, ha, e⟩
  rw [hx] at this
  cases this
theorem apartB_nil : apartB [] = true := rfl
def namesB (l : List ByteArray) (most : Int) : Bool := l.all nameB && (apartB l && decide ((l.length : Int) ≤ most))
theorem all_no {α : Type} {p : α → Bool} {l pre rest : List α} {x : α} (h : l = pre ++ x :: rest) (hx : p x = false) : l.all p = false := by
  rw [h, List.all_append, List.all_cons, hx]
  simp
theorem all_yes {α : Type} {p : α → Bool} {pre : List α} {x : α} (h : pre.all p = true) (hx : p x = true) : (pre ++ [x]).all p = true := by
  rw [List.all_append, h, List.all_cons, hx]
  rfl
theorem take_at {α : Type} {l pre rest : List α} {x : α} (h : l = pre ++ x :: rest) : l.take (pre.length : Int).toNat = pre := by
  rw [h]
  simp
def Small (l : List ByteArray) : Prop := (l.length : Int) ≤ 4398046511104 ∧ ∀ x ∈ l, (x.size : Int) ≤ 4398046511104
/-! #### tests -/
def txt (l : List ByteArray) (j : Nat) : List UInt8 := (rdOf ByteArray.empty l (j : Int)).toList
def ascB (l : List ByteArray) : Bool := decide (∀ j : Nat, j < l.length - 1 → Op.bytesLess (txt l j) (txt l (j + 1)) = true)
def sortB (l : List ByteArray) : Bool := decide (∀ j : Nat, j < l.length - 1 → Op.bytesLess (txt l (j + 1)) (txt l j) = false)
theorem txt_ne {l : List ByteArray} (h : apartB l = true) (j : Nat) (hj : j < l.length - 1) : txt l j ≠ txt l (j + 1) := by
  rw [apartB, decide_eq_true_iff] at h
  have := List.pairwise_iff_getElem.1 h j (j + 1) (by omega) (by omega) (by omega)
  have e1 : txt l j = l[j].toList := by
    unfold txt rdOf
    rw [Int.toNat_natCast, List.getD_eq_getElem?_getD, List.getElem?_eq_getElem (by omega)]
    rfl
  have e2 : txt l (j + 1) = l[j + 1].toList := by
    unfold txt rdOf
    rw [Int.toNat_natCast, List.getD_eq_getElem?_getD, List.getElem?_eq_getElem (by omega)]
    rfl
  rw [e1, e2]
  exact this
theorem sort_asc {l : List ByteArray} (h : apartB l = true) : sortB l = ascB l := by
  unfold sortB ascB
  rw [Bool.eq_iff_iff, decide_eq_true_iff, decide_eq_true_iff]
  constructor
  · intro g j hj
    have t := bytes_total (txt l j) (txt l (j + 1))
    rw [g j hj] at t
    have e : (txt l j == txt l (j + 1)) = false := by simpa using txt_ne h j hj
    rw [e, Bool.or_false] at t
    exact t
  · intro g j hj
    have t := bytes_total (txt l j) (txt l (j + 1))
    rw [g j hj] at t
    simpa using t.symm
def testB (m n : ByteArray) (marks needs : List ByteArray) : Bool := nameB m && (nameB n && (namesB marks 3 && (ascB marks && namesB needs 4)))
def idT (m n : ByteArray) : ByteArray := (m ++ (⟨#[46]⟩ : ByteArray)) ++ n
def tB (x : S31) : Bool := testB x.f0 x.f1 x.f2 x.f3
def idS (x : S31) : ByteArray := idT x.f0 x.f1
def testsB (l : List S31) : Bool := l.all tB && (apartB (l.map idS) && decide ((l.length : Int) ≤ 10))
/-- Sizes that no machine sum passes. -/
def GoodT (l : List S31) : Prop := (l.length : Int) ≤ 4398046511104 ∧ ∀ x ∈ l, (x.f0.size : Int) ≤ 4398046511104 ∧ (x.f1.size : Int) ≤ 4398046511104 ∧ Small x.f2 ∧ Small x.f3
theorem spec_inRange.ok (a b c : Int) : EvP (fun _ => spec_inRange.f a b c) (· = decide (b ≤ a ∧ a ≤ c)) := by
  unfold spec_inRange.f
  exact EvP.ite (fun h => EvP.now (by simp [h])) (fun h => EvP.now (by simp [h]))
theorem spec_validName.ok (s : ByteArray) (h : (s.size : Int) ≤ 9223372036854775807) : EvP (fun k => spec_validName.f k s) (· = nameB s) := by
  unfold spec_validName.f
  refine EvP.upto (L := fun k (_ : Unit) i => spec_validName.l0 k s i) (n := s.size) (Inv := fun i _ => ∀ j : Nat, j < i → 97 ≤ bt s (j : Int) ∧ bt s (j : Int) ≤ 122) ?_ ?_ () (fun j hj => by omega)
  · rintro i _ hi hv ih
    simp only [spec_validName.l0]
    refine EvP.pos (by omega) (EvP.pos (by omega) ?_)
    refine EvP.ite (fun e => EvP.now (azB_no hi (by omega)).symm) (fun e => EvP.ite (fun e2 => EvP.now (azB_no hi (by omega)).symm) (fun e2 => ?_))
    rw [wrap_id (by omega) (by omega)]
    refine ih () (fun j hj => ?_)
    rcases Nat.lt_succ_iff_lt_or_eq.1 hj with hj | rfl
    · exact hv j hj
    · omega
  · rintro _ hv
    simp only [spec_validName.l0]
    have ha := azB_yes hv
    refine EvP.neg (by omega) ?_
    refine EvP.bind (spec_inRange.ok _ _ _) ?_
    rintro _ rfl
    refine EvP.ite (fun e => ?_) (fun e => EvP.now ?_)
    · have e' := of_decide_eq_true e
      refine (words_ok s).mono ?_
      rintro _ rfl
      rw [nameB, ha, decide_eq_true (show 1 ≤ s.size ∧ s.size ≤ 6 by omega)]
      rfl
    · have e' : ¬ (1 ≤ (s.size : Int) ∧ (s.size : Int) ≤ 6) := fun g => e (decide_eq_true g)
      rw [nameB, decide_eq_false (show ¬ (1 ≤ s.size ∧ s.size ≤ 6) by omega)]
      simp
theorem spec_validNames.ok (l : List ByteArray) (most : Int) (h : Small l) : EvP (fun k => spec_validNames.f k l most) (· = namesB l most) := by
  have h1 := h.1
  unfold spec_validNames.f
  refine EvP.range (L := fun k (_ : Unit) i => spec_validNames.l0 k l most i) (xs := l) (Inv := fun pre _ => pre.all nameB = true ∧ apartB pre = true) ?_ ?_ () ⟨rfl, rfl⟩
  · rintro pre x rest _ hx ⟨hi, ha⟩ ih
    have hl := len_at hx
    have hr : rdOf ByteArray.empty l (pre.length : Int) = x := getD_at hx _
    have hg := h.2 x (by rw [hx]; simp)
    simp only [spec_validNames.l0, hr, wrap_at hx (show (l.length : Int) ≤ 9223372036854775807 by omega)]
    refine EvP.pos hl (EvP.pos (nat_nonneg _) ?_)
    refine EvP.bind (spec_validName.ok x (by omega)) ?_
    rintro _ rfl
    refine EvP.ite (fun e => EvP.pos (by omega) ?_) (fun e => EvP.now (by rw [namesB, all_no hx (by simpa using e)]; rfl))
    rw [take_at hx]
    refine EvP.bind (spec_hasText.ok pre x (by omega)) ?_
    rintro _ rfl
    exact EvP.ite (fun e2 => EvP.now (by rw [namesB, apartB_no hx e2]; simp)) (fun e2 => ih () ⟨all_yes hi e, apartB_yes ha (by simpa using e2)⟩)
  · rintro _ ⟨hi, ha⟩
    simp only [spec_validNames.l0]
    exact EvP.neg (by omega) (EvP.now (by rw [namesB, hi, ha]; rfl))
theorem spec_ascending.ok (l : List ByteArray) (h : (l.length : Int) ≤ 4398046511104) : EvP (fun k => spec_ascending.f k l) (· = ascB l) := by
  unfold spec_ascending.f
  have main : ∀ (d i : Nat), l.length - i = d → 1 ≤ i → (∀ j : Nat, j + 1 < i → j < l.length - 1 → Op.bytesLess (txt l j) (txt l (j + 1)) = true) → EvP (fun k => spec_ascending.l0 k l (i : Int)) (· = ascB l) := by
    intro d
    induction d with
    | zero =>
      intro i hd hi hv
      refine EvP.succ ?_
      simp only [spec_ascending.l0]
      refine EvP.neg (by omega) (EvP.now ?_)
      symm
      rw [ascB, decide_eq_true_iff]
      exact fun j hj => hv j (by omega) hj
    | succ d ih =>
      intro i hd hi hv
      refine EvP.succ ?_
      have hc : ((i : Int) - 1) = ((i - 1 : Nat) : Int) := by omega
      have him : i = (i - 1) + 1 := by omega
      simp only [spec_ascending.l0]
      rw [wrap_id (x := (i : Int) - 1) (by omega) (by omega), wrap_id (x := (i : Int) + 1) (by omega) (by omega), show ((i : Int) + 1) = ((i + 1 : Nat) : Int) by omega]
      refine EvP.pos (by omega) (EvP.pos (by omega) (EvP.pos (by omega) (EvP.pos (by omega) ?_)))
      refine EvP.ite (fun e => ih (i + 1) (by omega) (by omega) (fun j h1 h2 => ?_)) (fun e => EvP.now ?_)
      · by_cases hj : j = i - 1
        · subst hj
          rw [← him, txt, txt, ← hc]
          exact e
        · exact hv j (by omega) h2
      · symm
        rw [ascB, decide_eq_false_iff_not]
        intro g
        have := g (i - 1) (by omega)
        rw [← him, txt, txt, ← hc] at this
        exact e this
  exact main _ 1 rfl (by omega) (fun j h1 h2 => by omega)
theorem spec_validTest.ok (m n : ByteArray) (marks needs : List ByteArray) (hm : (m.size : Int) ≤ 4398046511104) (hn : (n.size : Int) ≤ 4398046511104) (h2 : Small marks) (h3 : Small needs) : EvP (fun k => spec_validTest.f k m n marks needs) (· = testB m n marks needs) := by
  unfold spec_validTest.f
  refine EvP.bind (spec_validName.ok m (by omega)) ?_
  rintro _ rfl
  refine EvP.ite (fun e1 => ?_) (fun e1 => EvP.now (by rw [testB, show nameB m = false by simpa using e1]; rfl))
  refine EvP.bind (spec_validName.ok n (by omega)) ?_
  rintro _ rfl
  refine EvP.ite (fun e2 => ?_) (fun e2 => EvP.now (by rw [testB, show nameB n = false by simpa using e2]; simp))
  refine EvP.bind (spec_validNames.ok marks 3 h2) ?_
  rintro _ rfl
  refine EvP.ite (fun e3 => ?_) (fun e3 => EvP.now (by rw [testB, show namesB marks 3 = false by simpa using e3]; simp))
  refine EvP.bind (spec_ascending.ok marks h2.1) ?_
  rintro _ rfl
  refine EvP.ite (fun e4 => ?_) (fun e4 => EvP.now (by rw [testB, show ascB marks = false by simpa using e4]; simp))
  refine EvP.bind (spec_validNames.ok needs 4 h3) ?_
  rintro _ rfl
  exact EvP.now (by rw [testB, e1, e2, e3, e4]; rfl)
theorem spec_idOf.ok (m n : ByteArray) (marks needs : List ByteArray) (hm : (m.size : Int) ≤ 4398046511104) (hn : (n.size : Int) ≤ 4398046511104) : EvP (fun _ => spec_idOf.f m n marks needs) (· = idT m n) := by
  have h1 : (m ++ (⟨#[46]⟩ : ByteArray)).size = m.size + 1 := by rw [ByteArray.size_append]; rfl
  unfold spec_idOf.f
  exact EvP.pos (by omega) (EvP.pos (by omega) (EvP.now rfl))
theorem spec_findTest.ok (l : List S31) (s : ByteArray) (h : GoodT l) : EvP (fun k => spec_findTest.f k l s) (fun r => decide (r ≥ 0) = hasT (l.map idS) s) := by
  have h1 := h.1
  unfold spec_findTest.f
  refine EvP.range (L := fun k (_ : Unit) i => spec_findTest.l0 k l s i) (xs := l) (Inv := fun pre _ => hasT (pre.map idS) s = false) ?_ ?_ () rfl
  · rintro pre x rest _ hx hi ih
    have hl := len_at hx
    have hr : rd_T31 l (pre.length : Int) = x := getD_at hx _
    have hg := h.2 x (by rw [hx]; simp)
    simp only [spec_findTest.l0, hr, wrap_at hx (show (l.length : Int) ≤ 9223372036854775807 by omega)]
    refine EvP.pos hl (EvP.pos (nat_nonneg _) ?_)
    refine EvP.bind (spec_idOf.ok x.f0 x.f1 x.f2 x.f3 hg.1 hg.2.1) ?_
    rintro _ rfl
    refine EvP.ite (fun e => EvP.now ?_) (fun e => ih () ?_)
    · rw [hx, List.map_append, List.map_cons, hasT_append, hasT_cons, show (idS x).toList = s.toList from e]
      simp
    · rw [List.map_append, hasT_append, hi]
      simp [idS, e, hasT]
  · rintro _ hi
    simp only [spec_findTest.l0]
    exact EvP.neg (by omega) (EvP.now (by rw [hi]; rfl))
/-! #### drawn tests -/
def TxtOk (l : List ByteArray) : Prop := l.length ≤ 10 ∧ ∀ x ∈ l, x.size ≤ 10
def TOk (x : S31) : Prop := x.f0.size ≤ 10 ∧ x.f1.size ≤ 10 ∧ TxtOk x.f2 ∧ TxtOk x.f3
theorem txt_small {l : List ByteArray} (h : TxtOk l) : Small l := ⟨by have := h.1; omega, fun x hx => by have := h.2 x hx; omega⟩
theorem txt_nil : TxtOk [] := ⟨by simp, by simp⟩
theorem tests_good {l : List S31} (hl : l.length ≤ 1000) (h : ∀ x ∈ l, TOk x) : GoodT l :=
  ⟨by omega, fun x hx => ⟨by have := (h x hx).1; omega, by have := (h x hx).2.1; omega, txt_small (h x hx).2.2.1, txt_small (h x hx).2.2.2⟩⟩
theorem in_size {l : List ByteArray} (h : (l.all fun x => decide (x.size ≤ 10)) = true) {x : ByteArray} (hx : x ∈ l) : x.size ≤ 10 := of_decide_eq_true (List.all_eq_true.1 h x hx)
theorem of_mem {l : List Int} {b : Int} (h : (l.all fun x => decide (0 ≤ x ∧ x ≤ b)) = true) {x : Int} (hx : x ∈ l) : 0 ≤ x ∧ x ≤ b := of_decide_eq_true (List.all_eq_true.1 h x hx)
theorem ins_len (s : List ByteArray) (x : ByteArray) (j : Nat) (h : j ≤ s.length) : ((s.take j ++ [x]) ++ s.drop j).length = s.length + 1 := by
  simp only [List.length_append, List.length_take, List.length_drop, List.length_singleton]
  omega
theorem ins_mem {s l : List ByteArray} {x : ByteArray} (h : ∀ y ∈ s, y ∈ l) (hx : x ∈ l) (j : Nat) : ∀ y ∈ (s.take j ++ [x]) ++ s.drop j, y ∈ l := by
  intro y hy
  rcases List.mem_append.1 hy with hy | hy
  · rcases List.mem_append.1 hy with hy | hy
    · exact h y (List.mem_of_mem_take hy)
    · rw [List.mem_singleton.1 hy]; exact hx
  · exact h y (List.mem_of_mem_drop hy)
theorem spec_sortedTexts.ok (l : List ByteArray) (h : l.length ≤ 1000) : EvP (fun k => spec_sortedTexts.f k l) (fun r => r.length ≤ l.length ∧ ∀ x ∈ r, x ∈ l) := by
  unfold spec_sortedTexts.f
  refine EvP.range (L := fun k s i => spec_sortedTexts.l0 k l s i) (xs := l) (Inv := fun pre s => s.length ≤ pre.length ∧ ∀ x ∈ s, x ∈ l) ?_ ?_ [] ⟨by simp, by simp⟩
  · rintro pre x rest s hx ⟨h1, h2⟩ ih
    have hl := len_at hx
    have hr : rdOf ByteArray.empty l (pre.length : Int) = x := getD_at hx _
    have hxl : x ∈ l := by rw [hx]; simp
    have hw := wrap_at hx (show (l.length : Int) ≤ 9223372036854775807 by omega)
    have hp1 : (pre ++ [x]).length = pre.length + 1 := by simp
    have put : ∀ j : Nat, j ≤ s.length → EvP (fun k => spec_sortedTexts.l0 k l ((s.take j ++ [x]) ++ s.drop j) ((pre ++ [x]).length : Int)) (fun r => r.length ≤ l.length ∧ ∀ x ∈ r, x ∈ l) :=
      fun j hj => ih _ ⟨by rw [ins_len s x j hj, hp1]; omega, ins_mem h2 hxl j⟩
    have ht : ∀ j : Nat, j ≤ s.length → (s.take j).length = j := fun j hj => by rw [List.length_take]; omega
    simp only [spec_sortedTexts.l0]
    refine EvP.pos hl ?_
    refine EvP.upto (L := fun k (_ : Unit) j => spec_sortedTexts.l1 k l s (pre.length : Int) j) (n := s.length) (Inv := fun _ _ => True) ?_ ?_ () trivial
    · intro j _ hj _ ih2
      simp only [spec_sortedTexts.l1, hr, hw]
      refine EvP.pos (by omega) (EvP.pos (by omega) (EvP.pos (by omega) (EvP.pos hl ?_)))
      refine EvP.ite (fun _ => ?_) (fun _ => ?_)
      · rw [wrap_id (by omega) (by omega)]
        exact ih2 () trivial
      · refine EvP.neg (by omega) ?_
        refine EvP.ite (fun _ => ih s ⟨by rw [hp1]; omega, h2⟩) (fun _ => ?_)
        refine EvP.bind (P := (· = [])) (EvP.now rfl) ?_
        rintro _ rfl
        refine EvP.pos (by omega) ?_
        refine EvP.bind (P := (· = s.take j)) (EvP.now rfl) ?_
        rintro _ rfl
        refine EvP.pos (by rw [List.length_nil, ht j (by omega)]; omega) ?_
        refine EvP.bind (P := (· = s.take j)) (EvP.now (List.nil_append _)) ?_
        rintro _ rfl
        refine EvP.bind (P := (· = [x])) (EvP.now rfl) ?_
        rintro _ rfl
        refine EvP.pos (by rw [List.length_singleton, ht j (by omega)]; omega) ?_
        refine EvP.bind (P := (· = s.take j ++ [x])) (EvP.now rfl) ?_
        rintro _ rfl
        refine EvP.bind (P := (· = s.drop j)) (EvP.now rfl) ?_
        rintro _ rfl
        refine EvP.pos (by rw [List.length_append, List.length_singleton, List.length_drop, ht j (by omega)]; omega) ?_
        exact put j (by omega)
    · intro _ _
      simp only [spec_sortedTexts.l1, hr, hw]
      refine EvP.neg (by omega) (EvP.pos trivial ?_)
      refine EvP.bind (P := (· = [])) (EvP.now rfl) ?_
      rintro _ rfl
      refine EvP.pos (by omega) (EvP.pos (by omega) ?_)
      refine EvP.bind (P := (· = s.take s.length)) (EvP.now rfl) ?_
      rintro _ rfl
      refine EvP.pos (by rw [List.length_nil, ht _ (Nat.le_refl _)]; omega) ?_
      refine EvP.bind (P := (· = s.take s.length)) (EvP.now (List.nil_append _)) ?_
      rintro _ rfl
      refine EvP.pos (by omega) (EvP.pos hl ?_)
      refine EvP.bind (P := (· = [x])) (EvP.now rfl) ?_
      rintro _ rfl
      refine EvP.pos (by rw [List.length_singleton, ht _ (Nat.le_refl _)]; omega) ?_
      refine EvP.bind (P := (· = s.take s.length ++ [x])) (EvP.now rfl) ?_
      rintro _ rfl
      refine EvP.bind (P := (· = s.drop s.length)) (EvP.now rfl) ?_
      rintro _ rfl
      refine EvP.pos (by rw [List.length_append, List.length_singleton, List.length_drop, ht _ (Nat.le_refl _)]; omega) ?_
      exact put s.length (Nat.le_refl _)
  · rintro s ⟨h1, h2⟩
    simp only [spec_sortedTexts.l0]
    exact EvP.neg (by omega) (EvP.now ⟨h1, h2⟩)
theorem spec_someMarks.ok (b : List Int) (p : Int) (hb : Bytes b) (h0 : 0 ≤ p) (h1 : p ≤ 10000) : EvP (fun k => spec_someMarks.f k b p) (fun r => TxtOk r.1 ∧ 0 ≤ r.2 ∧ r.2 ≤ p + 4) := by
  unfold spec_someMarks.f
  refine EvP.bind (spec_reader_one.ok b p _ hb h0 (by omega) (by simp)) ?_
  rintro ⟨n, q⟩ ⟨g0, g2⟩
  simp only at g0 g2
  subst g2
  have g1 := of_mem (b := 3) (by decide +kernel) g0
  refine EvP.down (L := fun k (s : List ByteArray × Int) i => spec_someMarks.l0 k s.1 i b s.2) (Inv := fun i s => 0 ≤ i ∧ (s.1.length : Int) + i ≤ 3 ∧ (∀ x ∈ s.1, x.size ≤ 10) ∧ 0 ≤ s.2 ∧ s.2 + i ≤ p + 4) ?_ ?_ n ([], p + 1) ⟨g1.1, by simp only [List.length_nil]; omega, by simp, by simp only; omega, by simp only; omega⟩
  · rintro i ⟨l, q⟩ hi ⟨a0, a1, a2, a3, a4⟩ ih
    simp only at a1 a2 a3 a4
    simp only [spec_someMarks.l0]
    refine EvP.pos hi ?_
    refine EvP.bind (spec_reader_of.ok b q _ hb a3 (by omega) (by simp)) ?_
    rintro ⟨v, q2⟩ ⟨v0, v1⟩
    simp only at v0 v1
    subst v1
    refine EvP.pos (by omega) ?_
    rw [wrap_id (by omega) (by omega)]
    refine ih (l ++ [v], q + 1) ⟨by omega, by simp only [List.length_append, List.length_singleton]; omega, ?_, by simp only; omega, by simp only; omega⟩
    intro x hx
    rcases List.mem_append.1 hx with hx | hx
    · exact a2 x hx
    · rw [List.mem_singleton.1 hx]
      exact in_size (by decide +kernel) v0
  · rintro i ⟨l, q⟩ hi ⟨a0, a1, a2, a3, a4⟩
    simp only at a1 a2 a3 a4
    simp only [spec_someMarks.l0]
    refine EvP.neg (by omega) ?_
    refine EvP.bind (spec_sortedTexts.ok l (by omega)) ?_
    rintro r ⟨r1, r2⟩
    exact EvP.now ⟨⟨by simp only; omega, fun x hx => a2 x (r2 x hx)⟩, a3, by simp only; omega⟩
theorem spec_someNeeds.ok (b : List Int) (p : Int) (m : List ByteArray) (hb : Bytes b) (h0 : 0 ≤ p) (h1 : p ≤ 10000) (hm : TxtOk m) : EvP (fun k => spec_someNeeds.f k b p m) (fun r => TxtOk r.1 ∧ 0 ≤ r.2 ∧ r.2 ≤ p + 4) := by
  unfold spec_someNeeds.f
  refine EvP.bind (P := (· = [])) (EvP.now rfl) ?_
  rintro _ rfl
  refine EvP.ite (fun _ => EvP.now ⟨txt_nil, h0, by simp only; omega⟩) (fun hz => ?_)
  refine EvP.bind (spec_reader_one.ok b p _ hb h0 (by omega) (by simp)) ?_
  rintro ⟨n, q⟩ ⟨g0, g2⟩
  simp only at g0 g2
  subst g2
  have g1 := of_mem (b := 3) (by decide +kernel) g0
  refine EvP.down (L := fun k (s : List ByteArray × Int) i => spec_someNeeds.l0 k m s.1 i b s.2) (Inv := fun i s => 0 ≤ i ∧ (s.1.length : Int) + i ≤ 3 ∧ (∀ x ∈ s.1, x.size ≤ 10) ∧ 0 ≤ s.2 ∧ s.2 + i ≤ p + 4) ?_ ?_ n ([], p + 1) ⟨g1.1, by simp only [List.length_nil]; omega, by simp, by simp only; omega, by simp only; omega⟩
  · rintro i ⟨l, q⟩ hi ⟨a0, a1, a2, a3, a4⟩ ih
    simp only at a1 a2 a3 a4
    simp only [spec_someNeeds.l0]
    refine EvP.pos hi ?_
    refine EvP.bind (spec_reader_pick.ok b q _ hb a3 (by omega)) ?_
    rintro ⟨v, q2⟩ ⟨v0, v2, v1⟩
    simp only at v0 v1 v2
    subst v1
    have v3 := v2 (by omega)
    refine EvP.pos v0 (EvP.pos v3 ?_)
    refine EvP.bind (spec_addText.ok l _ (by omega)) ?_
    rintro _ rfl
    rw [wrap_id (by omega) (by omega)]
    have hs : (rdOf ByteArray.empty m v).size ≤ 10 := hm.2 _ (rdOf_mem _ v0 v3)
    split
    · exact ih (l, q + 1) ⟨by omega, by simp only; omega, a2, by simp only; omega, by simp only; omega⟩
    · refine ih (l ++ [_], q + 1) ⟨by omega, by simp only [List.length_append, List.length_singleton]; omega, ?_, by simp only; omega, by simp only; omega⟩
      intro x hx
      rcases List.mem_append.1 hx with hx | hx
      · exact a2 x hx
      · rw [List.mem_singleton.1 hx]
        exact hs
  · rintro i ⟨l, q⟩ hi ⟨a0, a1, a2, a3, a4⟩
    simp only at a1 a2 a3 a4
    simp only [spec_someNeeds.l0]
    exact EvP.neg (by omega) (EvP.now ⟨⟨by simp only; omega, a2⟩, a3, by simp only; omega⟩)
theorem spec_goodTests.ok (b : List Int) (p : Int) (m : List ByteArray) (hb : Bytes b) (h0 : 0 ≤ p) (h1 : p ≤ 1000) (hm : TxtOk m) : EvP (fun k => spec_goodTests.f k b p m) (fun r => r.1.length ≤ 10 ∧ (∀ x ∈ r.1, TOk x) ∧ 0 ≤ r.2 ∧ r.2 ≤ p + 101) := by
  unfold spec_goodTests.f
  refine EvP.bind (spec_reader_one.ok b p _ hb h0 (by omega) (by simp)) ?_
  rintro ⟨n, q⟩ ⟨g0, g2⟩
  simp only at g0 g2
  subst g2
  have g1 := of_mem (b := 10) (by decide +kernel) g0
  refine EvP.down (L := fun k (s : List S31 × Int) i => spec_goodTests.l0 k m s.1 i b s.2) (Inv := fun i s => 0 ≤ i ∧ (s.1.length : Int) + i ≤ 10 ∧ (∀ x ∈ s.1, TOk x) ∧ 0 ≤ s.2 ∧ s.2 + 10 * i ≤ p + 101) ?_ ?_ n ([], p + 1) ⟨g1.1, by simp only [List.length_nil]; omega, by simp, by simp only; omega, by simp only; omega⟩
  · rintro i ⟨l, q⟩ hi ⟨a0, a1, a2, a3, a4⟩ ih
    simp only at a1 a2 a3 a4
    simp only [spec_goodTests.l0]
    refine EvP.pos hi ?_
    refine EvP.bind (P := fun r => r.1.size ≤ 10 ∧ r.2 = q + 1) ?_ ?_
    · unfold spec_aModule.f
      refine EvP.bind (spec_reader_of.ok b q _ hb a3 (by omega) (by simp)) ?_
      rintro ⟨v, q2⟩ ⟨v0, v1⟩
      exact EvP.now ⟨in_size (by decide +kernel) v0, v1⟩
    rintro ⟨v, q2⟩ ⟨v0, v1⟩
    simp only at v0 v1
    subst v1
    refine EvP.bind (spec_reader_of.ok b (q + 1) _ hb (by omega) (by omega) (by simp)) ?_
    rintro ⟨w, q2⟩ ⟨w0, w1⟩
    simp only at w0 w1
    subst w1
    replace w0 : w.size ≤ 10 := in_size (by decide +kernel) w0
    refine EvP.bind (spec_someMarks.ok b (q + 1 + 1) hb (by omega) (by omega)) ?_
    rintro ⟨mk, q3⟩ ⟨m0, m1, m2⟩
    simp only at m0 m1 m2
    refine EvP.bind (spec_someNeeds.ok b q3 m hb m1 (by omega) hm) ?_
    rintro ⟨nd, q4⟩ ⟨n0, n1, n2⟩
    simp only at n0 n1 n2
    refine EvP.bind (spec_idOf.ok v w mk nd (by omega) (by omega)) ?_
    rintro _ rfl
    refine EvP.bind (spec_findTest.ok l _ (tests_good (by omega) a2)) ?_
    intro r _
    rw [wrap_id (by omega) (by omega)]
    refine EvP.ite (fun _ => EvP.pos (by omega) ?_) (fun _ => ih (l, q4) ⟨by omega, by simp only; omega, a2, by simp only; omega, by simp only; omega⟩)
    refine ih (l ++ [⟨v, w, mk, nd⟩], q4) ⟨by omega, by simp only [List.length_append, List.length_singleton]; omega, ?_, by simp only; omega, by simp only; omega⟩
    intro x hx
    rcases List.mem_append.1 hx with hx | hx
    · exact a2 x hx
    · rw [List.mem_singleton.1 hx]
      exact ⟨v0, w0, m0, n0⟩
  · rintro i ⟨l, q⟩ hi ⟨a0, a1, a2, a3, a4⟩
    simp only at a1 a2 a3 a4
    simp only [spec_goodTests.l0]
    exact EvP.neg (by omega) (EvP.now ⟨by simp only; omega, a2, a3, by simp only; omega⟩)
theorem rd_tok {l : List S31} (h : ∀ x ∈ l, TOk x) {i : Int} (h0 : 0 ≤ i) (h1 : i < (l.length : Int)) : TOk (rd_T31 l i) := by
  refine h _ ?_
  unfold rd_T31
  rw [List.getD_eq_getElem?_getD, List.getElem?_eq_getElem (by omega)]
  exact List.getElem_mem _
theorem set_tok {l : List S31} (h : ∀ x ∈ l, TOk x) {y : S31} (hy : TOk y) (n : Nat) : ∀ x ∈ l.set n y, TOk x := by
  intro x hx
  rcases List.mem_or_eq_of_mem_set hx with hx | rfl
  · exact h x hx
  · exact hy
theorem txt_of {l : List ByteArray} (h : (decide (l.length ≤ 10) && l.all fun x => decide (x.size ≤ 10)) = true) : TxtOk l := by
  rw [Bool.and_eq_true] at h
  exact ⟨of_decide_eq_true h.1, fun x hx => in_size h.2 hx⟩
theorem spec_someTests.ok (b : List Int) (p : Int) (hb : Bytes b) (h0 : 0 ≤ p) (h1 : p ≤ 100) : EvP (fun k => spec_someTests.f k b p) (fun r => r.1.length ≤ 11 ∧ (∀ x ∈ r.1, TOk x) ∧ 0 ≤ r.2 ∧ r.2 ≤ p + 110) := by
  unfold spec_someTests.f
  refine EvP.bind (spec_goodTests.ok b p _ hb h0 (by omega) (txt_of (by decide +kernel))) ?_
  rintro ⟨l, q⟩ ⟨a0, a1, a2, a3⟩
  simp only at a0 a1 a2 a3
  refine EvP.ite (fun hz => ?_) (fun _ => EvP.now ⟨by simp only; omega, a1, a2, by simp only; omega⟩)
  refine EvP.bind (spec_reader_pick.ok b q _ hb a2 (by omega)) ?_
  rintro ⟨i, q2⟩ ⟨i0, i2, i1⟩
  simp only at i0 i1 i2
  subst i1
  have i3 := i2 (by omega)
  have ht := rd_tok a1 i0 i3
  refine EvP.bind (spec_reader_pick.ok b (q + 1) 24 hb (by omega) (by omega)) ?_
  rintro ⟨c, q3⟩ ⟨_, _, c1⟩
  simp only at c1
  subst c1
  refine EvP.ite (fun _ => ?_) (fun _ => EvP.ite (fun _ => EvP.pos i0 (EvP.pos i3 (EvP.now ?_))) (fun _ => EvP.ite (fun _ => EvP.pos i0 (EvP.pos i3 (EvP.pos (by show l.length < 1759218604441; omega) (EvP.now ?_)))) (fun _ => EvP.ite (fun _ => EvP.pos i0 (EvP.pos i3 (EvP.now ?_))) (fun _ => EvP.now ⟨by simp only; omega, a1, by simp only; omega, by simp only; omega⟩))))
  · refine EvP.bind (spec_reader_of.ok b (q + 1 + 1) _ hb (by omega) (by omega) (by simp)) ?_
    rintro ⟨v, q4⟩ ⟨v0, v1⟩
    simp only at v0 v1
    subst v1
    replace v0 : v.size ≤ 10 := in_size (by decide +kernel) v0
    refine EvP.pos i0 (EvP.pos i3 (EvP.now ⟨?_, fun x hx => ?_, by simp only; omega, by simp only; omega⟩))
    · simp only [List.length_set]
      omega
    · rcases List.mem_or_eq_of_mem_set hx with hx | rfl
      · exact a1 x hx
      · exact ⟨ht.1, v0, ht.2.2⟩
  · refine ⟨?_, fun x hx => ?_, by simp only; omega, by simp only; omega⟩
    · simp only [List.length_set]
      omega
    · rcases List.mem_or_eq_of_mem_set hx with hx | rfl
      · exact a1 x hx
      · exact ⟨ht.1, ht.2.1, txt_of (by rfl), ht.2.2.2⟩
  · refine ⟨?_, ?_, by simp only; omega, by simp only; omega⟩
    · simp only [List.length_append, List.length_singleton]
      omega
    · intro x hx
      rcases List.mem_append.1 hx with hx | hx
      · exact a1 x hx
      · rw [List.mem_singleton.1 hx]
        exact ht
  · refine ⟨?_, fun x hx => ?_, by simp only; omega, by simp only; omega⟩
    · simp only [List.length_set]
      omega
    · rcases List.mem_or_eq_of_mem_set hx with hx | rfl
      · exact a1 x hx
      · exact ⟨ht.1, ht.2.1, ht.2.2.1, txt_of (by rfl)⟩
theorem impl_nameOk.ok (s : ByteArray) (h : (s.size : Int) ≤ 9223372036854775807) : EvP (fun k => impl_nameOk.f k s) (· = nameB s) := by
  unfold impl_nameOk.f
  refine EvP.upto (L := fun k (_ : Unit) i => impl_nameOk.l0 k s (s.size : Int) i) (n := s.size) (Inv := fun i _ => ∀ j : Nat, j < i → 97 ≤ bt s (j : Int) ∧ bt s (j : Int) ≤ 122) ?_ ?_ () (fun j hj => by omega)
  · rintro i _ hi hv ih
    simp only [impl_nameOk.l0]
    refine EvP.pos (by omega) (EvP.pos (by omega) (EvP.pos (by omega) ?_))
    refine EvP.ite (fun e => EvP.now (azB_no hi (by omega)).symm) (fun e => EvP.ite (fun e2 => EvP.now (azB_no hi (by omega)).symm) (fun e2 => ?_))
    rw [wrap_id (by omega) (by omega)]
    refine ih () (fun j hj => ?_)
    rcases Nat.lt_succ_iff_lt_or_eq.1 hj with hj | rfl
    · exact hv j hj
    · omega
  · rintro _ hv
    simp only [impl_nameOk.l0]
    have ha := azB_yes hv
    refine EvP.neg (by omega) (EvP.ite (fun e => EvP.ite (fun e2 => ?_) (fun e2 => EvP.now ?_)) (fun e => EvP.now ?_))
    · refine (words_ok s).mono ?_
      rintro _ rfl
      rw [nameB, ha, decide_eq_true (show 1 ≤ s.size ∧ s.size ≤ 6 by omega)]
      rfl
    · rw [nameB, decide_eq_false (show ¬ (1 ≤ s.size ∧ s.size ≤ 6) by omega)]
      simp
    · rw [nameB, decide_eq_false (show ¬ (1 ≤ s.size ∧ s.size ≤ 6) by omega)]
      simp
theorem slices_Index_string_string.ok (l : List ByteArray) (s : ByteArray) (h : (l.length : Int) ≤ 9223372036854775807) : EvP (fun k => slices_Index_string_string.f k l s) (fun r => decide (r ≥ 0) = hasT l s) := by
  unfold slices_Index_string_string.f
  refine EvP.range (L := fun k (_ : Unit) i => slices_Index_string_string.l0 k l s (l.length : Int) i) (xs := l) (Inv := fun pre _ => hasT pre s = false) ?_ ?_ () rfl
  · rintro pre x rest _ hx hi ih
    have hl := len_at hx
    have hr : rdOf ByteArray.empty l (pre.length : Int) = x := getD_at hx _
    simp only [slices_Index_string_string.l0, hr, wrap_at hx h]
    refine EvP.pos hl (EvP.pos (nat_nonneg _) (EvP.pos hl ?_))
    refine EvP.ite (fun e => EvP.now ?_) (fun e => ih () ?_)
    · rw [hx, hasT_append, hasT_cons, e]
      simp
    · rw [hasT_append, hasT_cons, hi]
      simp [Ne.symm e, hasT]
  · rintro _ hi
    simp only [slices_Index_string_string.l0]
    exact EvP.neg (by omega) (EvP.now (by rw [hi]; rfl))
theorem slices_Contains_string_string.ok (l : List ByteArray) (s : ByteArray) (h : (l.length : Int) ≤ 9223372036854775807) : EvP (fun k => slices_Contains_string_string.f k l s) (· = hasT l s) := by
  unfold slices_Contains_string_string.f
  refine EvP.bind (slices_Index_string_string.ok l s h) ?_
  intro r hr
  exact EvP.now hr
theorem impl_namesOk.ok (l : List ByteArray) (most : Int) (h : Small l) : EvP (fun k => impl_namesOk.f k l most) (· = namesB l most) := by
  have h1 := h.1
  unfold impl_namesOk.f
  refine EvP.range (L := fun k (_ : Unit) i => impl_namesOk.l0 k l most l (l.length : Int) i) (xs := l) (Inv := fun pre _ => pre.all nameB = true ∧ apartB pre = true) ?_ ?_ () ⟨rfl, rfl⟩
  · rintro pre x rest _ hx ⟨hi, ha⟩ ih
    have hl := len_at hx
    have hr : rdOf ByteArray.empty l (pre.length : Int) = x := getD_at hx _
    have hg := h.2 x (by rw [hx]; simp)
    simp only [impl_namesOk.l0, hr, wrap_at hx (show (l.length : Int) ≤ 9223372036854775807 by omega)]
    refine EvP.pos hl (EvP.pos (nat_nonneg _) (EvP.pos hl ?_))
    refine EvP.bind (impl_nameOk.ok x (by omega)) ?_
    rintro _ rfl
    refine EvP.ite (fun e => EvP.pos (by omega) ?_) (fun e => EvP.now (by rw [namesB, all_no hx (by simpa using e)]; rfl))
    rw [take_at hx]
    refine EvP.bind (slices_Contains_string_string.ok pre x (by omega)) ?_
    rintro _ rfl
    exact EvP.ite (fun e2 => EvP.now (by rw [namesB, apartB_no hx e2]; simp)) (fun e2 => ih () ⟨all_yes hi e, apartB_yes ha (by simpa using e2)⟩)
  · rintro _ ⟨hi, ha⟩
    simp only [impl_namesOk.l0]
    exact EvP.neg (by omega) (EvP.now (by rw [namesB, hi, ha]; rfl))
theorem cmp_Less_string.ok (a b : ByteArray) : EvP (fun _ => cmp_Less_string.f a b) (· = Op.bytesLess a.toList b.toList) := by
  unfold cmp_Less_string.f cmp_isNaN_string.f
  refine EvP.bind (P := (· = false)) (EvP.now (by simp)) ?_
  rintro _ rfl
  exact EvP.neg (by simp) (EvP.now rfl)
theorem slices_IsSorted_string_string.ok (l : List ByteArray) (h : (l.length : Int) ≤ 4398046511104) : EvP (fun k => slices_IsSorted_string_string.f k l) (· = sortB l) := by
  unfold slices_IsSorted_string_string.f
  rw [wrap_id (by omega) (by omega)]
  refine EvP.down (L := fun k (_ : Unit) n => slices_IsSorted_string_string.l0 k l n) (Inv := fun n _ => n < (l.length : Int) ∧ ∀ j : Nat, n ≤ (j : Int) → j < l.length - 1 → Op.bytesLess (txt l (j + 1)) (txt l j) = false) ?_ ?_ _ () ⟨by omega, fun j h1 h2 => by omega⟩
  · rintro n _ hn ⟨hv1, hv⟩ ih
    obtain ⟨m, rfl⟩ := Int.eq_ofNat_of_zero_le (show 0 ≤ n by omega)
    have hm : m = (m - 1) + 1 := by omega
    have hc : ((m : Int) - 1) = ((m - 1 : Nat) : Int) := by omega
    simp only [slices_IsSorted_string_string.l0]
    rw [wrap_id (x := (m : Int) - 1) (by omega) (by omega)]
    refine EvP.pos hn (EvP.pos (by omega) (EvP.pos (by omega) (EvP.pos (by omega) (EvP.pos (by omega) ?_))))
    refine EvP.bind (cmp_Less_string.ok _ _) ?_
    rintro _ rfl
    refine EvP.ite (fun e => EvP.now ?_) (fun e => ih () ⟨by omega, fun j h1 h2 => ?_⟩)
    · symm
      rw [sortB, decide_eq_false_iff_not]
      intro g
      have := g (m - 1) (by omega)
      rw [← hm, txt, txt, ← hc, e] at this
      cases this
    · by_cases hj : j = m - 1
      · subst hj
        rw [← hm, txt, txt, ← hc]
        simpa using e
      · exact hv j (by omega) h2
  · rintro n _ hn ⟨hv1, hv⟩
    simp only [slices_IsSorted_string_string.l0]
    refine EvP.neg (by omega) (EvP.now ?_)
    symm
    rw [sortB, decide_eq_true_iff]
    exact fun j hj => hv j (by omega) hj
theorem impl_testOk.ok (m n : ByteArray) (marks needs : List ByteArray) (hm : (m.size : Int) ≤ 4398046511104) (hn : (n.size : Int) ≤ 4398046511104) (h2 : Small marks) (h3 : Small needs) : EvP (fun k => impl_testOk.f k m n marks needs) (· = testB m n marks needs) := by
  unfold impl_testOk.f
  refine EvP.bind (impl_nameOk.ok m (by omega)) ?_
  rintro _ rfl
  refine EvP.ite (fun e1 => ?_) (fun e1 => EvP.now (by rw [testB, show nameB m = false by simpa using e1]; rfl))
  refine EvP.bind (impl_nameOk.ok n (by omega)) ?_
  rintro _ rfl
  refine EvP.ite (fun e2 => ?_) (fun e2 => EvP.now (by rw [testB, show nameB n = false by simpa using e2]; simp))
  refine EvP.bind (impl_namesOk.ok marks 3 h2) ?_
  rintro _ rfl
  refine EvP.ite (fun e3 => ?_) (fun e3 => EvP.now (by rw [testB, show namesB marks 3 = false by simpa using e3]; simp))
  have ha : apartB marks = true := by
    rw [namesB] at e3
    simp only [Bool.and_eq_true] at e3
    exact e3.2.1
  refine EvP.bind (slices_IsSorted_string_string.ok marks h2.1) ?_
  rintro _ rfl
  rw [sort_asc ha]
  refine EvP.ite (fun e4 => ?_) (fun e4 => EvP.now (by rw [testB, show ascB marks = false by simpa using e4]; simp))
  refine EvP.bind (impl_namesOk.ok needs 4 h3) ?_
  rintro _ rfl
  exact EvP.now (by rw [testB, e1, e2, e3, e4]; rfl)
theorem size_id (m n : ByteArray) : (idT m n).size = m.size + 1 + n.size := by
  unfold idT
  rw [ByteArray.size_append, ByteArray.size_append]
  rfl
theorem impl_idOf.ok (m n : ByteArray) (marks needs : List ByteArray) (hm : (m.size : Int) ≤ 4398046511104) (hn : (n.size : Int) ≤ 4398046511104) : EvP (fun _ => impl_idOf.f m n marks needs) (· = idT m n) := by
  have h1 : (m ++ (⟨#[46]⟩ : ByteArray)).size = m.size + 1 := by rw [ByteArray.size_append]; rfl
  unfold impl_idOf.f
  exact EvP.pos (by omega) (EvP.pos (by omega) (EvP.now rfl))
theorem impl_ValidTests.ok (l : List S31) (h : GoodT l) : EvP (fun k => impl_ValidTests.f k l) (· = testsB l) := by
  have h1 := h.1
  unfold impl_ValidTests.f
  refine EvP.range (L := fun k s i => impl_ValidTests.l0 k l s l (l.length : Int) i) (xs := l) (Inv := fun pre s => s = pre.map idS ∧ pre.all tB = true ∧ apartB (pre.map idS) = true) ?_ ?_ [] ⟨rfl, rfl, rfl⟩
  · rintro pre x rest _ hx ⟨rfl, hi, ha⟩ ih
    have hl := len_at hx
    have hr : rd_T31 l (pre.length : Int) = x := getD_at hx _
    have hg := h.2 x (by rw [hx]; simp)
    have hm : l.map idS = pre.map idS ++ idS x :: rest.map idS := by rw [hx]; simp
    simp only [impl_ValidTests.l0, hr, wrap_at hx (show (l.length : Int) ≤ 9223372036854775807 by omega)]
    refine EvP.pos hl (EvP.pos (nat_nonneg _) (EvP.pos hl ?_))
    refine EvP.bind (impl_testOk.ok x.f0 x.f1 x.f2 x.f3 hg.1 hg.2.1 hg.2.2.1 hg.2.2.2) ?_
    rintro _ rfl
    refine EvP.ite (fun e => ?_) (fun e => EvP.now (by rw [testsB, all_no hx (show tB x = false by simpa [tB] using e)]; rfl))
    refine EvP.bind (impl_idOf.ok x.f0 x.f1 x.f2 x.f3 hg.1 hg.2.1) ?_
    rintro _ rfl
    refine EvP.bind (slices_Contains_string_string.ok _ _ (by rw [List.length_map]; omega)) ?_
    rintro _ rfl
    refine EvP.ite (fun e2 => EvP.now (by rw [testsB, apartB_no hm e2]; simp)) (fun e2 => ?_)
    refine EvP.bind (impl_idOf.ok x.f0 x.f1 x.f2 x.f3 hg.1 hg.2.1) ?_
    rintro _ rfl
    refine EvP.pos (by rw [List.length_map]; omega) (ih _ ⟨by simp [idS], all_yes hi e, ?_⟩)
    rw [List.map_append]
    exact apartB_yes ha (by rw [idS]; simpa using e2)
  · rintro _ ⟨rfl, hi, ha⟩
    simp only [impl_ValidTests.l0]
    exact EvP.neg (by omega) (EvP.now (by rw [testsB, hi, ha]; rfl))
/-! #### the place of an id -/
def posFrom (s : ByteArray) (n : Int) : List S31 → Int
  | [] => -1
  | x :: l => if (idS x).toList = s.toList then n else posFrom s (n + 1) l
def posT (l : List S31) (s : ByteArray) : Int := if testsB l = true then posFrom s 0 l else -1
theorem posFrom_skip (s : ByteArray) (pre rest : List S31) : ∀ n : Int, (∀ x ∈ pre, ¬ (idS x).toList = s.toList) → posFrom s n (pre ++ rest) = posFrom s (n + pre.length) rest := by
  induction pre with
  | nil => intro n _; simp
  | cons y pre ih =>
    intro n h
    rw [List.cons_append, posFrom, if_neg (h y (by simp)), ih _ (fun x hx => h x (by simp [hx]))]
    congr 1
    simp only [List.length_cons]
    omega
theorem impl_idOf.at_ (a b : ByteArray) (l m : List ByteArray) (h1 : (a.size : Int) ≤ 4398046511104) (h2 : (b.size : Int) ≤ 4398046511104) : impl_idOf.f a b l m = some (idT a b) := by
  obtain ⟨r, ⟨K, h⟩, e⟩ := impl_idOf.ok a b l m h1 h2
  subst e
  exact h K (Nat.le_refl _)
theorem impl_Test.ok (l : List S31) (s : ByteArray) (h : GoodT l) : ∀ (rest pre : List S31), l = pre ++ rest → ∀ k, rest.length < k → impl_Test.l0 l s k (pre.length : Int) = some (posFrom s (pre.length : Int) rest) := by
  have h1 := h.1
  intro rest
  induction rest with
  | nil =>
    intro pre hx k hk
    obtain ⟨k, rfl⟩ : ∃ m, k = m + 1 := ⟨k - 1, by simp at hk; omega⟩
    rw [impl_Test.l0, if_neg (by rw [hx]; simp), posFrom]
  | cons x rest ih =>
    intro pre hx k hk
    obtain ⟨k, rfl⟩ : ∃ m, k = m + 1 := ⟨k - 1, by simp at hk; omega⟩
    have hr : rd_T31 l (pre.length : Int) = x := getD_at hx _
    have hg := h.2 x (by rw [hx]; simp)
    rw [impl_Test.l0, if_pos (len_at hx), if_pos (nat_nonneg _), hr, impl_idOf.at_ _ _ _ _ hg.1 hg.2.1, Option.bind_some, posFrom, wrap_at hx (show (l.length : Int) ≤ 9223372036854775807 by omega)]
    by_cases e : (idS x).toList = s.toList
    · rw [if_pos e, if_pos (show (idT x.f0 x.f1).toList = s.toList from e)]
    · rw [if_neg e, if_neg (show ¬ (idT x.f0 x.f1).toList = s.toList from e), ih (pre ++ [x]) (by rw [hx]; simp) k (by simp only [List.length_cons] at hk; omega), len_snoc]
theorem impl_FindTest.ok (l : List S31) (s : ByteArray) (h : GoodT l) : EvP (fun k => impl_FindTest.f k l s) (· = posT l s) := by
  unfold impl_FindTest.f
  refine EvP.bind (impl_ValidTests.ok l h) ?_
  rintro _ rfl
  refine EvP.ite (fun e => ?_) (fun e => EvP.now (by rw [posT, if_neg e]))
  have := impl_Test.ok l s h l [] rfl (l.length + 1) (by omega)
  rw [show (([] : List S31).length : Int) = 0 from rfl] at this
  rw [this]
  exact EvP.now (by rw [posT, if_pos e])
theorem spec_aTest.ok (b : List Int) (p : Int) (hb : Bytes b) (h0 : 0 ≤ p) (h1 : p ≤ 100) : EvP (fun k => spec_aTest.f k b p) (fun r => TOk ⟨r.1, r.2.1, r.2.2.1, r.2.2.2.1⟩) := by
  unfold spec_aTest.f
  refine EvP.bind (spec_someTests.ok b p hb h0 h1) ?_
  rintro ⟨l, q⟩ ⟨a0, a1, a2, a3⟩
  simp only at a0 a1 a2 a3
  refine EvP.ite (fun _ => EvP.now ⟨(show (⟨#[109]⟩ : ByteArray).size ≤ 10 by decide +kernel), (show (⟨#[97]⟩ : ByteArray).size ≤ 10 by decide +kernel), txt_nil, txt_nil⟩) (fun hz => ?_)
  refine EvP.bind (spec_reader_pick.ok b q _ hb a2 (by omega)) ?_
  rintro ⟨i, q2⟩ ⟨i0, i2, i1⟩
  simp only at i0 i1 i2
  have i3 := i2 (by have hz2 : ¬ (l.length : Int) = 0 := hz; omega)
  exact EvP.pos i0 (EvP.pos i3 (EvP.now (rd_tok a1 i0 i3)))
def tId (x : S31) : ByteArray := if tB x = true then idS x else ⟨#[]⟩
theorem impl_TestId.ok (x : S31) (h : TOk x) : EvP (fun k => impl_TestId.f k x.f0 x.f1 x.f2 x.f3) (· = tId x) := by
  have a := h.1
  have b := h.2.1
  unfold impl_TestId.f
  refine EvP.bind (impl_testOk.ok x.f0 x.f1 x.f2 x.f3 (by omega) (by omega) (txt_small h.2.2.1) (txt_small h.2.2.2)) ?_
  rintro _ rfl
  refine EvP.ite (fun e => ?_) (fun e => EvP.now (by rw [tId, if_neg (show ¬ tB x = true from e)]))
  refine EvP.bind (impl_idOf.ok x.f0 x.f1 x.f2 x.f3 (by omega) (by omega)) ?_
  rintro _ rfl
  exact EvP.now (by rw [tId, if_pos (show tB x = true from e)]; rfl)
theorem spec_TestId.ok (x : S31) (h : TOk x) : EvP (fun k => spec_TestId.f k x.f0 x.f1 x.f2 x.f3) (· = tId x) := by
  have a := h.1
  have b := h.2.1
  unfold spec_TestId.f
  refine EvP.bind (spec_validTest.ok x.f0 x.f1 x.f2 x.f3 (by omega) (by omega) (txt_small h.2.2.1) (txt_small h.2.2.2)) ?_
  rintro _ rfl
  refine EvP.ite (fun e => ?_) (fun e => EvP.now (by rw [tId, if_neg (show ¬ tB x = true from e)]))
  refine EvP.bind (spec_idOf.ok x.f0 x.f1 x.f2 x.f3 (by omega) (by omega)) ?_
  rintro _ rfl
  exact EvP.now (by rw [tId, if_pos (show tB x = true from e)]; rfl)
theorem one_tests {x : S31} (h : tB x = true) : testsB [x] = true := by
  rw [testsB, List.all_cons, h]
  rfl
theorem main : laws_FnTestId.Pure := by
  intro l0 _ _ hw
  refine EvP.rounds ?_
  unfold laws_FnTestId.f
  refine EvP.ite (fun _ => EvP.now rfl) (fun _ => ?_)
  refine EvP.bind (P := fun r => TOk ⟨r.1, r.2.1, r.2.2.1, r.2.2.2⟩) ?_ ?_
  · unfold spec_DrawTestId.f
    refine EvP.bind (spec_newReader.ok l0 hw) ?_
    rintro ⟨b, p⟩ ⟨hb, hp⟩
    simp only at hb hp
    subst hp
    refine EvP.bind (spec_aTest.ok b 0 hb (by omega) (by omega)) ?_
    rintro ⟨m, n, l, d, p⟩ h
    exact EvP.now h
  · rintro ⟨m, n, mk, nd⟩ ht
    simp only at ht
    generalize hx : (⟨m, n, mk, nd⟩ : S31) = x at ht
    obtain ⟨rfl, rfl, rfl, rfl⟩ : m = x.f0 ∧ n = x.f1 ∧ mk = x.f2 ∧ nd = x.f3 := by rw [← hx]; exact ⟨rfl, rfl, rfl, rfl⟩
    have hg : GoodT [x] := tests_good (by simp) (by intro y hy; rw [List.mem_singleton.1 hy]; exact ht)
    refine EvP.bind (impl_TestId.ok x ht) ?_
    rintro _ rfl
    refine EvP.bind (spec_TestId.ok x ht) ?_
    rintro _ rfl
    refine EvP.pos rfl ?_
    have yes : EvP (fun k => laws_FnTestId.j0 k (tId x) true x.f0 x.f1 x.f2 x.f3) (· = true) := by
      refine EvP.succ ?_
      simp only [laws_FnTestId.j0]
      refine EvP.pos trivial ?_
      refine EvP.bind (spec_TestId.ok x ht) ?_
      rintro _ rfl
      exact EvP.now (by simp)
    cases e : tB x with
    | false =>
      have : ((tId x).toList == ([] : List UInt8)) = true := by
        rw [tId, e, if_neg (by simp)]
        decide +kernel
      rw [this]
      exact yes
    | true =>
      have e1 : tId x = idS x := by rw [tId, e]; rfl
      cases e2 : ((tId x).toList == ([] : List UInt8)) with
      | true => exact yes
      | false =>
        refine EvP.succ ?_
        simp only [laws_FnTestId.j0]
        refine EvP.neg (by simp) ?_
        rw [hx, e1]
        refine EvP.bind (impl_FindTest.ok [x] (idS x) hg) ?_
        rintro _ rfl
        refine EvP.pos (by rw [posT, if_pos (one_tests e), posFrom, if_pos rfl]) ?_
        refine EvP.bind (impl_ValidTests.ok [x] hg) ?_
        rintro _ rfl
        exact EvP.now (one_tests e)
end QFnTestId
theorem FnTestId : laws_FnTestId.Pure := QFnTestId.main
end Go.Proofs.Ytboppbejnadpmaa.Pure

/- FnUnmetExpects answers true for every code: the program's UnmetExpects answers as the reference's does, its places ascend, and a place stands in it where the expectation alone is unmet. Conditions: those of the printed statement alone (bounds on sizes that every input meets). -/
import Derived.Test.YtihmgjefndkfeaaOFnUnmetExpectsx10
import Derived.Test.YtihmgjefndkfeaaBase
namespace Go.Proofs.Ytihmgjefndkfeaa.Pure
open Go.RowKit Go.Proofs.Ytihmgjefndkfeaa.OFnUnmetExpects Go.Proofs.YtihmgjefndkfeaaW.PrintWords Go.Proofs.YtihmgjefndkfeaaW.PrintLast Go.Proofs.YtihmgjefndkfeaaW.PrintMore Go.Proofs.Ytihmgjefndkfeaa.Base
set_option linter.unusedVariables false
set_option linter.unusedSimpArgs false
namespace QFnUnmetExpects
/-! #### the reader of draws -/
def Bytes (b : List Int) : Prop := b.length ≤ 2000 ∧ ∀ x ∈ b, 0 ≤ x ∧ x ≤ 255
theorem spec_newReader.ok (l0 : List Int) (h : ∀ x ∈ l0, (Lit.int .u8 x).wf = true) : EvP (fun _ => spec_newReader.f l0) (fun r => Bytes r.1 ∧ r.2 = 0) := by
  have hw : ∀ x ∈ l0, 0 ≤ x ∧ x ≤ 255 := by
    intro x hx
    have := h x hx
    simp [Lit.wf, IntKind.min, IntKind.max, IntKind.signed, IntKind.bits] at this
    omega
  unfold spec_newReader.f
  refine EvP.ite (fun h1 => EvP.pos (by omega) (EvP.now ⟨⟨?_, fun x hx => hw x (List.mem_of_mem_take hx)⟩, rfl⟩)) (fun h1 => EvP.now ⟨⟨by simp only; omega, hw⟩, rfl⟩)
  show (l0.take 2000).length ≤ 2000
  simp
  omega
theorem rd_mem {l : List Int} {i : Int} (h0 : 0 ≤ i) (h1 : i < (l.length : Int)) : rd l i ∈ l := by
  unfold rd
  rw [List.getD_eq_getElem?_getD, List.getElem?_eq_getElem (by omega)]
  exact List.getElem_mem _
theorem rdOf_mem {α : Type} (d : α) {l : List α} {i : Int} (h0 : 0 ≤ i) (h1 : i < (l.length : Int)) : rdOf d l i ∈ l := by
  unfold rdOf
  rw [List.getD_eq_getElem?_getD, List.getElem?_eq_getElem (by omega)]
  exact List.getElem_mem _
theorem xor_nonneg (a b : Int) (ha : 0 ≤ a) (ha1 : a < 9223372036854775808) (hb : 0 ≤ b) (hb1 : b < 9223372036854775808) : 0 ≤ Go.bits .xor .i64 a b := by
  obtain ⟨m, rfl⟩ := Int.eq_ofNat_of_zero_le ha
  obtain ⟨n, rfl⟩ := Int.eq_ofNat_of_zero_le hb
  have hx : m ^^^ n < 2 ^ 63 := Nat.xor_lt_two_pow (by omega) (by omega)
  have h1 : (BitVec.ofInt 64 (m : Int)).toNat = m := by
    rw [BitVec.ofInt_natCast, BitVec.toNat_ofNat]; exact Nat.mod_eq_of_lt (by omega)
  have h2 : (BitVec.ofInt 64 (n : Int)).toNat = n := by
    rw [BitVec.ofInt_natCast, BitVec.toNat_ofNat]; exact Nat.mod_eq_of_lt (by omega)
  show 0 ≤ IntKind.i64.wrap ((BitVec.ofInt 64 (m : Int) ^^^ BitVec.ofInt 64 (n : Int)).toNat : Int)
  rw [BitVec.toNat_xor, h1, h2, IntKind.wrap_i64]
  omega
theorem tmod_in (a n : Int) (ha : 0 ≤ a) (hn : 0 < n) : 0 ≤ Int.tmod a n ∧ Int.tmod a n < n := by
  rw [Int.tmod_eq_emod_of_nonneg ha]
  exact ⟨Int.emod_nonneg _ (by omega), Int.emod_lt_of_pos _ hn⟩
theorem tdiv_in (a n : Int) (ha : 0 ≤ a) (hn : 0 < n) : 0 ≤ Int.tdiv a n ∧ Int.tdiv a n ≤ a := by
  rw [Int.tdiv_eq_ediv_of_nonneg ha]
  exact ⟨Int.ediv_nonneg ha (by omega), Int.ediv_le_self _ ha⟩
theorem spec_reader_pick.ok (b : List Int) (p n : Int) (hb : Bytes b) (h0 : 0 ≤ p) (h1 : p ≤ 1000000) : EvP (fun k => spec_reader_pick.f k b p n) (fun r => 0 ≤ r.1 ∧ (0 < n → r.1 < n) ∧ r.2 = p + 1) := by
  have e1 : wrap64 (p + 1) = p + 1 := wrap_id (by omega) (by omega)
  have e2 : wrap64 (p + 1 - 1) = p := by rw [wrap_id (by omega) (by omega)]; omega
  have none' : EvP (fun k => spec_reader_pick.j0 k n true b (p + 1)) (fun r => 0 ≤ r.1 ∧ (0 < n → r.1 < n) ∧ r.2 = p + 1) := by
    refine EvP.succ ?_
    simp only [spec_reader_pick.j0]
    exact EvP.pos (by simp) (EvP.now ⟨by simp, fun h => h, by simp⟩)
  unfold spec_reader_pick.f
  rw [e1]
  refine EvP.ite (fun _ => none') (fun hn => ?_)
  by_cases hl : b.length = 0
  · have : ((b.length : Int) == 0) = true := by simp [hl]
    rw [this]
    exact none'
  · have : ((b.length : Int) == 0) = false := by simp [hl]
    rw [this]
    have hr : ∀ i : Int, 0 ≤ i → i < (b.length : Int) → 0 ≤ rd b i ∧ rd b i ≤ 255 := fun i g0 g1 => hb.2 _ (rd_mem g0 g1)
    refine EvP.succ ?_
    simp only [spec_reader_pick.j0]
    refine EvP.neg (by simp) ?_
    simp only [e2]
    refine EvP.ite (fun hp => EvP.pos h0 (EvP.neg (by omega) (EvP.now ?_))) (fun hp => ?_)
    · have h := hr p h0 hp
      rw [wrap_id (by omega) (by omega)]
      have := tmod_in (rd b p) n h.1 (by omega)
      exact ⟨this.1, fun _ => this.2, by simp⟩
    · have w7 : wrap64 (p * 7) = p * 7 := wrap_id (by omega) (by omega)
      have w73 : wrap64 (p * 7 + 3) = p * 7 + 3 := wrap_id (by omega) (by omega)
      have w29 : wrap64 (p * 29) = p * 29 := wrap_id (by omega) (by omega)
      simp only [w7, w73, w29]
      have m1 := tmod_in p (b.length : Int) h0 (by omega)
      have m2 := tmod_in (p * 7 + 3) (b.length : Int) (by omega) (by omega)
      have d1 := tdiv_in p (b.length : Int) h0 (by omega)
      have r1 := hr _ m1.1 m1.2
      have r2 := hr _ m2.1 m2.2
      refine EvP.neg (by omega) (EvP.pos m1.1 (EvP.pos m1.2 (EvP.pos m2.1 (EvP.pos m2.2 (EvP.neg (by omega) (EvP.now ?_))))))
      generalize rd b (Int.tmod p (b.length : Int)) = u1 at *
      generalize rd b (Int.tmod (p * 7 + 3) (b.length : Int)) = u2 at *
      generalize Int.tdiv p (b.length : Int) = u3 at *
      have a1 : wrap64 u1 = u1 := wrap_id (by omega) (by omega)
      have a2 : wrap64 u2 = u2 := wrap_id (by omega) (by omega)
      have a3 : wrap64 u3 = u3 := wrap_id (by omega) (by omega)
      have a4 : wrap64 (u1 * 131) = u1 * 131 := wrap_id (by omega) (by omega)
      have a5 : wrap64 (u2 * 1117) = u2 * 1117 := wrap_id (by omega) (by omega)
      have a6 : wrap64 (u3 * 53) = u3 * 53 := wrap_id (by omega) (by omega)
      have a7 : wrap64 (u1 * 131 + u2 * 1117) = u1 * 131 + u2 * 1117 := wrap_id (by omega) (by omega)
      have a8 : wrap64 (u1 * 131 + u2 * 1117 + p * 29) = u1 * 131 + u2 * 1117 + p * 29 := wrap_id (by omega) (by omega)
      have a9 : wrap64 (u1 * 131 + u2 * 1117 + p * 29 + u3 * 53) = u1 * 131 + u2 * 1117 + p * 29 + u3 * 53 := wrap_id (by omega) (by omega)
      simp only [a1, a2, a3, a4, a5, a6, a7, a8, a9]
      have hE : 0 ≤ u1 * 131 + u2 * 1117 + p * 29 + u3 * 53 ∧ u1 * 131 + u2 * 1117 + p * 29 + u3 * 53 ≤ 1000000000 := by omega
      generalize u1 * 131 + u2 * 1117 + p * 29 + u3 * 53 = E at *
      have d2 := tdiv_in E 64 hE.1 (by omega)
      have a10 : wrap64 (Int.tdiv E 64) = Int.tdiv E 64 := wrap_id (by omega) (by omega)
      rw [a10]
      have := tmod_in (Go.bits .xor .i64 E (Int.tdiv E 64)) n (xor_nonneg _ _ hE.1 (by omega) d2.1 (by omega)) (by omega)
      exact ⟨this.1, fun _ => this.2, by simp⟩
theorem spec_reader_one.ok (b : List Int) (p : Int) (l : List Int) (hb : Bytes b) (h0 : 0 ≤ p) (h1 : p ≤ 1000000) (hl : 0 < l.length) : EvP (fun k => spec_reader_one.f k b p l) (fun r => r.1 ∈ l ∧ r.2 = p + 1) := by
  unfold spec_reader_one.f
  refine EvP.bind (spec_reader_pick.ok b p _ hb h0 h1) ?_
  rintro ⟨i, q⟩ ⟨g0, g1, rfl⟩
  have g2 := g1 (by omega)
  exact EvP.pos g0 (EvP.pos g2 (EvP.now ⟨rd_mem g0 g2, rfl⟩))
theorem spec_reader_of.ok (b : List Int) (p : Int) (l : List ByteArray) (hb : Bytes b) (h0 : 0 ≤ p) (h1 : p ≤ 1000000) (hl : 0 < l.length) : EvP (fun k => spec_reader_of.f k b p l) (fun r => r.1 ∈ l ∧ r.2 = p + 1) := by
  unfold spec_reader_of.f
  refine EvP.bind (spec_reader_pick.ok b p _ hb h0 h1) ?_
  rintro ⟨i, q⟩ ⟨g0, g1, rfl⟩
  have g2 := g1 (by omega)
  exact EvP.pos g0 (EvP.pos g2 (EvP.now ⟨rdOf_mem _ g0 g2, rfl⟩))
/-! #### names -/
def azB (s : ByteArray) : Bool := decide (∀ j : Nat, j < s.size → 97 ≤ bt s (j : Int) ∧ bt s (j : Int) ≤ 122)
def wordB (s : ByteArray) : Bool := decide (s.toList ≠ [97, 110, 100]) && (decide (s.toList ≠ [111, 114]) && decide (s.toList ≠ [110, 111, 116]))
def nameB (s : ByteArray) : Bool := azB s && (decide (1 ≤ s.size ∧ s.size ≤ 6) && wordB s)
theorem azB_no {s : ByteArray} {i : Nat} (hi : i < s.size) (h : ¬ (97 ≤ bt s (i : Int) ∧ bt s (i : Int) ≤ 122)) : nameB s = false := by
  have : azB s = false := by
    rw [azB, decide_eq_false_iff_not]
    exact fun g => h (g i hi)
  rw [nameB, this]
  rfl
theorem azB_yes {s : ByteArray} (h : ∀ j : Nat, j < s.size → 97 ≤ bt s (j : Int) ∧ bt s (j : Int) ≤ 122) : azB s = true := by
  rw [azB, decide_eq_true_iff]
  exact h
theorem words_ok (s : ByteArray) : EvP (fun _ => if s.toList = ([97, 110, 100] : List UInt8) then (some false) else (if s.toList = ([111, 114] : List UInt8) then (some false) else (some (s.toList != ([110, 111, 116] : List UInt8))))) (· = wordB s) := by
  unfold wordB
  refine EvP.ite (fun h => EvP.now (by simp [h])) (fun h => EvP.ite (fun h2 => EvP.now (by simp [h2])) (fun h2 => EvP.now ?_))
  simp [h, h2, bne]
  rw [Bool.eq_iff_iff]
  simp
def numB (n : Int) : Bool := decide (-99 ≤ n ∧ n ≤ 99)
def numsB (l : List Int) : Bool := l.all numB
theorem numsB_no {l pre rest : List Int} {x : Int} (h : l = pre ++ x :: rest) (hx : ¬ (-99 ≤ x ∧ x ≤ 99)) : numsB l = false := by
  rw [h, numsB, List.all_append, List.all_cons, numB, decide_eq_false hx]
  simp
theorem numsB_snoc {pre : List Int} {x : Int} (h : numsB pre = true) (hx : -99 ≤ x ∧ x ≤ 99) : numsB (pre ++ [x]) = true := by
  rw [numsB, List.all_append, ← numsB, h, List.all_cons, numB, decide_eq_true hx]
  rfl
/-! #### calls -/
def callB (x : S30) : Bool := nameB x.f0 && (decide (x.f1.length ≤ 3) && numsB x.f1)
def callsB (l : List S30) : Bool := l.all callB && decide (l.length ≤ 12)
/-- Sizes that no machine sum passes. -/
def GoodC (l : List S30) : Prop := (l.length : Int) ≤ 4398046511104 ∧ ∀ x ∈ l, (x.f0.size : Int) ≤ 4398046511104 ∧ (x.f1.length : Int) ≤ 4398046511104
theorem callsB_no {l pre rest : List S30} {x : S30} (h : l = pre ++ x :: rest) (hx : callB x = false) : callsB l = false := by
  rw [h, callsB, List.all_append, List.all_cons, hx]
  simp
theorem all_snoc {α : Type} {p : α → Bool} {pre : List α} {x : α} (h : pre.all p = true) (hx : p x = true) : (pre ++ [x]).all p = true := by
  rw [List.all_append, h, List.all_cons, hx]
  rfl
theorem nm_get : nameB (⟨#[103, 101, 116]⟩ : ByteArray) = true := by decide +kernel
theorem nm_put : nameB (⟨#[112, 117, 116]⟩ : ByteArray) = true := by decide +kernel
theorem nm_del : nameB (⟨#[100, 101, 108]⟩ : ByteArray) = true := by decide +kernel
theorem callB_sz {x : S30} (h : callB x = true) : (x.f0.size : Int) ≤ 6 ∧ (x.f1.length : Int) ≤ 3 := by
  rw [callB, nameB] at h
  simp at h
  omega
theorem goodC_all {l : List S30} (h : l.all callB = true) (hl : l.length ≤ 1000) : GoodC l := by
  refine ⟨by omega, fun x hx => ?_⟩
  have := callB_sz (List.all_eq_true.1 h x hx)
  omega
theorem spec_aCall.ok (b : List Int) (p : Int) (hb : Bytes b) (h0 : 0 ≤ p) (h1 : p ≤ 10000) : EvP (fun k => spec_aCall.f k b p) (fun r => callB ⟨r.1, r.2.1⟩ = true ∧ 0 ≤ r.2.2 ∧ r.2.2 ≤ p + 4) := by
  unfold spec_aCall.f
  refine EvP.bind (spec_reader_of.ok b p _ hb h0 (by omega) (by simp)) ?_
  rintro ⟨nm, q⟩ ⟨g0, g1⟩
  simp only at g0 g1
  subst g1
  have hn : nameB nm = true := by
    simp only [List.mem_cons, List.not_mem_nil, or_false] at g0
    rcases g0 with rfl | rfl | rfl | rfl
    · exact nm_get
    · exact nm_put
    · exact nm_get
    · exact nm_del
  refine EvP.bind (spec_reader_one.ok b (p + 1) _ hb (by omega) (by omega) (by simp)) ?_
  rintro ⟨n, q⟩ ⟨m0, m1⟩
  simp only at m0 m1
  subst m1
  have g1 : 0 ≤ n ∧ n ≤ 2 := by
    simp only [List.mem_cons, List.not_mem_nil, or_false] at m0
    omega
  refine EvP.down (L := fun k (s : List Int × Int) i => spec_aCall.l0 k i b s.2 nm s.1) (Inv := fun i s => 0 ≤ i ∧ (s.1.length : Int) + i ≤ 2 ∧ numsB s.1 = true ∧ 0 ≤ s.2 ∧ s.2 + i ≤ p + 4) ?_ ?_ n ([], p + 1 + 1) ⟨g1.1, by simp only [List.length_nil]; omega, rfl, by simp only; omega, by simp only; omega⟩
  · rintro i ⟨l, q⟩ hi ⟨a0, a1, a2, a3, a4⟩ ih
    simp only at a1 a2 a3 a4
    simp only [spec_aCall.l0]
    refine EvP.pos hi ?_
    refine EvP.bind (spec_reader_one.ok b q _ hb a3 (by omega) (by simp)) ?_
    rintro ⟨v, q2⟩ ⟨v0, v1⟩
    simp only at v0 v1
    subst v1
    refine EvP.pos (by omega) ?_
    rw [wrap_id (by omega) (by omega)]
    refine ih (l ++ [v], q + 1) ⟨by omega, by simp only [List.length_append, List.length_singleton]; omega, numsB_snoc a2 ?_, by simp only; omega, by simp only; omega⟩
    simp only [List.mem_cons, List.not_mem_nil, or_false] at v0
    omega
  · rintro i ⟨l, q⟩ hi ⟨a0, a1, a2, a3, a4⟩
    simp only at a1 a2 a3 a4
    simp only [spec_aCall.l0]
    refine EvP.neg (by omega) (EvP.now ⟨?_, by simp only; omega, by simp only; omega⟩)
    rw [callB, hn, a2, decide_eq_true (show l.length ≤ 3 by omega)]
    rfl
theorem spec_goodCalls.ok (b : List Int) (p : Int) (hb : Bytes b) (h0 : 0 ≤ p) (h1 : p ≤ 9000) : EvP (fun k => spec_goodCalls.f k b p) (fun r => r.1.all callB = true ∧ r.1.length ≤ 12 ∧ 0 ≤ r.2 ∧ r.2 ≤ p + 49) := by
  unfold spec_goodCalls.f
  refine EvP.bind (spec_reader_one.ok b p _ hb h0 (by omega) (by simp)) ?_
  rintro ⟨n, q⟩ ⟨g0, g2⟩
  simp only at g0 g2
  subst g2
  have g1 : 0 ≤ n ∧ n ≤ 12 := by
    simp only [List.mem_cons, List.not_mem_nil, or_false] at g0
    omega
  refine EvP.down (L := fun k (s : List S30 × Int) i => spec_goodCalls.l0 k s.1 i b s.2) (Inv := fun i s => 0 ≤ i ∧ (s.1.length : Int) + i ≤ 12 ∧ s.1.all callB = true ∧ 0 ≤ s.2 ∧ s.2 + 4 * i ≤ p + 49) ?_ ?_ n ([], p + 1) ⟨g1.1, by simp only [List.length_nil]; omega, rfl, by simp only; omega, by simp only; omega⟩
  · rintro i ⟨l, q⟩ hi ⟨a0, a1, a2, a3, a4⟩ ih
    simp only at a1 a2 a3 a4
    simp only [spec_goodCalls.l0]
    refine EvP.pos hi ?_
    refine EvP.bind (spec_aCall.ok b q hb a3 (by omega)) ?_
    rintro ⟨nm, v, q2⟩ ⟨v0, v1, v2⟩
    simp only at v0 v1 v2
    refine EvP.pos (by omega) ?_
    rw [wrap_id (by omega) (by omega)]
    exact ih (l ++ [⟨nm, v⟩], q2) ⟨by omega, by simp only [List.length_append, List.length_singleton]; omega, all_snoc a2 v0, by simp only; omega, by simp only; omega⟩
  · rintro i ⟨l, q⟩ hi ⟨a0, a1, a2, a3, a4⟩
    simp only at a1 a2 a3 a4
    simp only [spec_goodCalls.l0]
    exact EvP.neg (by omega) (EvP.now ⟨a2, by simp only; omega, a3, by simp only; omega⟩)
theorem spec_someCalls.ok (b : List Int) (p : Int) (hb : Bytes b) (h0 : 0 ≤ p) (h1 : p ≤ 9000) : EvP (fun k => spec_someCalls.f k b p) (fun r => GoodC r.1 ∧ r.1.length ≤ 12 ∧ 0 ≤ r.2 ∧ r.2 ≤ p + 60) := by
  unfold spec_someCalls.f
  refine EvP.bind (spec_goodCalls.ok b p hb h0 h1) ?_
  rintro ⟨l, q⟩ ⟨a0, a1, a2, a3⟩
  simp only at a0 a1 a2 a3
  have hg := goodC_all a0 (by omega)
  have main : ∀ (c : Bool) (q : Int), 0 ≤ q → q ≤ p + 50 → (c = true → 0 < l.length) → EvP (fun k => spec_someCalls.j0 k l c b q) (fun r => GoodC r.1 ∧ r.1.length ≤ 12 ∧ 0 ≤ r.2 ∧ r.2 ≤ p + 60) := by
    intro c q q0 q1 hc
    refine EvP.succ ?_
    simp only [spec_someCalls.j0]
    refine EvP.ite (fun e => ?_) (fun e => EvP.now ⟨hg, a1, q0, by simp only; omega⟩)
    have hn := hc e
    refine EvP.bind (spec_reader_pick.ok b q _ hb q0 (by omega)) ?_
    rintro ⟨i, q2⟩ ⟨c0, c2, c1⟩
    simp only at c0 c1 c2
    subst c1
    have c3 := c2 (by omega)
    refine EvP.bind (P := fun r => r.1.size ≤ 3 ∧ r.2.1.length ≤ 4 ∧ r.2.2 = q + 2) ?_ ?_
    · unfold spec_reader_oneCall.f
      refine EvP.bind (spec_reader_pick.ok b (q + 1) 2 hb (by omega) (by omega)) ?_
      rintro ⟨i, q2⟩ ⟨d0, d2, d1⟩
      simp only at d0 d1 d2
      subst d1
      refine EvP.ite (fun _ => EvP.now ⟨?_, by simp, by simp only; omega⟩) (fun _ => EvP.now ⟨?_, by simp, by simp only; omega⟩)
      · show (⟨#[88]⟩ : ByteArray).size ≤ 3
        decide
      · show (⟨#[103, 101, 116]⟩ : ByteArray).size ≤ 3
        decide
    · rintro ⟨nm, v, q3⟩ ⟨d0, d1, d2⟩
      simp only at d0 d1 d2
      subst d2
      refine EvP.pos c0 (EvP.pos c3 (EvP.now ⟨⟨?_, fun x hx => ?_⟩, ?_, by simp only; omega, by simp only; omega⟩))
      · simp only [List.length_set]
        omega
      · rcases List.mem_or_eq_of_mem_set hx with hx | rfl
        · exact hg.2 x hx
        · simp only
          omega
      · simp only [List.length_set]
        omega
  refine EvP.ite (fun e => ?_) (fun e => main _ _ a2 (by omega) (fun h => by cases h))
  refine EvP.bind (spec_reader_pick.ok b q 20 hb a2 (by omega)) ?_
  rintro ⟨i, q2⟩ ⟨c0, c2, c1⟩
  simp only at c0 c1 c2
  subst c1
  exact main _ _ (by omega) (by omega) (fun _ => by have e2 : (l.length : Int) > 0 := e; omega)
theorem impl_nameOk.ok (s : ByteArray) (h : (s.size : Int) ≤ 9223372036854775807) : EvP (fun k => impl_nameOk.f k s) (· = nameB s) := by
  unfold impl_nameOk.f
  refine EvP.upto (L := fun k (_ : Unit) i => impl_nameOk.l0 k s (s.size : Int) i) (n := s.size) (Inv := fun i _ => ∀ j : Nat, j < i → 97 ≤ bt s (j : Int) ∧ bt s (j : Int) ≤ 122) ?_ ?_ () (fun j hj => by omega)
  · rintro i _ hi hv ih
    simp only [impl_nameOk.l0]
    refine EvP.pos (by omega) (EvP.pos (by omega) (EvP.pos (by omega) ?_))
    refine EvP.ite (fun e => EvP.now (azB_no hi (by omega)).symm) (fun e => EvP.ite (fun e2 => EvP.now (azB_no hi (by omega)).symm) (fun e2 => ?_))
    rw [wrap_id (by omega) (by omega)]
    refine ih () (fun j hj => ?_)
    rcases Nat.lt_succ_iff_lt_or_eq.1 hj with hj | rfl
    · exact hv j hj
    · omega
  · rintro _ hv
    simp only [impl_nameOk.l0]
    have ha := azB_yes hv
    refine EvP.neg (by omega) (EvP.ite (fun e => EvP.ite (fun e2 => ?_) (fun e2 => EvP.now ?_)) (fun e => EvP.now ?_))
    · refine (words_ok s).mono ?_
      rintro _ rfl
      rw [nameB, ha, decide_eq_true (show 1 ≤ s.size ∧ s.size ≤ 6 by omega)]
      rfl
    · rw [nameB, decide_eq_false (show ¬ (1 ≤ s.size ∧ s.size ≤ 6) by omega)]
      simp
    · rw [nameB, decide_eq_false (show ¬ (1 ≤ s.size ∧ s.size ≤ 6) by omega)]
      simp
theorem impl_numbersOk.ok (l : List Int) (h : (l.length : Int) ≤ 9223372036854775807) : EvP (fun k => impl_numbersOk.f k l) (· = numsB l) := by
  unfold impl_numbersOk.f
  refine EvP.range (L := fun k (_ : Unit) i => impl_numbersOk.l0 k l (l.length : Int) i) (xs := l) (Inv := fun pre _ => numsB pre = true) ?_ ?_ () rfl
  · rintro pre x rest _ hx hi ih
    have hl := len_at hx
    have hr : rd l (pre.length : Int) = x := getD_at hx _
    simp only [impl_numbersOk.l0, hr, wrap_at hx h]
    refine EvP.pos hl (EvP.pos (nat_nonneg _) (EvP.pos hl ?_))
    exact EvP.ite (fun e => EvP.now (numsB_no hx (by omega)).symm) (fun e => EvP.ite (fun e2 => EvP.now (numsB_no hx (by omega)).symm) (fun e2 => ih () (numsB_snoc hi (by omega))))
  · rintro _ hi
    simp only [impl_numbersOk.l0]
    exact EvP.neg (by omega) (EvP.now hi.symm)
theorem impl_callOk.ok (s : ByteArray) (a : List Int) (h : (s.size : Int) ≤ 4398046511104) (h2 : (a.length : Int) ≤ 4398046511104) : EvP (fun k => impl_callOk.f k s a) (· = callB ⟨s, a⟩) := by
  unfold impl_callOk.f
  refine EvP.bind (impl_nameOk.ok s (by omega)) ?_
  rintro _ rfl
  refine EvP.ite (fun e => EvP.ite (fun e2 => ?_) (fun e2 => EvP.now ?_)) (fun e => EvP.now ?_)
  · refine EvP.bind (impl_numbersOk.ok a (by omega)) ?_
    rintro _ rfl
    exact EvP.now (by rw [callB, e, decide_eq_true (show a.length ≤ 3 by omega)]; rfl)
  · rw [callB, decide_eq_false (show ¬ a.length ≤ 3 by omega)]
    simp
  · rw [callB, show nameB s = false by simpa using e]
    rfl
theorem impl_ValidCalls.ok (l : List S30) (h : GoodC l) : EvP (fun k => impl_ValidCalls.f k l) (· = callsB l) := by
  have h1 := h.1
  unfold impl_ValidCalls.f
  refine EvP.range (L := fun k (_ : Unit) i => impl_ValidCalls.l0 k l l (l.length : Int) i) (xs := l) (Inv := fun pre _ => pre.all callB = true) ?_ ?_ () rfl
  · rintro pre x rest _ hx hi ih
    have hl := len_at hx
    have hr : rd_T30 l (pre.length : Int) = x := getD_at hx _
    have hg := h.2 x (by rw [hx]; simp)
    simp only [impl_ValidCalls.l0, hr, wrap_at hx (by omega)]
    refine EvP.pos hl (EvP.pos (nat_nonneg _) (EvP.pos hl ?_))
    refine EvP.bind (impl_callOk.ok x.f0 x.f1 hg.1 hg.2) ?_
    rintro _ rfl
    exact EvP.ite (fun e => ih () (all_snoc hi e)) (fun e => EvP.now (callsB_no hx (by simpa using e)).symm)
  · rintro _ hi
    simp only [impl_ValidCalls.l0]
    refine EvP.neg (by omega) (EvP.now ?_)
    rw [callsB, hi, Bool.true_and]
    congr 1
    simp
    omega
theorem spec_inRange.ok (a b c : Int) : EvP (fun _ => spec_inRange.f a b c) (· = decide (b ≤ a ∧ a ≤ c)) := by
  unfold spec_inRange.f
  exact EvP.ite (fun h => EvP.now (by simp [h])) (fun h => EvP.now (by simp [h]))
theorem spec_validName.ok (s : ByteArray) (h : (s.size : Int) ≤ 9223372036854775807) : EvP (fun k => spec_validName.f k s) (· = nameB s) := by
  unfold spec_validName.f
  refine EvP.upto (L := fun k (_ : Unit) i => spec_validName.l0 k s i) (n := s.size) (Inv := fun i _ => ∀ j : Nat, j < i → 97 ≤ bt s (j : Int) ∧ bt s (j : Int) ≤ 122) ?_ ?_ () (fun j hj => by omega)
  · rintro i _ hi hv ih
    simp only [spec_validName.l0]
    refine EvP.pos (by omega) (EvP.pos (by omega) ?_)
    refine EvP.ite (fun e => EvP.now (azB_no hi (by omega)).symm) (fun e => EvP.ite (fun e2 => EvP.now (azB_no hi (by omega)).symm) (fun e2 => ?_))
    rw [wrap_id (by omega) (by omega)]
    refine ih () (fun j hj => ?_)
    rcases Nat.lt_succ_iff_lt_or_eq.1 hj with hj | rfl
    · exact hv j hj
    · omega
  · rintro _ hv
    simp only [spec_validName.l0]
    have ha := azB_yes hv
    refine EvP.neg (by omega) ?_
    refine EvP.bind (spec_inRange.ok _ _ _) ?_
    rintro _ rfl
    refine EvP.ite (fun e => ?_) (fun e => EvP.now ?_)
    · have e' := of_decide_eq_true e
      refine (words_ok s).mono ?_
      rintro _ rfl
      rw [nameB, ha, decide_eq_true (show 1 ≤ s.size ∧ s.size ≤ 6 by omega)]
      rfl
    · have e' : ¬ (1 ≤ (s.size : Int) ∧ (s.size : Int) ≤ 6) := fun g => e (decide_eq_true g)
      rw [nameB, decide_eq_false (show ¬ (1 ≤ s.size ∧ s.size ≤ 6) by omega)]
      simp
theorem spec_validCalls.ok (l : List S30) (h : GoodC l) : EvP (fun k => spec_validCalls.f k l) (· = callsB l) := by
  have h1 := h.1
  unfold spec_validCalls.f
  refine EvP.range (L := fun k (_ : Unit) i => spec_validCalls.l0 k l i) (xs := l) (Inv := fun pre _ => pre.all callB = true) ?_ ?_ () rfl
  · rintro pre x rest _ hx hi ih
    have hl := len_at hx
    have hr : rd_T30 l (pre.length : Int) = x := getD_at hx _
    have hg := h.2 x (by rw [hx]; simp)
    have bad : callB x = false → EvP (fun k => spec_validCalls.j1 k l (pre.length : Int) true) (· = callsB l) := fun hb => by
      refine EvP.succ ?_
      simp only [spec_validCalls.j1]
      exact EvP.pos (by simp) (EvP.now (callsB_no hx hb).symm)
    simp only [spec_validCalls.l0, hr]
    refine EvP.pos hl (EvP.pos (nat_nonneg _) ?_)
    refine EvP.bind (spec_validName.ok x.f0 (by omega)) ?_
    rintro _ rfl
    refine EvP.ite (fun e => ?_) (fun e => bad (by rw [callB, show nameB x.f0 = false by simpa using e]; rfl))
    by_cases e2 : (x.f1.length : Int) > 3
    · rw [decide_eq_true e2]
      exact bad (by rw [callB, decide_eq_false (show ¬ x.f1.length ≤ 3 by omega)]; simp)
    · rw [decide_eq_false e2]
      refine EvP.succ ?_
      simp only [spec_validCalls.j1]
      refine EvP.neg (by simp) ?_
      refine EvP.range (L := fun k (_ : Unit) i => spec_validCalls.l1 k l (pre.length : Int) i) (xs := x.f1) (Inv := fun p _ => numsB p = true) ?_ ?_ () rfl
      · rintro p n r _ hp hv ih2
        have hpl := len_at hp
        have hrr : rd x.f1 (p.length : Int) = n := getD_at hp _
        simp only [spec_validCalls.l1, hr, hrr, wrap_at hp (by omega)]
        refine EvP.pos (nat_nonneg _) (EvP.pos hl (EvP.pos hpl (EvP.pos (nat_nonneg _) ?_)))
        refine EvP.bind (spec_inRange.ok _ _ _) ?_
        rintro _ rfl
        refine EvP.ite (fun e3 => ih2 () (numsB_snoc hv (of_decide_eq_true e3))) (fun e3 => EvP.now ?_)
        refine (callsB_no hx ?_).symm
        rw [callB, numsB_no hp (fun g => e3 (decide_eq_true g))]
        simp
      · rintro _ hv
        simp only [spec_validCalls.l1, hr, wrap_at hx (show (l.length : Int) ≤ 9223372036854775807 by omega)]
        refine EvP.pos (nat_nonneg _) (EvP.pos hl (EvP.neg (by omega) (ih () (all_snoc hi ?_))))
        rw [callB, e, hv, decide_eq_true (show x.f1.length ≤ 3 by omega)]
        rfl
  · rintro _ hi
    simp only [spec_validCalls.l0]
    refine EvP.neg (by omega) (EvP.now ?_)
    rw [callsB, hi, Bool.true_and]
    congr 1
    simp
    omega
def sameB (s : ByteArray) (a : List Int) (t : ByteArray) (b : List Int) : Bool := decide (s.toList = t.toList) && decide (a = b)
theorem ints_eq {a b : List Int} (hl : a.length = b.length) (h : ∀ j : Nat, j < a.length → rd a (j : Int) = rd b (j : Int)) : a = b := by
  apply List.ext_getElem hl
  intro j h1 h2
  have := h j h1
  unfold rd at this
  simpa [List.getD_eq_getElem?_getD, List.getElem?_eq_getElem h1, List.getElem?_eq_getElem h2] using this
theorem ints_ne {a b : List Int} {i : Int} (h : ¬ rd a i = rd b i) : decide (a = b) = false := by
  rw [decide_eq_false_iff_not]
  intro e
  exact h (by rw [e])
theorem spec_sameCall.ok (s : ByteArray) (a : List Int) (t : ByteArray) (b : List Int) (h : (a.length : Int) ≤ 4398046511104) : EvP (fun k => spec_sameCall.f k s a t b) (· = sameB s a t b) := by
  have no : ∀ c : Bool, c = true → sameB s a t b = false → EvP (fun k => spec_sameCall.j0 k c s a t b) (· = sameB s a t b) := by
    intro c hc hb
    refine EvP.succ ?_
    simp only [spec_sameCall.j0]
    exact EvP.pos hc (EvP.now hb.symm)
  unfold spec_sameCall.f
  refine EvP.ite (fun e => ?_) (fun e => no _ rfl (by rw [sameB, decide_eq_false e]; rfl))
  by_cases hl : a.length = b.length
  · have hc : ((a.length : Int) != (b.length : Int)) = false := by simp [hl]
    rw [hc]
    refine EvP.succ ?_
    simp only [spec_sameCall.j0]
    refine EvP.neg (by simp) ?_
    refine EvP.upto (L := fun k (_ : Unit) i => spec_sameCall.l0 k i s a t b) (n := a.length) (Inv := fun i _ => ∀ j : Nat, j < i → rd a (j : Int) = rd b (j : Int)) ?_ ?_ () (fun j hj => by omega)
    · rintro i _ hi hv ih
      simp only [spec_sameCall.l0]
      refine EvP.pos (by omega) (EvP.pos (by omega) (EvP.pos (by omega) ?_))
      refine EvP.ite (fun e => ?_) (fun e => EvP.now (by rw [sameB, ints_ne e]; simp))
      rw [wrap_id (by omega) (by omega)]
      refine ih () (fun j hj => ?_)
      rcases Nat.lt_succ_iff_lt_or_eq.1 hj with hj | rfl
      · exact hv j hj
      · exact e
    · rintro _ hv
      simp only [spec_sameCall.l0]
      exact EvP.neg (by omega) (EvP.now (by rw [sameB, decide_eq_true e, decide_eq_true (ints_eq hl hv)]; rfl))
  · refine no _ (by simp; omega) ?_
    rw [sameB, decide_eq_false (show ¬ a = b from fun g => hl (by rw [g]))]
    simp
theorem slices_Equal_int_int.ok (a b : List Int) (h : (a.length : Int) ≤ 9223372036854775807) : EvP (fun k => slices_Equal_int_int.f k a b) (· = decide (a = b)) := by
  unfold slices_Equal_int_int.f
  refine EvP.ite (fun hl => ?_) (fun hl => EvP.now ?_)
  · refine EvP.upto (L := fun k (_ : Unit) i => slices_Equal_int_int.l0 k a b (a.length : Int) i) (n := a.length) (Inv := fun i _ => ∀ j : Nat, j < i → rd a (j : Int) = rd b (j : Int)) ?_ ?_ () (fun j hj => by omega)
    · rintro i _ hi hv ih
      simp only [slices_Equal_int_int.l0]
      refine EvP.pos (by omega) (EvP.pos (by omega) (EvP.pos (by omega) (EvP.pos (by omega) ?_)))
      refine EvP.ite (fun e => ?_) (fun e => EvP.now (ints_ne e).symm)
      rw [wrap_id (by omega) (by omega)]
      refine ih () (fun j hj => ?_)
      rcases Nat.lt_succ_iff_lt_or_eq.1 hj with hj | rfl
      · exact hv j hj
      · exact e
    · rintro _ hv
      simp only [slices_Equal_int_int.l0]
      exact EvP.neg (by omega) (EvP.now (decide_eq_true (ints_eq (by omega) hv)).symm)
  · symm
    rw [decide_eq_false_iff_not]
    intro e
    exact hl (by rw [e])
theorem laws_equalInts.ok (l : List Int) (hl : (l.length : Int) ≤ 9223372036854775807) : EvP (fun k => laws_equalInts.f k l l) (· = true) := by
  unfold laws_equalInts.f
  refine EvP.pos rfl ?_
  refine EvP.range (L := fun k (_ : Unit) i => laws_equalInts.l0 k l l i) (xs := l) (Inv := fun _ _ => True) ?_ ?_ () trivial
  · rintro pre x rest s hx _ ih
    have hlt := len_at hx
    simp only [laws_equalInts.l0, wrap_at hx hl]
    exact EvP.pos hlt (EvP.pos (nat_nonneg _) (EvP.pos hlt (EvP.pos trivial (ih () trivial))))
  · rintro s _
    simp only [laws_equalInts.l0]
    exact EvP.neg (by omega) (EvP.now rfl)
abbrev E := S69
abbrev C := S30
def expB (e : E) : Bool := callB ⟨e.f0, e.f1⟩ && (decide (e.f2 = true → e.f1.length = 0) && decide (0 ≤ e.f3 ∧ e.f3 ≤ e.f4 ∧ e.f4 ≤ 12))
def expsB (l : List E) : Bool := l.all expB && decide (l.length ≤ 6)
def GoodE (l : List E) : Prop := (l.length : Int) ≤ 4398046511104 ∧ ∀ x ∈ l, (x.f0.size : Int) ≤ 4398046511104 ∧ (x.f1.length : Int) ≤ 4398046511104
theorem expsB_no {l pre rest : List E} {x : E} (h : l = pre ++ x :: rest) (hx : expB x = false) : expsB l = false := by
  rw [h, expsB, List.all_append, List.all_cons, hx]
  simp
theorem expB_call {e : E} (h : callB ⟨e.f0, e.f1⟩ = false) : expB e = false := by
  rw [expB, h]
  rfl
theorem expB_any {e : E} (h : ¬ (e.f2 = true → e.f1.length = 0)) : expB e = false := by
  rw [expB, decide_eq_false h]
  simp
theorem expB_num {e : E} (h : ¬ (0 ≤ e.f3 ∧ e.f3 ≤ e.f4 ∧ e.f4 ≤ 12)) : expB e = false := by
  rw [expB, decide_eq_false h]
  simp
theorem expB_yes {e : E} (h1 : callB ⟨e.f0, e.f1⟩ = true) (h2 : e.f2 = true → e.f1.length = 0) (h3 : 0 ≤ e.f3 ∧ e.f3 ≤ e.f4 ∧ e.f4 ≤ 12) : expB e = true := by
  rw [expB, h1, decide_eq_true h2, decide_eq_true h3]
  rfl
def meetB (e : E) (c : C) : Bool := decide (e.f0.toList = c.f0.toList) && (e.f2 || decide (e.f1 = c.f1))
def cntE (l : List C) (e : E) : Nat := l.countP (meetB e)
theorem cntE_le (l : List C) (e : E) : cntE l e ≤ l.length := List.countP_le_length
theorem cntE_snoc (l : List C) (x : C) (e : E) : cntE (l ++ [x]) e = cntE l e + if meetB e x = true then 1 else 0 := by
  simp [cntE, List.countP_append, List.countP_cons]
def unmetE (l : List C) (e : E) : Bool := decide ((cntE l e : Int) < e.f3 ∨ (cntE l e : Int) > e.f4)
def unIdx (l : List C) (es : List E) : Nat → List Int
  | 0 => []
  | n + 1 => unIdx l es n ++ if unmetE l (rd_T69 es (n : Int)) = true then [(n : Int)] else []
theorem unIdx_len (l : List C) (es : List E) : ∀ n, (unIdx l es n).length ≤ n
  | 0 => Nat.le_refl _
  | n + 1 => by
    have := unIdx_len l es n
    rw [unIdx, List.length_append]
    split
    · simp only [List.length_singleton]
      omega
    · simp only [List.length_nil]
      omega
theorem unIdx_mem (l : List C) (es : List E) (i : Int) : ∀ n : Nat, i ∈ unIdx l es n ↔ 0 ≤ i ∧ i < (n : Int) ∧ unmetE l (rd_T69 es i) = true
  | 0 => by
    simp [unIdx]
    omega
  | n + 1 => by
    rw [unIdx, List.mem_append, unIdx_mem l es i n]
    constructor
    · rintro (⟨a, b, c⟩ | h)
      · exact ⟨a, by omega, c⟩
      · split at h
        · rename_i g
          rw [List.mem_singleton.1 h]
          exact ⟨by omega, by omega, g⟩
        · cases h
    · rintro ⟨a, b, c⟩
      by_cases e : i = (n : Int)
      · right
        rw [← e, if_pos c]
        simp
      · exact .inl ⟨a, by omega, c⟩
theorem unIdx_asc (l : List C) (es : List E) : ∀ n : Nat, (unIdx l es n).Pairwise (· < ·)
  | 0 => List.Pairwise.nil
  | n + 1 => by
    rw [unIdx, List.pairwise_append]
    refine ⟨unIdx_asc l es n, ?_, fun a ha b hb => ?_⟩
    · split
      · exact List.pairwise_singleton _ _
      · exact List.Pairwise.nil
    · split at hb
      · rw [List.mem_singleton.1 hb]
        exact ((unIdx_mem l es a n).1 ha).2.1
      · cases hb
def unmet (l : List C) (es : List E) : List Int := if (callsB l && expsB es) = true then unIdx l es es.length else []
theorem impl_expectsOk.ok (l : List E) (h : GoodE l) : EvP (fun k => impl_expectsOk.f k l) (· = expsB l) := by
  have h1 := h.1
  unfold impl_expectsOk.f
  refine EvP.range (L := fun k (_ : Unit) i => impl_expectsOk.l0 k l l (l.length : Int) i) (xs := l) (Inv := fun pre _ => pre.all expB = true) ?_ ?_ () rfl
  · rintro pre x rest _ hx hi ih
    have hl := len_at hx
    have hr : rd_T69 l (pre.length : Int) = x := getD_at hx _
    have hg := h.2 x (by rw [hx]; simp)
    simp only [impl_expectsOk.l0, hr, wrap_at hx (show (l.length : Int) ≤ 9223372036854775807 by omega)]
    refine EvP.pos hl (EvP.pos (nat_nonneg _) (EvP.pos hl ?_))
    refine EvP.bind (impl_callOk.ok x.f0 x.f1 hg.1 hg.2) ?_
    rintro _ rfl
    refine EvP.ite (fun e => ?_) (fun e => EvP.now (expsB_no hx (expB_call (by simpa using e))).symm)
    have tail : (x.f2 = true → x.f1.length = 0) → EvP (fun k => if x.f3 < 0 then some false else if x.f3 > x.f4 then some false else if x.f4 > 12 then some false else impl_expectsOk.l0 k l l (l.length : Int) ((pre ++ [x]).length : Int)) (· = expsB l) := fun g =>
      EvP.ite (fun e3 => EvP.now (expsB_no hx (expB_num (by omega))).symm) (fun e3 => EvP.ite (fun e4 => EvP.now (expsB_no hx (expB_num (by omega))).symm) (fun e4 => EvP.ite (fun e5 => EvP.now (expsB_no hx (expB_num (by omega))).symm) (fun e5 => ih () (all_snoc hi (expB_yes e g (by omega))))))
    refine EvP.ite (fun e2 => EvP.ite (fun e3 => EvP.now (expsB_no hx (expB_any (fun g => by have := g e2; omega))).symm) (fun e3 => tail (fun _ => by omega))) (fun e2 => tail (fun g => absurd g e2))
  · rintro _ hi
    simp only [impl_expectsOk.l0]
    refine EvP.neg (by omega) (EvP.now ?_)
    rw [expsB, hi, Bool.true_and]
    congr 1
    simp
    omega
theorem spec_validExpect.ok (e : E) (h1 : (e.f0.size : Int) ≤ 4398046511104) (h2 : (e.f1.length : Int) ≤ 4398046511104) : EvP (fun k => spec_validExpect.f k e.f0 e.f1 e.f2 e.f3 e.f4) (· = expB e) := by
  unfold spec_validExpect.f
  refine EvP.bind (spec_validCalls.ok [⟨e.f0, e.f1⟩] ⟨by simp, fun x hx => by rw [List.mem_singleton.1 hx]; exact ⟨h1, h2⟩⟩) ?_
  rintro _ rfl
  have ec : callsB [(⟨e.f0, e.f1⟩ : C)] = callB ⟨e.f0, e.f1⟩ := by simp [callsB]
  rw [ec]
  have tail : callB ⟨e.f0, e.f1⟩ = true → (e.f2 = true → e.f1.length = 0) → EvP (fun _ : Nat => (spec_inRange.f e.f3 0 12).bind fun t => if t = true then (spec_inRange.f e.f4 e.f3 12).bind fun u => some u else some false) (· = expB e) := by
    intro g1 g2
    refine EvP.bind (spec_inRange.ok _ _ _) ?_
    rintro _ rfl
    refine EvP.ite (fun e3 => ?_) (fun e3 => EvP.now (expB_num (fun g => e3 (decide_eq_true (by omega)))).symm)
    refine EvP.bind (spec_inRange.ok _ _ _) ?_
    rintro _ rfl
    have e4 := of_decide_eq_true e3
    by_cases e5 : e.f3 ≤ e.f4 ∧ e.f4 ≤ 12
    · exact EvP.now (by rw [decide_eq_true e5, expB_yes g1 g2 (by omega)])
    · exact EvP.now (by rw [decide_eq_false e5, expB_num (fun g => e5 (by omega))])
  refine EvP.ite (fun e1 => EvP.ite (fun e2 => EvP.ite (fun e3 => tail e1 (fun _ => by omega)) (fun e3 => EvP.now (expB_any (fun g => e3 (by have := g e2; omega))).symm)) (fun e2 => tail e1 (fun g => absurd g e2))) (fun e1 => EvP.now (expB_call (by simpa using e1)).symm)
theorem spec_validExpects.ok (l : List E) (h : GoodE l) : EvP (fun k => spec_validExpects.f k l) (· = expsB l) := by
  have h1 := h.1
  unfold spec_validExpects.f
  refine EvP.range (L := fun k (_ : Unit) i => spec_validExpects.l0 k l i) (xs := l) (Inv := fun pre _ => pre.all expB = true) ?_ ?_ () rfl
  · rintro pre x rest _ hx hi ih
    have hl := len_at hx
    have hr : rd_T69 l (pre.length : Int) = x := getD_at hx _
    have hg := h.2 x (by rw [hx]; simp)
    simp only [spec_validExpects.l0, hr, wrap_at hx (show (l.length : Int) ≤ 9223372036854775807 by omega)]
    refine EvP.pos hl (EvP.pos (nat_nonneg _) ?_)
    refine EvP.bind (spec_validExpect.ok x hg.1 hg.2) ?_
    rintro _ rfl
    exact EvP.ite (fun e => ih () (all_snoc hi e)) (fun e => EvP.now (expsB_no hx (by simpa using e)).symm)
  · rintro _ hi
    simp only [spec_validExpects.l0]
    refine EvP.neg (by omega) (EvP.now ?_)
    rw [expsB, hi, Bool.true_and]
    congr 1
    simp
    omega
theorem impl_Expect_meets.ok (e : E) (c : C) (h : (e.f1.length : Int) ≤ 4398046511104) : EvP (fun k => impl_Expect_meets.f k e.f0 e.f1 e.f2 e.f3 e.f4 c.f0 c.f1) (· = meetB e c) := by
  unfold impl_Expect_meets.f
  refine EvP.ite (fun e1 => EvP.ite (fun e2 => EvP.now (by rw [meetB, decide_eq_true e1, e2]; rfl)) (fun e2 => ?_)) (fun e1 => EvP.now (by rw [meetB, decide_eq_false e1]; rfl))
  refine EvP.bind (slices_Equal_int_int.ok _ _ (by omega)) ?_
  rintro _ rfl
  exact EvP.now (by rw [meetB, decide_eq_true e1, show e.f2 = false by simpa using e2]; rfl)
theorem spec_meets.ok (e : E) (c : C) (h : (c.f1.length : Int) ≤ 4398046511104) : EvP (fun k => spec_meets.f k c.f0 c.f1 e.f0 e.f1 e.f2 e.f3 e.f4) (· = meetB e c) := by
  unfold spec_meets.f
  refine EvP.ite (fun e2 => EvP.ite (fun e1 => EvP.now (by rw [meetB, decide_eq_true e1.symm, e2]; rfl)) (fun e1 => EvP.now (by rw [meetB, decide_eq_false (fun g => e1 g.symm)]; rfl))) (fun e2 => ?_)
  refine EvP.bind (spec_sameCall.ok _ _ _ _ h) ?_
  rintro _ rfl
  refine EvP.now ?_
  rw [meetB, sameB, show e.f2 = false by simpa using e2, Bool.false_or]
  congr 1
  · simp [eq_comm]
  · simp [eq_comm]
theorem unIdx_yes {l : List C} {es : List E} {n : Nat} (h : (cntE l (rd_T69 es (n : Int)) : Int) < (rd_T69 es (n : Int)).f3 ∨ (cntE l (rd_T69 es (n : Int)) : Int) > (rd_T69 es (n : Int)).f4) : unIdx l es n ++ [(n : Int)] = unIdx l es (n + 1) := by
  rw [unIdx, unmetE, decide_eq_true h]
  rfl
theorem unIdx_no {l : List C} {es : List E} {n : Nat} (h : ¬ ((cntE l (rd_T69 es (n : Int)) : Int) < (rd_T69 es (n : Int)).f3 ∨ (cntE l (rd_T69 es (n : Int)) : Int) > (rd_T69 es (n : Int)).f4)) : unIdx l es n = unIdx l es (n + 1) := by
  rw [unIdx, unmetE, decide_eq_false h]
  simp
theorem rdE_mem {es : List E} {i : Nat} (h : i < es.length) : rd_T69 es (i : Int) ∈ es := by
  unfold rd_T69
  rw [Int.toNat_natCast, List.getD_eq_getElem?_getD, List.getElem?_eq_getElem h]
  exact List.getElem_mem _
theorem impl_UnmetExpects.ok (l : List C) (es : List E) (h : GoodC l) (he : GoodE es) : EvP (fun k => impl_UnmetExpects.f k l es) (· = unmet l es) := by
  have h1 := h.1
  have h2 := he.1
  have no : ∀ c : Bool, c = true → (callsB l && expsB es) = false → EvP (fun k => impl_UnmetExpects.j0 k l es c) (· = unmet l es) := by
    intro c hc hb
    refine EvP.succ ?_
    simp only [impl_UnmetExpects.j0]
    exact EvP.pos hc (EvP.now (by rw [unmet, hb]; rfl))
  unfold impl_UnmetExpects.f
  refine EvP.bind (impl_ValidCalls.ok l h) ?_
  rintro _ rfl
  refine EvP.ite (fun e => ?_) (fun e => no _ rfl (by rw [show callsB l = false by simpa using e]; rfl))
  refine EvP.bind (impl_expectsOk.ok es he) ?_
  rintro _ rfl
  cases e2 : expsB es with
  | false => exact no _ rfl (by rw [e2]; simp)
  | true =>
    refine EvP.succ ?_
    simp only [impl_UnmetExpects.j0]
    refine EvP.neg (by simp) ?_
    refine EvP.upto (L := fun k s i => impl_UnmetExpects.l0 k l s es (es.length : Int) i) (n := es.length) (Inv := fun i s => s = unIdx l es i) ?_ ?_ [] rfl
    · rintro i s hi rfl ih
      have hn := unIdx_len l es i
      have hge := he.2 _ (rdE_mem hi)
      simp only [impl_UnmetExpects.l0]
      refine EvP.pos (by omega) (EvP.pos (by omega) (EvP.pos (by omega) ?_))
      refine EvP.range (L := fun k n j => impl_UnmetExpects.l1 k l (unIdx l es i) (i : Int) n es (es.length : Int) (i : Int) l (l.length : Int) j (rd_T69 es (i : Int)).f0 (rd_T69 es (i : Int)).f1 (rd_T69 es (i : Int)).f2 (rd_T69 es (i : Int)).f3 (rd_T69 es (i : Int)).f4) (xs := l) (Inv := fun pre n => n = (cntE pre (rd_T69 es (i : Int)) : Int)) ?_ ?_ 0 rfl
      · rintro pre x rest n hx rfl ih2
        have hl := len_at hx
        have hc := cntE_le pre (rd_T69 es (i : Int))
        have hr : rd_T30 l (pre.length : Int) = x := getD_at hx _
        simp only [impl_UnmetExpects.l1, hr, wrap_at hx (show (l.length : Int) ≤ 9223372036854775807 by omega)]
        refine EvP.pos hl (EvP.pos (nat_nonneg _) (EvP.pos hl ?_))
        refine EvP.bind (impl_Expect_meets.ok _ x hge.2) ?_
        rintro _ rfl
        refine EvP.ite (fun e => ?_) (fun e => ih2 _ (by rw [cntE_snoc, if_neg e]; rfl))
        rw [wrap_id (by omega) (by omega)]
        exact ih2 _ (by rw [cntE_snoc, if_pos e]; rfl)
      · rintro n rfl
        simp only [impl_UnmetExpects.l1]
        rw [wrap_id (x := (i : Int) + 1) (by omega) (by omega)]
        refine EvP.neg (by omega) (EvP.ite (fun e3 => EvP.pos (by omega) (ih _ (unIdx_yes (.inl e3)))) (fun e3 => EvP.ite (fun e4 => EvP.pos (by omega) (ih _ (unIdx_yes (.inr e4)))) (fun e4 => ih _ (unIdx_no (by omega)))))
    · rintro s rfl
      simp only [impl_UnmetExpects.l0]
      exact EvP.neg (by omega) (EvP.now (by rw [unmet, e, e2]; rfl))
theorem spec_UnmetExpects.ok (l : List C) (es : List E) (h : GoodC l) (he : GoodE es) : EvP (fun k => spec_UnmetExpects.f k l es) (· = unmet l es) := by
  have h1 := h.1
  have h2 := he.1
  have no : ∀ c : Bool, c = true → (callsB l && expsB es) = false → EvP (fun k => spec_UnmetExpects.j0 k l es c) (· = unmet l es) := by
    intro c hc hb
    refine EvP.succ ?_
    simp only [spec_UnmetExpects.j0]
    exact EvP.pos hc (EvP.now (by rw [unmet, hb]; rfl))
  unfold spec_UnmetExpects.f
  refine EvP.bind (spec_validCalls.ok l h) ?_
  rintro _ rfl
  refine EvP.ite (fun e => ?_) (fun e => no _ rfl (by rw [show callsB l = false by simpa using e]; rfl))
  refine EvP.bind (spec_validExpects.ok es he) ?_
  rintro _ rfl
  cases e2 : expsB es with
  | false => exact no _ rfl (by rw [e2]; simp)
  | true =>
    refine EvP.succ ?_
    simp only [spec_UnmetExpects.j0]
    refine EvP.neg (by simp) ?_
    refine EvP.upto (L := fun k s i => spec_UnmetExpects.l0 k l es s i) (n := es.length) (Inv := fun i s => s = unIdx l es i) ?_ ?_ [] rfl
    · rintro i s hi rfl ih
      have hn := unIdx_len l es i
      simp only [spec_UnmetExpects.l0]
      refine EvP.pos (by omega) ?_
      refine EvP.range (L := fun k n j => spec_UnmetExpects.l1 k l es (unIdx l es i) (i : Int) n j) (xs := l) (Inv := fun pre n => n = (cntE pre (rd_T69 es (i : Int)) : Int)) ?_ ?_ 0 rfl
      · rintro pre x rest n hx rfl ih2
        have hl := len_at hx
        have hc := cntE_le pre (rd_T69 es (i : Int))
        have hr : rd_T30 l (pre.length : Int) = x := getD_at hx _
        have hg := h.2 x (by rw [hx]; simp)
        simp only [spec_UnmetExpects.l1, hr, wrap_at hx (show (l.length : Int) ≤ 9223372036854775807 by omega)]
        refine EvP.pos hl (EvP.pos (nat_nonneg _) (EvP.pos (by omega) (EvP.pos (by omega) ?_)))
        refine EvP.bind (spec_meets.ok _ x hg.2) ?_
        rintro _ rfl
        refine EvP.ite (fun e => ?_) (fun e => ih2 _ (by rw [cntE_snoc, if_neg e]; rfl))
        rw [wrap_id (by omega) (by omega)]
        exact ih2 _ (by rw [cntE_snoc, if_pos e]; rfl)
      · rintro n rfl
        simp only [spec_UnmetExpects.l1]
        rw [wrap_id (x := (i : Int) + 1) (by omega) (by omega)]
        refine EvP.neg (by omega) (EvP.pos (by omega) (EvP.pos (by omega) ?_))
        refine EvP.bind (spec_inRange.ok _ _ _) ?_
        rintro _ rfl
        refine EvP.ite (fun e3 => ih _ (unIdx_no (by have := of_decide_eq_true e3; omega))) (fun e3 => EvP.pos (by omega) (ih _ (unIdx_yes ?_)))
        have g3 : ¬ ((rd_T69 es (i : Int)).f3 ≤ (cntE l (rd_T69 es (i : Int)) : Int) ∧ (cntE l (rd_T69 es (i : Int)) : Int) ≤ (rd_T69 es (i : Int)).f4) := fun g => e3 (decide_eq_true g)
        omega
    · rintro s rfl
      simp only [spec_UnmetExpects.l0]
      exact EvP.neg (by omega) (EvP.now (by rw [unmet, e, e2]; rfl))
theorem laws_isIn.ok (l : List Int) (v : Int) (h : (l.length : Int) ≤ 9223372036854775807) : EvP (fun k => laws_isIn.f k l v) (· = decide (v ∈ l)) := by
  unfold laws_isIn.f
  refine EvP.range (L := fun k (_ : Unit) i => laws_isIn.l0 k l v i) (xs := l) (Inv := fun pre _ => ¬ v ∈ pre) ?_ ?_ () (by simp)
  · rintro pre x rest _ hx hi ih
    have hl := len_at hx
    have hr : rd l (pre.length : Int) = x := getD_at hx _
    simp only [laws_isIn.l0, hr, wrap_at hx h]
    refine EvP.pos hl (EvP.pos (nat_nonneg _) (EvP.ite (fun e => EvP.now ?_) (fun e => ih () ?_)))
    · rw [decide_eq_true (by rw [hx, e]; simp)]
    · simp only [List.mem_append, List.mem_singleton, not_or]
      exact ⟨hi, fun g => e g.symm⟩
  · rintro _ hi
    simp only [laws_isIn.l0]
    exact EvP.neg (by omega) (EvP.now (decide_eq_false hi).symm)
theorem laws_ascends.ok (l : List Int) (h : (l.length : Int) ≤ 4398046511104) (hp : l.Pairwise (· < ·)) : EvP (fun k => laws_ascends.f k l) (· = true) := by
  unfold laws_ascends.f
  have main : ∀ (d i : Nat), l.length - i = d → 1 ≤ i → EvP (fun k => laws_ascends.l0 k l (i : Int)) (· = true) := by
    intro d
    induction d with
    | zero =>
      intro i hd hi
      refine EvP.succ ?_
      simp only [laws_ascends.l0]
      exact EvP.neg (by omega) (EvP.now rfl)
    | succ d ih =>
      intro i hd hi
      refine EvP.succ ?_
      simp only [laws_ascends.l0]
      rw [wrap_id (x := (i : Int) - 1) (by omega) (by omega), wrap_id (x := (i : Int) + 1) (by omega) (by omega)]
      refine EvP.pos (by omega) (EvP.pos (by omega) (EvP.pos (by omega) (EvP.pos (by omega) (EvP.neg ?_ ?_))))
      · unfold rd
        rw [Int.toNat_natCast, show ((i : Int) - 1).toNat = i - 1 by omega, List.getD_eq_getElem?_getD, List.getD_eq_getElem?_getD, List.getElem?_eq_getElem (by omega), List.getElem?_eq_getElem (by omega)]
        have := List.pairwise_iff_getElem.1 hp (i - 1) i (by omega) (by omega) (by omega)
        simp only [Option.getD_some]
        omega
      · exact ih (i + 1) (by omega) (by omega)
  exact main _ 1 rfl (Nat.le_refl _)
theorem spec_someExpects.ok (b : List Int) (p : Int) (hb : Bytes b) (h0 : 0 ≤ p) (h1 : p ≤ 5000) : EvP (fun k => spec_someExpects.f k b p) (fun r => GoodE r.1) := by
  unfold spec_someExpects.f
  refine EvP.bind (spec_reader_one.ok b p _ hb h0 (by omega) (by simp)) ?_
  rintro ⟨n, q⟩ ⟨g0, g2⟩
  simp only at g0 g2
  subst g2
  have g1 : 0 ≤ n ∧ n ≤ 4 := by
    simp only [List.mem_cons, List.not_mem_nil, or_false] at g0
    omega
  refine EvP.down (L := fun k (s : List E × Int) i => spec_someExpects.l0 k s.1 i b s.2) (Inv := fun i s => 0 ≤ i ∧ (s.1.length : Int) + i ≤ 4 ∧ GoodE s.1 ∧ 0 ≤ s.2 ∧ s.2 + 7 * i ≤ p + 40) ?_ ?_ n ([], p + 1) ⟨g1.1, by simp only [List.length_nil]; omega, ⟨by simp, fun x hx => (by cases hx)⟩, by simp only; omega, by simp only; omega⟩
  · rintro i ⟨l, q⟩ hi ⟨a0, a1, a2, a3, a4⟩ ih
    simp only at a1 a2 a3 a4
    simp only [spec_someExpects.l0]
    refine EvP.pos hi ?_
    refine EvP.bind (spec_aCall.ok b q hb a3 (by omega)) ?_
    rintro ⟨nm, v, q1⟩ ⟨v0, v1, v2⟩
    simp only at v0 v1 v2
    have hs := callB_sz v0
    simp only at hs
    refine EvP.bind (spec_reader_pick.ok b q1 2 hb v1 (by omega)) ?_
    rintro ⟨m1, q2⟩ ⟨_, _, w1⟩
    simp only at w1
    subst w1
    refine EvP.bind (spec_reader_pick.ok b (q1 + 1) 3 hb (by omega) (by omega)) ?_
    rintro ⟨m2, q2⟩ ⟨_, _, w1⟩
    simp only at w1
    subst w1
    refine EvP.bind (spec_reader_pick.ok b (q1 + 1 + 1) 3 hb (by omega) (by omega)) ?_
    rintro ⟨m3, q2⟩ ⟨_, _, w1⟩
    simp only at w1
    subst w1
    rw [wrap_id (x := i - 1) (by omega) (by omega)]
    have snoc : ∀ x : E, (x.f0.size : Int) ≤ 6 → (x.f1.length : Int) ≤ 3 → GoodE (l ++ [x]) := by
      intro x x1 x2
      refine ⟨by rw [List.length_append, List.length_singleton]; omega, fun y hy => ?_⟩
      rcases List.mem_append.1 hy with hy | hy
      · exact a2.2 y hy
      · rw [List.mem_singleton.1 hy]
        omega
    refine EvP.ite (fun _ => EvP.pos (by omega) (ih (l ++ [⟨nm, [], true, m1, _⟩], q1 + 1 + 1 + 1) ⟨by omega, by simp only [List.length_append, List.length_singleton]; omega, snoc _ hs.1 (by simp), by simp only; omega, by simp only; omega⟩)) (fun _ => EvP.pos (by omega) (ih (l ++ [⟨nm, v, false, m1, _⟩], q1 + 1 + 1 + 1) ⟨by omega, by simp only [List.length_append, List.length_singleton]; omega, snoc _ hs.1 hs.2, by simp only; omega, by simp only; omega⟩))
  · rintro i ⟨l, q⟩ hi ⟨a0, a1, a2, a3, a4⟩
    simp only at a1 a2 a3 a4
    simp only [spec_someExpects.l0]
    refine EvP.neg (by omega) (EvP.ite (fun hl => ?_) (fun hl => EvP.now a2))
    refine EvP.bind (spec_reader_pick.ok b q 20 hb a3 (by omega)) ?_
    rintro ⟨c, q1⟩ ⟨_, _, c1⟩
    simp only at c1
    subst c1
    refine EvP.ite (fun _ => ?_) (fun _ => EvP.now a2)
    refine EvP.bind (spec_reader_one.ok b (q + 1) _ hb (by omega) (by omega) (by simp)) ?_
    rintro ⟨c, q1⟩ _
    refine EvP.pos (by omega) (EvP.now ⟨?_, fun x hx => ?_⟩)
    · simp only [List.length_set]
      exact a2.1
    · rcases List.mem_or_eq_of_mem_set hx with hx | rfl
      · exact a2.2 x hx
      · exact a2.2 (rd_T69 l 0) (rdE_mem (i := 0) (by have hl' : (l.length : Int) > 0 := hl; omega))
theorem main : laws_FnUnmetExpects.Pure := by
  intro l0 _ _ hw
  refine EvP.rounds ?_
  unfold laws_FnUnmetExpects.f
  refine EvP.ite (fun _ => EvP.now rfl) (fun _ => ?_)
  refine EvP.bind (P := fun r => GoodC r.1 ∧ GoodE r.2) ?_ ?_
  · unfold spec_DrawUnmetExpects.f
    refine EvP.bind (spec_newReader.ok l0 hw) ?_
    rintro ⟨b, p⟩ ⟨hb, hp⟩
    simp only at hb hp
    subst hp
    refine EvP.bind (spec_someCalls.ok b 0 hb (by omega) (by omega)) ?_
    rintro ⟨l, p⟩ ⟨h1, h2, h3, h4⟩
    simp only at h1 h2 h3 h4
    refine EvP.bind (spec_someExpects.ok b p hb h3 (by omega)) ?_
    rintro ⟨es, q1⟩ m0
    exact EvP.now ⟨h1, m0⟩
  · rintro ⟨l, es⟩ ⟨hg, he⟩
    simp only at hg he
    have he1 := he.1
    have hu : (unmet l es).length ≤ es.length := by
      unfold unmet
      split
      · exact unIdx_len l es _
      · simp
    refine EvP.bind (impl_UnmetExpects.ok l es hg he) ?_
    rintro _ rfl
    refine EvP.bind (spec_UnmetExpects.ok l es hg he) ?_
    rintro _ rfl
    refine EvP.bind (laws_equalInts.ok _ (by omega)) ?_
    rintro _ rfl
    refine EvP.pos rfl (EvP.succ ?_)
    simp only [laws_FnUnmetExpects.j0]
    refine EvP.ite (fun _ => ?_) (fun hn => ?_)
    · refine EvP.bind (spec_UnmetExpects.ok l es hg he) ?_
      rintro _ rfl
      refine EvP.bind (laws_equalInts.ok _ (by omega)) ?_
      rintro _ rfl
      exact EvP.now rfl
    have hv : (callsB l && expsB es) = true := by
      cases e : (callsB l && expsB es) with
      | true => rfl
      | false =>
        exfalso
        apply hn
        rw [unmet, e]
        rfl
    have eu : unmet l es = unIdx l es es.length := by rw [unmet, if_pos hv]
    obtain ⟨v1, v2⟩ := Bool.and_eq_true_iff.1 hv
    have v3 : es.all expB = true := by
      rw [expsB, Bool.and_eq_true] at v2
      exact v2.1
    refine EvP.range (L := fun k (_ : Unit) i => laws_FnUnmetExpects.l0 k l es (unmet l es) i) (xs := es) (Inv := fun _ _ => True) ?_ ?_ () trivial
    · rintro pre x rest _ hx _ ih
      have hlt := len_at hx
      have hr : rd_T69 es (pre.length : Int) = x := getD_at hx _
      have hxm : x ∈ es := by rw [hx]; simp
      have hxb : expB x = true := List.all_eq_true.1 v3 x hxm
      simp only [laws_FnUnmetExpects.l0, wrap_at hx (show (es.length : Int) ≤ 9223372036854775807 by omega)]
      rw [len_snoc]
      refine EvP.pos hlt (EvP.pos (nat_nonneg _) (EvP.pos (by omega) (EvP.pos (by omega) ?_)))
      have e1 : (es.take ((pre.length : Int) + 1).toNat).drop (pre.length : Int).toNat = [x] := by
        rw [Int.toNat_natCast, show ((pre.length : Int) + 1).toNat = pre.length + 1 by omega, List.drop_take, hx, List.drop_left, Nat.add_sub_cancel_left]
        rfl
      rw [e1]
      have g1 : GoodE [x] := ⟨by simp, fun y hy => by rw [List.mem_singleton.1 hy]; exact he.2 x hxm⟩
      refine EvP.bind (impl_UnmetExpects.ok l [x] hg g1) ?_
      rintro _ rfl
      refine EvP.bind (laws_isIn.ok _ _ (by omega)) ?_
      rintro _ rfl
      have e2 : ((((unmet l [x]).length : Int) == 1) != decide ((pre.length : Int) ∈ unmet l es)) = false := by
        have e3 : unmet l [x] = if unmetE l x = true then [0] else [] := by
          rw [unmet, v1, expsB]
          rw [if_pos (by simp [hxb])]
          rfl
        have e4 : decide ((pre.length : Int) ∈ unmet l es) = unmetE l x := by
          rw [Bool.eq_iff_iff, decide_eq_true_iff, eu, unIdx_mem, hr]
          exact ⟨fun g => g.2.2, fun g => ⟨by omega, hlt, g⟩⟩
        rw [e3, e4]
        cases unmetE l x <;> rfl
      rw [e2]
      refine EvP.neg (by simp) ?_
      have := ih () trivial
      rw [len_snoc] at this
      exact this
    · rintro _ _
      simp only [laws_FnUnmetExpects.l0]
      refine EvP.neg (by omega) ?_
      refine EvP.bind (laws_ascends.ok _ (by omega) (by rw [eu]; exact unIdx_asc l es _)) ?_
      rintro _ rfl
      exact EvP.now rfl
end QFnUnmetExpects
theorem FnUnmetExpects : laws_FnUnmetExpects.Pure := QFnUnmetExpects.main
end Go.Proofs.Ytihmgjefndkfeaa.Pure

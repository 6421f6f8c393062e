/- FnAnyOrder answers true for every code: the program's AnyOrder answers as the reference's does, it is the same with the calls turned and with the wanted ones turned, and where it holds no more are wanted than there are. Conditions: those of the printed statement alone (bounds on sizes that every input meets). -/
import Derived.Test.YtihmgjefndkfeaaOFnAnyOrderx8
import Derived.Test.YtihmgjefndkfeaaBase
namespace Go.Proofs.Ytihmgjefndkfeaa.Pure
open Go.RowKit Go.Proofs.Ytihmgjefndkfeaa.OFnAnyOrder Go.Proofs.YtihmgjefndkfeaaW.PrintWords Go.Proofs.YtihmgjefndkfeaaW.PrintLast Go.Proofs.YtihmgjefndkfeaaW.PrintMore Go.Proofs.Ytihmgjefndkfeaa.Base
set_option linter.unusedVariables false
set_option linter.unusedSimpArgs false
namespace QFnAnyOrder
/-! #### the reader of draws -/
def Bytes (b : List Int) : Prop := b.length ≤ 2000 ∧ ∀ x ∈ b, 0 ≤ x ∧ x ≤ 255
theorem spec_newReader.ok (l0 : List Int) (h : ∀ x ∈ l0, (Lit.int .u8 x).wf = true) : EvP (fun _ => spec_newReader.f l0) (fun r => Bytes r.1 ∧ r.2 = 0) := by
  have hw : ∀ x ∈ l0, 0 ≤ x ∧ x ≤ 255 := by
    intro x hx
    have := h x hx
    simp [Lit.wf, IntKind.min, IntKind.max, IntKind.signed, IntKind.bits] at this
    omega
  unfold spec_newReader.f
  refine EvP.ite (fun h1 => EvP.pos (by omega) (EvP.now ⟨⟨?_, fun x hx => hw x (List.mem_of_mem_take hx)⟩, rfl⟩)) (fun h1 => EvP.now ⟨⟨by simp only; omega, hw⟩, rfl⟩)
  show (l0.take 2000).length ≤ 2000
  simp
  omega
theorem rd_mem {l : List Int} {i : Int} (h0 : 0 ≤ i) (h1 : i < (l.length : Int)) : rd l i ∈ l := by
  unfold rd
  rw [List.getD_eq_getElem?_getD, List.getElem?_eq_getElem (by omega)]
  exact List.getElem_mem _
theorem rdOf_mem {α : Type} (d : α) {l : List α} {i : Int} (h0 : 0 ≤ i) (h1 : i < (l.length : Int)) : rdOf d l i ∈ l := by
  unfold rdOf
  rw [List.getD_eq_getElem?_getD, List.getElem?_eq_getElem (by omega)]
  exact List.getElem_mem _
theorem xor_nonneg (a b : Int) (ha : 0 ≤ a) (ha1 : a < 9223372036854775808) (hb : 0 ≤ b) (hb1 : b < 9223372036854775808) : 0 ≤ Go.bits .xor .i64 a b := by
  obtain ⟨m, rfl⟩ := Int.eq_ofNat_of_zero_le ha
  obtain ⟨n, rfl⟩ := Int.eq_ofNat_of_zero_le hb
  have hx : m ^^^ n < 2 ^ 63 := Nat.xor_lt_two_pow (by omega) (by omega)
  have h1 : (BitVec.ofInt 64 (m : Int)).toNat = m := by
    rw [BitVec.ofInt_natCast, BitVec.toNat_ofNat]; exact Nat.mod_eq_of_lt (by omega)
  have h2 : (BitVec.ofInt 64 (n : Int)).toNat = n := by
    rw [BitVec.ofInt_natCast, BitVec.toNat_ofNat]; exact Nat.mod_eq_of_lt (by omega)
  show 0 ≤ IntKind.i64.wrap ((BitVec.ofInt 64 (m : Int) ^^^ BitVec.ofInt 64 (n : Int)).toNat : Int)
  rw [BitVec.toNat_xor, h1, h2, IntKind.wrap_i64]
  omega
theorem tmod_in (a n : Int) (ha : 0 ≤ a) (hn : 0 < n) : 0 ≤ Int.tmod a n ∧ Int.tmod a n < n := by
  rw [Int.tmod_eq_emod_of_nonneg ha]
  exact ⟨Int.emod_nonneg _ (by omega), Int.emod_lt_of_pos _ hn⟩
theorem tdiv_in (a n : Int) (ha : 0 ≤ a) (hn : 0 < n) : 0 ≤ Int.tdiv a n ∧ Int.tdiv a n ≤ a := by
  rw [Int.tdiv_eq_ediv_of_nonneg ha]
  exact ⟨Int.ediv_nonneg ha (by omega), Int.ediv_le_self _ ha⟩
theorem spec_reader_pick.ok (b : List Int) (p n : Int) (hb : Bytes b) (h0 : 0 ≤ p) (h1 : p ≤ 1000000) : EvP (fun k => spec_reader_pick.f k b p n) (fun r => 0 ≤ r.1 ∧ (0 < n → r.1 < n) ∧ r.2 = p + 1) := by
  have e1 : wrap64 (p + 1) = p + 1 := wrap_id (by omega) (by omega)
  have e2 : wrap64 (p + 1 - 1) = p := by rw [wrap_id (by omega) (by omega)]; omega
  have none' : EvP (fun k => spec_reader_pick.j0 k n true b (p + 1)) (fun r => 0 ≤ r.1 ∧ (0 < n → r.1 < n) ∧ r.2 = p + 1) := by
    refine EvP.succ ?_
    simp only [spec_reader_pick.j0]
    exact EvP.pos (by simp) (EvP.now ⟨by simp, fun h => h, by simp⟩)
  unfold spec_reader_pick.f
  rw [e1]
  refine EvP.ite (fun _ => none') (fun hn => ?_)
  by_cases hl : b.length = 0
  · have : ((b.length : Int) == 0) = true := by simp [hl]
    rw [this]
    exact none'
  · have : ((b.length : Int) == 0) = false := by simp [hl]
    rw [this]
    have hr : ∀ i : Int, 0 ≤ i → i < (b.length : Int) → 0 ≤ rd b i ∧ rd b i ≤ 255 := fun i g0 g1 => hb.2 _ (rd_mem g0 g1)
    refine EvP.succ ?_
    simp only [spec_reader_pick.j0]
    refine EvP.neg (by simp) ?_
    simp only [e2]
    refine EvP.ite (fun hp => EvP.pos h0 (EvP.neg (by omega) (EvP.now ?_))) (fun hp => ?_)
    · have h := hr p h0 hp
      rw [wrap_id (by omega) (by omega)]
      have := tmod_in (rd b p) n h.1 (by omega)
      exact ⟨this.1, fun _ => this.2, by simp⟩
    · have w7 : wrap64 (p * 7) = p * 7 := wrap_id (by omega) (by omega)
      have w73 : wrap64 (p * 7 + 3) = p * 7 + 3 := wrap_id (by omega) (by omega)
      have w29 : wrap64 (p * 29) = p * 29 := wrap_id (by omega) (by omega)
      simp only [w7, w73, w29]
      have m1 := tmod_in p (b.length : Int) h0 (by omega)
      have m2 := tmod_in (p * 7 + 3) (b.length : Int) (by omega) (by omega)
      have d1 := tdiv_in p (b.length : Int) h0 (by omega)
      have r1 := hr _ m1.1 m1.2
      have r2 := hr _ m2.1 m2.2
      refine EvP.neg (by omega) (EvP.pos m1.1 (EvP.pos m1.2 (EvP.pos m2.1 (EvP.pos m2.2 (EvP.neg (by omega) (EvP.now ?_))))))
      generalize rd b (Int.tmod p (b.length : Int)) = u1 at *
      generalize rd b (Int.tmod (p * 7 + 3) (b.length : Int)) = u2 at *
      generalize Int.tdiv p (b.length : Int) = u3 at *
      have a1 : wrap64 u1 = u1 := wrap_id (by omega) (by omega)
      have a2 : wrap64 u2 = u2 := wrap_id (by omega) (by omega)
      have a3 : wrap64 u3 = u3 := wrap_id (by omega) (by omega)
      have a4 : wrap64 (u1 * 131) = u1 * 131 := wrap_id (by omega) (by omega)
      have a5 : wrap64 (u2 * 1117) = u2 * 1117 := wrap_id (by omega) (by omega)
      have a6 : wrap64 (u3 * 53) = u3 * 53 := wrap_id (by omega) (by omega)
      have a7 : wrap64 (u1 * 131 + u2 * 1117) = u1 * 131 + u2 * 1117 := wrap_id (by omega) (by omega)
      have a8 : wrap64 (u1 * 131 + u2 * 1117 + p * 29) = u1 * 131 + u2 * 1117 + p * 29 := wrap_id (by omega) (by omega)
      have a9 : wrap64 (u1 * 131 + u2 * 1117 + p * 29 + u3 * 53) = u1 * 131 + u2 * 1117 + p * 29 + u3 * 53 := wrap_id (by omega) (by omega)
      simp only [a1, a2, a3, a4, a5, a6, a7, a8, a9]
      have hE : 0 ≤ u1 * 131 + u2 * 1117 + p * 29 + u3 * 53 ∧ u1 * 131 + u2 * 1117 + p * 29 + u3 * 53 ≤ 1000000000 := by omega
      generalize u1 * 131 + u2 * 1117 + p * 29 + u3 * 53 = E at *
      have d2 := tdiv_in E 64 hE.1 (by omega)
      have a10 : wrap64 (Int.tdiv E 64) = Int.tdiv E 64 := wrap_id (by omega) (by omega)
      rw [a10]
      have := tmod_in (Go.bits .xor .i64 E (Int.tdiv E 64)) n (xor_nonneg _ _ hE.1 (by omega) d2.1 (by omega)) (by omega)
      exact ⟨this.1, fun _ => this.2, by simp⟩
theorem spec_reader_one.ok (b : List Int) (p : Int) (l : List Int) (hb : Bytes b) (h0 : 0 ≤ p) (h1 : p ≤ 1000000) (hl : 0 < l.length) : EvP (fun k => spec_reader_one.f k b p l) (fun r => r.1 ∈ l ∧ r.2 = p + 1) := by
  unfold spec_reader_one.f
  refine EvP.bind (spec_reader_pick.ok b p _ hb h0 h1) ?_
  rintro ⟨i, q⟩ ⟨g0, g1, rfl⟩
  have g2 := g1 (by omega)
  exact EvP.pos g0 (EvP.pos g2 (EvP.now ⟨rd_mem g0 g2, rfl⟩))
theorem spec_reader_of.ok (b : List Int) (p : Int) (l : List ByteArray) (hb : Bytes b) (h0 : 0 ≤ p) (h1 : p ≤ 1000000) (hl : 0 < l.length) : EvP (fun k => spec_reader_of.f k b p l) (fun r => r.1 ∈ l ∧ r.2 = p + 1) := by
  unfold spec_reader_of.f
  refine EvP.bind (spec_reader_pick.ok b p _ hb h0 h1) ?_
  rintro ⟨i, q⟩ ⟨g0, g1, rfl⟩
  have g2 := g1 (by omega)
  exact EvP.pos g0 (EvP.pos g2 (EvP.now ⟨rdOf_mem _ g0 g2, rfl⟩))
/-! #### names -/
def azB (s : ByteArray) : Bool := decide (∀ j : Nat, j < s.size → 97 ≤ bt s (j : Int) ∧ bt s (j : Int) ≤ 122)
def wordB (s : ByteArray) : Bool := decide (s.toList ≠ [97, 110, 100]) && (decide (s.toList ≠ [111, 114]) && decide (s.toList ≠ [110, 111, 116]))
def nameB (s : ByteArray) : Bool := azB s && (decide (1 ≤ s.size ∧ s.size ≤ 6) && wordB s)
theorem azB_no {s : ByteArray} {i : Nat} (hi : i < s.size) (h : ¬ (97 ≤ bt s (i : Int) ∧ bt s (i : Int) ≤ 122)) : nameB s = false := by
  have : azB s = false := by
    rw [azB, decide_eq_false_iff_not]
    exact fun g => h (g i hi)
  rw [nameB, this]
  rfl
theorem azB_yes {s : ByteArray} (h : ∀ j : Nat, j < s.size → 97 ≤ bt s (j : Int) ∧ bt s (j : Int) ≤ 122) : azB s = true := by
  rw [azB, decide_eq_true_iff]
  exact h
theorem words_ok (s : ByteArray) : EvP (fun _ => if s.toList = ([97, 110, 100] : List UInt8) then (some false) else (if s.toList = ([111, 114] : List UInt8) then (some false) else (some (s.toList != ([110, 111, 116] : List UInt8))))) (· = wordB s) := by
  unfold wordB
  refine EvP.ite (fun h => EvP.now (by simp [h])) (fun h => EvP.ite (fun h2 => EvP.now (by simp [h2])) (fun h2 => EvP.now ?_))
  simp [h, h2, bne]
  rw [Bool.eq_iff_iff]
  simp
def numB (n : Int) : Bool := decide (-99 ≤ n ∧ n ≤ 99)
def numsB (l : List Int) : Bool := l.all numB
theorem numsB_no {l pre rest : List Int} {x : Int} (h : l = pre ++ x :: rest) (hx : ¬ (-99 ≤ x ∧ x ≤ 99)) : numsB l = false := by
  rw [h, numsB, List.all_append, List.all_cons, numB, decide_eq_false hx]
  simp
theorem numsB_snoc {pre : List Int} {x : Int} (h : numsB pre = true) (hx : -99 ≤ x ∧ x ≤ 99) : numsB (pre ++ [x]) = true := by
  rw [numsB, List.all_append, ← numsB, h, List.all_cons, numB, decide_eq_true hx]
  rfl
/-! #### calls -/
def callB (x : S30) : Bool := nameB x.f0 && (decide (x.f1.length ≤ 3) && numsB x.f1)
def callsB (l : List S30) : Bool := l.all callB && decide (l.length ≤ 12)
/-- Sizes that no machine sum passes. -/
def GoodC (l : List S30) : Prop := (l.length : Int) ≤ 4398046511104 ∧ ∀ x ∈ l, (x.f0.size : Int) ≤ 4398046511104 ∧ (x.f1.length : Int) ≤ 4398046511104
theorem callsB_no {l pre rest : List S30} {x : S30} (h : l = pre ++ x :: rest) (hx : callB x = false) : callsB l = false := by
  rw [h, callsB, List.all_append, List.all_cons, hx]
  simp
theorem all_snoc {α : Type} {p : α → Bool} {pre : List α} {x : α} (h : pre.all p = true) (hx : p x = true) : (pre ++ [x]).all p = true := by
  rw [List.all_append, h, List.all_cons, hx]
  rfl
theorem nm_get : nameB (⟨#[103, 101, 116]⟩ : ByteArray) = true := by decide +kernel
theorem nm_put : nameB (⟨#[112, 117, 116]⟩ : ByteArray) = true := by decide +kernel
theorem nm_del : nameB (⟨#[100, 101, 108]⟩ : ByteArray) = true := by decide +kernel
theorem callB_sz {x : S30} (h : callB x = true) : (x.f0.size : Int) ≤ 6 ∧ (x.f1.length : Int) ≤ 3 := by
  rw [callB, nameB] at h
  simp at h
  omega
theorem goodC_all {l : List S30} (h : l.all callB = true) (hl : l.length ≤ 1000) : GoodC l := by
  refine ⟨by omega, fun x hx => ?_⟩
  have := callB_sz (List.all_eq_true.1 h x hx)
  omega
theorem spec_aCall.ok (b : List Int) (p : Int) (hb : Bytes b) (h0 : 0 ≤ p) (h1 : p ≤ 10000) : EvP (fun k => spec_aCall.f k b p) (fun r => callB ⟨r.1, r.2.1⟩ = true ∧ 0 ≤ r.2.2 ∧ r.2.2 ≤ p + 4) := by
  unfold spec_aCall.f
  refine EvP.bind (spec_reader_of.ok b p _ hb h0 (by omega) (by simp)) ?_
  rintro ⟨nm, q⟩ ⟨g0, g1⟩
  simp only at g0 g1
  subst g1
  have hn : nameB nm = true := by
    simp only [List.mem_cons, List.not_mem_nil, or_false] at g0
    rcases g0 with rfl | rfl | rfl | rfl
    · exact nm_get
    · exact nm_put
    · exact nm_get
    · exact nm_del
  refine EvP.bind (spec_reader_one.ok b (p + 1) _ hb (by omega) (by omega) (by simp)) ?_
  rintro ⟨n, q⟩ ⟨m0, m1⟩
  simp only at m0 m1
  subst m1
  have g1 : 0 ≤ n ∧ n ≤ 2 := by
    simp only [List.mem_cons, List.not_mem_nil, or_false] at m0
    omega
  refine EvP.down (L := fun k (s : List Int × Int) i => spec_aCall.l0 k i b s.2 nm s.1) (Inv := fun i s => 0 ≤ i ∧ (s.1.length : Int) + i ≤ 2 ∧ numsB s.1 = true ∧ 0 ≤ s.2 ∧ s.2 + i ≤ p + 4) ?_ ?_ n ([], p + 1 + 1) ⟨g1.1, by simp only [List.length_nil]; omega, rfl, by simp only; omega, by simp only; omega⟩
  · rintro i ⟨l, q⟩ hi ⟨a0, a1, a2, a3, a4⟩ ih
    simp only at a1 a2 a3 a4
    simp only [spec_aCall.l0]
    refine EvP.pos hi ?_
    refine EvP.bind (spec_reader_one.ok b q _ hb a3 (by omega) (by simp)) ?_
    rintro ⟨v, q2⟩ ⟨v0, v1⟩
    simp only at v0 v1
    subst v1
    refine EvP.pos (by omega) ?_
    rw [wrap_id (by omega) (by omega)]
    refine ih (l ++ [v], q + 1) ⟨by omega, by simp only [List.length_append, List.length_singleton]; omega, numsB_snoc a2 ?_, by simp only; omega, by simp only; omega⟩
    simp only [List.mem_cons, List.not_mem_nil, or_false] at v0
    omega
  · rintro i ⟨l, q⟩ hi ⟨a0, a1, a2, a3, a4⟩
    simp only at a1 a2 a3 a4
    simp only [spec_aCall.l0]
    refine EvP.neg (by omega) (EvP.now ⟨?_, by simp only; omega, by simp only; omega⟩)
    rw [callB, hn, a2, decide_eq_true (show l.length ≤ 3 by omega)]
    rfl
theorem spec_goodCalls.ok (b : List Int) (p : Int) (hb : Bytes b) (h0 : 0 ≤ p) (h1 : p ≤ 9000) : EvP (fun k => spec_goodCalls.f k b p) (fun r => r.1.all callB = true ∧ r.1.length ≤ 12 ∧ 0 ≤ r.2 ∧ r.2 ≤ p + 49) := by
  unfold spec_goodCalls.f
  refine EvP.bind (spec_reader_one.ok b p _ hb h0 (by omega) (by simp)) ?_
  rintro ⟨n, q⟩ ⟨g0, g2⟩
  simp only at g0 g2
  subst g2
  have g1 : 0 ≤ n ∧ n ≤ 12 := by
    simp only [List.mem_cons, List.not_mem_nil, or_false] at g0
    omega
  refine EvP.down (L := fun k (s : List S30 × Int) i => spec_goodCalls.l0 k s.1 i b s.2) (Inv := fun i s => 0 ≤ i ∧ (s.1.length : Int) + i ≤ 12 ∧ s.1.all callB = true ∧ 0 ≤ s.2 ∧ s.2 + 4 * i ≤ p + 49) ?_ ?_ n ([], p + 1) ⟨g1.1, by simp only [List.length_nil]; omega, rfl, by simp only; omega, by simp only; omega⟩
  · rintro i ⟨l, q⟩ hi ⟨a0, a1, a2, a3, a4⟩ ih
    simp only at a1 a2 a3 a4
    simp only [spec_goodCalls.l0]
    refine EvP.pos hi ?_
    refine EvP.bind (spec_aCall.ok b q hb a3 (by omega)) ?_
    rintro ⟨nm, v, q2⟩ ⟨v0, v1, v2⟩
    simp only at v0 v1 v2
    refine EvP.pos (by omega) ?_
    rw [wrap_id (by omega) (by omega)]
    exact ih (l ++ [⟨nm, v⟩], q2) ⟨by omega, by simp only [List.length_append, List.length_singleton]; omega, all_snoc a2 v0, by simp only; omega, by simp only; omega⟩
  · rintro i ⟨l, q⟩ hi ⟨a0, a1, a2, a3, a4⟩
    simp only at a1 a2 a3 a4
    simp only [spec_goodCalls.l0]
    exact EvP.neg (by omega) (EvP.now ⟨a2, by simp only; omega, a3, by simp only; omega⟩)
theorem spec_someCalls.ok (b : List Int) (p : Int) (hb : Bytes b) (h0 : 0 ≤ p) (h1 : p ≤ 9000) : EvP (fun k => spec_someCalls.f k b p) (fun r => GoodC r.1 ∧ r.1.length ≤ 12 ∧ 0 ≤ r.2 ∧ r.2 ≤ p + 60) := by
  unfold spec_someCalls.f
  refine EvP.bind (spec_goodCalls.ok b p hb h0 h1) ?_
  rintro ⟨l, q⟩ ⟨a0, a1, a2, a3⟩
  simp only at a0 a1 a2 a3
  have hg := goodC_all a0 (by omega)
  have main : ∀ (c : Bool) (q : Int), 0 ≤ q → q ≤ p + 50 → (c = true → 0 < l.length) → EvP (fun k => spec_someCalls.j0 k l c b q) (fun r => GoodC r.1 ∧ r.1.length ≤ 12 ∧ 0 ≤ r.2 ∧ r.2 ≤ p + 60) := by
    intro c q q0 q1 hc
    refine EvP.succ ?_
    simp only [spec_someCalls.j0]
    refine EvP.ite (fun e => ?_) (fun e => EvP.now ⟨hg, a1, q0, by simp only; omega⟩)
    have hn := hc e
    refine EvP.bind (spec_reader_pick.ok b q _ hb q0 (by omega)) ?_
    rintro ⟨i, q2⟩ ⟨c0, c2, c1⟩
    simp only at c0 c1 c2
    subst c1
    have c3 := c2 (by omega)
    refine EvP.bind (P := fun r => r.1.size ≤ 3 ∧ r.2.1.length ≤ 4 ∧ r.2.2 = q + 2) ?_ ?_
    · unfold spec_reader_oneCall.f
      refine EvP.bind (spec_reader_pick.ok b (q + 1) 2 hb (by omega) (by omega)) ?_
      rintro ⟨i, q2⟩ ⟨d0, d2, d1⟩
      simp only at d0 d1 d2
      subst d1
      refine EvP.ite (fun _ => EvP.now ⟨?_, by simp, by simp only; omega⟩) (fun _ => EvP.now ⟨?_, by simp, by simp only; omega⟩)
      · show (⟨#[88]⟩ : ByteArray).size ≤ 3
        decide
      · show (⟨#[103, 101, 116]⟩ : ByteArray).size ≤ 3
        decide
    · rintro ⟨nm, v, q3⟩ ⟨d0, d1, d2⟩
      simp only at d0 d1 d2
      subst d2
      refine EvP.pos c0 (EvP.pos c3 (EvP.now ⟨⟨?_, fun x hx => ?_⟩, ?_, by simp only; omega, by simp only; omega⟩))
      · simp only [List.length_set]
        omega
      · rcases List.mem_or_eq_of_mem_set hx with hx | rfl
        · exact hg.2 x hx
        · simp only
          omega
      · simp only [List.length_set]
        omega
  refine EvP.ite (fun e => ?_) (fun e => main _ _ a2 (by omega) (fun h => by cases h))
  refine EvP.bind (spec_reader_pick.ok b q 20 hb a2 (by omega)) ?_
  rintro ⟨i, q2⟩ ⟨c0, c2, c1⟩
  simp only at c0 c1 c2
  subst c1
  exact main _ _ (by omega) (by omega) (fun _ => by have e2 : (l.length : Int) > 0 := e; omega)
theorem goodC_snoc {l : List S30} {x : S30} (h : GoodC l) (hl : (l.length : Int) + 1 ≤ 4398046511104) (hx : (x.f0.size : Int) ≤ 4398046511104 ∧ (x.f1.length : Int) ≤ 4398046511104) : GoodC (l ++ [x]) := by
  refine ⟨by rw [List.length_append, List.length_singleton]; omega, fun y hy => ?_⟩
  rcases List.mem_append.1 hy with hy | hy
  · exact h.2 y hy
  · rw [List.mem_singleton.1 hy]
    exact hx
theorem goodC_drop {l : List S30} (n : Nat) (h : GoodC l) : GoodC (l.drop n) := ⟨by have := h.1; rw [List.length_drop]; omega, fun y hy => h.2 y (List.mem_of_mem_drop hy)⟩
theorem goodC_take {l : List S30} (n : Nat) (h : GoodC l) : GoodC (l.take n) := ⟨by have := h.1; rw [List.length_take]; omega, fun y hy => h.2 y (List.mem_of_mem_take hy)⟩
theorem spec_twoCalls.ok (b : List Int) (p : Int) (hb : Bytes b) (h0 : 0 ≤ p) (h1 : p ≤ 1000) : EvP (fun k => spec_twoCalls.f k b p) (fun r => GoodC r.1 ∧ r.1.length ≤ 12 ∧ GoodC r.2.1 ∧ r.2.1.length ≤ 12) := by
  unfold spec_twoCalls.f
  refine EvP.bind (spec_someCalls.ok b p hb h0 (by omega)) ?_
  rintro ⟨l, q⟩ ⟨a0, a1, a2, a3⟩
  simp only at a0 a1 a2 a3
  refine EvP.range (L := fun k (s : List S30 × Int) i => spec_twoCalls.l0 k l s.1 i b s.2) (xs := l) (Inv := fun pre s => GoodC s.1 ∧ s.1.length ≤ pre.length ∧ 0 ≤ s.2 ∧ s.2 ≤ q + pre.length) ?_ ?_ ([], q) ⟨⟨by simp, by simp⟩, by simp, a2, by simp⟩
  · rintro pre x rest ⟨w, q2⟩ hx ⟨b0, b1, b2, b3⟩ ih
    simp only at b0 b1 b2 b3
    have hl := len_at hx
    have hr : rd_T30 l (pre.length : Int) = x := getD_at hx _
    have hg := a0.2 x (by rw [hx]; simp)
    simp only [spec_twoCalls.l0, hr, wrap_at hx (show (l.length : Int) ≤ 9223372036854775807 by omega)]
    refine EvP.pos hl ?_
    refine EvP.bind (spec_reader_pick.ok b q2 2 hb b2 (by omega)) ?_
    rintro ⟨i, q3⟩ ⟨c0, c1, c2⟩
    simp only at c0 c1 c2
    subst c2
    refine EvP.ite (fun _ => EvP.pos (nat_nonneg _) ?_) (fun _ => ih (w, q2 + 1) ⟨b0, by simp only [List.length_append, List.length_singleton]; omega, by simp only; omega, by simp only [len_snoc]; omega⟩)
    refine EvP.bind (P := (· = [x])) (EvP.now rfl) ?_
    rintro _ rfl
    refine EvP.pos (by rw [List.length_singleton]; omega) ?_
    exact ih (w ++ [x], q2 + 1) ⟨goodC_snoc b0 (by omega) hg, by simp only [List.length_append, List.length_singleton]; omega, by simp only; omega, by simp only [len_snoc]; omega⟩
  · rintro ⟨w, q2⟩ ⟨b0, b1, b2, b3⟩
    simp only at b0 b1 b2 b3
    simp only [spec_twoCalls.l0]
    refine EvP.neg (by omega) ?_
    refine EvP.bind (spec_reader_pick.ok b q2 5 hb b2 (by omega)) ?_
    rintro ⟨i, q3⟩ ⟨c0, c1, c2⟩
    simp only at c0 c1 c2
    subst c2
    refine EvP.ite (fun _ => ?_) (fun _ => ?_)
    · refine EvP.bind (spec_goodCalls.ok b (q2 + 1) hb (by omega) (by omega)) ?_
      rintro ⟨g, q4⟩ ⟨d0, d1, d2, d3⟩
      simp only at d0 d1 d2 d3
      exact EvP.now ⟨a0, a1, goodC_all d0 (by show g.length ≤ 1000; omega), d1⟩
    · refine EvP.ite (fun _ => ?_) (fun _ => EvP.now ⟨a0, a1, b0, by simp only; omega⟩)
      refine EvP.ite (fun e => ?_) (fun _ => EvP.now ⟨a0, a1, b0, by simp only; omega⟩)
      refine EvP.bind (P := (· = [])) (EvP.now rfl) ?_
      rintro _ rfl
      refine EvP.pos (by omega) ?_
      refine EvP.bind (P := (· = w.drop 1)) (EvP.now rfl) ?_
      rintro _ rfl
      have hd : (w.drop 1).length = w.length - 1 := List.length_drop
      refine EvP.pos (by rw [List.length_nil, hd]; omega) ?_
      refine EvP.bind (P := (· = w.drop 1)) (EvP.now (List.nil_append _)) ?_
      rintro _ rfl
      refine EvP.pos (by omega) ?_
      refine EvP.bind (P := (· = [rd_T30 w 0])) (EvP.now rfl) ?_
      rintro _ rfl
      refine EvP.pos (by rw [List.length_singleton, hd]; omega) ?_
      refine EvP.now ⟨a0, a1, goodC_snoc (goodC_drop 1 b0) (by rw [hd]; omega) ?_, ?_⟩
      · have hm : rd_T30 w 0 ∈ w := by
          unfold rd_T30
          rw [List.getD_eq_getElem?_getD, List.getElem?_eq_getElem (show (0 : Int).toNat < w.length by simp; omega)]
          exact List.getElem_mem _
        exact b0.2 _ hm
      · simp only [List.length_append, List.length_singleton, hd]
        omega
def sameB (s : ByteArray) (a : List Int) (t : ByteArray) (b : List Int) : Bool := decide (s.toList = t.toList) && decide (a = b)
theorem ints_eq {a b : List Int} (hl : a.length = b.length) (h : ∀ j : Nat, j < a.length → rd a (j : Int) = rd b (j : Int)) : a = b := by
  apply List.ext_getElem hl
  intro j h1 h2
  have := h j h1
  unfold rd at this
  simpa [List.getD_eq_getElem?_getD, List.getElem?_eq_getElem h1, List.getElem?_eq_getElem h2] using this
theorem ints_ne {a b : List Int} {i : Int} (h : ¬ rd a i = rd b i) : decide (a = b) = false := by
  rw [decide_eq_false_iff_not]
  intro e
  exact h (by rw [e])
def cntC (l : List S30) (s : ByteArray) (a : List Int) : Nat := l.countP fun x => sameB x.f0 x.f1 s a
theorem cntC_le (l : List S30) (s : ByteArray) (a : List Int) : cntC l s a ≤ l.length := List.countP_le_length
theorem cntC_snoc (l : List S30) (x : S30) (s : ByteArray) (a : List Int) : cntC (l ++ [x]) s a = cntC l s a + if sameB x.f0 x.f1 s a = true then 1 else 0 := by
  simp [cntC, List.countP_append, List.countP_cons]
def enough (l w : List S30) (x : S30) : Bool := decide (cntC w x.f0 x.f1 ≤ cntC l x.f0 x.f1)
def anyB (l w : List S30) : Bool := callsB l && (callsB w && w.all (enough l w))
theorem enough_no {l w pre rest : List S30} {x : S30} (hx : w = pre ++ x :: rest) (h : enough l w x = false) : w.all (enough l w) = false := by
  have : ¬ w.all (enough l w) = true := by
    intro g
    have := List.all_eq_true.1 g x (by rw [hx]; simp)
    rw [h] at this
    cases this
  simpa using this
theorem impl_nameOk.ok (s : ByteArray) (h : (s.size : Int) ≤ 9223372036854775807) : EvP (fun k => impl_nameOk.f k s) (· = nameB s) := by
  unfold impl_nameOk.f
  refine EvP.upto (L := fun k (_ : Unit) i => impl_nameOk.l0 k s (s.size : Int) i) (n := s.size) (Inv := fun i _ => ∀ j : Nat, j < i → 97 ≤ bt s (j : Int) ∧ bt s (j : Int) ≤ 122) ?_ ?_ () (fun j hj => by omega)
  · rintro i _ hi hv ih
    simp only [impl_nameOk.l0]
    refine EvP.pos (by omega) (EvP.pos (by omega) (EvP.pos (by omega) ?_))
    refine EvP.ite (fun e => EvP.now (azB_no hi (by omega)).symm) (fun e => EvP.ite (fun e2 => EvP.now (azB_no hi (by omega)).symm) (fun e2 => ?_))
    rw [wrap_id (by omega) (by omega)]
    refine ih () (fun j hj => ?_)
    rcases Nat.lt_succ_iff_lt_or_eq.1 hj with hj | rfl
    · exact hv j hj
    · omega
  · rintro _ hv
    simp only [impl_nameOk.l0]
    have ha := azB_yes hv
    refine EvP.neg (by omega) (EvP.ite (fun e => EvP.ite (fun e2 => ?_) (fun e2 => EvP.now ?_)) (fun e => EvP.now ?_))
    · refine (words_ok s).mono ?_
      rintro _ rfl
      rw [nameB, ha, decide_eq_true (show 1 ≤ s.size ∧ s.size ≤ 6 by omega)]
      rfl
    · rw [nameB, decide_eq_false (show ¬ (1 ≤ s.size ∧ s.size ≤ 6) by omega)]
      simp
    · rw [nameB, decide_eq_false (show ¬ (1 ≤ s.size ∧ s.size ≤ 6) by omega)]
      simp
theorem impl_numbersOk.ok (l : List Int) (h : (l.length : Int) ≤ 9223372036854775807) : EvP (fun k => impl_numbersOk.f k l) (· = numsB l) := by
  unfold impl_numbersOk.f
  refine EvP.range (L := fun k (_ : Unit) i => impl_numbersOk.l0 k l (l.length : Int) i) (xs := l) (Inv := fun pre _ => numsB pre = true) ?_ ?_ () rfl
  · rintro pre x rest _ hx hi ih
    have hl := len_at hx
    have hr : rd l (pre.length : Int) = x := getD_at hx _
    simp only [impl_numbersOk.l0, hr, wrap_at hx h]
    refine EvP.pos hl (EvP.pos (nat_nonneg _) (EvP.pos hl ?_))
    exact EvP.ite (fun e => EvP.now (numsB_no hx (by omega)).symm) (fun e => EvP.ite (fun e2 => EvP.now (numsB_no hx (by omega)).symm) (fun e2 => ih () (numsB_snoc hi (by omega))))
  · rintro _ hi
    simp only [impl_numbersOk.l0]
    exact EvP.neg (by omega) (EvP.now hi.symm)
theorem impl_callOk.ok (s : ByteArray) (a : List Int) (h : (s.size : Int) ≤ 4398046511104) (h2 : (a.length : Int) ≤ 4398046511104) : EvP (fun k => impl_callOk.f k s a) (· = callB ⟨s, a⟩) := by
  unfold impl_callOk.f
  refine EvP.bind (impl_nameOk.ok s (by omega)) ?_
  rintro _ rfl
  refine EvP.ite (fun e => EvP.ite (fun e2 => ?_) (fun e2 => EvP.now ?_)) (fun e => EvP.now ?_)
  · refine EvP.bind (impl_numbersOk.ok a (by omega)) ?_
    rintro _ rfl
    exact EvP.now (by rw [callB, e, decide_eq_true (show a.length ≤ 3 by omega)]; rfl)
  · rw [callB, decide_eq_false (show ¬ a.length ≤ 3 by omega)]
    simp
  · rw [callB, show nameB s = false by simpa using e]
    rfl
theorem impl_ValidCalls.ok (l : List S30) (h : GoodC l) : EvP (fun k => impl_ValidCalls.f k l) (· = callsB l) := by
  have h1 := h.1
  unfold impl_ValidCalls.f
  refine EvP.range (L := fun k (_ : Unit) i => impl_ValidCalls.l0 k l l (l.length : Int) i) (xs := l) (Inv := fun pre _ => pre.all callB = true) ?_ ?_ () rfl
  · rintro pre x rest _ hx hi ih
    have hl := len_at hx
    have hr : rd_T30 l (pre.length : Int) = x := getD_at hx _
    have hg := h.2 x (by rw [hx]; simp)
    simp only [impl_ValidCalls.l0, hr, wrap_at hx (by omega)]
    refine EvP.pos hl (EvP.pos (nat_nonneg _) (EvP.pos hl ?_))
    refine EvP.bind (impl_callOk.ok x.f0 x.f1 hg.1 hg.2) ?_
    rintro _ rfl
    exact EvP.ite (fun e => ih () (all_snoc hi e)) (fun e => EvP.now (callsB_no hx (by simpa using e)).symm)
  · rintro _ hi
    simp only [impl_ValidCalls.l0]
    refine EvP.neg (by omega) (EvP.now ?_)
    rw [callsB, hi, Bool.true_and]
    congr 1
    simp
    omega
theorem slices_Equal_int_int.ok (a b : List Int) (h : (a.length : Int) ≤ 9223372036854775807) : EvP (fun k => slices_Equal_int_int.f k a b) (· = decide (a = b)) := by
  unfold slices_Equal_int_int.f
  refine EvP.ite (fun hl => ?_) (fun hl => EvP.now ?_)
  · refine EvP.upto (L := fun k (_ : Unit) i => slices_Equal_int_int.l0 k a b (a.length : Int) i) (n := a.length) (Inv := fun i _ => ∀ j : Nat, j < i → rd a (j : Int) = rd b (j : Int)) ?_ ?_ () (fun j hj => by omega)
    · rintro i _ hi hv ih
      simp only [slices_Equal_int_int.l0]
      refine EvP.pos (by omega) (EvP.pos (by omega) (EvP.pos (by omega) (EvP.pos (by omega) ?_)))
      refine EvP.ite (fun e => ?_) (fun e => EvP.now (ints_ne e).symm)
      rw [wrap_id (by omega) (by omega)]
      refine ih () (fun j hj => ?_)
      rcases Nat.lt_succ_iff_lt_or_eq.1 hj with hj | rfl
      · exact hv j hj
      · exact e
    · rintro _ hv
      simp only [slices_Equal_int_int.l0]
      exact EvP.neg (by omega) (EvP.now (decide_eq_true (ints_eq (by omega) hv)).symm)
  · symm
    rw [decide_eq_false_iff_not]
    intro e
    exact hl (by rw [e])
theorem impl_sameCall.ok (s : ByteArray) (a : List Int) (t : ByteArray) (b : List Int) (h : (a.length : Int) ≤ 4398046511104) : EvP (fun k => impl_sameCall.f k s a t b) (· = sameB s a t b) := by
  unfold impl_sameCall.f
  refine EvP.ite (fun e => ?_) (fun e => EvP.now ?_)
  · refine EvP.bind (slices_Equal_int_int.ok a b (by omega)) ?_
    rintro _ rfl
    exact EvP.now (by rw [sameB, decide_eq_true e]; rfl)
  · rw [sameB, decide_eq_false e]
    rfl
theorem impl_countCall.ok (l : List S30) (s : ByteArray) (a : List Int) (h : GoodC l) : EvP (fun k => impl_countCall.f k l s a) (· = (cntC l s a : Int)) := by
  have h1 := h.1
  unfold impl_countCall.f
  refine EvP.range (L := fun k n i => impl_countCall.l0 k n l (l.length : Int) i s a) (xs := l) (Inv := fun pre n => n = (cntC pre s a : Int)) ?_ ?_ 0 rfl
  · rintro pre x rest n hx rfl ih
    have hl := len_at hx
    have hc := cntC_le pre s a
    have hr : rd_T30 l (pre.length : Int) = x := getD_at hx _
    have hg := h.2 x (by rw [hx]; simp)
    simp only [impl_countCall.l0, hr, wrap_at hx (show (l.length : Int) ≤ 9223372036854775807 by omega)]
    refine EvP.pos hl (EvP.pos (nat_nonneg _) (EvP.pos hl ?_))
    refine EvP.bind (impl_sameCall.ok x.f0 x.f1 s a hg.2) ?_
    rintro _ rfl
    refine EvP.ite (fun e => ?_) (fun e => ih _ (by rw [cntC_snoc, if_neg e]; rfl))
    rw [wrap_id (by omega) (by omega)]
    exact ih _ (by rw [cntC_snoc, if_pos e]; rfl)
  · rintro n rfl
    simp only [impl_countCall.l0]
    exact EvP.neg (by omega) (EvP.now rfl)
theorem impl_AnyOrder.ok (l w : List S30) (h : GoodC l) (hw : GoodC w) : EvP (fun k => impl_AnyOrder.f k l w) (· = anyB l w) := by
  have h1 := h.1
  have h2 := hw.1
  have no : ∀ c : Bool, c = true → anyB l w = false → EvP (fun k => impl_AnyOrder.j0 k l w c) (· = anyB l w) := by
    intro c hc hb
    refine EvP.succ ?_
    simp only [impl_AnyOrder.j0]
    exact EvP.pos hc (EvP.now hb.symm)
  unfold impl_AnyOrder.f
  refine EvP.bind (impl_ValidCalls.ok l h) ?_
  rintro _ rfl
  refine EvP.ite (fun e => ?_) (fun e => no _ rfl (by rw [anyB, show callsB l = false by simpa using e]; rfl))
  refine EvP.bind (impl_ValidCalls.ok w hw) ?_
  rintro _ rfl
  cases e2 : callsB w with
  | false => exact no _ rfl (by rw [anyB, e2]; simp)
  | true =>
    refine EvP.succ ?_
    simp only [impl_AnyOrder.j0]
    refine EvP.neg (by simp) ?_
    refine EvP.range (L := fun k (_ : Unit) i => impl_AnyOrder.l0 k l w w (w.length : Int) i) (xs := w) (Inv := fun pre _ => pre.all (enough l w) = true) ?_ ?_ () rfl
    · rintro pre x rest _ hx hi ih
      have hl := len_at hx
      have hr : rd_T30 w (pre.length : Int) = x := getD_at hx _
      simp only [impl_AnyOrder.l0, hr, wrap_at hx (show (w.length : Int) ≤ 9223372036854775807 by omega)]
      refine EvP.pos hl (EvP.pos (nat_nonneg _) (EvP.pos hl ?_))
      refine EvP.bind (impl_countCall.ok l x.f0 x.f1 h) ?_
      rintro _ rfl
      refine EvP.bind (impl_countCall.ok w x.f0 x.f1 hw) ?_
      rintro _ rfl
      refine EvP.ite (fun e3 => EvP.now ?_) (fun e3 => ih () (all_snoc hi (decide_eq_true (by omega))))
      rw [anyB, enough_no hx (decide_eq_false (by omega))]
      simp
    · rintro _ hi
      simp only [impl_AnyOrder.l0]
      exact EvP.neg (by omega) (EvP.now (by rw [anyB, e, e2, hi]; rfl))
theorem spec_inRange.ok (a b c : Int) : EvP (fun _ => spec_inRange.f a b c) (· = decide (b ≤ a ∧ a ≤ c)) := by
  unfold spec_inRange.f
  exact EvP.ite (fun h => EvP.now (by simp [h])) (fun h => EvP.now (by simp [h]))
theorem spec_validName.ok (s : ByteArray) (h : (s.size : Int) ≤ 9223372036854775807) : EvP (fun k => spec_validName.f k s) (· = nameB s) := by
  unfold spec_validName.f
  refine EvP.upto (L := fun k (_ : Unit) i => spec_validName.l0 k s i) (n := s.size) (Inv := fun i _ => ∀ j : Nat, j < i → 97 ≤ bt s (j : Int) ∧ bt s (j : Int) ≤ 122) ?_ ?_ () (fun j hj => by omega)
  · rintro i _ hi hv ih
    simp only [spec_validName.l0]
    refine EvP.pos (by omega) (EvP.pos (by omega) ?_)
    refine EvP.ite (fun e => EvP.now (azB_no hi (by omega)).symm) (fun e => EvP.ite (fun e2 => EvP.now (azB_no hi (by omega)).symm) (fun e2 => ?_))
    rw [wrap_id (by omega) (by omega)]
    refine ih () (fun j hj => ?_)
    rcases Nat.lt_succ_iff_lt_or_eq.1 hj with hj | rfl
    · exact hv j hj
    · omega
  · rintro _ hv
    simp only [spec_validName.l0]
    have ha := azB_yes hv
    refine EvP.neg (by omega) ?_
    refine EvP.bind (spec_inRange.ok _ _ _) ?_
    rintro _ rfl
    refine EvP.ite (fun e => ?_) (fun e => EvP.now ?_)
    · have e' := of_decide_eq_true e
      refine (words_ok s).mono ?_
      rintro _ rfl
      rw [nameB, ha, decide_eq_true (show 1 ≤ s.size ∧ s.size ≤ 6 by omega)]
      rfl
    · have e' : ¬ (1 ≤ (s.size : Int) ∧ (s.size : Int) ≤ 6) := fun g => e (decide_eq_true g)
      rw [nameB, decide_eq_false (show ¬ (1 ≤ s.size ∧ s.size ≤ 6) by omega)]
      simp
theorem spec_validCalls.ok (l : List S30) (h : GoodC l) : EvP (fun k => spec_validCalls.f k l) (· = callsB l) := by
  have h1 := h.1
  unfold spec_validCalls.f
  refine EvP.range (L := fun k (_ : Unit) i => spec_validCalls.l0 k l i) (xs := l) (Inv := fun pre _ => pre.all callB = true) ?_ ?_ () rfl
  · rintro pre x rest _ hx hi ih
    have hl := len_at hx
    have hr : rd_T30 l (pre.length : Int) = x := getD_at hx _
    have hg := h.2 x (by rw [hx]; simp)
    have bad : callB x = false → EvP (fun k => spec_validCalls.j1 k l (pre.length : Int) true) (· = callsB l) := fun hb => by
      refine EvP.succ ?_
      simp only [spec_validCalls.j1]
      exact EvP.pos (by simp) (EvP.now (callsB_no hx hb).symm)
    simp only [spec_validCalls.l0, hr]
    refine EvP.pos hl (EvP.pos (nat_nonneg _) ?_)
    refine EvP.bind (spec_validName.ok x.f0 (by omega)) ?_
    rintro _ rfl
    refine EvP.ite (fun e => ?_) (fun e => bad (by rw [callB, show nameB x.f0 = false by simpa using e]; rfl))
    by_cases e2 : (x.f1.length : Int) > 3
    · rw [decide_eq_true e2]
      exact bad (by rw [callB, decide_eq_false (show ¬ x.f1.length ≤ 3 by omega)]; simp)
    · rw [decide_eq_false e2]
      refine EvP.succ ?_
      simp only [spec_validCalls.j1]
      refine EvP.neg (by simp) ?_
      refine EvP.range (L := fun k (_ : Unit) i => spec_validCalls.l1 k l (pre.length : Int) i) (xs := x.f1) (Inv := fun p _ => numsB p = true) ?_ ?_ () rfl
      · rintro p n r _ hp hv ih2
        have hpl := len_at hp
        have hrr : rd x.f1 (p.length : Int) = n := getD_at hp _
        simp only [spec_validCalls.l1, hr, hrr, wrap_at hp (by omega)]
        refine EvP.pos (nat_nonneg _) (EvP.pos hl (EvP.pos hpl (EvP.pos (nat_nonneg _) ?_)))
        refine EvP.bind (spec_inRange.ok _ _ _) ?_
        rintro _ rfl
        refine EvP.ite (fun e3 => ih2 () (numsB_snoc hv (of_decide_eq_true e3))) (fun e3 => EvP.now ?_)
        refine (callsB_no hx ?_).symm
        rw [callB, numsB_no hp (fun g => e3 (decide_eq_true g))]
        simp
      · rintro _ hv
        simp only [spec_validCalls.l1, hr, wrap_at hx (show (l.length : Int) ≤ 9223372036854775807 by omega)]
        refine EvP.pos (nat_nonneg _) (EvP.pos hl (EvP.neg (by omega) (ih () (all_snoc hi ?_))))
        rw [callB, e, hv, decide_eq_true (show x.f1.length ≤ 3 by omega)]
        rfl
  · rintro _ hi
    simp only [spec_validCalls.l0]
    refine EvP.neg (by omega) (EvP.now ?_)
    rw [callsB, hi, Bool.true_and]
    congr 1
    simp
    omega
theorem spec_bothCalls.ok (l w : List S30) (h : GoodC l) (hw : GoodC w) : EvP (fun k => spec_bothCalls.f k l w) (· = (callsB l && callsB w)) := by
  unfold spec_bothCalls.f
  refine EvP.bind (spec_validCalls.ok l h) ?_
  rintro _ rfl
  refine EvP.ite (fun e => ?_) (fun e => EvP.now (by rw [show callsB l = false by simpa using e]; rfl))
  refine EvP.bind (spec_validCalls.ok w hw) ?_
  rintro _ rfl
  exact EvP.now (by rw [e]; rfl)
theorem spec_sameCall.ok (s : ByteArray) (a : List Int) (t : ByteArray) (b : List Int) (h : (a.length : Int) ≤ 4398046511104) : EvP (fun k => spec_sameCall.f k s a t b) (· = sameB s a t b) := by
  have no : ∀ c : Bool, c = true → sameB s a t b = false → EvP (fun k => spec_sameCall.j0 k c s a t b) (· = sameB s a t b) := by
    intro c hc hb
    refine EvP.succ ?_
    simp only [spec_sameCall.j0]
    exact EvP.pos hc (EvP.now hb.symm)
  unfold spec_sameCall.f
  refine EvP.ite (fun e => ?_) (fun e => no _ rfl (by rw [sameB, decide_eq_false e]; rfl))
  by_cases hl : a.length = b.length
  · have hc : ((a.length : Int) != (b.length : Int)) = false := by simp [hl]
    rw [hc]
    refine EvP.succ ?_
    simp only [spec_sameCall.j0]
    refine EvP.neg (by simp) ?_
    refine EvP.upto (L := fun k (_ : Unit) i => spec_sameCall.l0 k i s a t b) (n := a.length) (Inv := fun i _ => ∀ j : Nat, j < i → rd a (j : Int) = rd b (j : Int)) ?_ ?_ () (fun j hj => by omega)
    · rintro i _ hi hv ih
      simp only [spec_sameCall.l0]
      refine EvP.pos (by omega) (EvP.pos (by omega) (EvP.pos (by omega) ?_))
      refine EvP.ite (fun e => ?_) (fun e => EvP.now (by rw [sameB, ints_ne e]; simp))
      rw [wrap_id (by omega) (by omega)]
      refine ih () (fun j hj => ?_)
      rcases Nat.lt_succ_iff_lt_or_eq.1 hj with hj | rfl
      · exact hv j hj
      · exact e
    · rintro _ hv
      simp only [spec_sameCall.l0]
      exact EvP.neg (by omega) (EvP.now (by rw [sameB, decide_eq_true e, decide_eq_true (ints_eq hl hv)]; rfl))
  · refine no _ (by simp; omega) ?_
    rw [sameB, decide_eq_false (show ¬ a = b from fun g => hl (by rw [g]))]
    simp
theorem spec_countCall.ok (l : List S30) (s : ByteArray) (a : List Int) (h : GoodC l) : EvP (fun k => spec_countCall.f k l s a) (· = (cntC l s a : Int)) := by
  have h1 := h.1
  unfold spec_countCall.f
  refine EvP.range (L := fun k n i => spec_countCall.l0 k l n i s a) (xs := l) (Inv := fun pre n => n = (cntC pre s a : Int)) ?_ ?_ 0 rfl
  · rintro pre x rest n hx rfl ih
    have hl := len_at hx
    have hc := cntC_le pre s a
    have hr : rd_T30 l (pre.length : Int) = x := getD_at hx _
    have hg := h.2 x (by rw [hx]; simp)
    simp only [spec_countCall.l0, hr, wrap_at hx (show (l.length : Int) ≤ 9223372036854775807 by omega)]
    refine EvP.pos hl (EvP.pos (nat_nonneg _) ?_)
    refine EvP.bind (spec_sameCall.ok x.f0 x.f1 s a hg.2) ?_
    rintro _ rfl
    refine EvP.ite (fun e => ?_) (fun e => ih _ (by rw [cntC_snoc, if_neg e]; rfl))
    rw [wrap_id (by omega) (by omega)]
    exact ih _ (by rw [cntC_snoc, if_pos e]; rfl)
  · rintro n rfl
    simp only [spec_countCall.l0]
    exact EvP.neg (by omega) (EvP.now rfl)
theorem spec_AnyOrder.ok (l w : List S30) (h : GoodC l) (hw : GoodC w) : EvP (fun k => spec_AnyOrder.f k l w) (· = anyB l w) := by
  have h1 := h.1
  have h2 := hw.1
  unfold spec_AnyOrder.f
  refine EvP.bind (spec_bothCalls.ok l w h hw) ?_
  rintro _ rfl
  refine EvP.ite (fun e => ?_) (fun e => EvP.now (by rw [anyB, ← Bool.and_assoc, show (callsB l && callsB w) = false by simpa using e]; rfl))
  refine EvP.range (L := fun k (_ : Unit) i => spec_AnyOrder.l0 k l w i) (xs := w) (Inv := fun pre _ => pre.all (enough l w) = true) ?_ ?_ () rfl
  · rintro pre x rest _ hx hi ih
    have hl := len_at hx
    have hr : rd_T30 w (pre.length : Int) = x := getD_at hx _
    simp only [spec_AnyOrder.l0, hr, wrap_at hx (show (w.length : Int) ≤ 9223372036854775807 by omega)]
    refine EvP.pos hl (EvP.pos (nat_nonneg _) ?_)
    refine EvP.bind (spec_countCall.ok l x.f0 x.f1 h) ?_
    rintro _ rfl
    refine EvP.bind (spec_countCall.ok w x.f0 x.f1 hw) ?_
    rintro _ rfl
    refine EvP.ite (fun e3 => EvP.now ?_) (fun e3 => ih () (all_snoc hi (decide_eq_true (by omega))))
    rw [anyB, enough_no hx (decide_eq_false (by omega))]
    simp
  · rintro _ hi
    simp only [spec_AnyOrder.l0]
    exact EvP.neg (by omega) (EvP.now (by rw [anyB, ← Bool.and_assoc, e, hi]; rfl))
theorem callsB_rev (l : List S30) : callsB l.reverse = callsB l := by rw [callsB, callsB, List.all_reverse, List.length_reverse]
theorem cntC_rev (l : List S30) (s : ByteArray) (a : List Int) : cntC l.reverse s a = cntC l s a := by rw [cntC, cntC, List.countP_reverse]
theorem any_rev1 (l w : List S30) : anyB l.reverse w = anyB l w := by
  rw [anyB, anyB, callsB_rev]
  have : enough l.reverse w = enough l w := by
    funext x
    rw [enough, enough, cntC_rev]
  rw [this]
theorem any_rev2 (l w : List S30) : anyB l w.reverse = anyB l w := by
  rw [anyB, anyB, callsB_rev, List.all_reverse]
  have : enough l w.reverse = enough l w := by
    funext x
    rw [enough, enough, cntC_rev]
  rw [this]
def key (x : S30) : List UInt8 × List Int := (x.f0.toList, x.f1)
theorem cntC_key (l : List S30) (x : S30) : cntC l x.f0 x.f1 = (l.map key).count (key x) := by
  rw [cntC, List.count, List.countP_map]
  refine List.countP_congr fun y _ => ?_
  simp [sameB, key, Prod.ext_iff]
theorem count_len {α : Type} [BEq α] [LawfulBEq α] : ∀ (w l : List α), (∀ x ∈ w, w.count x ≤ l.count x) → w.length ≤ l.length := by
  intro w
  induction w with
  | nil => intro l _; simp
  | cons y w ih =>
    intro l h
    have hy := h y (by simp)
    rw [List.count_cons_self] at hy
    have hm : y ∈ l := List.count_pos_iff.1 (by omega)
    have h2 := ih (l.erase y) (fun x hx => by
      have h3 := h x (by simp [hx])
      rw [List.count_erase]
      rw [List.count_cons] at h3
      by_cases e : y = x
      · subst e
        simp at h3 ⊢
        omega
      · have e1 : (y == x) = false := by simpa using e
        rw [e1] at h3 ⊢
        simp at h3 ⊢
        omega)
    rw [List.length_erase_of_mem hm] at h2
    have := List.length_pos_of_mem hm
    simp only [List.length_cons]
    omega
theorem any_len {l w : List S30} (h : anyB l w = true) : w.length ≤ l.length := by
  rw [anyB, Bool.and_eq_true, Bool.and_eq_true] at h
  have h3 := List.all_eq_true.1 h.2.2
  have := count_len (w.map key) (l.map key) (fun k hk => by
    obtain ⟨x, hx, rfl⟩ := List.mem_map.1 hk
    have := of_decide_eq_true (h3 x hx)
    rw [cntC_key, cntC_key] at this
    exact this)
  simpa using this
theorem drop_rev (l : List S30) (n : Int) (h0 : 0 < n) (h1 : n ≤ l.length) : (l.drop n.toNat).reverse ++ [(⟨(rd_T30 l (n - 1)).f0, (rd_T30 l (n - 1)).f1⟩ : S30)] = (l.drop (n - 1).toNat).reverse := by
  have h2 : (n - 1).toNat < l.length := by omega
  rw [List.drop_eq_getElem_cons h2, List.reverse_cons, show (n - 1).toNat + 1 = n.toNat by omega]
  congr 2
  unfold rd_T30
  rw [List.getD_eq_getElem?_getD, List.getElem?_eq_getElem h2]
  rfl
theorem main : laws_FnAnyOrder.Pure := by
  intro l0 _ _ hw
  refine EvP.rounds ?_
  unfold laws_FnAnyOrder.f
  refine EvP.ite (fun _ => EvP.now rfl) (fun _ => ?_)
  refine EvP.bind (P := fun r => GoodC r.1 ∧ r.1.length ≤ 12 ∧ GoodC r.2 ∧ r.2.length ≤ 12) ?_ ?_
  · unfold spec_DrawAnyOrder.f
    refine EvP.bind (spec_newReader.ok l0 hw) ?_
    rintro ⟨b, p⟩ ⟨hb, hp⟩
    simp only at hb hp
    subst hp
    refine EvP.bind (spec_twoCalls.ok b 0 hb (by omega) (by omega)) ?_
    rintro ⟨l, w, p⟩ h
    exact EvP.now h
  · rintro ⟨l, w⟩ ⟨hg, hl12, hgw, hw12⟩
    simp only at hg hl12 hgw hw12
    refine EvP.bind (impl_AnyOrder.ok l w hg hgw) ?_
    rintro _ rfl
    refine EvP.bind (spec_AnyOrder.ok l w hg hgw) ?_
    rintro _ rfl
    refine EvP.neg (by simp) ?_
    have yes : EvP (fun k => laws_FnAnyOrder.j0 k l w (anyB l w) true) (· = true) := by
      refine EvP.succ ?_
      simp only [laws_FnAnyOrder.j0]
      refine EvP.pos trivial ?_
      refine EvP.bind (spec_AnyOrder.ok l w hg hgw) ?_
      rintro _ rfl
      exact EvP.now (by simp)
    refine EvP.bind (impl_ValidCalls.ok l hg) ?_
    rintro _ rfl
    refine EvP.ite (fun hv => ?_) (fun _ => yes)
    refine EvP.bind (impl_ValidCalls.ok w hgw) ?_
    rintro _ rfl
    cases hvw : callsB w with
    | false => exact yes
    | true =>
      have grev : GoodC l.reverse := ⟨by rw [List.length_reverse]; exact hg.1, fun x hx => hg.2 x (List.mem_reverse.1 hx)⟩
      have growv : GoodC w.reverse := ⟨by rw [List.length_reverse]; exact hgw.1, fun x hx => hgw.2 x (List.mem_reverse.1 hx)⟩
      have tail : EvP (fun k => (impl_AnyOrder.f k l.reverse w).bind fun t288 => (if (t288 == anyB l w) = true then ((impl_AnyOrder.f k l w.reverse).bind fun t289 => (if (t289 == anyB l w) = true then (if anyB l w = true then (some (decide ((w.length : Int) ≤ (l.length : Int)))) else (some true)) else (some false))) else (some false))) (· = true) := by
        refine EvP.bind (impl_AnyOrder.ok l.reverse w grev hgw) ?_
        rintro _ rfl
        refine EvP.pos (by rw [any_rev1]; simp) ?_
        refine EvP.bind (impl_AnyOrder.ok l w.reverse hg growv) ?_
        rintro _ rfl
        refine EvP.pos (by rw [any_rev2]; simp) ?_
        refine EvP.ite (fun e => EvP.now ?_) (fun _ => EvP.now rfl)
        have := any_len e
        exact decide_eq_true (by omega)
      refine EvP.succ ?_
      simp only [laws_FnAnyOrder.j0]
      refine EvP.neg (by simp) ?_
      rw [wrap_id (by omega) (by omega)]
      refine EvP.down (L := fun k (s : List S30) n => laws_FnAnyOrder.l0 k l w (anyB l w) s (n - 1)) (Inv := fun n s => 0 ≤ n ∧ n ≤ l.length ∧ s = (l.drop n.toNat).reverse) ?_ ?_ (l.length : Int) [] ⟨by omega, by omega, by simp⟩
      · rintro n _ hn ⟨_, h2, rfl⟩ ih
        simp only [laws_FnAnyOrder.l0]
        refine EvP.pos (by omega) (EvP.pos (by omega) (EvP.pos (by omega) (EvP.pos ?_ ?_)))
        · rw [List.length_reverse, List.length_drop]
          omega
        · rw [wrap_id (by omega) (by omega), drop_rev l n hn h2]
          exact ih _ ⟨by omega, by omega, rfl⟩
      · rintro n _ hn ⟨h1, _, rfl⟩
        obtain rfl : n = 0 := by omega
        simp only [laws_FnAnyOrder.l0]
        refine EvP.neg (by omega) ?_
        rw [show (l.drop (0 : Int).toNat).reverse = l.reverse from rfl]
        rw [wrap_id (by omega) (by omega)]
        refine EvP.down (L := fun k (s : List S30) n => laws_FnAnyOrder.l1 k l w (anyB l w) l.reverse s (n - 1)) (Inv := fun n s => 0 ≤ n ∧ n ≤ w.length ∧ s = (w.drop n.toNat).reverse) ?_ ?_ (w.length : Int) [] ⟨by omega, by omega, by simp⟩
        · rintro n _ hn ⟨_, h2, rfl⟩ ih
          simp only [laws_FnAnyOrder.l1]
          refine EvP.pos (by omega) (EvP.pos (by omega) (EvP.pos (by omega) (EvP.pos ?_ ?_)))
          · rw [List.length_reverse, List.length_drop]
            omega
          · rw [wrap_id (by omega) (by omega), drop_rev w n hn h2]
            exact ih _ ⟨by omega, by omega, rfl⟩
        · rintro n _ hn ⟨h1, _, rfl⟩
          obtain rfl : n = 0 := by omega
          simp only [laws_FnAnyOrder.l1]
          refine EvP.neg (by omega) ?_
          rw [show (w.drop (0 : Int).toNat).reverse = w.reverse from rfl]
          exact tail
end QFnAnyOrder
theorem FnAnyOrder : laws_FnAnyOrder.Pure := QFnAnyOrder.main
end Go.Proofs.Ytihmgjefndkfeaa.Pure

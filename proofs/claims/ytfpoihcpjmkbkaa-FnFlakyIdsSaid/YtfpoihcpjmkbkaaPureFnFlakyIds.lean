/- FnFlakyIds answers true for every code: the program's flaky ids are the reference's; they are different, the reports turned have the same ones, and the first report alone has no other ones. Conditions: those of the printed statement alone (bounds on sizes that every input meets). -/
import Derived.Test.YtfpoihcpjmkbkaaOFnFlakyIdsx7
import Derived.Test.YtfpoihcpjmkbkaaBase
namespace Go.Proofs.Ytfpoihcpjmkbkaa.Pure
open Go.RowKit Go.Proofs.Ytfpoihcpjmkbkaa.OFnFlakyIds Go.Proofs.YtfpoihcpjmkbkaaW.PrintWords Go.Proofs.YtfpoihcpjmkbkaaW.PrintLast Go.Proofs.YtfpoihcpjmkbkaaW.PrintMore Go.Proofs.Ytfpoihcpjmkbkaa.Base
set_option linter.unusedVariables false
set_option linter.unusedSimpArgs false
namespace QFnFlakyIds
/-! #### the reader of draws -/
def Bytes (b : List Int) : Prop := b.length ≤ 2000 ∧ ∀ x ∈ b, 0 ≤ x ∧ x ≤ 255
theorem spec_newReader.ok (l0 : List Int) (h : ∀ x ∈ l0, (Lit.int .u8 x).wf = true) : EvP (fun _ => spec_newReader.f l0) (fun r => Bytes r.1 ∧ r.2 = 0) := by
  have hw : ∀ x ∈ l0, 0 ≤ x ∧ x ≤ 255 := by
    intro x hx
    have := h x hx
    simp [Lit.wf, IntKind.min, IntKind.max, IntKind.signed, IntKind.bits] at this
    omega
  unfold spec_newReader.f
  refine EvP.ite (fun h1 => EvP.pos (by omega) (EvP.now ⟨⟨?_, fun x hx => hw x (List.mem_of_mem_take hx)⟩, rfl⟩)) (fun h1 => EvP.now ⟨⟨by simp only; omega, hw⟩, rfl⟩)
  show (l0.take 2000).length ≤ 2000
  simp
  omega
theorem rd_mem {l : List Int} {i : Int} (h0 : 0 ≤ i) (h1 : i < (l.length : Int)) : rd l i ∈ l := by
  unfold rd
  rw [List.getD_eq_getElem?_getD, List.getElem?_eq_getElem (by omega)]
  exact List.getElem_mem _
theorem rdOf_mem {α : Type} (d : α) {l : List α} {i : Int} (h0 : 0 ≤ i) (h1 : i < (l.length : Int)) : rdOf d l i ∈ l := by
  unfold rdOf
  rw [List.getD_eq_getElem?_getD, List.getElem?_eq_getElem (by omega)]
  exact List.getElem_mem _
theorem xor_nonneg (a b : Int) (ha : 0 ≤ a) (ha1 : a < 9223372036854775808) (hb : 0 ≤ b) (hb1 : b < 9223372036854775808) : 0 ≤ Go.bits .xor .i64 a b := by
  obtain ⟨m, rfl⟩ := Int.eq_ofNat_of_zero_le ha
  obtain ⟨n, rfl⟩ := Int.eq_ofNat_of_zero_le hb
  have hx : m ^^^ n < 2 ^ 63 := Nat.xor_lt_two_pow (by omega) (by omega)
  have h1 : (BitVec.ofInt 64 (m : Int)).toNat = m := by
    rw [BitVec.ofInt_natCast, BitVec.toNat_ofNat]; exact Nat.mod_eq_of_lt (by omega)
  have h2 : (BitVec.ofInt 64 (n : Int)).toNat = n := by
    rw [BitVec.ofInt_natCast, BitVec.toNat_ofNat]; exact Nat.mod_eq_of_lt (by omega)
  show 0 ≤ IntKind.i64.wrap ((BitVec.ofInt 64 (m : Int) ^^^ BitVec.ofInt 64 (n : Int)).toNat : Int)
  rw [BitVec.toNat_xor, h1, h2, IntKind.wrap_i64]
  omega
theorem tmod_in (a n : Int) (ha : 0 ≤ a) (hn : 0 < n) : 0 ≤ Int.tmod a n ∧ Int.tmod a n < n := by
  rw [Int.tmod_eq_emod_of_nonneg ha]
  exact ⟨Int.emod_nonneg _ (by omega), Int.emod_lt_of_pos _ hn⟩
theorem tdiv_in (a n : Int) (ha : 0 ≤ a) (hn : 0 < n) : 0 ≤ Int.tdiv a n ∧ Int.tdiv a n ≤ a := by
  rw [Int.tdiv_eq_ediv_of_nonneg ha]
  exact ⟨Int.ediv_nonneg ha (by omega), Int.ediv_le_self _ ha⟩
theorem spec_reader_pick.ok (b : List Int) (p n : Int) (hb : Bytes b) (h0 : 0 ≤ p) (h1 : p ≤ 1000000) : EvP (fun k => spec_reader_pick.f k b p n) (fun r => 0 ≤ r.1 ∧ (0 < n → r.1 < n) ∧ r.2 = p + 1) := by
  have e1 : wrap64 (p + 1) = p + 1 := wrap_id (by omega) (by omega)
  have e2 : wrap64 (p + 1 - 1) = p := by rw [wrap_id (by omega) (by omega)]; omega
  have none' : EvP (fun k => spec_reader_pick.j0 k n true b (p + 1)) (fun r => 0 ≤ r.1 ∧ (0 < n → r.1 < n) ∧ r.2 = p + 1) := by
    refine EvP.succ ?_
    simp only [spec_reader_pick.j0]
    exact EvP.pos (by simp) (EvP.now ⟨by simp, fun h => h, by simp⟩)
  unfold spec_reader_pick.f
  rw [e1]
  refine EvP.ite (fun _ => none') (fun hn => ?_)
  by_cases hl : b.length = 0
  · have : ((b.length : Int) == 0) = true := by simp [hl]
    rw [this]
    exact none'
  · have : ((b.length : Int) == 0) = false := by simp [hl]
    rw [this]
    have hr : ∀ i : Int, 0 ≤ i → i < (b.length : Int) → 0 ≤ rd b i ∧ rd b i ≤ 255 := fun i g0 g1 => hb.2 _ (rd_mem g0 g1)
    refine EvP.succ ?_
    simp only [spec_reader_pick.j0]
    refine EvP.neg (by simp) ?_
    simp only [e2]
    refine EvP.ite (fun hp => EvP.pos h0 (EvP.neg (by omega) (EvP.now ?_))) (fun hp => ?_)
    · have h := hr p h0 hp
      rw [wrap_id (by omega) (by omega)]
      have := tmod_in (rd b p) n h.1 (by omega)
      exact ⟨this.1, fun _ => this.2, by simp⟩
    · have w7 : wrap64 (p * 7) = p * 7 := wrap_id (by omega) (by omega)
      have w73 : wrap64 (p * 7 + 3) = p * 7 + 3 := wrap_id (by omega) (by omega)
      have w29 : wrap64 (p * 29) = p * 29 := wrap_id (by omega) (by omega)
      simp only [w7, w73, w29]
      have m1 := tmod_in p (b.length : Int) h0 (by omega)
      have m2 := tmod_in (p * 7 + 3) (b.length : Int) (by omega) (by omega)
      have d1 := tdiv_in p (b.length : Int) h0 (by omega)
      have r1 := hr _ m1.1 m1.2
      have r2 := hr _ m2.1 m2.2
      refine EvP.neg (by omega) (EvP.pos m1.1 (EvP.pos m1.2 (EvP.pos m2.1 (EvP.pos m2.2 (EvP.neg (by omega) (EvP.now ?_))))))
      generalize rd b (Int.tmod p (b.length : Int)) = u1 at *
      generalize rd b (Int.tmod (p * 7 + 3) (b.length : Int)) = u2 at *
      generalize Int.tdiv p (b.length : Int) = u3 at *
      have a1 : wrap64 u1 = u1 := wrap_id (by omega) (by omega)
      have a2 : wrap64 u2 = u2 := wrap_id (by omega) (by omega)
      have a3 : wrap64 u3 = u3 := wrap_id (by omega) (by omega)
      have a4 : wrap64 (u1 * 131) = u1 * 131 := wrap_id (by omega) (by omega)
      have a5 : wrap64 (u2 * 1117) = u2 * 1117 := wrap_id (by omega) (by omega)
      have a6 : wrap64 (u3 * 53) = u3 * 53 := wrap_id (by omega) (by omega)
      have a7 : wrap64 (u1 * 131 + u2 * 1117) = u1 * 131 + u2 * 1117 := wrap_id (by omega) (by omega)
      have a8 : wrap64 (u1 * 131 + u2 * 1117 + p * 29) = u1 * 131 + u2 * 1117 + p * 29 := wrap_id (by omega) (by omega)
      have a9 : wrap64 (u1 * 131 + u2 * 1117 + p * 29 + u3 * 53) = u1 * 131 + u2 * 1117 + p * 29 + u3 * 53 := wrap_id (by omega) (by omega)
      simp only [a1, a2, a3, a4, a5, a6, a7, a8, a9]
      have hE : 0 ≤ u1 * 131 + u2 * 1117 + p * 29 + u3 * 53 ∧ u1 * 131 + u2 * 1117 + p * 29 + u3 * 53 ≤ 1000000000 := by omega
      generalize u1 * 131 + u2 * 1117 + p * 29 + u3 * 53 = E at *
      have d2 := tdiv_in E 64 hE.1 (by omega)
      have a10 : wrap64 (Int.tdiv E 64) = Int.tdiv E 64 := wrap_id (by omega) (by omega)
      rw [a10]
      have := tmod_in (Go.bits .xor .i64 E (Int.tdiv E 64)) n (xor_nonneg _ _ hE.1 (by omega) d2.1 (by omega)) (by omega)
      exact ⟨this.1, fun _ => this.2, by simp⟩
theorem spec_reader_one.ok (b : List Int) (p : Int) (l : List Int) (hb : Bytes b) (h0 : 0 ≤ p) (h1 : p ≤ 1000000) (hl : 0 < l.length) : EvP (fun k => spec_reader_one.f k b p l) (fun r => r.1 ∈ l ∧ r.2 = p + 1) := by
  unfold spec_reader_one.f
  refine EvP.bind (spec_reader_pick.ok b p _ hb h0 h1) ?_
  rintro ⟨i, q⟩ ⟨g0, g1, rfl⟩
  have g2 := g1 (by omega)
  exact EvP.pos g0 (EvP.pos g2 (EvP.now ⟨rd_mem g0 g2, rfl⟩))
theorem spec_reader_of.ok (b : List Int) (p : Int) (l : List ByteArray) (hb : Bytes b) (h0 : 0 ≤ p) (h1 : p ≤ 1000000) (hl : 0 < l.length) : EvP (fun k => spec_reader_of.f k b p l) (fun r => r.1 ∈ l ∧ r.2 = p + 1) := by
  unfold spec_reader_of.f
  refine EvP.bind (spec_reader_pick.ok b p _ hb h0 h1) ?_
  rintro ⟨i, q⟩ ⟨g0, g1, rfl⟩
  have g2 := g1 (by omega)
  exact EvP.pos g0 (EvP.pos g2 (EvP.now ⟨rdOf_mem _ g0 g2, rfl⟩))
/-! #### drawn reports -/
theorem spec_aModule.ok (b : List Int) (p : Int) (hb : Bytes b) (h0 : 0 ≤ p) (h1 : p ≤ 1000000) : EvP (fun k => spec_aModule.f k b p) (fun r => r.1.size = 1 ∧ r.2 = p + 1) := by
  unfold spec_aModule.f
  refine EvP.bind (spec_reader_of.ok b p _ hb h0 h1 (by simp)) ?_
  rintro ⟨s, q⟩ ⟨g0, rfl⟩
  refine EvP.now ⟨?_, rfl⟩
  simp only [List.mem_cons, List.not_mem_nil, or_false] at g0
  rcases g0 with rfl | rfl | rfl | rfl <;> rfl
theorem spec_anId.ok (b : List Int) (p : Int) (hb : Bytes b) (h0 : 0 ≤ p) (h1 : p ≤ 900000) : EvP (fun k => spec_anId.f k b p) (fun r => r.1.size = 3 ∧ r.2 = p + 2) := by
  unfold spec_anId.f
  refine EvP.bind (spec_aModule.ok b p hb h0 (by omega)) ?_
  rintro ⟨s, q⟩ ⟨g0, rfl⟩
  refine EvP.pos (by simp only at g0 ⊢; omega) ?_
  refine EvP.bind (spec_reader_of.ok b (p + 1) _ hb (by omega) (by omega) (by simp)) ?_
  rintro ⟨t, q⟩ ⟨g1, rfl⟩
  have g2 : t.size = 1 := by
    simp only [List.mem_cons, List.not_mem_nil, or_false] at g1
    rcases g1 with rfl | rfl | rfl | rfl | rfl <;> rfl
  simp only at g0
  refine EvP.pos ?_ (EvP.now ⟨?_, by simp only; omega⟩)
  · simp [ByteArray.size_append, g0, g2]
    decide
  · simp [ByteArray.size_append, g0, g2]
    decide
theorem spec_someReport.ok (b : List Int) (p : Int) (hb : Bytes b) (h0 : 0 ≤ p) (h1 : p ≤ 100000) : EvP (fun k => spec_someReport.f k b p) (fun r => r.1.length ≤ 5 ∧ r.2.1.length ≤ 2 ∧ p ≤ r.2.2 ∧ r.2.2 ≤ p + 40) := by
  unfold spec_someReport.f
  refine EvP.bind (spec_reader_one.ok b p _ hb h0 (by omega) (by simp)) ?_
  rintro ⟨n, q⟩ ⟨g0, rfl⟩
  have hn : 0 ≤ n ∧ n ≤ 5 := by
    simp only [List.mem_cons, List.not_mem_nil, or_false] at g0
    omega
  have j2 : ∀ (x : Bool) (q : Int) (rs : List S37) (ds : List ByteArray), 0 ≤ q → q ≤ 200000 → q ≤ p + 30 → p ≤ q → rs.length ≤ 5 → ds.length ≤ 2 → (x = true → 0 < rs.length) →
      EvP (fun k => spec_someReport.j2 k x b q rs ds) (fun r => r.1.length ≤ 5 ∧ r.2.1.length ≤ 2 ∧ p ≤ r.2.2 ∧ r.2.2 ≤ p + 40) := by
    intro x q rs ds a0 a1 a2 a3 a4 a5 a6
    refine EvP.succ ?_
    simp only [spec_someReport.j2]
    refine EvP.ite (fun hx => ?_) (fun _ => EvP.now ⟨a4, a5, a3, by simp only; omega⟩)
    refine EvP.bind (spec_reader_of.ok b q _ hb (by omega) (by omega) (by simp)) ?_
    rintro ⟨s, q1⟩ ⟨_, rfl⟩
    refine EvP.bind (spec_reader_one.ok b (q + 1) _ hb (by omega) (by omega) (by simp)) ?_
    rintro ⟨s, q1⟩ ⟨_, rfl⟩
    have := a6 hx
    exact EvP.pos (by omega) (EvP.now ⟨by simpa using a4, a5, by simp only; omega, by simp only; omega⟩)
  have l1 : ∀ (n : Int) (s : Int × List ByteArray) (rs : List S37), (0 ≤ s.1 ∧ s.1 + 2 * n ≤ p + 22 ∧ p ≤ s.1 ∧ (s.2.length : Int) + n ≤ 2 ∧ 0 ≤ n) → rs.length ≤ 5 →
      EvP (fun k => spec_someReport.l1 k n b s.1 rs s.2) (fun r => r.1.length ≤ 5 ∧ r.2.1.length ≤ 2 ∧ p ≤ r.2.2 ∧ r.2.2 ≤ p + 40) := by
    intro n s rs hs hrs
    refine EvP.down (L := fun k (s : Int × List ByteArray) n => spec_someReport.l1 k n b s.1 rs s.2) (Inv := fun n s => 0 ≤ s.1 ∧ s.1 + 2 * n ≤ p + 22 ∧ p ≤ s.1 ∧ (s.2.length : Int) + n ≤ 2 ∧ 0 ≤ n) ?_ ?_ n s hs
    · rintro n ⟨q, ds⟩ hn ⟨a0, a1, a2, a3, a4⟩ ih
      simp only [spec_someReport.l1]
      simp only at a0 a1 a2 a3
      refine EvP.pos hn ?_
      refine EvP.bind (spec_reader_of.ok b q _ hb (by omega) (by omega) (by simp)) ?_
      rintro ⟨s, q1⟩ ⟨_, rfl⟩
      simp only
      rw [wrap_id (x := n - 1) (by omega) (by omega)]
      exact EvP.pos (by omega) (ih (q + 1, ds ++ [s]) ⟨by simp only; omega, by simp only; omega, by simp only; omega, by simp only [List.length_append, List.length_singleton]; omega, by omega⟩)
    · rintro n ⟨q, ds⟩ hn ⟨a0, a1, a2, a3, a4⟩
      simp only [spec_someReport.l1]
      simp only at a0 a1 a2 a3
      refine EvP.neg (by omega) (EvP.ite (fun h => ?_) (fun h => ?_))
      · refine EvP.bind (spec_reader_pick.ok b q _ hb (by omega) (by omega)) ?_
        rintro ⟨i, q1⟩ ⟨_, _, rfl⟩
        exact j2 _ _ _ _ (by simp only; omega) (by simp only; omega) (by simp only; omega) (by simp only; omega) hrs (by omega) (fun _ => by omega)
      · exact j2 _ _ _ _ (by omega) (by omega) (by omega) (by omega) hrs (by omega) (fun h => by cases h)
  refine EvP.down (L := fun k (s : Int × List S37) n => spec_someReport.l0 k n b s.1 s.2 []) (Inv := fun n s => 0 ≤ s.1 ∧ s.1 + 3 * n ≤ p + 1 + 15 ∧ p ≤ s.1 ∧ (s.2.length : Int) + n ≤ 5 ∧ 0 ≤ n) ?_ ?_ n (p + 1, []) ?_
  · rintro n ⟨q, rs⟩ hn ⟨a0, a1, a2, a3, a4⟩ ih
    simp only [spec_someReport.l0]
    simp only at a0 a1 a2 a3
    refine EvP.pos hn ?_
    refine EvP.bind (spec_anId.ok b q hb (by omega) (by omega)) ?_
    rintro ⟨s, q1⟩ ⟨_, rfl⟩
    refine EvP.bind (spec_reader_one.ok b (q + 2) _ hb (by omega) (by omega) (by simp)) ?_
    rintro ⟨i, q1⟩ ⟨_, rfl⟩
    simp only
    rw [wrap_id (x := n - 1) (by omega) (by omega)]
    exact EvP.pos (by omega) (ih (q + 2 + 1, rs ++ [⟨s, i⟩]) ⟨by simp only; omega, by simp only; omega, by simp only; omega, by simp only [List.length_append, List.length_singleton]; omega, by omega⟩)
  · rintro n ⟨q, rs⟩ hn ⟨a0, a1, a2, a3, a4⟩
    simp only [spec_someReport.l0]
    simp only at a0 a1 a2 a3
    refine EvP.neg (by omega) ?_
    refine EvP.bind (spec_reader_one.ok b q _ hb (by omega) (by omega) (by simp)) ?_
    rintro ⟨i, q1⟩ ⟨g1, rfl⟩
    have hi : 0 ≤ i ∧ i ≤ 2 := by
      simp only [List.mem_cons, List.not_mem_nil, or_false] at g1
      omega
    exact l1 i (q + 1, []) rs ⟨by simp only; omega, by simp only; omega, by simp only; omega, by simp; omega, by omega⟩ (by omega)
  · exact ⟨by simp only; omega, by simp only; omega, by simp only; omega, by simp; omega, by omega⟩
/-- Is a text in a list? -/
def hasT (l : List ByteArray) (s : ByteArray) : Bool := l.any fun y => decide (y.toList = s.toList)
theorem hasT_cons (y : ByteArray) (l : List ByteArray) (s : ByteArray) : hasT (y :: l) s = (decide (y.toList = s.toList) || hasT l s) := rfl
theorem hasT_append (a b : List ByteArray) (s : ByteArray) : hasT (a ++ b) s = (hasT a s || hasT b s) := by simp [hasT, List.any_append]
theorem hasT_iff (l : List ByteArray) (s : ByteArray) : hasT l s = true ↔ ∃ y ∈ l, y.toList = s.toList := by simp [hasT]
/-! #### different texts -/
def apartB (l : List ByteArray) : Bool := decide (l.Pairwise fun a b => a.toList ≠ b.toList)
theorem apartB_no {l pre rest : List ByteArray} {x : ByteArray} (h : l = pre ++ x :: rest) (hx : hasT pre x = true) : apartB l = false := by
  rw [apartB, decide_eq_false_iff_not, h]
  intro g
  obtain ⟨y, hy, e⟩ := (hasT_iff pre x).1 hx
  exact (List.pairwise_append.1 g).2.2 y hy x (by simp) e
theorem apartB_yes {pre : List ByteArray} {x : ByteArray} (h : apartB pre = true) (hx : hasT pre x = false) : apartB (pre ++ [x]) = true := by
  rw [apartB, decide_eq_true_iff] at h ⊢
  refine List.pairwise_append.2 ⟨h, by simp, fun a ha b hb => ?_⟩
  rw [List.mem_singleton.1 hb]
  intro e
  have : hasT pre x = true := (hasT_iff pre x).2 ⟨a, ha, e⟩
  rw [hx] at this
  cases this
theorem apartB_nil : apartB [] = true := rfl
def uniq (l : List ByteArray) : List ByteArray := l.foldl (fun acc x => if hasT acc x = true then acc else acc ++ [x]) []
theorem uniq_snoc (l : List ByteArray) (x : ByteArray) : uniq (l ++ [x]) = if hasT (uniq l) x = true then uniq l else uniq l ++ [x] := by
  unfold uniq
  rw [List.foldl_append]
  rfl
theorem uniq_le (l : List ByteArray) : (uniq l).length ≤ l.length := by
  induction l using snoc_ind with
  | nil => simp [uniq]
  | snoc l x ih =>
    rw [uniq_snoc]
    split <;> simp <;> omega
theorem uniq_apart (l : List ByteArray) : apartB (uniq l) = true := by
  induction l using snoc_ind with
  | nil => rfl
  | snoc l x ih =>
    rw [uniq_snoc]
    by_cases h : hasT (uniq l) x = true
    · rw [if_pos h]; exact ih
    · rw [if_neg h]; exact apartB_yes ih (by simpa using h)
theorem hasT_congr (l : List ByteArray) {s t : ByteArray} (h : s.toList = t.toList) : hasT l s = hasT l t := by simp [hasT, h]
theorem hasT_uniq (l : List ByteArray) (s : ByteArray) : hasT (uniq l) s = hasT l s := by
  induction l using snoc_ind with
  | nil => rfl
  | snoc l x ih =>
    rw [uniq_snoc, hasT_append]
    by_cases h : hasT (uniq l) x = true
    · rw [if_pos h, ih]
      have h' := h
      by_cases e : x.toList = s.toList
      · have : hasT l s = true := by rw [← ih, ← hasT_congr _ e]; exact h'
        rw [this]
        rfl
      · simp [hasT, e]
    · rw [if_neg h, hasT_append, ih]
theorem apart_filter {p : ByteArray → Bool} {l : List ByteArray} (h : apartB l = true) : apartB (l.filter p) = true := by
  rw [apartB, decide_eq_true_iff] at h ⊢
  exact h.filter p
/-- Different texts that are all in another list are no more than it has. -/
theorem apart_len : ∀ {a b : List ByteArray}, apartB a = true → (∀ x ∈ a, hasT b x = true) → a.length ≤ b.length
  | [], _, _, _ => by simp
  | x :: a, b, h, hb => by
    rw [apartB, decide_eq_true_iff, List.pairwise_cons] at h
    obtain ⟨y, hy, e⟩ := (hasT_iff b x).1 (hb x (by simp))
    obtain ⟨b1, b2, rfl⟩ := List.append_of_mem hy
    have ih := apart_len (a := a) (b := b1 ++ b2) (by rw [apartB, decide_eq_true_iff]; exact h.2) (fun z hz => by
      have h3 := hb z (List.mem_cons_of_mem _ hz)
      rw [hasT_append, hasT_cons] at h3
      have h4 : y.toList ≠ z.toList := fun g => h.1 z hz (by rw [← e]; exact g)
      rw [hasT_append]
      simpa [h4] using h3)
    simp only [List.length_append, List.length_cons] at ih ⊢
    omega
theorem spec_hasText.ok (l : List ByteArray) (s : ByteArray) (h : (l.length : Int) ≤ 9223372036854775807) : EvP (fun k => spec_hasText.f k l s) (· = hasT l s) := by
  unfold spec_hasText.f
  refine EvP.range (L := fun k (_ : Unit) i => spec_hasText.l0 k l s i) (xs := l) (Inv := fun pre _ => hasT pre s = false) ?_ ?_ () rfl
  · rintro pre x rest _ hx hi ih
    have hl := len_at hx
    have hr : rdOf ByteArray.empty l (pre.length : Int) = x := getD_at hx _
    simp only [spec_hasText.l0, hr, wrap_at hx h]
    refine EvP.pos hl (EvP.pos (nat_nonneg _) ?_)
    refine EvP.ite (fun e => EvP.now ?_) (fun e => ih () ?_)
    · rw [hx, hasT_append, hasT_cons, e]
      simp
    · rw [hasT_append, hasT_cons, hi]
      simp [e, hasT]
  · rintro _ hi
    simp only [spec_hasText.l0]
    exact EvP.neg (by omega) (EvP.now hi.symm)
theorem slices_Index_string_string.ok (l : List ByteArray) (s : ByteArray) (h : (l.length : Int) ≤ 9223372036854775807) : EvP (fun k => slices_Index_string_string.f k l s) (fun r => decide (r ≥ 0) = hasT l s) := by
  unfold slices_Index_string_string.f
  refine EvP.range (L := fun k (_ : Unit) i => slices_Index_string_string.l0 k l s (l.length : Int) i) (xs := l) (Inv := fun pre _ => hasT pre s = false) ?_ ?_ () rfl
  · rintro pre x rest _ hx hi ih
    have hl := len_at hx
    have hr : rdOf ByteArray.empty l (pre.length : Int) = x := getD_at hx _
    simp only [slices_Index_string_string.l0, hr, wrap_at hx h]
    refine EvP.pos hl (EvP.pos (nat_nonneg _) (EvP.pos hl ?_))
    refine EvP.ite (fun e => EvP.now ?_) (fun e => ih () ?_)
    · rw [hx, hasT_append, hasT_cons, e]
      simp
    · rw [hasT_append, hasT_cons, hi]
      simp [Ne.symm e, hasT]
  · rintro _ hi
    simp only [slices_Index_string_string.l0]
    exact EvP.neg (by omega) (EvP.now (by rw [hi]; rfl))
theorem slices_Contains_string_string.ok (l : List ByteArray) (s : ByteArray) (h : (l.length : Int) ≤ 9223372036854775807) : EvP (fun k => slices_Contains_string_string.f k l s) (· = hasT l s) := by
  unfold slices_Contains_string_string.f
  refine EvP.bind (slices_Index_string_string.ok l s h) ?_
  intro r hr
  exact EvP.now hr
/-! #### flaky tests -/
def hasR (l : List S37) (s : ByteArray) (o : Int) : Bool := l.any fun y => s.toList == y.f0.toList && (o == y.f1)
def okF (l : List S37) (s : ByteArray) : Bool := hasR l s 0 && hasR l s 1
def ids (l : List S37) : List ByteArray := l.map (·.f0)
def flat (rs : List S26) : List S37 := rs.flatMap (·.f0)
def flk (rs : List S26) : List ByteArray := if (rs.length : Int) > 5 then [] else (uniq (ids (flat rs))).filter (okF (flat rs))
def GoodF (rs : List S26) : Prop := rs.length ≤ 1000 ∧ ∀ r ∈ rs, r.f0.length ≤ 1000
theorem flat_len : ∀ (rs : List S26), (∀ r ∈ rs, r.f0.length ≤ 1000) → (flat rs).length ≤ 1000 * rs.length
  | [], _ => by simp [flat]
  | r :: rs, h => by
    have h1 := h r (by simp)
    have ih := flat_len rs (fun x hx => h x (List.mem_cons_of_mem _ hx))
    simp only [flat, List.flatMap_cons, List.length_append, List.length_cons] at ih ⊢
    omega
theorem okF_congr (l : List S37) {s t : ByteArray} (h : s.toList = t.toList) : okF l s = okF l t := by simp [okF, hasR, h]
theorem hasT_flt (l : List ByteArray) (all : List S37) (s : ByteArray) : hasT (l.filter (okF all)) s = (hasT l s && okF all s) := by
  rw [Bool.eq_iff_iff, Bool.and_eq_true, hasT_iff, hasT_iff]
  constructor
  · rintro ⟨y, hy, e⟩
    have := List.mem_filter.1 hy
    exact ⟨⟨y, this.1, e⟩, by rw [← okF_congr all e]; exact this.2⟩
  · rintro ⟨⟨y, hy, e⟩, k⟩
    exact ⟨y, List.mem_filter.2 ⟨hy, by rw [okF_congr all e]; exact k⟩, e⟩
theorem hasT_ids (all : List S37) (s : ByteArray) (h : okF all s = true) : hasT (ids all) s = true := by
  rw [okF, Bool.and_eq_true] at h
  obtain ⟨y, hy, e⟩ := List.any_eq_true.1 h.1
  rw [Bool.and_eq_true] at e
  exact (hasT_iff _ _).2 ⟨y.f0, List.mem_map.2 ⟨y, hy, rfl⟩, by simpa using (beq_iff_eq.1 e.1).symm⟩
theorem hasT_flk (rs : List S26) (h : ¬ (rs.length : Int) > 5) (s : ByteArray) : hasT (flk rs) s = okF (flat rs) s := by
  rw [flk, if_neg h, hasT_flt, hasT_uniq]
  cases e : okF (flat rs) s with
  | false => simp
  | true => rw [hasT_ids _ _ e]; rfl
theorem flk_apart (rs : List S26) : apartB (flk rs) = true := by
  rw [flk]
  split
  · rfl
  · exact apart_filter (uniq_apart _)
theorem flk_le (rs : List S26) : (flk rs).length ≤ (flat rs).length := by
  rw [flk]
  split
  · simp
  · refine Nat.le_trans (List.length_filter_le _ _) (Nat.le_trans (uniq_le _) ?_)
    simp [ids]
/-- The program's way: one result after the other. -/
def outF (all pre : List S37) : List ByteArray := (uniq (ids pre)).filter (okF all)
theorem outF_le (all pre : List S37) : (outF all pre).length ≤ pre.length := by
  refine Nat.le_trans (List.length_filter_le _ _) (Nat.le_trans (uniq_le _) ?_)
  simp [ids]
theorem outF_snoc (all pre : List S37) (x : S37) : outF all (pre ++ [x]) = if hasT (outF all pre) x.f0 = true then outF all pre else if okF all x.f0 = true then outF all pre ++ [x.f0] else outF all pre := by
  have hi : ids (pre ++ [x]) = ids pre ++ [x.f0] := by simp [ids]
  unfold outF
  rw [hi, uniq_snoc, hasT_flt]
  cases e : okF all x.f0 with
  | true =>
    by_cases g : hasT (uniq (ids pre)) x.f0 = true
    · simp [g]
    · simp [g, e]
  | false =>
    by_cases g : hasT (uniq (ids pre)) x.f0 = true
    · simp [g]
    · simp [g, e]
theorem impl_Result_74.ok (l : List S37) (a : ByteArray) (b : Int) (h : (l.length : Int) ≤ 9223372036854775807) : EvP (fun k => impl_Result_74.f k l a b) (fun r => decide (r ≥ 0) = hasR l a b) := by
  unfold impl_Result_74.f
  refine EvP.range (L := fun k (_ : Unit) i => impl_Result_74.l0 k l (l.length : Int) i a b) (xs := l) (Inv := fun pre _ => hasR pre a b = false) ?_ ?_ () rfl
  · rintro pre x rest _ hx hi ih
    have hl := len_at hx
    have hr : rd_T37 l (pre.length : Int) = x := getD_at hx _
    simp only [impl_Result_74.l0, hr, wrap_at hx h]
    refine EvP.pos hl (EvP.pos (nat_nonneg _) (EvP.pos hl ?_))
    refine EvP.ite (fun e => EvP.now ?_) (fun e => ih () ?_)
    · have : hasR l a b = true := by
        rw [hx, hasR, List.any_append, List.any_cons, e]
        simp
      rw [this]
      simp
    · rw [hasR, List.any_append, ← hasR, hi, List.any_cons, show (a.toList == x.f0.toList && (b == x.f1)) = false from by simpa using e]
      rfl
  · rintro _ hi
    simp only [impl_Result_74.l0]
    exact EvP.neg (by omega) (EvP.now (by rw [hi]; rfl))
theorem impl_Result_64.ok (l : List S37) (a : ByteArray) (b : Int) (h : (l.length : Int) ≤ 9223372036854775807) : EvP (fun k => impl_Result_64.f k l a b) (· = hasR l a b) := by
  unfold impl_Result_64.f
  refine EvP.bind (impl_Result_74.ok l a b h) ?_
  intro r hr
  exact EvP.now hr
theorem impl_FlakyIds.ok (rs : List S26) (h : GoodF rs) : EvP (fun k => impl_FlakyIds.f k rs) (· = flk rs) := by
  have h1 := h.1
  unfold impl_FlakyIds.f
  refine EvP.ite (fun e => EvP.now (by rw [flk, if_pos e])) (fun e => ?_)
  refine EvP.range (L := fun k s i => impl_FlakyIds.l0 k s rs (rs.length : Int) i) (xs := rs) (Inv := fun pre s => s = flat pre) ?_ ?_ [] rfl
  · rintro pre x rest s hx rfl ih
    have hl := len_at hx
    have hr : rd_T26 rs (pre.length : Int) = x := getD_at hx _
    have hg := h.2 x (by rw [hx]; simp)
    have hf := flat_len pre (fun r hr' => h.2 r (by rw [hx]; simp [hr']))
    simp only [impl_FlakyIds.l0, hr, wrap_at hx (by omega)]
    exact EvP.pos hl (EvP.pos (nat_nonneg _) (EvP.pos hl (EvP.pos (by omega) (ih _ (by simp [flat])))))
  · rintro s rfl
    have hf := flat_len rs h.2
    simp only [impl_FlakyIds.l0]
    refine EvP.neg (by omega) ?_
    generalize hall : flat rs = all at *
    refine EvP.range (L := fun k s i => impl_FlakyIds.l1 k all s all (all.length : Int) i) (xs := all) (Inv := fun pre s => s = outF all pre) ?_ ?_ [] rfl
    · rintro pre x rest s hx rfl ih
      have hl := len_at hx
      have hr : rd_T37 all (pre.length : Int) = x := getD_at hx _
      have ho := outF_le all pre
      have hs := outF_snoc all pre x
      simp only [impl_FlakyIds.l1, hr, wrap_at hx (by omega)]
      refine EvP.pos hl (EvP.pos (nat_nonneg _) (EvP.pos hl ?_))
      refine EvP.bind (slices_Contains_string_string.ok _ _ (by omega)) ?_
      rintro _ rfl
      refine EvP.ite (fun g => ih _ (by rw [hs, if_pos g])) (fun g => ?_)
      rw [if_neg g] at hs
      refine EvP.bind (impl_Result_64.ok all x.f0 0 (by omega)) ?_
      rintro _ rfl
      refine EvP.ite (fun g0 => ?_) (fun g0 => ih _ (by rw [hs, if_neg (by rw [okF]; simp [g0])]))
      refine EvP.bind (impl_Result_64.ok all x.f0 1 (by omega)) ?_
      rintro _ rfl
      refine EvP.ite (fun g1 => EvP.pos (by omega) (ih _ (by rw [hs, if_pos (by rw [okF, g0, g1]; rfl)]))) (fun g1 => ih _ (by rw [hs, if_neg (by rw [okF]; simp [g1])]))
    · rintro s rfl
      simp only [impl_FlakyIds.l1]
      refine EvP.neg (by omega) (EvP.now ?_)
      rw [flk, if_neg e, hall]
      rfl
theorem spec_inOrderOf.ok (a b : List ByteArray) (ha : (a.length : Int) ≤ 8796093022208) (hb : (b.length : Int) ≤ 8796093022208) : EvP (fun k => spec_inOrderOf.f k a b) (· = a.filter (hasT b)) := by
  unfold spec_inOrderOf.f
  refine EvP.range (L := fun k s i => spec_inOrderOf.l0 k a b s i) (xs := a) (Inv := fun pre s => s = pre.filter (hasT b)) ?_ ?_ [] rfl
  · rintro pre x rest s hx rfl ih
    have hl := len_at hx
    have hc := List.length_filter_le (hasT b) pre
    have hr : rdOf ByteArray.empty a (pre.length : Int) = x := getD_at hx _
    simp only [spec_inOrderOf.l0, hr, wrap_at hx (by omega)]
    refine EvP.pos hl (EvP.pos (nat_nonneg _) ?_)
    refine EvP.bind (spec_hasText.ok b x (by omega)) ?_
    rintro _ rfl
    refine EvP.ite (fun e => EvP.pos (by omega) (ih _ ?_)) (fun e => ih _ ?_)
    · simp [List.filter_append, List.filter_cons, e]
    · simp [List.filter_append, List.filter_cons, e]
  · rintro s rfl
    simp only [spec_inOrderOf.l0]
    exact EvP.neg (by omega) (EvP.now rfl)
theorem spec_addText.ok (l : List ByteArray) (x : ByteArray) (h : (l.length : Int) < 8796093022208) : EvP (fun k => spec_addText.f k l x) (· = if hasT l x = true then l else l ++ [x]) := by
  unfold spec_addText.f
  refine EvP.bind (spec_hasText.ok l x (by omega)) ?_
  rintro _ rfl
  exact EvP.ite (fun e => EvP.now (by rw [if_pos e])) (fun e => EvP.pos (by omega) (EvP.now (by rw [if_neg e])))
def withO (l : List S37) (o : Int) : List ByteArray := (l.filter fun x => decide (x.f1 = o)).map (·.f0)
theorem withO_le (l : List S37) (o : Int) : (withO l o).length ≤ l.length := by
  unfold withO
  rw [List.length_map]
  exact List.length_filter_le _ _
theorem withO_snoc (l : List S37) (x : S37) (o : Int) : withO (l ++ [x]) o = if x.f1 = o then withO l o ++ [x.f0] else withO l o := by
  unfold withO
  rw [List.filter_append, List.map_append]
  by_cases h : x.f1 = o <;> simp [List.filter_cons, h]
theorem hasT_withO (l : List S37) (s : ByteArray) (o : Int) : hasT (withO l o) s = hasR l s o := by
  induction l with
  | nil => rfl
  | cons x l ih =>
    unfold withO hasR at *
    rw [List.filter_cons, List.any_cons]
    by_cases h : x.f1 = o
    · rw [if_pos (by simpa using h), List.map_cons, hasT_cons, ih]
      congr 1
      rw [Bool.eq_iff_iff]
      simp only [decide_eq_true_eq, Bool.and_eq_true, beq_iff_eq]
      exact ⟨fun g => ⟨g.symm, h.symm⟩, fun g => g.1.symm⟩
    · have h' : ¬ o = x.f1 := fun g => h g.symm
      rw [if_neg (by simpa using h), ih]
      simp [h']
def stF (l : List S37) : List ByteArray × List ByteArray × List ByteArray := (withO l 0, withO l 1, uniq (ids l))
theorem spec_FlakyIds.ok (rs : List S26) (h : GoodF rs) : EvP (fun k => spec_FlakyIds.f k rs) (· = flk rs) := by
  have h1 := h.1
  unfold spec_FlakyIds.f
  refine EvP.ite (fun e => EvP.now (by rw [flk, if_pos e])) (fun e => ?_)
  refine EvP.range (L := fun k (s : List ByteArray × List ByteArray × List ByteArray) i => spec_FlakyIds.l0 k rs s.1 s.2.1 s.2.2 i) (xs := rs) (Inv := fun pre s => s = stF (flat pre)) ?_ ?_ ([], [], []) rfl
  · rintro pre x rest s hx rfl ih
    have hl := len_at hx
    have hr : rd_T26 rs (pre.length : Int) = x := getD_at hx _
    have hg := h.2 x (by rw [hx]; simp)
    have hf := flat_len pre (fun r hr' => h.2 r (by rw [hx]; simp [hr']))
    simp only [spec_FlakyIds.l0]
    refine EvP.pos hl ?_
    refine EvP.range (L := fun k (s : List ByteArray × List ByteArray × List ByteArray) i => spec_FlakyIds.l1 k rs s.1 s.2.1 s.2.2 (pre.length : Int) i) (xs := x.f0) (Inv := fun p s => s = stF (flat pre ++ p)) ?_ ?_ (stF (flat pre)) (by simp)
    · rintro p y r s hp rfl ih2
      have hpl := len_at hp
      have hry : rd_T37 x.f0 (p.length : Int) = y := getD_at hp _
      have hw0 := withO_le (flat pre ++ p) 0
      have hw1 := withO_le (flat pre ++ p) 1
      have hu := uniq_le (ids (flat pre ++ p))
      have hil : (ids (flat pre ++ p)).length = (flat pre ++ p).length := by simp [ids]
      have hal : (flat pre ++ p).length = (flat pre).length + p.length := List.length_append
      have hsn : flat pre ++ (p ++ [y]) = (flat pre ++ p) ++ [y] := by simp
      have hi : ids ((flat pre ++ p) ++ [y]) = ids (flat pre ++ p) ++ [y.f0] := by simp [ids]
      simp only [stF] at *
      simp only [spec_FlakyIds.l1, hr, hry, wrap_at hp (by omega)]
      refine EvP.pos (nat_nonneg _) (EvP.pos hl (EvP.pos hpl (EvP.pos (nat_nonneg _) ?_)))
      refine EvP.bind (spec_addText.ok _ y.f0 (by omega)) ?_
      rintro _ rfl
      rw [← uniq_snoc, ← hi]
      refine EvP.ite (fun g => EvP.pos (by omega) (ih2 (_, _, _) ?_)) (fun g => EvP.ite (fun g2 => EvP.pos (by omega) (ih2 (_, _, _) ?_)) (fun g2 => ih2 (_, _, _) ?_))
      · rw [hsn, withO_snoc, withO_snoc, if_pos g, if_neg (by omega)]
        rfl
      · rw [hsn, withO_snoc, withO_snoc, if_neg g, if_pos g2]
        rfl
      · rw [hsn, withO_snoc, withO_snoc, if_neg g, if_neg g2]
        rfl
    · rintro s rfl
      simp only [spec_FlakyIds.l1, hr, wrap_at hx (show (rs.length : Int) ≤ 9223372036854775807 by omega)]
      refine EvP.pos (nat_nonneg _) (EvP.pos hl (EvP.neg (by omega) (ih _ ?_)))
      simp [flat]
  · rintro s rfl
    have hf := flat_len rs h.2
    have hw0 := withO_le (flat rs) 0
    have hw1 := withO_le (flat rs) 1
    have hu := uniq_le (ids (flat rs))
    have hil : (ids (flat rs)).length = (flat rs).length := by simp [ids]
    simp only [spec_FlakyIds.l0]
    simp only [stF]
    refine EvP.neg (by omega) ?_
    refine EvP.bind (spec_inOrderOf.ok _ _ (by omega) (by omega)) ?_
    rintro _ rfl
    have hfl := List.length_filter_le (hasT (withO (flat rs) 0)) (uniq (ids (flat rs)))
    refine EvP.bind (spec_inOrderOf.ok _ _ (by omega) (by omega)) ?_
    rintro _ rfl
    refine EvP.now ?_
    rw [flk, if_neg e, List.filter_filter]
    apply List.filter_congr
    intro s _
    rw [hasT_withO, hasT_withO, okF, Bool.and_comm]
theorem laws_hasText.ok (l : List ByteArray) (s : ByteArray) (h : (l.length : Int) ≤ 9223372036854775807) : EvP (fun k => laws_hasText.f k l s) (· = hasT l s) := by
  unfold laws_hasText.f
  refine EvP.range (L := fun k (_ : Unit) i => laws_hasText.l0 k l s i) (xs := l) (Inv := fun pre _ => hasT pre s = false) ?_ ?_ () rfl
  · rintro pre x rest _ hx hi ih
    have hl := len_at hx
    have hr : rdOf ByteArray.empty l (pre.length : Int) = x := getD_at hx _
    simp only [laws_hasText.l0, hr, wrap_at hx h]
    refine EvP.pos hl (EvP.pos (nat_nonneg _) ?_)
    refine EvP.ite (fun e => EvP.now ?_) (fun e => ih () ?_)
    · rw [hx, hasT_append, hasT_cons, e]
      simp
    · rw [hasT_append, hasT_cons, hi]
      simp [e, hasT]
  · rintro _ hi
    simp only [laws_hasText.l0]
    exact EvP.neg (by omega) (EvP.now hi.symm)
theorem takeAt {α : Type} {l pre rest : List α} {x : α} (h : l = pre ++ x :: rest) : l.take (pre.length : Int).toNat = pre := by
  rw [h]
  simp
theorem laws_apart.ok (l : List ByteArray) (h : (l.length : Int) ≤ 4398046511104) : EvP (fun k => laws_apart.f k l) (· = apartB l) := by
  unfold laws_apart.f
  refine EvP.range (L := fun k (_ : Unit) i => laws_apart.l0 k l i) (xs := l) (Inv := fun pre _ => apartB pre = true) ?_ ?_ () rfl
  · rintro pre x rest _ hx hi ih
    have hl := len_at hx
    have hr : rdOf ByteArray.empty l (pre.length : Int) = x := getD_at hx _
    simp only [laws_apart.l0, hr, wrap_at hx (show (l.length : Int) ≤ 9223372036854775807 by omega)]
    refine EvP.pos hl (EvP.pos (nat_nonneg _) (EvP.pos (by omega) ?_))
    rw [takeAt hx]
    refine EvP.bind (laws_hasText.ok pre x (by omega)) ?_
    rintro _ rfl
    exact EvP.ite (fun e => EvP.now (apartB_no hx e).symm) (fun e => ih () (apartB_yes hi (by simpa using e)))
  · rintro _ hi
    simp only [laws_apart.l0]
    exact EvP.neg (by omega) (EvP.now hi.symm)
def withinB (a b : List ByteArray) : Bool := a.all (hasT b)
theorem laws_within2.ok (a b : List ByteArray) (ha : (a.length : Int) ≤ 4398046511104) (hb : (b.length : Int) ≤ 4398046511104) : EvP (fun k => laws_within2.f k a b) (· = withinB a b) := by
  unfold laws_within2.f
  refine EvP.range (L := fun k (_ : Unit) i => laws_within2.l0 k a b i) (xs := a) (Inv := fun pre _ => withinB pre b = true) ?_ ?_ () rfl
  · rintro pre x rest _ hx hi ih
    have hl := len_at hx
    have hr : rdOf ByteArray.empty a (pre.length : Int) = x := getD_at hx _
    simp only [laws_within2.l0, hr, wrap_at hx (show (a.length : Int) ≤ 9223372036854775807 by omega)]
    refine EvP.pos hl (EvP.pos (nat_nonneg _) ?_)
    refine EvP.bind (laws_hasText.ok b x (by omega)) ?_
    rintro _ rfl
    refine EvP.ite (fun e => ih () ?_) (fun e => EvP.now ?_)
    · rw [withinB, List.all_append, ← withinB, hi, List.all_cons, e]
      rfl
    · rw [hx, withinB, List.all_append, List.all_cons, show hasT b x = false by simpa using e]
      simp
  · rintro _ hi
    simp only [laws_within2.l0]
    exact EvP.neg (by omega) (EvP.now hi.symm)
theorem laws_sameTexts.ok (a b : List ByteArray) (ha : (a.length : Int) ≤ 4398046511104) (hb : (b.length : Int) ≤ 4398046511104) (hl : a.length = b.length) (h1 : withinB a b = true) (h2 : withinB b a = true) : EvP (fun k => laws_sameTexts.f k a b) (· = true) := by
  unfold laws_sameTexts.f
  refine EvP.pos (by omega) ?_
  refine EvP.bind (laws_within2.ok a b ha hb) ?_
  rintro _ rfl
  refine EvP.pos h1 ?_
  refine EvP.bind (laws_within2.ok b a hb ha) ?_
  rintro _ rfl
  exact EvP.now h2
theorem laws_equalTexts.ok (l : List ByteArray) (hl : (l.length : Int) ≤ 9223372036854775807) : EvP (fun k => laws_equalTexts.f k l l) (· = true) := by
  unfold laws_equalTexts.f
  refine EvP.pos rfl ?_
  refine EvP.range (L := fun k (_ : Unit) i => laws_equalTexts.l0 k l l i) (xs := l) (Inv := fun _ _ => True) ?_ ?_ () trivial
  · rintro pre x rest s hx _ ih
    have hlt := len_at hx
    simp only [laws_equalTexts.l0, wrap_at hx hl]
    exact EvP.pos hlt (EvP.pos (nat_nonneg _) (EvP.pos hlt (EvP.pos trivial (ih () trivial))))
  · rintro s _
    simp only [laws_equalTexts.l0]
    exact EvP.neg (by omega) (EvP.now rfl)
theorem spec_DrawFlakyIds.ok (l0 : List Int) (h : ∀ x ∈ l0, (Lit.int .u8 x).wf = true) : EvP (fun k => spec_DrawFlakyIds.f k l0) GoodF := by
  unfold spec_DrawFlakyIds.f
  refine EvP.bind (spec_newReader.ok l0 h) ?_
  rintro ⟨b, p⟩ ⟨hb, rfl⟩
  refine EvP.bind (spec_reader_one.ok b 0 _ hb (by omega) (by omega) (by simp)) ?_
  rintro ⟨n, q⟩ ⟨g0, rfl⟩
  have hn : 0 ≤ n ∧ n ≤ 6 := by
    simp only [List.mem_cons, List.not_mem_nil, or_false] at g0
    omega
  refine EvP.down (L := fun k (s : List S26 × Int) n => spec_DrawFlakyIds.l0 k s.1 n b s.2) (Inv := fun n s => 0 ≤ n ∧ (s.1.length : Int) + n ≤ 6 ∧ (∀ r ∈ s.1, r.f0.length ≤ 1000) ∧ 0 ≤ s.2 ∧ s.2 + 50 * n ≤ 1000) ?_ ?_ n ([], 0 + 1) ⟨by omega, by simp; omega, (fun r hr => by cases hr), by simp, by simp; omega⟩
  · rintro n ⟨s, p⟩ hn ⟨a0, a1, a2, a3, a4⟩ ih
    simp only at a1 a2 a3 a4
    simp only [spec_DrawFlakyIds.l0]
    refine EvP.pos hn ?_
    refine EvP.bind (spec_someReport.ok b p hb a3 (by omega)) ?_
    rintro ⟨rs, ds, q⟩ ⟨h1, h2, h3, h4⟩
    simp only at h1 h2 h3 h4
    rw [wrap_id (by omega) (by omega)]
    refine EvP.pos (by omega) (ih (s ++ [⟨rs, ds⟩], q) ⟨by omega, by simp only [List.length_append, List.length_singleton]; omega, fun r hr => ?_, by simp only; omega, by simp only; omega⟩)
    rcases List.mem_append.1 hr with hr | hr
    · exact a2 r hr
    · rw [List.mem_singleton.1 hr]
      simp only
      omega
  · rintro n ⟨s, p⟩ hn ⟨a0, a1, a2, a3, a4⟩
    simp only at a1 a2
    simp only [spec_DrawFlakyIds.l0]
    exact EvP.neg (by omega) (EvP.now ⟨by omega, a2⟩)
theorem okF_mono {a b : List S37} (h : ∀ x ∈ a, x ∈ b) (s : ByteArray) (k : okF a s = true) : okF b s = true := by
  rw [okF, Bool.and_eq_true, hasR, hasR, List.any_eq_true, List.any_eq_true] at k ⊢
  obtain ⟨⟨x, hx, e⟩, ⟨y, hy, g⟩⟩ := k
  exact ⟨⟨x, h x hx, e⟩, ⟨y, h y hy, g⟩⟩
theorem flk_within {a b : List S26} (ha : ¬ (a.length : Int) > 5) (hb : ¬ (b.length : Int) > 5) (h : ∀ x ∈ flat a, x ∈ flat b) : withinB (flk a) (flk b) = true := by
  rw [withinB, List.all_eq_true]
  intro x hx
  rw [hasT_flk b hb]
  refine okF_mono h x ?_
  rw [← hasT_flk a ha]
  exact (hasT_iff _ _).2 ⟨x, hx, rfl⟩
theorem main : laws_FnFlakyIds.Pure := by
  intro l0 _ _ hw
  refine EvP.rounds ?_
  unfold laws_FnFlakyIds.f
  refine EvP.ite (fun _ => EvP.now rfl) (fun _ => ?_)
  refine EvP.bind (spec_DrawFlakyIds.ok l0 hw) ?_
  intro rs hg
  have h1 := hg.1
  have hle := flk_le rs
  have hfl := flat_len rs hg.2
  refine EvP.bind (impl_FlakyIds.ok rs hg) ?_
  rintro _ rfl
  refine EvP.bind (spec_FlakyIds.ok rs hg) ?_
  rintro _ rfl
  refine EvP.bind (laws_equalTexts.ok _ (by omega)) ?_
  rintro _ rfl
  refine EvP.pos rfl (EvP.succ ?_)
  simp only [laws_FnFlakyIds.j0]
  refine EvP.ite (fun e => ?_) (fun e => ?_)
  · refine EvP.bind (spec_FlakyIds.ok rs hg) ?_
    rintro _ rfl
    refine EvP.bind (laws_equalTexts.ok _ (by omega)) ?_
    rintro _ rfl
    exact EvP.now rfl
  have h5 : ¬ (rs.length : Int) > 5 := by
    intro g
    apply e
    rw [flk, if_pos g]
    rfl
  have hpos : 1 ≤ rs.length := by
    cases rs with
    | nil => exact absurd rfl e
    | cons _ _ => simp
  -- the reports turned
  have turn : ∀ (n : Nat), n ≤ rs.length → EvP (fun k => laws_FnFlakyIds.l0 k rs (flk rs) (rs.drop n).reverse ((n : Int) - 1)) (· = true) := by
    intro n
    induction n with
    | zero =>
      intro _
      refine EvP.succ ?_
      simp only [laws_FnFlakyIds.l0, List.drop_zero]
      refine EvP.neg (by omega) ?_
      refine EvP.bind (laws_apart.ok _ (by omega)) ?_
      rintro _ rfl
      refine EvP.pos (flk_apart rs) ?_
      have hgr : GoodF rs.reverse := ⟨by simpa using hg.1, fun r hr => hg.2 r (by simpa using hr)⟩
      refine EvP.bind (impl_FlakyIds.ok _ hgr) ?_
      rintro _ rfl
      have h5r : ¬ (rs.reverse.length : Int) > 5 := by simpa using h5
      have w1 : withinB (flk rs.reverse) (flk rs) = true := flk_within h5r h5 (fun x hx => by simpa [flat, List.mem_flatMap] using hx)
      have w2 : withinB (flk rs) (flk rs.reverse) = true := flk_within h5 h5r (fun x hx => by simpa [flat, List.mem_flatMap] using hx)
      have l1 := apart_len (flk_apart rs.reverse) (fun x hx => List.all_eq_true.1 w1 x hx)
      have l2 := apart_len (flk_apart rs) (fun x hx => List.all_eq_true.1 w2 x hx)
      refine EvP.bind (laws_sameTexts.ok _ _ (by omega) (by omega) (by omega) w1 w2) ?_
      rintro _ rfl
      refine EvP.pos rfl (EvP.pos (by omega) ?_)
      have hg1 : GoodF (rs.take 1) := ⟨by simp; omega, fun r hr => hg.2 r (List.mem_of_mem_take hr)⟩
      refine EvP.bind (impl_FlakyIds.ok _ hg1) ?_
      rintro _ rfl
      have hl1 := flk_le (rs.take 1)
      have hf1 := flat_len (rs.take 1) hg1.2
      have ht1 : (rs.take 1).length ≤ 1 := by rw [List.length_take]; omega
      refine EvP.bind (laws_within2.ok _ _ (by omega) (by omega)) ?_
      rintro _ rfl
      refine EvP.now (flk_within (by simp; omega) h5 (fun x hx => ?_))
      obtain ⟨r, hr, hx⟩ := List.mem_flatMap.1 hx
      exact List.mem_flatMap.2 ⟨r, List.mem_of_mem_take hr, hx⟩
    | succ n ih =>
      intro hn
      refine EvP.succ ?_
      rw [show (((n + 1 : Nat) : Int) - 1) = (n : Int) by omega]
      simp only [laws_FnFlakyIds.l0]
      rw [wrap_id (x := (n : Int) - 1) (by omega) (by omega)]
      refine EvP.pos (by omega) (EvP.pos (by omega) (EvP.pos (by omega) (EvP.pos (by simp; omega) ?_)))
      have e1 : rd_T26 rs (n : Int) = rs[n] := by
        unfold rd_T26
        rw [Int.toNat_natCast, List.getD_eq_getElem?_getD, List.getElem?_eq_getElem (by omega)]
        rfl
      have e2 : (rs.drop (n + 1)).reverse ++ [(⟨(rd_T26 rs (n : Int)).f0, (rd_T26 rs (n : Int)).f1⟩ : S26)] = (rs.drop n).reverse := by
        rw [e1, List.drop_eq_getElem_cons (show n < rs.length by omega), List.reverse_cons]
      rw [e2]
      exact ih (by omega)
  have := turn rs.length (Nat.le_refl _)
  rw [List.drop_length] at this
  rw [wrap_id (by omega) (by omega)]
  exact this
end QFnFlakyIds
theorem FnFlakyIds : laws_FnFlakyIds.Pure := QFnFlakyIds.main
end Go.Proofs.Ytfpoihcpjmkbkaa.Pure

/- FnDiffReports answers true for every code: the program's DiffReports answers as the reference's does, the reports turned give the two lists turned, a report has no difference to itself, and what is broken is failed in the two reports merged. Conditions: those of the printed statement alone (bounds on sizes that every input meets). -/
import Derived.Test.YtfpoihcpjmkbkaaOFnDiffReportsx7
import Derived.Test.YtfpoihcpjmkbkaaBase
namespace Go.Proofs.Ytfpoihcpjmkbkaa.Pure
open Go.RowKit Go.Proofs.Ytfpoihcpjmkbkaa.OFnDiffReports Go.Proofs.YtfpoihcpjmkbkaaW.PrintWords Go.Proofs.YtfpoihcpjmkbkaaW.PrintLast Go.Proofs.YtfpoihcpjmkbkaaW.PrintMore Go.Proofs.Ytfpoihcpjmkbkaa.Base
set_option linter.unusedVariables false
set_option linter.unusedSimpArgs false
namespace QFnDiffReports
/-! #### the reader of draws -/
def Bytes (b : List Int) : Prop := b.length ≤ 2000 ∧ ∀ x ∈ b, 0 ≤ x ∧ x ≤ 255
theorem spec_newReader.ok (l0 : List Int) (h : ∀ x ∈ l0, (Lit.int .u8 x).wf = true) : EvP (fun _ => spec_newReader.f l0) (fun r => Bytes r.1 ∧ r.2 = 0) := by
  have hw : ∀ x ∈ l0, 0 ≤ x ∧ x ≤ 255 := by
    intro x hx
    have := h x hx
    simp [Lit.wf, IntKind.min, IntKind.max, IntKind.signed, IntKind.bits] at this
    omega
  unfold spec_newReader.f
  refine EvP.ite (fun h1 => EvP.pos (by omega) (EvP.now ⟨⟨?_, fun x hx => hw x (List.mem_of_mem_take hx)⟩, rfl⟩)) (fun h1 => EvP.now ⟨⟨by simp only; omega, hw⟩, rfl⟩)
  show (l0.take 2000).length ≤ 2000
  simp
  omega
theorem rd_mem {l : List Int} {i : Int} (h0 : 0 ≤ i) (h1 : i < (l.length : Int)) : rd l i ∈ l := by
  unfold rd
  rw [List.getD_eq_getElem?_getD, List.getElem?_eq_getElem (by omega)]
  exact List.getElem_mem _
theorem rdOf_mem {α : Type} (d : α) {l : List α} {i : Int} (h0 : 0 ≤ i) (h1 : i < (l.length : Int)) : rdOf d l i ∈ l := by
  unfold rdOf
  rw [List.getD_eq_getElem?_getD, List.getElem?_eq_getElem (by omega)]
  exact List.getElem_mem _
theorem xor_nonneg (a b : Int) (ha : 0 ≤ a) (ha1 : a < 9223372036854775808) (hb : 0 ≤ b) (hb1 : b < 9223372036854775808) : 0 ≤ Go.bits .xor .i64 a b := by
  obtain ⟨m, rfl⟩ := Int.eq_ofNat_of_zero_le ha
  obtain ⟨n, rfl⟩ := Int.eq_ofNat_of_zero_le hb
  have hx : m ^^^ n < 2 ^ 63 := Nat.xor_lt_two_pow (by omega) (by omega)
  have h1 : (BitVec.ofInt 64 (m : Int)).toNat = m := by
    rw [BitVec.ofInt_natCast, BitVec.toNat_ofNat]; exact Nat.mod_eq_of_lt (by omega)
  have h2 : (BitVec.ofInt 64 (n : Int)).toNat = n := by
    rw [BitVec.ofInt_natCast, BitVec.toNat_ofNat]; exact Nat.mod_eq_of_lt (by omega)
  show 0 ≤ IntKind.i64.wrap ((BitVec.ofInt 64 (m : Int) ^^^ BitVec.ofInt 64 (n : Int)).toNat : Int)
  rw [BitVec.toNat_xor, h1, h2, IntKind.wrap_i64]
  omega
theorem tmod_in (a n : Int) (ha : 0 ≤ a) (hn : 0 < n) : 0 ≤ Int.tmod a n ∧ Int.tmod a n < n := by
  rw [Int.tmod_eq_emod_of_nonneg ha]
  exact ⟨Int.emod_nonneg _ (by omega), Int.emod_lt_of_pos _ hn⟩
theorem tdiv_in (a n : Int) (ha : 0 ≤ a) (hn : 0 < n) : 0 ≤ Int.tdiv a n ∧ Int.tdiv a n ≤ a := by
  rw [Int.tdiv_eq_ediv_of_nonneg ha]
  exact ⟨Int.ediv_nonneg ha (by omega), Int.ediv_le_self _ ha⟩
theorem spec_reader_pick.ok (b : List Int) (p n : Int) (hb : Bytes b) (h0 : 0 ≤ p) (h1 : p ≤ 1000000) : EvP (fun k => spec_reader_pick.f k b p n) (fun r => 0 ≤ r.1 ∧ (0 < n → r.1 < n) ∧ r.2 = p + 1) := by
  have e1 : wrap64 (p + 1) = p + 1 := wrap_id (by omega) (by omega)
  have e2 : wrap64 (p + 1 - 1) = p := by rw [wrap_id (by omega) (by omega)]; omega
  have none' : EvP (fun k => spec_reader_pick.j0 k n true b (p + 1)) (fun r => 0 ≤ r.1 ∧ (0 < n → r.1 < n) ∧ r.2 = p + 1) := by
    refine EvP.succ ?_
    simp only [spec_reader_pick.j0]
    exact EvP.pos (by simp) (EvP.now ⟨by simp, fun h => h, by simp⟩)
  unfold spec_reader_pick.f
  rw [e1]
  refine EvP.ite (fun _ => none') (fun hn => ?_)
  by_cases hl : b.length = 0
  · have : ((b.length : Int) == 0) = true := by simp [hl]
    rw [this]
    exact none'
  · have : ((b.length : Int) == 0) = false := by simp [hl]
    rw [this]
    have hr : ∀ i : Int, 0 ≤ i → i < (b.length : Int) → 0 ≤ rd b i ∧ rd b i ≤ 255 := fun i g0 g1 => hb.2 _ (rd_mem g0 g1)
    refine EvP.succ ?_
    simp only [spec_reader_pick.j0]
    refine EvP.neg (by simp) ?_
    simp only [e2]
    refine EvP.ite (fun hp => EvP.pos h0 (EvP.neg (by omega) (EvP.now ?_))) (fun hp => ?_)
    · have h := hr p h0 hp
      rw [wrap_id (by omega) (by omega)]
      have := tmod_in (rd b p) n h.1 (by omega)
      exact ⟨this.1, fun _ => this.2, by simp⟩
    · have w7 : wrap64 (p * 7) = p * 7 := wrap_id (by omega) (by omega)
      have w73 : wrap64 (p * 7 + 3) = p * 7 + 3 := wrap_id (by omega) (by omega)
      have w29 : wrap64 (p * 29) = p * 29 := wrap_id (by omega) (by omega)
      simp only [w7, w73, w29]
      have m1 := tmod_in p (b.length : Int) h0 (by omega)
      have m2 := tmod_in (p * 7 + 3) (b.length : Int) (by omega) (by omega)
      have d1 := tdiv_in p (b.length : Int) h0 (by omega)
      have r1 := hr _ m1.1 m1.2
      have r2 := hr _ m2.1 m2.2
      refine EvP.neg (by omega) (EvP.pos m1.1 (EvP.pos m1.2 (EvP.pos m2.1 (EvP.pos m2.2 (EvP.neg (by omega) (EvP.now ?_))))))
      generalize rd b (Int.tmod p (b.length : Int)) = u1 at *
      generalize rd b (Int.tmod (p * 7 + 3) (b.length : Int)) = u2 at *
      generalize Int.tdiv p (b.length : Int) = u3 at *
      have a1 : wrap64 u1 = u1 := wrap_id (by omega) (by omega)
      have a2 : wrap64 u2 = u2 := wrap_id (by omega) (by omega)
      have a3 : wrap64 u3 = u3 := wrap_id (by omega) (by omega)
      have a4 : wrap64 (u1 * 131) = u1 * 131 := wrap_id (by omega) (by omega)
      have a5 : wrap64 (u2 * 1117) = u2 * 1117 := wrap_id (by omega) (by omega)
      have a6 : wrap64 (u3 * 53) = u3 * 53 := wrap_id (by omega) (by omega)
      have a7 : wrap64 (u1 * 131 + u2 * 1117) = u1 * 131 + u2 * 1117 := wrap_id (by omega) (by omega)
      have a8 : wrap64 (u1 * 131 + u2 * 1117 + p * 29) = u1 * 131 + u2 * 1117 + p * 29 := wrap_id (by omega) (by omega)
      have a9 : wrap64 (u1 * 131 + u2 * 1117 + p * 29 + u3 * 53) = u1 * 131 + u2 * 1117 + p * 29 + u3 * 53 := wrap_id (by omega) (by omega)
      simp only [a1, a2, a3, a4, a5, a6, a7, a8, a9]
      have hE : 0 ≤ u1 * 131 + u2 * 1117 + p * 29 + u3 * 53 ∧ u1 * 131 + u2 * 1117 + p * 29 + u3 * 53 ≤ 1000000000 := by omega
      generalize u1 * 131 + u2 * 1117 + p * 29 + u3 * 53 = E at *
      have d2 := tdiv_in E 64 hE.1 (by omega)
      have a10 : wrap64 (Int.tdiv E 64) = Int.tdiv E 64 := wrap_id (by omega) (by omega)
      rw [a10]
      have := tmod_in (Go.bits .xor .i64 E (Int.tdiv E 64)) n (xor_nonneg _ _ hE.1 (by omega) d2.1 (by omega)) (by omega)
      exact ⟨this.1, fun _ => this.2, by simp⟩
theorem spec_reader_one.ok (b : List Int) (p : Int) (l : List Int) (hb : Bytes b) (h0 : 0 ≤ p) (h1 : p ≤ 1000000) (hl : 0 < l.length) : EvP (fun k => spec_reader_one.f k b p l) (fun r => r.1 ∈ l ∧ r.2 = p + 1) := by
  unfold spec_reader_one.f
  refine EvP.bind (spec_reader_pick.ok b p _ hb h0 h1) ?_
  rintro ⟨i, q⟩ ⟨g0, g1, rfl⟩
  have g2 := g1 (by omega)
  exact EvP.pos g0 (EvP.pos g2 (EvP.now ⟨rd_mem g0 g2, rfl⟩))
theorem spec_reader_of.ok (b : List Int) (p : Int) (l : List ByteArray) (hb : Bytes b) (h0 : 0 ≤ p) (h1 : p ≤ 1000000) (hl : 0 < l.length) : EvP (fun k => spec_reader_of.f k b p l) (fun r => r.1 ∈ l ∧ r.2 = p + 1) := by
  unfold spec_reader_of.f
  refine EvP.bind (spec_reader_pick.ok b p _ hb h0 h1) ?_
  rintro ⟨i, q⟩ ⟨g0, g1, rfl⟩
  have g2 := g1 (by omega)
  exact EvP.pos g0 (EvP.pos g2 (EvP.now ⟨rdOf_mem _ g0 g2, rfl⟩))
/-! #### drawn reports -/
theorem spec_aModule.ok (b : List Int) (p : Int) (hb : Bytes b) (h0 : 0 ≤ p) (h1 : p ≤ 1000000) : EvP (fun k => spec_aModule.f k b p) (fun r => r.1.size = 1 ∧ r.2 = p + 1) := by
  unfold spec_aModule.f
  refine EvP.bind (spec_reader_of.ok b p _ hb h0 h1 (by simp)) ?_
  rintro ⟨s, q⟩ ⟨g0, rfl⟩
  refine EvP.now ⟨?_, rfl⟩
  simp only [List.mem_cons, List.not_mem_nil, or_false] at g0
  rcases g0 with rfl | rfl | rfl | rfl <;> rfl
theorem spec_anId.ok (b : List Int) (p : Int) (hb : Bytes b) (h0 : 0 ≤ p) (h1 : p ≤ 900000) : EvP (fun k => spec_anId.f k b p) (fun r => r.1.size = 3 ∧ r.2 = p + 2) := by
  unfold spec_anId.f
  refine EvP.bind (spec_aModule.ok b p hb h0 (by omega)) ?_
  rintro ⟨s, q⟩ ⟨g0, rfl⟩
  refine EvP.pos (by simp only at g0 ⊢; omega) ?_
  refine EvP.bind (spec_reader_of.ok b (p + 1) _ hb (by omega) (by omega) (by simp)) ?_
  rintro ⟨t, q⟩ ⟨g1, rfl⟩
  have g2 : t.size = 1 := by
    simp only [List.mem_cons, List.not_mem_nil, or_false] at g1
    rcases g1 with rfl | rfl | rfl | rfl | rfl <;> rfl
  simp only at g0
  refine EvP.pos ?_ (EvP.now ⟨?_, by simp only; omega⟩)
  · simp [ByteArray.size_append, g0, g2]
    decide
  · simp [ByteArray.size_append, g0, g2]
    decide
theorem spec_someReport.ok (b : List Int) (p : Int) (hb : Bytes b) (h0 : 0 ≤ p) (h1 : p ≤ 100000) : EvP (fun k => spec_someReport.f k b p) (fun r => r.1.length ≤ 5 ∧ r.2.1.length ≤ 2 ∧ p ≤ r.2.2 ∧ r.2.2 ≤ p + 40) := by
  unfold spec_someReport.f
  refine EvP.bind (spec_reader_one.ok b p _ hb h0 (by omega) (by simp)) ?_
  rintro ⟨n, q⟩ ⟨g0, rfl⟩
  have hn : 0 ≤ n ∧ n ≤ 5 := by
    simp only [List.mem_cons, List.not_mem_nil, or_false] at g0
    omega
  have j2 : ∀ (x : Bool) (q : Int) (rs : List S37) (ds : List ByteArray), 0 ≤ q → q ≤ 200000 → q ≤ p + 30 → p ≤ q → rs.length ≤ 5 → ds.length ≤ 2 → (x = true → 0 < rs.length) →
      EvP (fun k => spec_someReport.j2 k x b q rs ds) (fun r => r.1.length ≤ 5 ∧ r.2.1.length ≤ 2 ∧ p ≤ r.2.2 ∧ r.2.2 ≤ p + 40) := by
    intro x q rs ds a0 a1 a2 a3 a4 a5 a6
    refine EvP.succ ?_
    simp only [spec_someReport.j2]
    refine EvP.ite (fun hx => ?_) (fun _ => EvP.now ⟨a4, a5, a3, by simp only; omega⟩)
    refine EvP.bind (spec_reader_of.ok b q _ hb (by omega) (by omega) (by simp)) ?_
    rintro ⟨s, q1⟩ ⟨_, rfl⟩
    refine EvP.bind (spec_reader_one.ok b (q + 1) _ hb (by omega) (by omega) (by simp)) ?_
    rintro ⟨s, q1⟩ ⟨_, rfl⟩
    have := a6 hx
    exact EvP.pos (by omega) (EvP.now ⟨by simpa using a4, a5, by simp only; omega, by simp only; omega⟩)
  have l1 : ∀ (n : Int) (s : Int × List ByteArray) (rs : List S37), (0 ≤ s.1 ∧ s.1 + 2 * n ≤ p + 22 ∧ p ≤ s.1 ∧ (s.2.length : Int) + n ≤ 2 ∧ 0 ≤ n) → rs.length ≤ 5 →
      EvP (fun k => spec_someReport.l1 k n b s.1 rs s.2) (fun r => r.1.length ≤ 5 ∧ r.2.1.length ≤ 2 ∧ p ≤ r.2.2 ∧ r.2.2 ≤ p + 40) := by
    intro n s rs hs hrs
    refine EvP.down (L := fun k (s : Int × List ByteArray) n => spec_someReport.l1 k n b s.1 rs s.2) (Inv := fun n s => 0 ≤ s.1 ∧ s.1 + 2 * n ≤ p + 22 ∧ p ≤ s.1 ∧ (s.2.length : Int) + n ≤ 2 ∧ 0 ≤ n) ?_ ?_ n s hs
    · rintro n ⟨q, ds⟩ hn ⟨a0, a1, a2, a3, a4⟩ ih
      simp only [spec_someReport.l1]
      simp only at a0 a1 a2 a3
      refine EvP.pos hn ?_
      refine EvP.bind (spec_reader_of.ok b q _ hb (by omega) (by omega) (by simp)) ?_
      rintro ⟨s, q1⟩ ⟨_, rfl⟩
      simp only
      rw [wrap_id (x := n - 1) (by omega) (by omega)]
      exact EvP.pos (by omega) (ih (q + 1, ds ++ [s]) ⟨by simp only; omega, by simp only; omega, by simp only; omega, by simp only [List.length_append, List.length_singleton]; omega, by omega⟩)
    · rintro n ⟨q, ds⟩ hn ⟨a0, a1, a2, a3, a4⟩
      simp only [spec_someReport.l1]
      simp only at a0 a1 a2 a3
      refine EvP.neg (by omega) (EvP.ite (fun h => ?_) (fun h => ?_))
      · refine EvP.bind (spec_reader_pick.ok b q _ hb (by omega) (by omega)) ?_
        rintro ⟨i, q1⟩ ⟨_, _, rfl⟩
        exact j2 _ _ _ _ (by simp only; omega) (by simp only; omega) (by simp only; omega) (by simp only; omega) hrs (by omega) (fun _ => by omega)
      · exact j2 _ _ _ _ (by omega) (by omega) (by omega) (by omega) hrs (by omega) (fun h => by cases h)
  refine EvP.down (L := fun k (s : Int × List S37) n => spec_someReport.l0 k n b s.1 s.2 []) (Inv := fun n s => 0 ≤ s.1 ∧ s.1 + 3 * n ≤ p + 1 + 15 ∧ p ≤ s.1 ∧ (s.2.length : Int) + n ≤ 5 ∧ 0 ≤ n) ?_ ?_ n (p + 1, []) ?_
  · rintro n ⟨q, rs⟩ hn ⟨a0, a1, a2, a3, a4⟩ ih
    simp only [spec_someReport.l0]
    simp only at a0 a1 a2 a3
    refine EvP.pos hn ?_
    refine EvP.bind (spec_anId.ok b q hb (by omega) (by omega)) ?_
    rintro ⟨s, q1⟩ ⟨_, rfl⟩
    refine EvP.bind (spec_reader_one.ok b (q + 2) _ hb (by omega) (by omega) (by simp)) ?_
    rintro ⟨i, q1⟩ ⟨_, rfl⟩
    simp only
    rw [wrap_id (x := n - 1) (by omega) (by omega)]
    exact EvP.pos (by omega) (ih (q + 2 + 1, rs ++ [⟨s, i⟩]) ⟨by simp only; omega, by simp only; omega, by simp only; omega, by simp only [List.length_append, List.length_singleton]; omega, by omega⟩)
  · rintro n ⟨q, rs⟩ hn ⟨a0, a1, a2, a3, a4⟩
    simp only [spec_someReport.l0]
    simp only at a0 a1 a2 a3
    refine EvP.neg (by omega) ?_
    refine EvP.bind (spec_reader_one.ok b q _ hb (by omega) (by omega) (by simp)) ?_
    rintro ⟨i, q1⟩ ⟨g1, rfl⟩
    have hi : 0 ≤ i ∧ i ≤ 2 := by
      simp only [List.mem_cons, List.not_mem_nil, or_false] at g1
      omega
    exact l1 i (q + 1, []) rs ⟨by simp only; omega, by simp only; omega, by simp only; omega, by simp; omega, by omega⟩ (by omega)
  · exact ⟨by simp only; omega, by simp only; omega, by simp only; omega, by simp; omega, by omega⟩
/-- Is a text in a list? -/
def hasT (l : List ByteArray) (s : ByteArray) : Bool := l.any fun y => decide (y.toList = s.toList)
theorem hasT_cons (y : ByteArray) (l : List ByteArray) (s : ByteArray) : hasT (y :: l) s = (decide (y.toList = s.toList) || hasT l s) := rfl
theorem hasT_append (a b : List ByteArray) (s : ByteArray) : hasT (a ++ b) s = (hasT a s || hasT b s) := by simp [hasT, List.any_append]
theorem hasT_iff (l : List ByteArray) (s : ByteArray) : hasT l s = true ↔ ∃ y ∈ l, y.toList = s.toList := by simp [hasT]
/-! #### different texts -/
def apartB (l : List ByteArray) : Bool := decide (l.Pairwise fun a b => a.toList ≠ b.toList)
theorem apartB_no {l pre rest : List ByteArray} {x : ByteArray} (h : l = pre ++ x :: rest) (hx : hasT pre x = true) : apartB l = false := by
  rw [apartB, decide_eq_false_iff_not, h]
  intro g
  obtain ⟨y, hy, e⟩ := (hasT_iff pre x).1 hx
  exact (List.pairwise_append.1 g).2.2 y hy x (by simp) e
theorem apartB_yes {pre : List ByteArray} {x : ByteArray} (h : apartB pre = true) (hx : hasT pre x = false) : apartB (pre ++ [x]) = true := by
  rw [apartB, decide_eq_true_iff] at h ⊢
  refine List.pairwise_append.2 ⟨h, by simp, fun a ha b hb => ?_⟩
  rw [List.mem_singleton.1 hb]
  intro e
  have : hasT pre x = true := (hasT_iff pre x).2 ⟨a, ha, e⟩
  rw [hx] at this
  cases this
theorem apartB_nil : apartB [] = true := rfl
def uniq (l : List ByteArray) : List ByteArray := l.foldl (fun acc x => if hasT acc x = true then acc else acc ++ [x]) []
theorem uniq_snoc (l : List ByteArray) (x : ByteArray) : uniq (l ++ [x]) = if hasT (uniq l) x = true then uniq l else uniq l ++ [x] := by
  unfold uniq
  rw [List.foldl_append]
  rfl
theorem uniq_le (l : List ByteArray) : (uniq l).length ≤ l.length := by
  induction l using snoc_ind with
  | nil => simp [uniq]
  | snoc l x ih =>
    rw [uniq_snoc]
    split <;> simp <;> omega
theorem uniq_apart (l : List ByteArray) : apartB (uniq l) = true := by
  induction l using snoc_ind with
  | nil => rfl
  | snoc l x ih =>
    rw [uniq_snoc]
    by_cases h : hasT (uniq l) x = true
    · rw [if_pos h]; exact ih
    · rw [if_neg h]; exact apartB_yes ih (by simpa using h)
theorem hasT_congr (l : List ByteArray) {s t : ByteArray} (h : s.toList = t.toList) : hasT l s = hasT l t := by simp [hasT, h]
theorem hasT_uniq (l : List ByteArray) (s : ByteArray) : hasT (uniq l) s = hasT l s := by
  induction l using snoc_ind with
  | nil => rfl
  | snoc l x ih =>
    rw [uniq_snoc, hasT_append]
    by_cases h : hasT (uniq l) x = true
    · rw [if_pos h, ih]
      have h' := h
      by_cases e : x.toList = s.toList
      · have : hasT l s = true := by rw [← ih, ← hasT_congr _ e]; exact h'
        rw [this]
        rfl
      · simp [hasT, e]
    · rw [if_neg h, hasT_append, ih]
theorem apart_filter {p : ByteArray → Bool} {l : List ByteArray} (h : apartB l = true) : apartB (l.filter p) = true := by
  rw [apartB, decide_eq_true_iff] at h ⊢
  exact h.filter p
/-- Different texts that are all in another list are no more than it has. -/
theorem apart_len : ∀ {a b : List ByteArray}, apartB a = true → (∀ x ∈ a, hasT b x = true) → a.length ≤ b.length
  | [], _, _, _ => by simp
  | x :: a, b, h, hb => by
    rw [apartB, decide_eq_true_iff, List.pairwise_cons] at h
    obtain ⟨y, hy, e⟩ := (hasT_iff b x).1 (hb x (by simp))
    obtain ⟨b1, b2, rfl⟩ := List.append_of_mem hy
    have ih := apart_len (a := a) (b := b1 ++ b2) (by rw [apartB, decide_eq_true_iff]; exact h.2) (fun z hz => by
      have h3 := hb z (List.mem_cons_of_mem _ hz)
      rw [hasT_append, hasT_cons] at h3
      have h4 : y.toList ≠ z.toList := fun g => h.1 z hz (by rw [← e]; exact g)
      rw [hasT_append]
      simpa [h4] using h3)
    simp only [List.length_append, List.length_cons] at ih ⊢
    omega
/-- How many results end so. -/
def cntOc (rs : List S37) (oc : Int) : Nat := rs.countP fun x => decide (x.f1 = oc)
theorem cntOc_le (rs : List S37) (oc : Int) : cntOc rs oc ≤ rs.length := List.countP_le_length
theorem cntOc_snoc (rs : List S37) (x : S37) (oc : Int) : cntOc (rs ++ [x]) oc = cntOc rs oc + if x.f1 = oc then 1 else 0 := by
  simp [cntOc, List.countP_append, List.countP_cons]
theorem cntOc_cons (rs : List S37) (x : S37) (oc : Int) : cntOc (x :: rs) oc = cntOc rs oc + if x.f1 = oc then 1 else 0 := by
  simp [cntOc, List.countP_cons]
def bad (x : S37) : Bool := x.f1 == 1 || x.f1 == 2
/-- The ids of the bad ones. -/
def badIds (rs : List S37) : List ByteArray := (rs.filter bad).map (·.f0)
theorem badIds_snoc (rs : List S37) (x : S37) : badIds (rs ++ [x]) = badIds rs ++ if bad x = true then [x.f0] else [] := by
  unfold badIds
  rw [List.filter_append, List.map_append]
  congr 1
  by_cases h : bad x = true <;> simp [List.filter_cons, h]
theorem badIds_le (rs : List S37) : (badIds rs).length ≤ rs.length := by
  unfold badIds
  rw [List.length_map]
  exact List.length_filter_le _ _
theorem badIds_len (rs : List S37) : (badIds rs).length = cntOc rs 1 + cntOc rs 2 := by
  induction rs with
  | nil => rfl
  | cons x rs ih =>
    rw [cntOc_cons, cntOc_cons]
    unfold badIds at ih ⊢
    rw [List.length_map] at ih ⊢
    rw [List.filter_cons]
    by_cases h1 : x.f1 = 1
    · have : bad x = true := by simp [bad, h1]
      rw [if_pos this, if_pos h1, if_neg (by omega), List.length_cons, ih]
      omega
    · by_cases h2 : x.f1 = 2
      · have : bad x = true := by simp [bad, h2]
        rw [if_pos this, if_neg h1, if_pos h2, List.length_cons, ih]
        omega
      · have : bad x = false := by simp [bad, h1, h2]
        rw [this, if_neg (by simp), if_neg h1, if_neg h2, ih]
        omega
/-- The outcome of the first result of an id, -1 if there is none. -/
def ocOf (rs : List S37) (id : ByteArray) : Int := ((rs.find? fun x => decide (x.f0.toList = id.toList)).map (·.f1)).getD (-1)
def noId (rs : List S37) (id : ByteArray) : Prop := ∀ x ∈ rs, x.f0.toList ≠ id.toList
theorem noId_snoc {rs : List S37} {id : ByteArray} {x : S37} (h : noId rs id) (e : x.f0.toList ≠ id.toList) : noId (rs ++ [x]) id := by
  intro y hy
  rcases List.mem_append.1 hy with hy | hy
  · exact h y hy
  · rw [List.mem_singleton.1 hy]
    exact e
theorem find_none {rs : List S37} {id : ByteArray} (h : noId rs id) : rs.find? (fun x => decide (x.f0.toList = id.toList)) = none := by
  rw [List.find?_eq_none]
  intro x hx
  simpa using h x hx
theorem ocOf_none {rs : List S37} {id : ByteArray} (h : noId rs id) : ocOf rs id = -1 := by
  unfold ocOf
  rw [find_none h]
  rfl
theorem ocOf_some {rs pre rest : List S37} {x : S37} {id : ByteArray} (hx : rs = pre ++ x :: rest) (h : noId pre id) (e : x.f0.toList = id.toList) : ocOf rs id = x.f1 := by
  subst hx
  unfold ocOf
  rw [List.find?_append, find_none h]
  simp [e]
theorem impl_isBad.ok (n : Int) : EvP (fun _ => impl_isBad.f n) (· = (n == 1 || n == 2)) := by
  unfold impl_isBad.f
  refine EvP.ite (fun h => EvP.now (by simp [h])) (fun h => EvP.now ?_)
  have : (n == 1) = false := by simpa using h
  simp [this]
theorem spec_hasText.ok (l : List ByteArray) (s : ByteArray) (h : (l.length : Int) ≤ 9223372036854775807) : EvP (fun k => spec_hasText.f k l s) (· = hasT l s) := by
  unfold spec_hasText.f
  refine EvP.range (L := fun k (_ : Unit) i => spec_hasText.l0 k l s i) (xs := l) (Inv := fun pre _ => hasT pre s = false) ?_ ?_ () rfl
  · rintro pre x rest _ hx hi ih
    have hl := len_at hx
    have hr : rdOf ByteArray.empty l (pre.length : Int) = x := getD_at hx _
    simp only [spec_hasText.l0, hr, wrap_at hx h]
    refine EvP.pos hl (EvP.pos (nat_nonneg _) ?_)
    refine EvP.ite (fun e => EvP.now ?_) (fun e => ih () ?_)
    · rw [hx, hasT_append, hasT_cons, e]
      simp
    · rw [hasT_append, hasT_cons, hi]
      simp [e, hasT]
  · rintro _ hi
    simp only [spec_hasText.l0]
    exact EvP.neg (by omega) (EvP.now hi.symm)
theorem spec_addText.ok (l : List ByteArray) (x : ByteArray) (h : (l.length : Int) < 8796093022208) : EvP (fun k => spec_addText.f k l x) (· = if hasT l x = true then l else l ++ [x]) := by
  unfold spec_addText.f
  refine EvP.bind (spec_hasText.ok l x (by omega)) ?_
  rintro _ rfl
  exact EvP.ite (fun e => EvP.now (by rw [if_pos e])) (fun e => EvP.pos (by omega) (EvP.now (by rw [if_neg e])))
theorem impl_OutcomeOf.ok (rs : List S37) (ds : List ByteArray) (id : ByteArray) (h : (rs.length : Int) ≤ 9223372036854775807) : EvP (fun k => impl_OutcomeOf.f k rs ds id) (· = ocOf rs id) := by
  unfold impl_OutcomeOf.f
  refine EvP.range (L := fun k (_ : Unit) i => impl_OutcomeOf.l0 k id rs (rs.length : Int) i) (xs := rs) (Inv := fun pre _ => noId pre id) ?_ ?_ () (fun x hx => by cases hx)
  · intro pre x rest s hx hi ih
    have hl := len_at hx
    have hr : rd_T37 rs (pre.length : Int) = x := getD_at hx _
    simp only [impl_OutcomeOf.l0, hr, wrap_at hx h]
    refine EvP.pos hl (EvP.pos (nat_nonneg _) (EvP.pos hl ?_))
    exact EvP.ite (fun e => EvP.now (ocOf_some hx hi e).symm) (fun e => ih () (noId_snoc hi e))
  · intro s hi
    simp only [impl_OutcomeOf.l0]
    exact EvP.neg (by omega) (EvP.now (ocOf_none hi).symm)
theorem spec_outcomeOf.ok (rs : List S37) (id : ByteArray) (h : (rs.length : Int) ≤ 9223372036854775807) : EvP (fun k => spec_outcomeOf.f k rs id) (· = ocOf rs id) := by
  unfold spec_outcomeOf.f
  refine EvP.range (L := fun k (_ : Unit) i => spec_outcomeOf.l0 k rs id i) (xs := rs) (Inv := fun pre _ => noId pre id) ?_ ?_ () (fun x hx => by cases hx)
  · intro pre x rest s hx hi ih
    have hl := len_at hx
    have hr : rd_T37 rs (pre.length : Int) = x := getD_at hx _
    simp only [spec_outcomeOf.l0, hr, wrap_at hx h]
    refine EvP.pos hl (EvP.pos (nat_nonneg _) ?_)
    exact EvP.ite (fun e => EvP.now (ocOf_some hx hi e).symm) (fun e => ih () (noId_snoc hi e))
  · intro s hi
    simp only [spec_outcomeOf.l0]
    exact EvP.neg (by omega) (EvP.now (ocOf_none hi).symm)
theorem impl_FailedIds.ok (rs : List S37) (ds : List ByteArray) (h : (rs.length : Int) ≤ 8796093022208) : EvP (fun k => impl_FailedIds.f k rs ds) (· = badIds rs) := by
  unfold impl_FailedIds.f
  refine EvP.range (L := fun k s i => impl_FailedIds.l0 k s rs (rs.length : Int) i) (xs := rs) (Inv := fun pre s => s = badIds pre) ?_ ?_ [] rfl
  · rintro pre x rest s hx rfl ih
    have hl := len_at hx
    have hc := badIds_le pre
    have hr : rd_T37 rs (pre.length : Int) = x := getD_at hx _
    simp only [impl_FailedIds.l0, hr, wrap_at hx (by omega)]
    refine EvP.pos hl (EvP.pos (nat_nonneg _) (EvP.pos hl ?_))
    refine EvP.bind (impl_isBad.ok _) ?_
    rintro _ rfl
    refine EvP.ite (fun e => EvP.pos (by omega) (ih _ ?_)) (fun e => ih _ ?_)
    · rw [badIds_snoc, if_pos (show bad x = true from e)]
    · rw [badIds_snoc, if_neg (show ¬ bad x = true from e), List.append_nil]
  · rintro s rfl
    simp only [impl_FailedIds.l0]
    exact EvP.neg (by omega) (EvP.now rfl)
theorem slices_Index_string_string.ok (l : List ByteArray) (s : ByteArray) (h : (l.length : Int) ≤ 9223372036854775807) : EvP (fun k => slices_Index_string_string.f k l s) (fun r => decide (r ≥ 0) = hasT l s) := by
  unfold slices_Index_string_string.f
  refine EvP.range (L := fun k (_ : Unit) i => slices_Index_string_string.l0 k l s (l.length : Int) i) (xs := l) (Inv := fun pre _ => hasT pre s = false) ?_ ?_ () rfl
  · rintro pre x rest _ hx hi ih
    have hl := len_at hx
    have hr : rdOf ByteArray.empty l (pre.length : Int) = x := getD_at hx _
    simp only [slices_Index_string_string.l0, hr, wrap_at hx h]
    refine EvP.pos hl (EvP.pos (nat_nonneg _) (EvP.pos hl ?_))
    refine EvP.ite (fun e => EvP.now ?_) (fun e => ih () ?_)
    · rw [hx, hasT_append, hasT_cons, e]
      simp
    · rw [hasT_append, hasT_cons, hi]
      simp [Ne.symm e, hasT]
  · rintro _ hi
    simp only [slices_Index_string_string.l0]
    exact EvP.neg (by omega) (EvP.now (by rw [hi]; rfl))
theorem slices_Contains_string_string.ok (l : List ByteArray) (s : ByteArray) (h : (l.length : Int) ≤ 9223372036854775807) : EvP (fun k => slices_Contains_string_string.f k l s) (· = hasT l s) := by
  unfold slices_Contains_string_string.f
  refine EvP.bind (slices_Index_string_string.ok l s h) ?_
  intro r hr
  exact EvP.now hr
theorem laws_hasText.ok (l : List ByteArray) (s : ByteArray) (h : (l.length : Int) ≤ 9223372036854775807) : EvP (fun k => laws_hasText.f k l s) (· = hasT l s) := by
  unfold laws_hasText.f
  refine EvP.range (L := fun k (_ : Unit) i => laws_hasText.l0 k l s i) (xs := l) (Inv := fun pre _ => hasT pre s = false) ?_ ?_ () rfl
  · rintro pre x rest _ hx hi ih
    have hl := len_at hx
    have hr : rdOf ByteArray.empty l (pre.length : Int) = x := getD_at hx _
    simp only [laws_hasText.l0, hr, wrap_at hx h]
    refine EvP.pos hl (EvP.pos (nat_nonneg _) ?_)
    refine EvP.ite (fun e => EvP.now ?_) (fun e => ih () ?_)
    · rw [hx, hasT_append, hasT_cons, e]
      simp
    · rw [hasT_append, hasT_cons, hi]
      simp [e, hasT]
  · rintro _ hi
    simp only [laws_hasText.l0]
    exact EvP.neg (by omega) (EvP.now hi.symm)
def withinB (a b : List ByteArray) : Bool := a.all (hasT b)
theorem laws_within2.ok (a b : List ByteArray) (ha : (a.length : Int) ≤ 4398046511104) (hb : (b.length : Int) ≤ 4398046511104) : EvP (fun k => laws_within2.f k a b) (· = withinB a b) := by
  unfold laws_within2.f
  refine EvP.range (L := fun k (_ : Unit) i => laws_within2.l0 k a b i) (xs := a) (Inv := fun pre _ => withinB pre b = true) ?_ ?_ () rfl
  · rintro pre x rest _ hx hi ih
    have hl := len_at hx
    have hr : rdOf ByteArray.empty a (pre.length : Int) = x := getD_at hx _
    simp only [laws_within2.l0, hr, wrap_at hx (show (a.length : Int) ≤ 9223372036854775807 by omega)]
    refine EvP.pos hl (EvP.pos (nat_nonneg _) ?_)
    refine EvP.bind (laws_hasText.ok b x (by omega)) ?_
    rintro _ rfl
    refine EvP.ite (fun e => ih () ?_) (fun e => EvP.now ?_)
    · rw [withinB, List.all_append, ← withinB, hi, List.all_cons, e]
      rfl
    · rw [hx, withinB, List.all_append, List.all_cons, show hasT b x = false by simpa using e]
      simp
  · rintro _ hi
    simp only [laws_within2.l0]
    exact EvP.neg (by omega) (EvP.now hi.symm)
theorem laws_sameTexts.ok (a b : List ByteArray) (ha : (a.length : Int) ≤ 4398046511104) (hb : (b.length : Int) ≤ 4398046511104) (hl : a.length = b.length) (h1 : withinB a b = true) (h2 : withinB b a = true) : EvP (fun k => laws_sameTexts.f k a b) (· = true) := by
  unfold laws_sameTexts.f
  refine EvP.pos (by omega) ?_
  refine EvP.bind (laws_within2.ok a b ha hb) ?_
  rintro _ rfl
  refine EvP.pos h1 ?_
  refine EvP.bind (laws_within2.ok b a hb ha) ?_
  rintro _ rfl
  exact EvP.now h2
theorem laws_equalTexts.ok (l : List ByteArray) (hl : (l.length : Int) ≤ 9223372036854775807) : EvP (fun k => laws_equalTexts.f k l l) (· = true) := by
  unfold laws_equalTexts.f
  refine EvP.pos rfl ?_
  refine EvP.range (L := fun k (_ : Unit) i => laws_equalTexts.l0 k l l i) (xs := l) (Inv := fun _ _ => True) ?_ ?_ () trivial
  · rintro pre x rest s hx _ ih
    have hlt := len_at hx
    simp only [laws_equalTexts.l0, wrap_at hx hl]
    exact EvP.pos hlt (EvP.pos (nat_nonneg _) (EvP.pos hlt (EvP.pos trivial (ih () trivial))))
  · rintro s _
    simp only [laws_equalTexts.l0]
    exact EvP.neg (by omega) (EvP.now rfl)
def mrg1 (b l : List S37) : List S37 := l.map fun r => ⟨r.f0, if ocOf b r.f0 ≥ 0 then ocOf b r.f0 else r.f1⟩
def mrg2 (a l : List S37) : List S37 := l.filter fun r => decide (ocOf a r.f0 < 0)
def mrg (a b : List S37) : List S37 := mrg1 b a ++ mrg2 a b
theorem slices_Clone_string_string.ok (l : List ByteArray) (h : (l.length : Int) ≤ 4398046511104) : EvP (fun (_ : Nat) => slices_Clone_string_string.f l) (· = l) := by
  unfold slices_Clone_string_string.f
  exact EvP.pos (by omega) (EvP.now rfl)
theorem impl_MergeReports.ok (a : List S37) (da : List ByteArray) (b : List S37) (db : List ByteArray) (ha : (a.length : Int) ≤ 1000000) (hb : (b.length : Int) ≤ 1000000) (hda : (da.length : Int) ≤ 1000000) (hdb : (db.length : Int) ≤ 1000000) : EvP (fun k => impl_MergeReports.f k a da b db) (· = (mrg a b, da ++ db)) := by
  unfold impl_MergeReports.f
  refine EvP.range (L := fun k s i => impl_MergeReports.l0 k a (a.length : Int) i a da b db s) (xs := a) (Inv := fun pre s => s = mrg1 b pre) ?_ ?_ [] rfl
  · rintro pre x rest s hx rfl ih
    have hl := len_at hx
    have hw : (mrg1 b pre).length = pre.length := by simp [mrg1]
    have hr : rd_T37 a (pre.length : Int) = x := getD_at hx _
    simp only [impl_MergeReports.l0, hr, wrap_at hx (show (a.length : Int) ≤ 9223372036854775807 by omega)]
    refine EvP.pos hl (EvP.pos (nat_nonneg _) (EvP.pos hl ?_))
    refine EvP.bind (impl_OutcomeOf.ok b db x.f0 (by omega)) ?_
    rintro _ rfl
    refine EvP.ite (fun e => EvP.pos (by omega) (ih _ ?_)) (fun e => EvP.pos (by omega) (ih _ ?_))
    · unfold mrg1
      rw [List.map_append, List.map_cons, if_pos e]
      rfl
    · unfold mrg1
      rw [List.map_append, List.map_cons, if_neg e]
      rfl
  · rintro s rfl
    have hw : (mrg1 b a).length = a.length := by simp [mrg1]
    simp only [impl_MergeReports.l0]
    refine EvP.neg (by omega) ?_
    refine EvP.range (L := fun k s i => impl_MergeReports.l1 k b (b.length : Int) i a da b db s) (xs := b) (Inv := fun pre s => s = mrg1 b a ++ mrg2 a pre) ?_ ?_ _ (by simp [mrg2])
    · rintro pre x rest s hx rfl ih
      have hl := len_at hx
      have hw2 : (mrg2 a pre).length ≤ pre.length := List.length_filter_le _ _
      have hr : rd_T37 b (pre.length : Int) = x := getD_at hx _
      simp only [impl_MergeReports.l1, hr, wrap_at hx (show (b.length : Int) ≤ 9223372036854775807 by omega)]
      refine EvP.pos hl (EvP.pos (nat_nonneg _) (EvP.pos hl ?_))
      refine EvP.bind (impl_OutcomeOf.ok a da x.f0 (by omega)) ?_
      rintro _ rfl
      refine EvP.ite (fun e => EvP.pos (by rw [List.length_append]; omega) (ih _ ?_)) (fun e => ih _ ?_)
      · unfold mrg2
        rw [List.filter_append, List.filter_cons, if_pos (decide_eq_true e)]
        simp
      · unfold mrg2
        rw [List.filter_append, List.filter_cons, if_neg (by simpa using e)]
        simp
    · rintro s rfl
      simp only [impl_MergeReports.l1]
      refine EvP.neg (by omega) ?_
      refine EvP.bind (slices_Clone_string_string.ok da (by omega)) ?_
      intro r hr
      rw [hr]
      exact EvP.pos (by omega) (EvP.now rfl)
abbrev R := S37
theorem spec_isBad.ok (n : Int) : EvP (fun _ => spec_isBad.f n) (· = (n == 1 || n == 2)) := by
  unfold spec_isBad.f
  refine EvP.ite (fun h => EvP.now (by simp [h])) (fun h => EvP.now ?_)
  have : (n == 1) = false := by simpa using h
  simp [this]
def wc (a b : List R) (s : ByteArray) : Bool := (ocOf b s == 1 || ocOf b s == 2) && (decide (ocOf a s ≥ 0) && !(ocOf a s == 1 || ocOf a s == 2))
theorem wc_yes {a b : List R} {s : ByteArray} (h1 : (ocOf b s == 1 || ocOf b s == 2) = true) (h2 : ocOf a s ≥ 0) (h3 : ¬ (ocOf a s == 1 || ocOf a s == 2) = true) : wc a b s = true := by
  rw [wc, h1, decide_eq_true h2, show (ocOf a s == 1 || ocOf a s == 2) = false by simpa using h3]
  rfl
theorem wc_no1 {a b : List R} {s : ByteArray} (h1 : ¬ (ocOf b s == 1 || ocOf b s == 2) = true) : wc a b s = false := by
  rw [wc, show (ocOf b s == 1 || ocOf b s == 2) = false by simpa using h1]
  rfl
theorem wc_no2 {a b : List R} {s : ByteArray} (h2 : ¬ ocOf a s ≥ 0) : wc a b s = false := by
  rw [wc, decide_eq_false h2]
  simp
theorem wc_no3 {a b : List R} {s : ByteArray} (h3 : (ocOf a s == 1 || ocOf a s == 2) = true) : wc a b s = false := by
  rw [wc, h3]
  simp
def cand (a b l : List R) : List ByteArray := (l.filter fun r => wc a b r.f0).map (·.f0)
theorem cand_le (a b l : List R) : (cand a b l).length ≤ l.length := by
  rw [cand, List.length_map]
  exact List.length_filter_le _ _
def wors (a b l : List R) : List ByteArray := uniq (cand a b l)
theorem wors_le (a b l : List R) : (wors a b l).length ≤ l.length := Nat.le_trans (uniq_le _) (cand_le a b l)
theorem wors_yes {a b l : List R} {x : R} (h : wc a b x.f0 = true) : wors a b (l ++ [x]) = if hasT (wors a b l) x.f0 = true then wors a b l else wors a b l ++ [x.f0] := by
  have e : cand a b (l ++ [x]) = cand a b l ++ [x.f0] := by
    unfold cand
    rw [List.filter_append, List.map_append, List.filter_cons, if_pos h]
    rfl
  rw [wors, e, uniq_snoc]
  rfl
theorem wors_no {a b l : List R} {x : R} (h : wc a b x.f0 = false) : wors a b (l ++ [x]) = wors a b l := by
  have e : cand a b (l ++ [x]) = cand a b l := by
    unfold cand
    rw [List.filter_append, List.map_append, List.filter_cons, if_neg (by rw [h]; simp)]
    simp
  rw [wors, e]
  rfl
theorem impl_worse.ok (a : List R) (da : List ByteArray) (b : List R) (db : List ByteArray) (ha : (a.length : Int) ≤ 1000000) (hb : (b.length : Int) ≤ 1000000) : EvP (fun k => impl_worse.f k a da b db) (· = wors a b b) := by
  unfold impl_worse.f
  refine EvP.range (L := fun k s i => impl_worse.l0 k s b (b.length : Int) i a da b db) (xs := b) (Inv := fun pre s => s = wors a b pre) ?_ ?_ [] rfl
  · rintro pre x rest s hx rfl ih
    have hl := len_at hx
    have hw := wors_le a b pre
    have hr : rd_T37 b (pre.length : Int) = x := getD_at hx _
    simp only [impl_worse.l0, hr, wrap_at hx (show (b.length : Int) ≤ 9223372036854775807 by omega)]
    refine EvP.pos hl (EvP.pos (nat_nonneg _) (EvP.pos hl ?_))
    refine EvP.bind (impl_OutcomeOf.ok a da x.f0 (by omega)) ?_
    rintro _ rfl
    refine EvP.bind (slices_Contains_string_string.ok _ x.f0 (by omega)) ?_
    rintro _ rfl
    refine EvP.ite (fun e => ih _ ?_) (fun e => ?_)
    · cases g : wc a b x.f0 with
      | true => rw [wors_yes g, if_pos e]
      | false => rw [wors_no g]
    refine EvP.bind (impl_OutcomeOf.ok b db x.f0 (by omega)) ?_
    rintro _ rfl
    refine EvP.bind (impl_isBad.ok _) ?_
    rintro _ rfl
    refine EvP.ite (fun e1 => EvP.ite (fun e2 => ?_) (fun e2 => ih _ (wors_no (wc_no2 e2)).symm)) (fun e1 => ih _ (wors_no (wc_no1 e1)).symm)
    refine EvP.bind (impl_isBad.ok _) ?_
    rintro _ rfl
    refine EvP.ite (fun e3 => ih _ (wors_no (wc_no3 e3)).symm) (fun e3 => EvP.pos (by omega) (ih _ ?_))
    rw [wors_yes (wc_yes e1 e2 e3), if_neg e]
  · rintro s rfl
    simp only [impl_worse.l0]
    exact EvP.neg (by omega) (EvP.now rfl)
theorem impl_DiffReports.ok (a : List R) (da : List ByteArray) (b : List R) (db : List ByteArray) (ha : (a.length : Int) ≤ 1000000) (hb : (b.length : Int) ≤ 1000000) : EvP (fun k => impl_DiffReports.f k a da b db) (· = (wors a b b, wors b a a)) := by
  unfold impl_DiffReports.f
  refine EvP.bind (impl_worse.ok a da b db ha hb) ?_
  rintro _ rfl
  refine EvP.bind (impl_worse.ok b db a da hb ha) ?_
  rintro _ rfl
  exact EvP.now rfl
theorem spec_DiffReports.ok (a : List R) (da : List ByteArray) (b : List R) (db : List ByteArray) (ha : (a.length : Int) ≤ 1000000) (hb : (b.length : Int) ≤ 1000000) : EvP (fun k => spec_DiffReports.f k a da b db) (· = (wors a b b, wors b a a)) := by
  unfold spec_DiffReports.f
  refine EvP.range (L := fun k s i => spec_DiffReports.l0 k s [] i a da b db) (xs := b) (Inv := fun pre s => s = wors a b pre) ?_ ?_ [] rfl
  · rintro pre x rest s hx rfl ih
    have hl := len_at hx
    have hw := wors_le a b pre
    have hr : rd_T37 b (pre.length : Int) = x := getD_at hx _
    simp only [spec_DiffReports.l0, hr, wrap_at hx (show (b.length : Int) ≤ 9223372036854775807 by omega)]
    refine EvP.pos hl (EvP.pos (nat_nonneg _) ?_)
    refine EvP.bind (spec_outcomeOf.ok a x.f0 (by omega)) ?_
    rintro _ rfl
    refine EvP.bind (spec_outcomeOf.ok b x.f0 (by omega)) ?_
    rintro _ rfl
    refine EvP.ite (fun e2 => ?_) (fun e2 => ih _ (wors_no (wc_no2 e2)).symm)
    refine EvP.bind (spec_isBad.ok _) ?_
    rintro _ rfl
    refine EvP.ite (fun e3 => ih _ (wors_no (wc_no3 e3)).symm) (fun e3 => ?_)
    refine EvP.bind (spec_isBad.ok _) ?_
    rintro _ rfl
    refine EvP.ite (fun e1 => ?_) (fun e1 => ih _ (wors_no (wc_no1 e1)).symm)
    refine EvP.bind (spec_addText.ok _ x.f0 (by omega)) ?_
    rintro _ rfl
    exact ih _ (wors_yes (wc_yes e1 e2 e3)).symm
  · rintro s rfl
    simp only [spec_DiffReports.l0]
    refine EvP.neg (by omega) ?_
    refine EvP.range (L := fun k s i => spec_DiffReports.l1 k (wors a b b) s i a da b db) (xs := a) (Inv := fun pre s => s = wors b a pre) ?_ ?_ [] rfl
    · rintro pre x rest s hx rfl ih
      have hl := len_at hx
      have hw := wors_le b a pre
      have hr : rd_T37 a (pre.length : Int) = x := getD_at hx _
      simp only [spec_DiffReports.l1, hr, wrap_at hx (show (a.length : Int) ≤ 9223372036854775807 by omega)]
      refine EvP.pos hl (EvP.pos (nat_nonneg _) ?_)
      refine EvP.bind (spec_outcomeOf.ok a x.f0 (by omega)) ?_
      rintro _ rfl
      refine EvP.bind (spec_outcomeOf.ok b x.f0 (by omega)) ?_
      rintro _ rfl
      refine EvP.ite (fun e2 => ?_) (fun e2 => ih _ (wors_no (wc_no2 e2)).symm)
      refine EvP.bind (spec_isBad.ok _) ?_
      rintro _ rfl
      refine EvP.ite (fun e1 => ?_) (fun e1 => ih _ (wors_no (wc_no1 e1)).symm)
      refine EvP.bind (spec_isBad.ok _) ?_
      rintro _ rfl
      refine EvP.ite (fun e3 => ih _ (wors_no (wc_no3 e3)).symm) (fun e3 => ?_)
      refine EvP.bind (spec_addText.ok _ x.f0 (by omega)) ?_
      rintro _ rfl
      exact ih _ (wors_yes (wc_yes e1 e2 e3)).symm
    · rintro s rfl
      simp only [spec_DiffReports.l1]
      exact EvP.neg (by omega) (EvP.now rfl)
theorem ocOf_cg (rs : List R) {s t : ByteArray} (h : s.toList = t.toList) : ocOf rs s = ocOf rs t := by
  unfold ocOf
  rw [h]
theorem within_refl (l : List ByteArray) : withinB l l = true := by
  rw [withinB, List.all_eq_true]
  exact fun s hs => (hasT_iff _ _).2 ⟨s, hs, rfl⟩
theorem wors_self (a l : List R) : wors a a l = [] := by
  have e : cand a a l = [] := by
    unfold cand
    rw [List.map_eq_nil_iff, List.filter_eq_nil_iff]
    intro r _ h
    cases g : (ocOf a r.f0 == 1 || ocOf a r.f0 == 2) with
    | true =>
      rw [wc_no3 g] at h
      cases h
    | false =>
      rw [wc_no1 (by rw [g]; simp)] at h
      cases h
  rw [wors, e]
  rfl
theorem broken_within (a b : List R) : withinB (wors a b b) (badIds (mrg a b)) = true := by
  rw [withinB, List.all_eq_true]
  intro s hs
  have h1 : hasT (wors a b b) s = true := (hasT_iff _ _).2 ⟨s, hs, rfl⟩
  rw [wors, hasT_uniq] at h1
  obtain ⟨y, hy, e⟩ := (hasT_iff _ _).1 h1
  rw [cand, List.mem_map] at hy
  obtain ⟨r, hr, rfl⟩ := hy
  have hw := (List.mem_filter.1 hr).2
  rw [wc, Bool.and_eq_true, Bool.and_eq_true, decide_eq_true_iff] at hw
  obtain ⟨w1, w2, _⟩ := hw
  have hx : ∃ x ∈ a, x.f0.toList = r.f0.toList := by
    apply Classical.byContradiction
    intro g
    have : ocOf a r.f0 = -1 := ocOf_none (fun x hx e => g ⟨x, hx, e⟩)
    omega
  obtain ⟨x, hx, ex⟩ := hx
  have eo : ocOf b x.f0 = ocOf b r.f0 := ocOf_cg b ex
  have h0 : ocOf b r.f0 ≥ 0 := by
    simp only [Bool.or_eq_true, beq_iff_eq] at w1
    omega
  refine (hasT_iff _ _).2 ⟨x.f0, ?_, ex.trans e⟩
  rw [badIds, List.mem_map]
  refine ⟨⟨x.f0, ocOf b r.f0⟩, List.mem_filter.2 ⟨List.mem_append_left _ (List.mem_map.2 ⟨x, hx, ?_⟩), w1⟩, rfl⟩
  rw [eo, if_pos h0]
theorem main : laws_FnDiffReports.Pure := by
  intro l0 _ _ hw
  refine EvP.rounds ?_
  unfold laws_FnDiffReports.f
  refine EvP.ite (fun _ => EvP.now rfl) (fun _ => ?_)
  refine EvP.bind (P := fun r => r.1.length ≤ 5 ∧ r.2.1.length ≤ 2 ∧ r.2.2.1.length ≤ 5 ∧ r.2.2.2.length ≤ 2) ?_ ?_
  · unfold spec_DrawDiffReports.f
    refine EvP.bind (P := fun r => r.1.length ≤ 5 ∧ r.2.1.length ≤ 2 ∧ r.2.2.1.length ≤ 5 ∧ r.2.2.2.length ≤ 2) ?_ (fun r h => EvP.now h)
    unfold spec_DrawMergeReports.f
    refine EvP.bind (spec_newReader.ok l0 hw) ?_
    rintro ⟨b, p⟩ ⟨hb, hp⟩
    simp only at hb hp
    subst hp
    refine EvP.bind (spec_someReport.ok b 0 hb (by omega) (by omega)) ?_
    rintro ⟨rs, ds, q⟩ ⟨h1, h2, h3, h4⟩
    simp only at h1 h2 h3 h4
    refine EvP.bind (spec_someReport.ok b q hb (by omega) (by omega)) ?_
    rintro ⟨rs2, ds2, q2⟩ ⟨g1, g2, g3, g4⟩
    exact EvP.now ⟨h1, h2, g1, g2⟩
  · rintro ⟨a, da, b, db⟩ ⟨h1, h2, h3, h4⟩
    simp only at h1 h2 h3 h4
    have n1 := wors_le a b b
    have n2 := wors_le b a a
    have ha : (a.length : Int) ≤ 1000000 := by omega
    have hb : (b.length : Int) ≤ 1000000 := by omega
    refine EvP.bind (impl_DiffReports.ok a da b db ha hb) ?_
    rintro _ rfl
    refine EvP.bind (spec_DiffReports.ok a da b db ha hb) ?_
    rintro _ rfl
    refine EvP.bind (laws_equalTexts.ok _ (by simp only; omega)) ?_
    rintro _ rfl
    refine EvP.pos rfl ?_
    refine EvP.bind (laws_equalTexts.ok _ (by simp only; omega)) ?_
    rintro _ rfl
    refine EvP.succ ?_
    simp only [laws_FnDiffReports.j0]
    refine EvP.neg (by simp) ?_
    refine EvP.bind (impl_DiffReports.ok b db a da hb ha) ?_
    rintro _ rfl
    refine EvP.bind (impl_DiffReports.ok a da a da ha ha) ?_
    rintro _ rfl
    refine EvP.bind (laws_sameTexts.ok _ _ (by simp only; omega) (by omega) rfl (within_refl _) (within_refl _)) ?_
    rintro _ rfl
    refine EvP.pos rfl ?_
    refine EvP.bind (laws_sameTexts.ok _ _ (by simp only; omega) (by omega) rfl (within_refl _) (within_refl _)) ?_
    rintro _ rfl
    refine EvP.pos rfl ?_
    simp only [wors_self]
    refine EvP.pos (by simp [wrap64]) ?_
    refine EvP.bind (impl_MergeReports.ok a da b db ha hb (by omega) (by omega)) ?_
    rintro _ rfl
    have m1 : (mrg a b).length ≤ a.length + b.length := by
      have hw : (mrg1 b a).length = a.length := by simp [mrg1]
      have hw2 : (mrg2 a b).length ≤ b.length := List.length_filter_le _ _
      rw [mrg, List.length_append]
      omega
    have m2 := badIds_le (mrg a b)
    refine EvP.bind (impl_FailedIds.ok _ _ (by simp only; omega)) ?_
    rintro _ rfl
    refine EvP.bind (laws_within2.ok _ _ (by omega) (by simp only; omega)) ?_
    rintro _ rfl
    exact EvP.now (broken_within a b)
end QFnDiffReports
theorem FnDiffReports : laws_FnDiffReports.Pure := QFnDiffReports.main
end Go.Proofs.Ytfpoihcpjmkbkaa.Pure

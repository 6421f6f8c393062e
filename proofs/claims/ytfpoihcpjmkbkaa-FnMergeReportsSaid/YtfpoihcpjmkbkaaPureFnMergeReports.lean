/- FnMergeReports answers true for every code: the program's MergeReports answers as the reference's does, each id's outcome is the later report's where it has one, an empty report merged changes nothing, and the downs are both reports' ones. Conditions: those of the printed statement alone (bounds on sizes that every input meets). -/
import Derived.Test.YtfpoihcpjmkbkaaOFnMergeReportsx7
import Derived.Test.YtfpoihcpjmkbkaaBase
namespace Go.Proofs.Ytfpoihcpjmkbkaa.Pure
open Go.RowKit Go.Proofs.Ytfpoihcpjmkbkaa.OFnMergeReports Go.Proofs.YtfpoihcpjmkbkaaW.PrintWords Go.Proofs.YtfpoihcpjmkbkaaW.PrintLast Go.Proofs.YtfpoihcpjmkbkaaW.PrintMore Go.Proofs.Ytfpoihcpjmkbkaa.Base
set_option linter.unusedVariables false
set_option linter.unusedSimpArgs false
namespace QFnMergeReports
/-! #### the reader of draws -/
def Bytes (b : List Int) : Prop := b.length ≤ 2000 ∧ ∀ x ∈ b, 0 ≤ x ∧ x ≤ 255
theorem spec_newReader.ok (l0 : List Int) (h : ∀ x ∈ l0, (Lit.int .u8 x).wf = true) : EvP (fun _ => spec_newReader.f l0) (fun r => Bytes r.1 ∧ r.2 = 0) := by
  have hw : ∀ x ∈ l0, 0 ≤ x ∧ x ≤ 255 := by
    intro x hx
    have := h x hx
    simp [Lit.wf, IntKind.min, IntKind.max, IntKind.signed, IntKind.bits] at this
    omega
  unfold spec_newReader.f
  refine EvP.ite (fun h1 => EvP.pos (by omega) (EvP.now ⟨⟨?_, fun x hx => hw x (List.mem_of_mem_take hx)⟩, rfl⟩)) (fun h1 => EvP.now ⟨⟨by simp only; omega, hw⟩, rfl⟩)
  show (l0.take 2000).length ≤ 2000
  simp
  omega
theorem rd_mem {l : List Int} {i : Int} (h0 : 0 ≤ i) (h1 : i < (l.length : Int)) : rd l i ∈ l := by
  unfold rd
  rw [List.getD_eq_getElem?_getD, List.getElem?_eq_getElem (by omega)]
  exact List.getElem_mem _
theorem rdOf_mem {α : Type} (d : α) {l : List α} {i : Int} (h0 : 0 ≤ i) (h1 : i < (l.length : Int)) : rdOf d l i ∈ l := by
  unfold rdOf
  rw [List.getD_eq_getElem?_getD, List.getElem?_eq_getElem (by omega)]
  exact List.getElem_mem _
theorem xor_nonneg (a b : Int) (ha : 0 ≤ a) (ha1 : a < 9223372036854775808) (hb : 0 ≤ b) (hb1 : b < 9223372036854775808) : 0 ≤ Go.bits .xor .i64 a b := by
  obtain ⟨m, rfl⟩ := Int.eq_ofNat_of_zero_le ha
  obtain ⟨n, rfl⟩ := Int.eq_ofNat_of_zero_le hb
  have hx : m ^^^ n < 2 ^ 63 := Nat.xor_lt_two_pow (by omega) (by omega)
  have h1 : (BitVec.ofInt 64 (m : Int)).toNat = m := by
    rw [BitVec.ofInt_natCast, BitVec.toNat_ofNat]; exact Nat.mod_eq_of_lt (by omega)
  have h2 : (BitVec.ofInt 64 (n : Int)).toNat = n := by
    rw [BitVec.ofInt_natCast, BitVec.toNat_ofNat]; exact Nat.mod_eq_of_lt (by omega)
  show 0 ≤ IntKind.i64.wrap ((BitVec.ofInt 64 (m : Int) ^^^ BitVec.ofInt 64 (n : Int)).toNat : Int)
  rw [BitVec.toNat_xor, h1, h2, IntKind.wrap_i64]
  omega
theorem tmod_in (a n : Int) (ha : 0 ≤ a) (hn : 0 < n) : 0 ≤ Int.tmod a n ∧ Int.tmod a n < n := by
  rw [Int.tmod_eq_emod_of_nonneg ha]
  exact ⟨Int.emod_nonneg _ (by omega), Int.emod_lt_of_pos _ hn⟩
theorem tdiv_in (a n : Int) (ha : 0 ≤ a) (hn : 0 < n) : 0 ≤ Int.tdiv a n ∧ Int.tdiv a n ≤ a := by
  rw [Int.tdiv_eq_ediv_of_nonneg ha]
  exact ⟨Int.ediv_nonneg ha (by omega), Int.ediv_le_self _ ha⟩
theorem spec_reader_pick.ok (b : List Int) (p n : Int) (hb : Bytes b) (h0 : 0 ≤ p) (h1 : p ≤ 1000000) : EvP (fun k => spec_reader_pick.f k b p n) (fun r => 0 ≤ r.1 ∧ (0 < n → r.1 < n) ∧ r.2 = p + 1) := by
  have e1 : wrap64 (p + 1) = p + 1 := wrap_id (by omega) (by omega)
  have e2 : wrap64 (p + 1 - 1) = p := by rw [wrap_id (by omega) (by omega)]; omega
  have none' : EvP (fun k => spec_reader_pick.j0 k n true b (p + 1)) (fun r => 0 ≤ r.1 ∧ (0 < n → r.1 < n) ∧ r.2 = p + 1) := by
    refine EvP.succ ?_
    simp only [spec_reader_pick.j0]
    exact EvP.pos (by simp) (EvP.now ⟨by simp, fun h => h, by simp⟩)
  unfold spec_reader_pick.f
  rw [e1]
  refine EvP.ite (fun _ => none') (fun hn => ?_)
  by_cases hl : b.length = 0
  · have : ((b.length : Int) == 0) = true := by simp [hl]
    rw [this]
    exact none'
  · have : ((b.length : Int) == 0) = false := by simp [hl]
    rw [this]
    have hr : ∀ i : Int, 0 ≤ i → i < (b.length : Int) → 0 ≤ rd b i ∧ rd b i ≤ 255 := fun i g0 g1 => hb.2 _ (rd_mem g0 g1)
    refine EvP.succ ?_
    simp only [spec_reader_pick.j0]
    refine EvP.neg (by simp) ?_
    simp only [e2]
    refine EvP.ite (fun hp => EvP.pos h0 (EvP.neg (by omega) (EvP.now ?_))) (fun hp => ?_)
    · have h := hr p h0 hp
      rw [wrap_id (by omega) (by omega)]
      have := tmod_in (rd b p) n h.1 (by omega)
      exact ⟨this.1, fun _ => this.2, by simp⟩
    · have w7 : wrap64 (p * 7) = p * 7 := wrap_id (by omega) (by omega)
      have w73 : wrap64 (p * 7 + 3) = p * 7 + 3 := wrap_id (by omega) (by omega)
      have w29 : wrap64 (p * 29) = p * 29 := wrap_id (by omega) (by omega)
      simp only [w7, w73, w29]
      have m1 := tmod_in p (b.length : Int) h0 (by omega)
      have m2 := tmod_in (p * 7 + 3) (b.length : Int) (by omega) (by omega)
      have d1 := tdiv_in p (b.length : Int) h0 (by omega)
      have r1 := hr _ m1.1 m1.2
      have r2 := hr _ m2.1 m2.2
      refine EvP.neg (by omega) (EvP.pos m1.1 (EvP.pos m1.2 (EvP.pos m2.1 (EvP.pos m2.2 (EvP.neg (by omega) (EvP.now ?_))))))
      generalize rd b (Int.tmod p (b.length : Int)) = u1 at *
      generalize rd b (Int.tmod (p * 7 + 3) (b.length : Int)) = u2 at *
      generalize Int.tdiv p (b.length : Int) = u3 at *
      have a1 : wrap64 u1 = u1 := wrap_id (by omega) (by omega)
      have a2 : wrap64 u2 = u2 := wrap_id (by omega) (by omega)
      have a3 : wrap64 u3 = u3 := wrap_id (by omega) (by omega)
      have a4 : wrap64 (u1 * 131) = u1 * 131 := wrap_id (by omega) (by omega)
      have a5 : wrap64 (u2 * 1117) = u2 * 1117 := wrap_id (by omega) (by omega)
      have a6 : wrap64 (u3 * 53) = u3 * 53 := wrap_id (by omega) (by omega)
      have a7 : wrap64 (u1 * 131 + u2 * 1117) = u1 * 131 + u2 * 1117 := wrap_id (by omega) (by omega)
      have a8 : wrap64 (u1 * 131 + u2 * 1117 + p * 29) = u1 * 131 + u2 * 1117 + p * 29 := wrap_id (by omega) (by omega)
      have a9 : wrap64 (u1 * 131 + u2 * 1117 + p * 29 + u3 * 53) = u1 * 131 + u2 * 1117 + p * 29 + u3 * 53 := wrap_id (by omega) (by omega)
      simp only [a1, a2, a3, a4, a5, a6, a7, a8, a9]
      have hE : 0 ≤ u1 * 131 + u2 * 1117 + p * 29 + u3 * 53 ∧ u1 * 131 + u2 * 1117 + p * 29 + u3 * 53 ≤ 1000000000 := by omega
      generalize u1 * 131 + u2 * 1117 + p * 29 + u3 * 53 = E at *
      have d2 := tdiv_in E 64 hE.1 (by omega)
      have a10 : wrap64 (Int.tdiv E 64) = Int.tdiv E 64 := wrap_id (by omega) (by omega)
      rw [a10]
      have := tmod_in (Go.bits .xor .i64 E (Int.tdiv E 64)) n (xor_nonneg _ _ hE.1 (by omega) d2.1 (by omega)) (by omega)
      exact ⟨this.1, fun _ => this.2, by simp⟩
theorem spec_reader_one.ok (b : List Int) (p : Int) (l : List Int) (hb : Bytes b) (h0 : 0 ≤ p) (h1 : p ≤ 1000000) (hl : 0 < l.length) : EvP (fun k => spec_reader_one.f k b p l) (fun r => r.1 ∈ l ∧ r.2 = p + 1) := by
  unfold spec_reader_one.f
  refine EvP.bind (spec_reader_pick.ok b p _ hb h0 h1) ?_
  rintro ⟨i, q⟩ ⟨g0, g1, rfl⟩
  have g2 := g1 (by omega)
  exact EvP.pos g0 (EvP.pos g2 (EvP.now ⟨rd_mem g0 g2, rfl⟩))
theorem spec_reader_of.ok (b : List Int) (p : Int) (l : List ByteArray) (hb : Bytes b) (h0 : 0 ≤ p) (h1 : p ≤ 1000000) (hl : 0 < l.length) : EvP (fun k => spec_reader_of.f k b p l) (fun r => r.1 ∈ l ∧ r.2 = p + 1) := by
  unfold spec_reader_of.f
  refine EvP.bind (spec_reader_pick.ok b p _ hb h0 h1) ?_
  rintro ⟨i, q⟩ ⟨g0, g1, rfl⟩
  have g2 := g1 (by omega)
  exact EvP.pos g0 (EvP.pos g2 (EvP.now ⟨rdOf_mem _ g0 g2, rfl⟩))
/-! #### drawn reports -/
theorem spec_aModule.ok (b : List Int) (p : Int) (hb : Bytes b) (h0 : 0 ≤ p) (h1 : p ≤ 1000000) : EvP (fun k => spec_aModule.f k b p) (fun r => r.1.size = 1 ∧ r.2 = p + 1) := by
  unfold spec_aModule.f
  refine EvP.bind (spec_reader_of.ok b p _ hb h0 h1 (by simp)) ?_
  rintro ⟨s, q⟩ ⟨g0, rfl⟩
  refine EvP.now ⟨?_, rfl⟩
  simp only [List.mem_cons, List.not_mem_nil, or_false] at g0
  rcases g0 with rfl | rfl | rfl | rfl <;> rfl
theorem spec_anId.ok (b : List Int) (p : Int) (hb : Bytes b) (h0 : 0 ≤ p) (h1 : p ≤ 900000) : EvP (fun k => spec_anId.f k b p) (fun r => r.1.size = 3 ∧ r.2 = p + 2) := by
  unfold spec_anId.f
  refine EvP.bind (spec_aModule.ok b p hb h0 (by omega)) ?_
  rintro ⟨s, q⟩ ⟨g0, rfl⟩
  refine EvP.pos (by simp only at g0 ⊢; omega) ?_
  refine EvP.bind (spec_reader_of.ok b (p + 1) _ hb (by omega) (by omega) (by simp)) ?_
  rintro ⟨t, q⟩ ⟨g1, rfl⟩
  have g2 : t.size = 1 := by
    simp only [List.mem_cons, List.not_mem_nil, or_false] at g1
    rcases g1 with rfl | rfl | rfl | rfl | rfl <;> rfl
  simp only at g0
  refine EvP.pos ?_ (EvP.now ⟨?_, by simp only; omega⟩)
  · simp [ByteArray.size_append, g0, g2]
    decide
  · simp [ByteArray.size_append, g0, g2]
    decide
theorem spec_someReport.ok (b : List Int) (p : Int) (hb : Bytes b) (h0 : 0 ≤ p) (h1 : p ≤ 100000) : EvP (fun k => spec_someReport.f k b p) (fun r => r.1.length ≤ 5 ∧ r.2.1.length ≤ 2 ∧ p ≤ r.2.2 ∧ r.2.2 ≤ p + 40 ∧ ∀ x ∈ r.1, -1 ≤ x.f1) := by
  unfold spec_someReport.f
  refine EvP.bind (spec_reader_one.ok b p _ hb h0 (by omega) (by simp)) ?_
  rintro ⟨n, q⟩ ⟨g0, rfl⟩
  have hn : 0 ≤ n ∧ n ≤ 5 := by
    simp only [List.mem_cons, List.not_mem_nil, or_false] at g0
    omega
  have j2 : ∀ (x : Bool) (q : Int) (rs : List S37) (ds : List ByteArray), 0 ≤ q → q ≤ 200000 → q ≤ p + 30 → p ≤ q → rs.length ≤ 5 → ds.length ≤ 2 → (x = true → 0 < rs.length) → (∀ x ∈ rs, -1 ≤ x.f1) →
      EvP (fun k => spec_someReport.j2 k x b q rs ds) (fun r => r.1.length ≤ 5 ∧ r.2.1.length ≤ 2 ∧ p ≤ r.2.2 ∧ r.2.2 ≤ p + 40 ∧ ∀ x ∈ r.1, -1 ≤ x.f1) := by
    intro x q rs ds a0 a1 a2 a3 a4 a5 a6 hv
    refine EvP.succ ?_
    simp only [spec_someReport.j2]
    refine EvP.ite (fun hx => ?_) (fun _ => EvP.now ⟨a4, a5, a3, by simp only; omega, hv⟩)
    refine EvP.bind (spec_reader_of.ok b q _ hb (by omega) (by omega) (by simp)) ?_
    rintro ⟨s, q1⟩ ⟨_, rfl⟩
    refine EvP.bind (spec_reader_one.ok b (q + 1) _ hb (by omega) (by omega) (by simp)) ?_
    rintro ⟨oc, q1⟩ ⟨o1, rfl⟩
    have := a6 hx
    refine EvP.pos (by omega) (EvP.now ⟨by simpa using a4, a5, by simp only; omega, by simp only; omega, fun y hy => ?_⟩)
    rcases List.mem_or_eq_of_mem_set hy with hy | rfl
    · exact hv y hy
    · simp only [List.mem_cons, List.not_mem_nil, or_false] at o1
      simp only
      omega
  have l1 : ∀ (n : Int) (s : Int × List ByteArray) (rs : List S37), (0 ≤ s.1 ∧ s.1 + 2 * n ≤ p + 22 ∧ p ≤ s.1 ∧ (s.2.length : Int) + n ≤ 2 ∧ 0 ≤ n) → rs.length ≤ 5 → (∀ x ∈ rs, -1 ≤ x.f1) →
      EvP (fun k => spec_someReport.l1 k n b s.1 rs s.2) (fun r => r.1.length ≤ 5 ∧ r.2.1.length ≤ 2 ∧ p ≤ r.2.2 ∧ r.2.2 ≤ p + 40 ∧ ∀ x ∈ r.1, -1 ≤ x.f1) := by
    intro n s rs hs hrs hv
    refine EvP.down (L := fun k (s : Int × List ByteArray) n => spec_someReport.l1 k n b s.1 rs s.2) (Inv := fun n s => 0 ≤ s.1 ∧ s.1 + 2 * n ≤ p + 22 ∧ p ≤ s.1 ∧ (s.2.length : Int) + n ≤ 2 ∧ 0 ≤ n) ?_ ?_ n s hs
    · rintro n ⟨q, ds⟩ hn ⟨a0, a1, a2, a3, a4⟩ ih
      simp only [spec_someReport.l1]
      simp only at a0 a1 a2 a3
      refine EvP.pos hn ?_
      refine EvP.bind (spec_reader_of.ok b q _ hb (by omega) (by omega) (by simp)) ?_
      rintro ⟨s, q1⟩ ⟨_, rfl⟩
      simp only
      rw [wrap_id (x := n - 1) (by omega) (by omega)]
      exact EvP.pos (by omega) (ih (q + 1, ds ++ [s]) ⟨by simp only; omega, by simp only; omega, by simp only; omega, by simp only [List.length_append, List.length_singleton]; omega, by omega⟩)
    · rintro n ⟨q, ds⟩ hn ⟨a0, a1, a2, a3, a4⟩
      simp only [spec_someReport.l1]
      simp only at a0 a1 a2 a3
      refine EvP.neg (by omega) (EvP.ite (fun h => ?_) (fun h => ?_))
      · refine EvP.bind (spec_reader_pick.ok b q _ hb (by omega) (by omega)) ?_
        rintro ⟨i, q1⟩ ⟨_, _, rfl⟩
        exact j2 _ _ _ _ (by simp only; omega) (by simp only; omega) (by simp only; omega) (by simp only; omega) hrs (by omega) (fun _ => by omega) hv
      · exact j2 _ _ _ _ (by omega) (by omega) (by omega) (by omega) hrs (by omega) (fun h => by cases h) hv
  refine EvP.down (L := fun k (s : Int × List S37) n => spec_someReport.l0 k n b s.1 s.2 []) (Inv := fun n s => 0 ≤ s.1 ∧ s.1 + 3 * n ≤ p + 1 + 15 ∧ p ≤ s.1 ∧ (s.2.length : Int) + n ≤ 5 ∧ 0 ≤ n ∧ ∀ x ∈ s.2, -1 ≤ x.f1) ?_ ?_ n (p + 1, []) ?_
  · rintro n ⟨q, rs⟩ hn ⟨a0, a1, a2, a3, a4, a5⟩ ih
    simp only [spec_someReport.l0]
    simp only at a0 a1 a2 a3 a5
    refine EvP.pos hn ?_
    refine EvP.bind (spec_anId.ok b q hb (by omega) (by omega)) ?_
    rintro ⟨s, q1⟩ ⟨_, rfl⟩
    refine EvP.bind (spec_reader_one.ok b (q + 2) _ hb (by omega) (by omega) (by simp)) ?_
    rintro ⟨i, q1⟩ ⟨o1, rfl⟩
    simp only
    rw [wrap_id (x := n - 1) (by omega) (by omega)]
    refine EvP.pos (by omega) (ih (q + 2 + 1, rs ++ [⟨s, i⟩]) ⟨by simp only; omega, by simp only; omega, by simp only; omega, by simp only [List.length_append, List.length_singleton]; omega, by omega, fun y hy => ?_⟩)
    rcases List.mem_append.1 hy with hy | hy
    · exact a5 y hy
    · rw [List.mem_singleton.1 hy]
      simp only [List.mem_cons, List.not_mem_nil, or_false] at o1
      simp only
      omega
  · rintro n ⟨q, rs⟩ hn ⟨a0, a1, a2, a3, a4, a5⟩
    simp only [spec_someReport.l0]
    simp only at a0 a1 a2 a3 a5
    refine EvP.neg (by omega) ?_
    refine EvP.bind (spec_reader_one.ok b q _ hb (by omega) (by omega) (by simp)) ?_
    rintro ⟨i, q1⟩ ⟨g1, rfl⟩
    have hi : 0 ≤ i ∧ i ≤ 2 := by
      simp only [List.mem_cons, List.not_mem_nil, or_false] at g1
      omega
    exact l1 i (q + 1, []) rs ⟨by simp only; omega, by simp only; omega, by simp only; omega, by simp; omega, by omega⟩ (by omega) a5
  · exact ⟨by simp only; omega, by simp only; omega, by simp only; omega, by simp; omega, by omega, fun y hy => by cases hy⟩
/-- The outcome of the first result of an id, -1 if there is none. -/
def ocOf (rs : List S37) (id : ByteArray) : Int := ((rs.find? fun x => decide (x.f0.toList = id.toList)).map (·.f1)).getD (-1)
def noId (rs : List S37) (id : ByteArray) : Prop := ∀ x ∈ rs, x.f0.toList ≠ id.toList
theorem noId_snoc {rs : List S37} {id : ByteArray} {x : S37} (h : noId rs id) (e : x.f0.toList ≠ id.toList) : noId (rs ++ [x]) id := by
  intro y hy
  rcases List.mem_append.1 hy with hy | hy
  · exact h y hy
  · rw [List.mem_singleton.1 hy]
    exact e
theorem find_none {rs : List S37} {id : ByteArray} (h : noId rs id) : rs.find? (fun x => decide (x.f0.toList = id.toList)) = none := by
  rw [List.find?_eq_none]
  intro x hx
  simpa using h x hx
theorem ocOf_none {rs : List S37} {id : ByteArray} (h : noId rs id) : ocOf rs id = -1 := by
  unfold ocOf
  rw [find_none h]
  rfl
theorem ocOf_some {rs pre rest : List S37} {x : S37} {id : ByteArray} (hx : rs = pre ++ x :: rest) (h : noId pre id) (e : x.f0.toList = id.toList) : ocOf rs id = x.f1 := by
  subst hx
  unfold ocOf
  rw [List.find?_append, find_none h]
  simp [e]
theorem impl_OutcomeOf.ok (rs : List S37) (ds : List ByteArray) (id : ByteArray) (h : (rs.length : Int) ≤ 9223372036854775807) : EvP (fun k => impl_OutcomeOf.f k rs ds id) (· = ocOf rs id) := by
  unfold impl_OutcomeOf.f
  refine EvP.range (L := fun k (_ : Unit) i => impl_OutcomeOf.l0 k id rs (rs.length : Int) i) (xs := rs) (Inv := fun pre _ => noId pre id) ?_ ?_ () (fun x hx => by cases hx)
  · intro pre x rest s hx hi ih
    have hl := len_at hx
    have hr : rd_T37 rs (pre.length : Int) = x := getD_at hx _
    simp only [impl_OutcomeOf.l0, hr, wrap_at hx h]
    refine EvP.pos hl (EvP.pos (nat_nonneg _) (EvP.pos hl ?_))
    exact EvP.ite (fun e => EvP.now (ocOf_some hx hi e).symm) (fun e => ih () (noId_snoc hi e))
  · intro s hi
    simp only [impl_OutcomeOf.l0]
    exact EvP.neg (by omega) (EvP.now (ocOf_none hi).symm)
def mrg1 (b l : List S37) : List S37 := l.map fun r => ⟨r.f0, if ocOf b r.f0 ≥ 0 then ocOf b r.f0 else r.f1⟩
def mrg2 (a l : List S37) : List S37 := l.filter fun r => decide (ocOf a r.f0 < 0)
def mrg (a b : List S37) : List S37 := mrg1 b a ++ mrg2 a b
theorem slices_Clone_string_string.ok (l : List ByteArray) (h : (l.length : Int) ≤ 4398046511104) : EvP (fun (_ : Nat) => slices_Clone_string_string.f l) (· = l) := by
  unfold slices_Clone_string_string.f
  exact EvP.pos (by omega) (EvP.now rfl)
theorem impl_MergeReports.ok (a : List S37) (da : List ByteArray) (b : List S37) (db : List ByteArray) (ha : (a.length : Int) ≤ 1000000) (hb : (b.length : Int) ≤ 1000000) (hda : (da.length : Int) ≤ 1000000) (hdb : (db.length : Int) ≤ 1000000) : EvP (fun k => impl_MergeReports.f k a da b db) (· = (mrg a b, da ++ db)) := by
  unfold impl_MergeReports.f
  refine EvP.range (L := fun k s i => impl_MergeReports.l0 k a (a.length : Int) i a da b db s) (xs := a) (Inv := fun pre s => s = mrg1 b pre) ?_ ?_ [] rfl
  · rintro pre x rest s hx rfl ih
    have hl := len_at hx
    have hw : (mrg1 b pre).length = pre.length := by simp [mrg1]
    have hr : rd_T37 a (pre.length : Int) = x := getD_at hx _
    simp only [impl_MergeReports.l0, hr, wrap_at hx (show (a.length : Int) ≤ 9223372036854775807 by omega)]
    refine EvP.pos hl (EvP.pos (nat_nonneg _) (EvP.pos hl ?_))
    refine EvP.bind (impl_OutcomeOf.ok b db x.f0 (by omega)) ?_
    rintro _ rfl
    refine EvP.ite (fun e => EvP.pos (by omega) (ih _ ?_)) (fun e => EvP.pos (by omega) (ih _ ?_))
    · unfold mrg1
      rw [List.map_append, List.map_cons, if_pos e]
      rfl
    · unfold mrg1
      rw [List.map_append, List.map_cons, if_neg e]
      rfl
  · rintro s rfl
    have hw : (mrg1 b a).length = a.length := by simp [mrg1]
    simp only [impl_MergeReports.l0]
    refine EvP.neg (by omega) ?_
    refine EvP.range (L := fun k s i => impl_MergeReports.l1 k b (b.length : Int) i a da b db s) (xs := b) (Inv := fun pre s => s = mrg1 b a ++ mrg2 a pre) ?_ ?_ _ (by simp [mrg2])
    · rintro pre x rest s hx rfl ih
      have hl := len_at hx
      have hw2 : (mrg2 a pre).length ≤ pre.length := List.length_filter_le _ _
      have hr : rd_T37 b (pre.length : Int) = x := getD_at hx _
      simp only [impl_MergeReports.l1, hr, wrap_at hx (show (b.length : Int) ≤ 9223372036854775807 by omega)]
      refine EvP.pos hl (EvP.pos (nat_nonneg _) (EvP.pos hl ?_))
      refine EvP.bind (impl_OutcomeOf.ok a da x.f0 (by omega)) ?_
      rintro _ rfl
      refine EvP.ite (fun e => EvP.pos (by rw [List.length_append]; omega) (ih _ ?_)) (fun e => ih _ ?_)
      · unfold mrg2
        rw [List.filter_append, List.filter_cons, if_pos (decide_eq_true e)]
        simp
      · unfold mrg2
        rw [List.filter_append, List.filter_cons, if_neg (by simpa using e)]
        simp
    · rintro s rfl
      simp only [impl_MergeReports.l1]
      refine EvP.neg (by omega) ?_
      refine EvP.bind (slices_Clone_string_string.ok da (by omega)) ?_
      intro r hr
      rw [hr]
      exact EvP.pos (by omega) (EvP.now rfl)
theorem spec_outcomeOf.ok (rs : List S37) (id : ByteArray) (h : (rs.length : Int) ≤ 9223372036854775807) : EvP (fun k => spec_outcomeOf.f k rs id) (· = ocOf rs id) := by
  unfold spec_outcomeOf.f
  refine EvP.range (L := fun k (_ : Unit) i => spec_outcomeOf.l0 k rs id i) (xs := rs) (Inv := fun pre _ => noId pre id) ?_ ?_ () (fun x hx => by cases hx)
  · intro pre x rest s hx hi ih
    have hl := len_at hx
    have hr : rd_T37 rs (pre.length : Int) = x := getD_at hx _
    simp only [spec_outcomeOf.l0, hr, wrap_at hx h]
    refine EvP.pos hl (EvP.pos (nat_nonneg _) ?_)
    exact EvP.ite (fun e => EvP.now (ocOf_some hx hi e).symm) (fun e => ih () (noId_snoc hi e))
  · intro s hi
    simp only [spec_outcomeOf.l0]
    exact EvP.neg (by omega) (EvP.now (ocOf_none hi).symm)
theorem spec_MergeReports.ok (a : List S37) (da : List ByteArray) (b : List S37) (db : List ByteArray) (ha : (a.length : Int) ≤ 1000000) (hb : (b.length : Int) ≤ 1000000) (hda : (da.length : Int) ≤ 1000000) (hdb : (db.length : Int) ≤ 1000000) : EvP (fun k => spec_MergeReports.f k a da b db) (· = (mrg a b, da ++ db)) := by
  unfold spec_MergeReports.f
  refine EvP.bind (P := (· = [])) (EvP.now rfl) ?_
  rintro _ rfl
  refine EvP.pos (by simp only [List.length_nil]; omega) ?_
  refine EvP.bind (P := (· = [])) (EvP.now rfl) ?_
  rintro _ rfl
  refine EvP.pos (by simp only [List.length_nil]; omega) ?_
  refine EvP.bind (P := fun r => r = da) (EvP.now (List.nil_append _)) ?_
  intro r hr
  rw [hr, List.nil_append]
  clear hr r
  refine EvP.pos (by omega) ?_
  refine EvP.range (L := fun k s i => spec_MergeReports.l0 k i a da b db s (da ++ db)) (xs := a) (Inv := fun pre s => ∃ rest, a = pre ++ rest ∧ s = mrg1 b pre ++ rest) ?_ ?_ _ ⟨a, rfl, rfl⟩
  · rintro pre x rest s hx ⟨rest2, e1, rfl⟩ ih
    have er : rest2 = x :: rest := by
      rw [hx] at e1
      exact (List.append_cancel_left e1).symm
    subst er
    have hl := len_at hx
    have hw : (mrg1 b pre).length = pre.length := by simp [mrg1]
    have hr : rd_T37 (mrg1 b pre ++ x :: rest) (pre.length : Int) = x := by
      have := getD_at (xs := mrg1 b pre ++ x :: rest) rfl z37
      rw [hw] at this
      exact this
    simp only [spec_MergeReports.l0, hr, wrap_at hx (show (a.length : Int) ≤ 9223372036854775807 by omega)]
    refine EvP.pos (by rw [List.length_append, List.length_cons]; omega) (EvP.pos (nat_nonneg _) ?_)
    refine EvP.bind (spec_outcomeOf.ok b x.f0 (by omega)) ?_
    rintro _ rfl
    refine EvP.ite (fun e => ih _ ⟨rest, by rw [hx]; simp, ?_⟩) (fun e => ih _ ⟨rest, by rw [hx]; simp, ?_⟩)
    · rw [Int.toNat_natCast, ← hw, List.set_append_right _ _ (Nat.le_refl _)]
      simp [mrg1, e]
    · simp [mrg1, e]
  · rintro s ⟨rest, e1, rfl⟩
    have er : rest = [] := by
      have : (a ++ rest).length = a.length := by rw [← e1]
      rw [List.length_append] at this
      exact List.eq_nil_of_length_eq_zero (by omega)
    subst er
    have hw : (mrg1 b a).length = a.length := by simp [mrg1]
    rw [List.append_nil]
    simp only [spec_MergeReports.l0]
    refine EvP.neg (by omega) ?_
    refine EvP.range (L := fun k s i => spec_MergeReports.l1 k i a da b db s (da ++ db)) (xs := b) (Inv := fun pre s => s = mrg1 b a ++ mrg2 a pre) ?_ ?_ _ (by simp [mrg2])
    · rintro pre x rest s hx rfl ih
      have hl := len_at hx
      have hw2 : (mrg2 a pre).length ≤ pre.length := List.length_filter_le _ _
      have hr : rd_T37 b (pre.length : Int) = x := getD_at hx _
      simp only [spec_MergeReports.l1, hr, wrap_at hx (show (b.length : Int) ≤ 9223372036854775807 by omega)]
      refine EvP.pos hl (EvP.pos (nat_nonneg _) ?_)
      refine EvP.bind (spec_outcomeOf.ok a x.f0 (by omega)) ?_
      rintro _ rfl
      refine EvP.ite (fun e => EvP.pos (by rw [List.length_append]; omega) (ih _ ?_)) (fun e => ih _ ?_)
      · unfold mrg2
        rw [List.filter_append, List.filter_cons, if_pos (decide_eq_true e)]
        simp
      · unfold mrg2
        rw [List.filter_append, List.filter_cons, if_neg (by simpa using e)]
        simp
    · rintro s rfl
      simp only [spec_MergeReports.l1]
      exact EvP.neg (by omega) (EvP.now rfl)
theorem laws_equalTexts.ok (l : List ByteArray) (hl : (l.length : Int) ≤ 9223372036854775807) : EvP (fun k => laws_equalTexts.f k l l) (· = true) := by
  unfold laws_equalTexts.f
  refine EvP.pos rfl ?_
  refine EvP.range (L := fun k (_ : Unit) i => laws_equalTexts.l0 k l l i) (xs := l) (Inv := fun _ _ => True) ?_ ?_ () trivial
  · rintro pre x rest s hx _ ih
    have hlt := len_at hx
    simp only [laws_equalTexts.l0, wrap_at hx hl]
    exact EvP.pos hlt (EvP.pos (nat_nonneg _) (EvP.pos hlt (EvP.pos trivial (ih () trivial))))
  · rintro s _
    simp only [laws_equalTexts.l0]
    exact EvP.neg (by omega) (EvP.now rfl)
theorem laws_equalReport.ok (rs : List S37) (ds : List ByteArray) (h : (rs.length : Int) ≤ 9223372036854775807) (h2 : (ds.length : Int) ≤ 9223372036854775807) : EvP (fun k => laws_equalReport.f k rs ds rs ds) (· = true) := by
  unfold laws_equalReport.f
  refine EvP.pos rfl ?_
  refine EvP.range (L := fun k (_ : Unit) i => laws_equalReport.l0 k i rs ds rs ds) (xs := rs) (Inv := fun _ _ => True) ?_ ?_ () trivial
  · rintro pre x rest s hx _ ih
    have hlt := len_at hx
    simp only [laws_equalReport.l0, wrap_at hx h]
    exact EvP.pos hlt (EvP.pos (nat_nonneg _) (EvP.pos hlt (EvP.neg (by simp) (ih () trivial))))
  · rintro s _
    simp only [laws_equalReport.l0]
    refine EvP.neg (by omega) ?_
    refine EvP.bind (laws_equalTexts.ok _ h2) ?_
    rintro _ rfl
    exact EvP.now rfl
theorem ocOf_cg (rs : List S37) {s t : ByteArray} (h : s.toList = t.toList) : ocOf rs s = ocOf rs t := by
  unfold ocOf
  rw [h]
theorem ocOf_ge {rs : List S37} (h : ∀ x ∈ rs, -1 ≤ x.f1) (s : ByteArray) : -1 ≤ ocOf rs s := by
  unfold ocOf
  cases e : rs.find? fun x => decide (x.f0.toList = s.toList) with
  | none => decide
  | some x => exact h x (List.mem_of_find?_eq_some e)
theorem mrg_oc (a b : List S37) (h : ∀ x ∈ b, -1 ≤ x.f1) (s : ByteArray) : ocOf (mrg a b) s = if ocOf b s ≥ 0 then ocOf b s else ocOf a s := by
  have e0 : (mrg1 b a).find? (fun x => decide (x.f0.toList = s.toList)) = (a.find? fun x => decide (x.f0.toList = s.toList)).map fun r => ⟨r.f0, if ocOf b r.f0 ≥ 0 then ocOf b r.f0 else r.f1⟩ := by
    unfold mrg1
    rw [List.find?_map]
    rfl
  cases ea : a.find? fun x => decide (x.f0.toList = s.toList) with
  | some r =>
    have hr : r.f0.toList = s.toList := by
      have h1 := List.find?_some (p := fun x : S37 => decide (x.f0.toList = s.toList)) ea
      simpa using h1
    have e1 : ocOf (mrg a b) s = if ocOf b r.f0 ≥ 0 then ocOf b r.f0 else r.f1 := by
      rw [ocOf, mrg, List.find?_append, e0, ea]
      rfl
    have e2 : ocOf a s = r.f1 := by
      rw [ocOf, ea]
      rfl
    rw [e1, e2, ocOf_cg b hr]
  | none =>
    have e2 : ocOf a s = -1 := by
      rw [ocOf, ea]
      rfl
    have e3 : (mrg2 a b).find? (fun x => decide (x.f0.toList = s.toList)) = b.find? fun x => decide (x.f0.toList = s.toList) := by
      unfold mrg2
      rw [List.find?_filter]
      congr 1
      funext x
      by_cases g : x.f0.toList = s.toList
      · rw [ocOf_cg a g, e2]
        simp [g]
      · simp [g]
    have e1 : ocOf (mrg a b) s = ocOf b s := by
      rw [ocOf, mrg, List.find?_append, e0, ea, e3]
      rfl
    have := ocOf_ge h s
    rw [e1, e2]
    by_cases g : ocOf b s ≥ 0
    · rw [if_pos g]
    · rw [if_neg g]
      omega
theorem mrg_nil (a : List S37) : mrg a [] = a := by
  have e : ∀ s, ocOf [] s = -1 := fun _ => rfl
  unfold mrg mrg1 mrg2
  rw [List.filter_nil, List.append_nil]
  conv => rhs; rw [← List.map_id a]
  congr 1
theorem main : laws_FnMergeReports.Pure := by
  intro l0 _ _ hw
  refine EvP.rounds ?_
  unfold laws_FnMergeReports.f
  refine EvP.ite (fun _ => EvP.now rfl) (fun _ => ?_)
  refine EvP.bind (P := fun r => (r.1.length ≤ 5 ∧ r.2.1.length ≤ 2 ∧ r.2.2.1.length ≤ 5 ∧ r.2.2.2.length ≤ 2) ∧ ∀ x ∈ r.2.2.1, -1 ≤ x.f1) ?_ ?_
  · unfold spec_DrawMergeReports.f
    refine EvP.bind (spec_newReader.ok l0 hw) ?_
    rintro ⟨b, p⟩ ⟨hb, hp⟩
    simp only at hb hp
    subst hp
    refine EvP.bind (spec_someReport.ok b 0 hb (by omega) (by omega)) ?_
    rintro ⟨rs, ds, q⟩ ⟨h1, h2, h3, h4, h5⟩
    simp only at h1 h2 h3 h4
    refine EvP.bind (spec_someReport.ok b q hb (by omega) (by omega)) ?_
    rintro ⟨rs2, ds2, q2⟩ ⟨g1, g2, g3, g4, g5⟩
    exact EvP.now ⟨⟨h1, h2, g1, g2⟩, g5⟩
  · rintro ⟨a, da, b, db⟩ ⟨⟨h1, h2, h3, h4⟩, h5⟩
    simp only at h1 h2 h3 h4 h5
    have ha : (a.length : Int) ≤ 1000000 := by omega
    have hb : (b.length : Int) ≤ 1000000 := by omega
    have m1 : (mrg a b).length ≤ a.length + b.length := by
      have hw : (mrg1 b a).length = a.length := by simp [mrg1]
      have hw2 : (mrg2 a b).length ≤ b.length := List.length_filter_le _ _
      rw [mrg, List.length_append]
      omega
    refine EvP.bind (impl_MergeReports.ok a da b db ha hb (by omega) (by omega)) ?_
    rintro _ rfl
    refine EvP.bind (spec_MergeReports.ok a da b db ha hb (by omega) (by omega)) ?_
    rintro _ rfl
    refine EvP.bind (laws_equalReport.ok _ _ (by simp only; omega) (by simp only [List.length_append]; omega)) ?_
    rintro _ rfl
    refine EvP.pos rfl ?_
    refine EvP.range (L := fun k (_ : Unit) i => laws_FnMergeReports.l0 k i a da b db (mrg a b) (da ++ db)) (xs := mrg a b) (Inv := fun _ _ => True) ?_ ?_ () trivial
    · rintro pre x rest s hx _ ih
      have hlt := len_at hx
      have hr : rd_T37 (mrg a b) (pre.length : Int) = x := getD_at hx _
      have hoc := mrg_oc a b h5 x.f0
      simp only [laws_FnMergeReports.l0, hr, wrap_at hx (show ((mrg a b).length : Int) ≤ 9223372036854775807 by omega)]
      refine EvP.pos hlt (EvP.pos (nat_nonneg _) ?_)
      refine EvP.bind (impl_OutcomeOf.ok b db x.f0 (by omega)) ?_
      rintro _ rfl
      refine EvP.ite (fun e => ?_) (fun e => ?_)
      · refine EvP.bind (impl_OutcomeOf.ok a da x.f0 (by omega)) ?_
        rintro _ rfl
        refine EvP.bind (impl_OutcomeOf.ok (mrg a b) (da ++ db) x.f0 (by omega)) ?_
        rintro _ rfl
        exact EvP.pos (by rw [hoc, if_neg (by omega)]) (ih () trivial)
      · refine EvP.bind (impl_OutcomeOf.ok (mrg a b) (da ++ db) x.f0 (by omega)) ?_
        rintro _ rfl
        exact EvP.pos (by rw [hoc, if_pos (by omega)]) (ih () trivial)
    · rintro s _
      simp only [laws_FnMergeReports.l0]
      refine EvP.neg (by omega) ?_
      refine EvP.bind (impl_MergeReports.ok a da [] [] ha (by simp) (by omega) (by simp)) ?_
      rintro _ rfl
      rw [mrg_nil, List.append_nil]
      refine EvP.bind (laws_equalReport.ok _ _ (by simp only; omega) (by simp only; omega)) ?_
      rintro _ rfl
      refine EvP.pos rfl (EvP.now ?_)
      rw [wrap_id (by omega) (by omega), List.length_append]
      simp
end QFnMergeReports
theorem FnMergeReports : laws_FnMergeReports.Pure := QFnMergeReports.main
end Go.Proofs.Ytfpoihcpjmkbkaa.Pure

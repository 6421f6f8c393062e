/- FnFailedIds answers true for every code: the program's failed ids are the reference's, and as many as the counts of OcFail and OcError together. Conditions: those of the printed statement alone (bounds on sizes that every input meets). -/
import Derived.Test.YtfpoihcpjmkbkaaOFnFailedIdsx4
import Derived.Test.YtfpoihcpjmkbkaaBase
namespace Go.Proofs.Ytfpoihcpjmkbkaa.Pure
open Go.RowKit Go.Proofs.Ytfpoihcpjmkbkaa.OFnFailedIds Go.Proofs.YtfpoihcpjmkbkaaW.PrintWords Go.Proofs.YtfpoihcpjmkbkaaW.PrintLast Go.Proofs.YtfpoihcpjmkbkaaW.PrintMore Go.Proofs.Ytfpoihcpjmkbkaa.Base
set_option linter.unusedVariables false
set_option linter.unusedSimpArgs false
namespace QFnFailedIds
/-! #### the reader of draws -/
def Bytes (b : List Int) : Prop := b.length ≤ 2000 ∧ ∀ x ∈ b, 0 ≤ x ∧ x ≤ 255
theorem spec_newReader.ok (l0 : List Int) (h : ∀ x ∈ l0, (Lit.int .u8 x).wf = true) : EvP (fun _ => spec_newReader.f l0) (fun r => Bytes r.1 ∧ r.2 = 0) := by
  have hw : ∀ x ∈ l0, 0 ≤ x ∧ x ≤ 255 := by
    intro x hx
    have := h x hx
    simp [Lit.wf, IntKind.min, IntKind.max, IntKind.signed, IntKind.bits] at this
    omega
  unfold spec_newReader.f
  refine EvP.ite (fun h1 => EvP.pos (by omega) (EvP.now ⟨⟨?_, fun x hx => hw x (List.mem_of_mem_take hx)⟩, rfl⟩)) (fun h1 => EvP.now ⟨⟨by simp only; omega, hw⟩, rfl⟩)
  show (l0.take 2000).length ≤ 2000
  simp
  omega
theorem rd_mem {l : List Int} {i : Int} (h0 : 0 ≤ i) (h1 : i < (l.length : Int)) : rd l i ∈ l := by
  unfold rd
  rw [List.getD_eq_getElem?_getD, List.getElem?_eq_getElem (by omega)]
  exact List.getElem_mem _
theorem rdOf_mem {α : Type} (d : α) {l : List α} {i : Int} (h0 : 0 ≤ i) (h1 : i < (l.length : Int)) : rdOf d l i ∈ l := by
  unfold rdOf
  rw [List.getD_eq_getElem?_getD, List.getElem?_eq_getElem (by omega)]
  exact List.getElem_mem _
theorem xor_nonneg (a b : Int) (ha : 0 ≤ a) (ha1 : a < 9223372036854775808) (hb : 0 ≤ b) (hb1 : b < 9223372036854775808) : 0 ≤ Go.bits .xor .i64 a b := by
  obtain ⟨m, rfl⟩ := Int.eq_ofNat_of_zero_le ha
  obtain ⟨n, rfl⟩ := Int.eq_ofNat_of_zero_le hb
  have hx : m ^^^ n < 2 ^ 63 := Nat.xor_lt_two_pow (by omega) (by omega)
  have h1 : (BitVec.ofInt 64 (m : Int)).toNat = m := by
    rw [BitVec.ofInt_natCast, BitVec.toNat_ofNat]; exact Nat.mod_eq_of_lt (by omega)
  have h2 : (BitVec.ofInt 64 (n : Int)).toNat = n := by
    rw [BitVec.ofInt_natCast, BitVec.toNat_ofNat]; exact Nat.mod_eq_of_lt (by omega)
  show 0 ≤ IntKind.i64.wrap ((BitVec.ofInt 64 (m : Int) ^^^ BitVec.ofInt 64 (n : Int)).toNat : Int)
  rw [BitVec.toNat_xor, h1, h2, IntKind.wrap_i64]
  omega
theorem tmod_in (a n : Int) (ha : 0 ≤ a) (hn : 0 < n) : 0 ≤ Int.tmod a n ∧ Int.tmod a n < n := by
  rw [Int.tmod_eq_emod_of_nonneg ha]
  exact ⟨Int.emod_nonneg _ (by omega), Int.emod_lt_of_pos _ hn⟩
theorem tdiv_in (a n : Int) (ha : 0 ≤ a) (hn : 0 < n) : 0 ≤ Int.tdiv a n ∧ Int.tdiv a n ≤ a := by
  rw [Int.tdiv_eq_ediv_of_nonneg ha]
  exact ⟨Int.ediv_nonneg ha (by omega), Int.ediv_le_self _ ha⟩
theorem spec_reader_pick.ok (b : List Int) (p n : Int) (hb : Bytes b) (h0 : 0 ≤ p) (h1 : p ≤ 1000000) : EvP (fun k => spec_reader_pick.f k b p n) (fun r => 0 ≤ r.1 ∧ (0 < n → r.1 < n) ∧ r.2 = p + 1) := by
  have e1 : wrap64 (p + 1) = p + 1 := wrap_id (by omega) (by omega)
  have e2 : wrap64 (p + 1 - 1) = p := by rw [wrap_id (by omega) (by omega)]; omega
  have none' : EvP (fun k => spec_reader_pick.j0 k n true b (p + 1)) (fun r => 0 ≤ r.1 ∧ (0 < n → r.1 < n) ∧ r.2 = p + 1) := by
    refine EvP.succ ?_
    simp only [spec_reader_pick.j0]
    exact EvP.pos (by simp) (EvP.now ⟨by simp, fun h => h, by simp⟩)
  unfold spec_reader_pick.f
  rw [e1]
  refine EvP.ite (fun _ => none') (fun hn => ?_)
  by_cases hl : b.length = 0
  · have : ((b.length : Int) == 0) = true := by simp [hl]
    rw [this]
    exact none'
  · have : ((b.length : Int) == 0) = false := by simp [hl]
    rw [this]
    have hr : ∀ i : Int, 0 ≤ i → i < (b.length : Int) → 0 ≤ rd b i ∧ rd b i ≤ 255 := fun i g0 g1 => hb.2 _ (rd_mem g0 g1)
    refine EvP.succ ?_
    simp only [spec_reader_pick.j0]
    refine EvP.neg (by simp) ?_
    simp only [e2]
    refine EvP.ite (fun hp => EvP.pos h0 (EvP.neg (by omega) (EvP.now ?_))) (fun hp => ?_)
    · have h := hr p h0 hp
      rw [wrap_id (by omega) (by omega)]
      have := tmod_in (rd b p) n h.1 (by omega)
      exact ⟨this.1, fun _ => this.2, by simp⟩
    · have w7 : wrap64 (p * 7) = p * 7 := wrap_id (by omega) (by omega)
      have w73 : wrap64 (p * 7 + 3) = p * 7 + 3 := wrap_id (by omega) (by omega)
      have w29 : wrap64 (p * 29) = p * 29 := wrap_id (by omega) (by omega)
      simp only [w7, w73, w29]
      have m1 := tmod_in p (b.length : Int) h0 (by omega)
      have m2 := tmod_in (p * 7 + 3) (b.length : Int) (by omega) (by omega)
      have d1 := tdiv_in p (b.length : Int) h0 (by omega)
      have r1 := hr _ m1.1 m1.2
      have r2 := hr _ m2.1 m2.2
      refine EvP.neg (by omega) (EvP.pos m1.1 (EvP.pos m1.2 (EvP.pos m2.1 (EvP.pos m2.2 (EvP.neg (by omega) (EvP.now ?_))))))
      generalize rd b (Int.tmod p (b.length : Int)) = u1 at *
      generalize rd b (Int.tmod (p * 7 + 3) (b.length : Int)) = u2 at *
      generalize Int.tdiv p (b.length : Int) = u3 at *
      have a1 : wrap64 u1 = u1 := wrap_id (by omega) (by omega)
      have a2 : wrap64 u2 = u2 := wrap_id (by omega) (by omega)
      have a3 : wrap64 u3 = u3 := wrap_id (by omega) (by omega)
      have a4 : wrap64 (u1 * 131) = u1 * 131 := wrap_id (by omega) (by omega)
      have a5 : wrap64 (u2 * 1117) = u2 * 1117 := wrap_id (by omega) (by omega)
      have a6 : wrap64 (u3 * 53) = u3 * 53 := wrap_id (by omega) (by omega)
      have a7 : wrap64 (u1 * 131 + u2 * 1117) = u1 * 131 + u2 * 1117 := wrap_id (by omega) (by omega)
      have a8 : wrap64 (u1 * 131 + u2 * 1117 + p * 29) = u1 * 131 + u2 * 1117 + p * 29 := wrap_id (by omega) (by omega)
      have a9 : wrap64 (u1 * 131 + u2 * 1117 + p * 29 + u3 * 53) = u1 * 131 + u2 * 1117 + p * 29 + u3 * 53 := wrap_id (by omega) (by omega)
      simp only [a1, a2, a3, a4, a5, a6, a7, a8, a9]
      have hE : 0 ≤ u1 * 131 + u2 * 1117 + p * 29 + u3 * 53 ∧ u1 * 131 + u2 * 1117 + p * 29 + u3 * 53 ≤ 1000000000 := by omega
      generalize u1 * 131 + u2 * 1117 + p * 29 + u3 * 53 = E at *
      have d2 := tdiv_in E 64 hE.1 (by omega)
      have a10 : wrap64 (Int.tdiv E 64) = Int.tdiv E 64 := wrap_id (by omega) (by omega)
      rw [a10]
      have := tmod_in (Go.bits .xor .i64 E (Int.tdiv E 64)) n (xor_nonneg _ _ hE.1 (by omega) d2.1 (by omega)) (by omega)
      exact ⟨this.1, fun _ => this.2, by simp⟩
theorem spec_reader_one.ok (b : List Int) (p : Int) (l : List Int) (hb : Bytes b) (h0 : 0 ≤ p) (h1 : p ≤ 1000000) (hl : 0 < l.length) : EvP (fun k => spec_reader_one.f k b p l) (fun r => r.1 ∈ l ∧ r.2 = p + 1) := by
  unfold spec_reader_one.f
  refine EvP.bind (spec_reader_pick.ok b p _ hb h0 h1) ?_
  rintro ⟨i, q⟩ ⟨g0, g1, rfl⟩
  have g2 := g1 (by omega)
  exact EvP.pos g0 (EvP.pos g2 (EvP.now ⟨rd_mem g0 g2, rfl⟩))
theorem spec_reader_of.ok (b : List Int) (p : Int) (l : List ByteArray) (hb : Bytes b) (h0 : 0 ≤ p) (h1 : p ≤ 1000000) (hl : 0 < l.length) : EvP (fun k => spec_reader_of.f k b p l) (fun r => r.1 ∈ l ∧ r.2 = p + 1) := by
  unfold spec_reader_of.f
  refine EvP.bind (spec_reader_pick.ok b p _ hb h0 h1) ?_
  rintro ⟨i, q⟩ ⟨g0, g1, rfl⟩
  have g2 := g1 (by omega)
  exact EvP.pos g0 (EvP.pos g2 (EvP.now ⟨rdOf_mem _ g0 g2, rfl⟩))
/-! #### drawn reports -/
theorem spec_aModule.ok (b : List Int) (p : Int) (hb : Bytes b) (h0 : 0 ≤ p) (h1 : p ≤ 1000000) : EvP (fun k => spec_aModule.f k b p) (fun r => r.1.size = 1 ∧ r.2 = p + 1) := by
  unfold spec_aModule.f
  refine EvP.bind (spec_reader_of.ok b p _ hb h0 h1 (by simp)) ?_
  rintro ⟨s, q⟩ ⟨g0, rfl⟩
  refine EvP.now ⟨?_, rfl⟩
  simp only [List.mem_cons, List.not_mem_nil, or_false] at g0
  rcases g0 with rfl | rfl | rfl | rfl <;> rfl
theorem spec_anId.ok (b : List Int) (p : Int) (hb : Bytes b) (h0 : 0 ≤ p) (h1 : p ≤ 900000) : EvP (fun k => spec_anId.f k b p) (fun r => r.1.size = 3 ∧ r.2 = p + 2) := by
  unfold spec_anId.f
  refine EvP.bind (spec_aModule.ok b p hb h0 (by omega)) ?_
  rintro ⟨s, q⟩ ⟨g0, rfl⟩
  refine EvP.pos (by simp only at g0 ⊢; omega) ?_
  refine EvP.bind (spec_reader_of.ok b (p + 1) _ hb (by omega) (by omega) (by simp)) ?_
  rintro ⟨t, q⟩ ⟨g1, rfl⟩
  have g2 : t.size = 1 := by
    simp only [List.mem_cons, List.not_mem_nil, or_false] at g1
    rcases g1 with rfl | rfl | rfl | rfl | rfl <;> rfl
  simp only at g0
  refine EvP.pos ?_ (EvP.now ⟨?_, by simp only; omega⟩)
  · simp [ByteArray.size_append, g0, g2]
    decide
  · simp [ByteArray.size_append, g0, g2]
    decide
theorem spec_someReport.ok (b : List Int) (p : Int) (hb : Bytes b) (h0 : 0 ≤ p) (h1 : p ≤ 100000) : EvP (fun k => spec_someReport.f k b p) (fun r => r.1.length ≤ 5 ∧ r.2.1.length ≤ 2 ∧ p ≤ r.2.2 ∧ r.2.2 ≤ p + 40) := by
  unfold spec_someReport.f
  refine EvP.bind (spec_reader_one.ok b p _ hb h0 (by omega) (by simp)) ?_
  rintro ⟨n, q⟩ ⟨g0, rfl⟩
  have hn : 0 ≤ n ∧ n ≤ 5 := by
    simp only [List.mem_cons, List.not_mem_nil, or_false] at g0
    omega
  have j2 : ∀ (x : Bool) (q : Int) (rs : List S37) (ds : List ByteArray), 0 ≤ q → q ≤ 200000 → q ≤ p + 30 → p ≤ q → rs.length ≤ 5 → ds.length ≤ 2 → (x = true → 0 < rs.length) →
      EvP (fun k => spec_someReport.j2 k x b q rs ds) (fun r => r.1.length ≤ 5 ∧ r.2.1.length ≤ 2 ∧ p ≤ r.2.2 ∧ r.2.2 ≤ p + 40) := by
    intro x q rs ds a0 a1 a2 a3 a4 a5 a6
    refine EvP.succ ?_
    simp only [spec_someReport.j2]
    refine EvP.ite (fun hx => ?_) (fun _ => EvP.now ⟨a4, a5, a3, by simp only; omega⟩)
    refine EvP.bind (spec_reader_of.ok b q _ hb (by omega) (by omega) (by simp)) ?_
    rintro ⟨s, q1⟩ ⟨_, rfl⟩
    refine EvP.bind (spec_reader_one.ok b (q + 1) _ hb (by omega) (by omega) (by simp)) ?_
    rintro ⟨s, q1⟩ ⟨_, rfl⟩
    have := a6 hx
    exact EvP.pos (by omega) (EvP.now ⟨by simpa using a4, a5, by simp only; omega, by simp only; omega⟩)
  have l1 : ∀ (n : Int) (s : Int × List ByteArray) (rs : List S37), (0 ≤ s.1 ∧ s.1 + 2 * n ≤ p + 22 ∧ p ≤ s.1 ∧ (s.2.length : Int) + n ≤ 2 ∧ 0 ≤ n) → rs.length ≤ 5 →
      EvP (fun k => spec_someReport.l1 k n b s.1 rs s.2) (fun r => r.1.length ≤ 5 ∧ r.2.1.length ≤ 2 ∧ p ≤ r.2.2 ∧ r.2.2 ≤ p + 40) := by
    intro n s rs hs hrs
    refine EvP.down (L := fun k (s : Int × List ByteArray) n => spec_someReport.l1 k n b s.1 rs s.2) (Inv := fun n s => 0 ≤ s.1 ∧ s.1 + 2 * n ≤ p + 22 ∧ p ≤ s.1 ∧ (s.2.length : Int) + n ≤ 2 ∧ 0 ≤ n) ?_ ?_ n s hs
    · rintro n ⟨q, ds⟩ hn ⟨a0, a1, a2, a3, a4⟩ ih
      simp only [spec_someReport.l1]
      simp only at a0 a1 a2 a3
      refine EvP.pos hn ?_
      refine EvP.bind (spec_reader_of.ok b q _ hb (by omega) (by omega) (by simp)) ?_
      rintro ⟨s, q1⟩ ⟨_, rfl⟩
      simp only
      rw [wrap_id (x := n - 1) (by omega) (by omega)]
      exact EvP.pos (by omega) (ih (q + 1, ds ++ [s]) ⟨by simp only; omega, by simp only; omega, by simp only; omega, by simp only [List.length_append, List.length_singleton]; omega, by omega⟩)
    · rintro n ⟨q, ds⟩ hn ⟨a0, a1, a2, a3, a4⟩
      simp only [spec_someReport.l1]
      simp only at a0 a1 a2 a3
      refine EvP.neg (by omega) (EvP.ite (fun h => ?_) (fun h => ?_))
      · refine EvP.bind (spec_reader_pick.ok b q _ hb (by omega) (by omega)) ?_
        rintro ⟨i, q1⟩ ⟨_, _, rfl⟩
        exact j2 _ _ _ _ (by simp only; omega) (by simp only; omega) (by simp only; omega) (by simp only; omega) hrs (by omega) (fun _ => by omega)
      · exact j2 _ _ _ _ (by omega) (by omega) (by omega) (by omega) hrs (by omega) (fun h => by cases h)
  refine EvP.down (L := fun k (s : Int × List S37) n => spec_someReport.l0 k n b s.1 s.2 []) (Inv := fun n s => 0 ≤ s.1 ∧ s.1 + 3 * n ≤ p + 1 + 15 ∧ p ≤ s.1 ∧ (s.2.length : Int) + n ≤ 5 ∧ 0 ≤ n) ?_ ?_ n (p + 1, []) ?_
  · rintro n ⟨q, rs⟩ hn ⟨a0, a1, a2, a3, a4⟩ ih
    simp only [spec_someReport.l0]
    simp only at a0 a1 a2 a3
    refine EvP.pos hn ?_
    refine EvP.bind (spec_anId.ok b q hb (by omega) (by omega)) ?_
    rintro ⟨s, q1⟩ ⟨_, rfl⟩
    refine EvP.bind (spec_reader_one.ok b (q + 2) _ hb (by omega) (by omega) (by simp)) ?_
    rintro ⟨i, q1⟩ ⟨_, rfl⟩
    simp only
    rw [wrap_id (x := n - 1) (by omega) (by omega)]
    exact EvP.pos (by omega) (ih (q + 2 + 1, rs ++ [⟨s, i⟩]) ⟨by simp only; omega, by simp only; omega, by simp only; omega, by simp only [List.length_append, List.length_singleton]; omega, by omega⟩)
  · rintro n ⟨q, rs⟩ hn ⟨a0, a1, a2, a3, a4⟩
    simp only [spec_someReport.l0]
    simp only at a0 a1 a2 a3
    refine EvP.neg (by omega) ?_
    refine EvP.bind (spec_reader_one.ok b q _ hb (by omega) (by omega) (by simp)) ?_
    rintro ⟨i, q1⟩ ⟨g1, rfl⟩
    have hi : 0 ≤ i ∧ i ≤ 2 := by
      simp only [List.mem_cons, List.not_mem_nil, or_false] at g1
      omega
    exact l1 i (q + 1, []) rs ⟨by simp only; omega, by simp only; omega, by simp only; omega, by simp; omega, by omega⟩ (by omega)
  · exact ⟨by simp only; omega, by simp only; omega, by simp only; omega, by simp; omega, by omega⟩
/-- How many results end so. -/
def cntOc (rs : List S37) (oc : Int) : Nat := rs.countP fun x => decide (x.f1 = oc)
theorem cntOc_le (rs : List S37) (oc : Int) : cntOc rs oc ≤ rs.length := List.countP_le_length
theorem cntOc_snoc (rs : List S37) (x : S37) (oc : Int) : cntOc (rs ++ [x]) oc = cntOc rs oc + if x.f1 = oc then 1 else 0 := by
  simp [cntOc, List.countP_append, List.countP_cons]
theorem cntOc_cons (rs : List S37) (x : S37) (oc : Int) : cntOc (x :: rs) oc = cntOc rs oc + if x.f1 = oc then 1 else 0 := by
  simp [cntOc, List.countP_cons]
def bad (x : S37) : Bool := x.f1 == 1 || x.f1 == 2
/-- The ids of the bad ones. -/
def badIds (rs : List S37) : List ByteArray := (rs.filter bad).map (·.f0)
theorem badIds_snoc (rs : List S37) (x : S37) : badIds (rs ++ [x]) = badIds rs ++ if bad x = true then [x.f0] else [] := by
  unfold badIds
  rw [List.filter_append, List.map_append]
  congr 1
  by_cases h : bad x = true <;> simp [List.filter_cons, h]
theorem badIds_le (rs : List S37) : (badIds rs).length ≤ rs.length := by
  unfold badIds
  rw [List.length_map]
  exact List.length_filter_le _ _
theorem badIds_len (rs : List S37) : (badIds rs).length = cntOc rs 1 + cntOc rs 2 := by
  induction rs with
  | nil => rfl
  | cons x rs ih =>
    rw [cntOc_cons, cntOc_cons]
    unfold badIds at ih ⊢
    rw [List.length_map] at ih ⊢
    rw [List.filter_cons]
    by_cases h1 : x.f1 = 1
    · have : bad x = true := by simp [bad, h1]
      rw [if_pos this, if_pos h1, if_neg (by omega), List.length_cons, ih]
      omega
    · by_cases h2 : x.f1 = 2
      · have : bad x = true := by simp [bad, h2]
        rw [if_pos this, if_neg h1, if_pos h2, List.length_cons, ih]
        omega
      · have : bad x = false := by simp [bad, h1, h2]
        rw [this, if_neg (by simp), if_neg h1, if_neg h2, ih]
        omega
theorem impl_isBad.ok (n : Int) : EvP (fun _ => impl_isBad.f n) (· = (n == 1 || n == 2)) := by
  unfold impl_isBad.f
  refine EvP.ite (fun h => EvP.now (by simp [h])) (fun h => EvP.now ?_)
  have : (n == 1) = false := by simpa using h
  simp [this]
theorem impl_FailedIds.ok (rs : List S37) (ds : List ByteArray) (h : (rs.length : Int) ≤ 8796093022208) : EvP (fun k => impl_FailedIds.f k rs ds) (· = badIds rs) := by
  unfold impl_FailedIds.f
  refine EvP.range (L := fun k s i => impl_FailedIds.l0 k s rs (rs.length : Int) i) (xs := rs) (Inv := fun pre s => s = badIds pre) ?_ ?_ [] rfl
  · rintro pre x rest s hx rfl ih
    have hl := len_at hx
    have hc := badIds_le pre
    have hr : rd_T37 rs (pre.length : Int) = x := getD_at hx _
    simp only [impl_FailedIds.l0, hr, wrap_at hx (by omega)]
    refine EvP.pos hl (EvP.pos (nat_nonneg _) (EvP.pos hl ?_))
    refine EvP.bind (impl_isBad.ok _) ?_
    rintro _ rfl
    refine EvP.ite (fun e => EvP.pos (by omega) (ih _ ?_)) (fun e => ih _ ?_)
    · rw [badIds_snoc, if_pos (show bad x = true from e)]
    · rw [badIds_snoc, if_neg (show ¬ bad x = true from e), List.append_nil]
  · rintro s rfl
    simp only [impl_FailedIds.l0]
    exact EvP.neg (by omega) (EvP.now rfl)
theorem spec_isBad.ok (n : Int) : EvP (fun _ => spec_isBad.f n) (· = (n == 1 || n == 2)) := by
  unfold spec_isBad.f
  refine EvP.ite (fun h => EvP.now (by simp [h])) (fun h => EvP.now ?_)
  have : (n == 1) = false := by simpa using h
  simp [this]
theorem spec_failedIds.ok (rs : List S37) (ds : List ByteArray) (h : (rs.length : Int) ≤ 8796093022208) : EvP (fun k => spec_failedIds.f k rs ds) (· = badIds rs) := by
  unfold spec_failedIds.f
  refine EvP.range (L := fun k s i => spec_failedIds.l0 k s i rs ds) (xs := rs) (Inv := fun pre s => s = badIds pre) ?_ ?_ [] rfl
  · rintro pre x rest s hx rfl ih
    have hl := len_at hx
    have hc := badIds_le pre
    have hr : rd_T37 rs (pre.length : Int) = x := getD_at hx _
    simp only [spec_failedIds.l0, hr, wrap_at hx (by omega)]
    refine EvP.pos hl (EvP.pos (nat_nonneg _) ?_)
    refine EvP.bind (spec_isBad.ok _) ?_
    rintro _ rfl
    refine EvP.ite (fun e => EvP.pos (by omega) (ih _ ?_)) (fun e => ih _ ?_)
    · rw [badIds_snoc, if_pos (show bad x = true from e)]
    · rw [badIds_snoc, if_neg (show ¬ bad x = true from e), List.append_nil]
  · rintro s rfl
    simp only [spec_failedIds.l0]
    exact EvP.neg (by omega) (EvP.now rfl)
theorem spec_FailedIds.ok (rs : List S37) (ds : List ByteArray) (h : (rs.length : Int) ≤ 8796093022208) : EvP (fun k => spec_FailedIds.f k rs ds) (· = badIds rs) := by
  unfold spec_FailedIds.f
  refine EvP.bind (spec_failedIds.ok rs ds h) ?_
  rintro _ rfl
  exact EvP.now rfl
theorem impl_CountOutcome.ok (rs : List S37) (ds : List ByteArray) (oc : Int) (h : (rs.length : Int) ≤ 9223372036854775807) : EvP (fun k => impl_CountOutcome.f k rs ds oc) (· = (cntOc rs oc : Int)) := by
  unfold impl_CountOutcome.f
  refine EvP.range (L := fun k s i => impl_CountOutcome.l0 k oc s rs (rs.length : Int) i) (xs := rs) (Inv := fun pre s => s = (cntOc pre oc : Int)) ?_ ?_ 0 rfl
  · rintro pre x rest s hx rfl ih
    have hl := len_at hx
    have hc := cntOc_le pre oc
    have hr : rd_T37 rs (pre.length : Int) = x := getD_at hx _
    simp only [impl_CountOutcome.l0, hr, wrap_at hx h]
    refine EvP.pos hl (EvP.pos (nat_nonneg _) (EvP.pos hl ?_))
    refine EvP.ite (fun e => ?_) (fun e => ?_)
    · rw [wrap_id (by omega) (by omega)]
      exact ih _ (by rw [cntOc_snoc, if_pos e]; rfl)
    · exact ih _ (by rw [cntOc_snoc, if_neg e]; rfl)
  · rintro s rfl
    simp only [impl_CountOutcome.l0]
    exact EvP.neg (by omega) (EvP.now rfl)
theorem laws_equalTexts.ok (l : List ByteArray) (hl : (l.length : Int) ≤ 9223372036854775807) : EvP (fun k => laws_equalTexts.f k l l) (· = true) := by
  unfold laws_equalTexts.f
  refine EvP.pos rfl ?_
  refine EvP.range (L := fun k (_ : Unit) i => laws_equalTexts.l0 k l l i) (xs := l) (Inv := fun _ _ => True) ?_ ?_ () trivial
  · rintro pre x rest s hx _ ih
    have hlt := len_at hx
    simp only [laws_equalTexts.l0, wrap_at hx hl]
    exact EvP.pos hlt (EvP.pos (nat_nonneg _) (EvP.pos hlt (EvP.pos trivial (ih () trivial))))
  · rintro s _
    simp only [laws_equalTexts.l0]
    exact EvP.neg (by omega) (EvP.now rfl)
theorem spec_DrawFailedIds.ok (l0 : List Int) (h : ∀ x ∈ l0, (Lit.int .u8 x).wf = true) : EvP (fun k => spec_DrawFailedIds.f k l0) (fun r => r.1.length ≤ 5 ∧ r.2.length ≤ 2) := by
  unfold spec_DrawFailedIds.f
  refine EvP.bind (spec_newReader.ok l0 h) ?_
  rintro ⟨b, p⟩ ⟨hb, rfl⟩
  refine EvP.bind (spec_someReport.ok b 0 hb (by omega) (by omega)) ?_
  rintro ⟨rs, ds, q⟩ ⟨h1, h2, h3, h4⟩
  exact EvP.now ⟨h1, h2⟩
theorem main : laws_FnFailedIds.Pure := by
  intro l0 _ _ hw
  refine EvP.rounds ?_
  unfold laws_FnFailedIds.f
  refine EvP.ite (fun _ => EvP.now rfl) (fun _ => ?_)
  refine EvP.bind (spec_DrawFailedIds.ok l0 hw) ?_
  rintro ⟨rs, ds⟩ ⟨h1, h2⟩
  simp only at h1 h2
  have hl : (rs.length : Int) ≤ 8796093022208 := by omega
  have hb := badIds_le rs
  refine EvP.bind (impl_FailedIds.ok rs ds hl) ?_
  rintro _ rfl
  refine EvP.bind (spec_FailedIds.ok rs ds hl) ?_
  rintro _ rfl
  refine EvP.bind (laws_equalTexts.ok _ (by omega)) ?_
  rintro _ rfl
  refine EvP.pos rfl ?_
  refine EvP.bind (impl_CountOutcome.ok rs ds 1 (by omega)) ?_
  rintro _ rfl
  refine EvP.bind (impl_CountOutcome.ok rs ds 2 (by omega)) ?_
  rintro _ rfl
  have c1 := cntOc_le rs 1
  have c2 := cntOc_le rs 2
  rw [wrap_id (by omega) (by omega), badIds_len]
  exact EvP.now (by simp)
end QFnFailedIds
theorem FnFailedIds : laws_FnFailedIds.Pure := QFnFailedIds.main
end Go.Proofs.Ytfpoihcpjmkbkaa.Pure

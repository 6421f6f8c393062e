/- FnApplyPatches answers true for every code: the program's ApplyPatches answers as the reference's does, no patches leave the base as it is, and patches may be applied in two parts. Conditions: those of the printed statement alone (bounds on sizes that every input meets). -/
import Derived.Test.YtfflomiadjgbpaaOFnApplyPatchesx5
import Derived.Test.YtfflomiadjgbpaaBase
namespace Go.Proofs.Ytfflomiadjgbpaa.Pure
open Go.RowKit Go.Proofs.Ytfflomiadjgbpaa.OFnApplyPatches Go.Proofs.YtfflomiadjgbpaaW.PrintWords Go.Proofs.YtfflomiadjgbpaaW.PrintLast Go.Proofs.YtfflomiadjgbpaaW.PrintMore Go.Proofs.Ytfflomiadjgbpaa.Base
set_option linter.unusedVariables false
set_option linter.unusedSimpArgs false
namespace QFnApplyPatches
/-! #### the reader of draws -/
def Bytes (b : List Int) : Prop := b.length ≤ 2000 ∧ ∀ x ∈ b, 0 ≤ x ∧ x ≤ 255
theorem spec_newReader.ok (l0 : List Int) (h : ∀ x ∈ l0, (Lit.int .u8 x).wf = true) : EvP (fun _ => spec_newReader.f l0) (fun r => Bytes r.1 ∧ r.2 = 0) := by
  have hw : ∀ x ∈ l0, 0 ≤ x ∧ x ≤ 255 := by
    intro x hx
    have := h x hx
    simp [Lit.wf, IntKind.min, IntKind.max, IntKind.signed, IntKind.bits] at this
    omega
  unfold spec_newReader.f
  refine EvP.ite (fun h1 => EvP.pos (by omega) (EvP.now ⟨⟨?_, fun x hx => hw x (List.mem_of_mem_take hx)⟩, rfl⟩)) (fun h1 => EvP.now ⟨⟨by simp only; omega, hw⟩, rfl⟩)
  show (l0.take 2000).length ≤ 2000
  simp
  omega
theorem rd_mem {l : List Int} {i : Int} (h0 : 0 ≤ i) (h1 : i < (l.length : Int)) : rd l i ∈ l := by
  unfold rd
  rw [List.getD_eq_getElem?_getD, List.getElem?_eq_getElem (by omega)]
  exact List.getElem_mem _
theorem rdOf_mem {α : Type} (d : α) {l : List α} {i : Int} (h0 : 0 ≤ i) (h1 : i < (l.length : Int)) : rdOf d l i ∈ l := by
  unfold rdOf
  rw [List.getD_eq_getElem?_getD, List.getElem?_eq_getElem (by omega)]
  exact List.getElem_mem _
theorem xor_nonneg (a b : Int) (ha : 0 ≤ a) (ha1 : a < 9223372036854775808) (hb : 0 ≤ b) (hb1 : b < 9223372036854775808) : 0 ≤ Go.bits .xor .i64 a b := by
  obtain ⟨m, rfl⟩ := Int.eq_ofNat_of_zero_le ha
  obtain ⟨n, rfl⟩ := Int.eq_ofNat_of_zero_le hb
  have hx : m ^^^ n < 2 ^ 63 := Nat.xor_lt_two_pow (by omega) (by omega)
  have h1 : (BitVec.ofInt 64 (m : Int)).toNat = m := by
    rw [BitVec.ofInt_natCast, BitVec.toNat_ofNat]; exact Nat.mod_eq_of_lt (by omega)
  have h2 : (BitVec.ofInt 64 (n : Int)).toNat = n := by
    rw [BitVec.ofInt_natCast, BitVec.toNat_ofNat]; exact Nat.mod_eq_of_lt (by omega)
  show 0 ≤ IntKind.i64.wrap ((BitVec.ofInt 64 (m : Int) ^^^ BitVec.ofInt 64 (n : Int)).toNat : Int)
  rw [BitVec.toNat_xor, h1, h2, IntKind.wrap_i64]
  omega
theorem tmod_in (a n : Int) (ha : 0 ≤ a) (hn : 0 < n) : 0 ≤ Int.tmod a n ∧ Int.tmod a n < n := by
  rw [Int.tmod_eq_emod_of_nonneg ha]
  exact ⟨Int.emod_nonneg _ (by omega), Int.emod_lt_of_pos _ hn⟩
theorem tdiv_in (a n : Int) (ha : 0 ≤ a) (hn : 0 < n) : 0 ≤ Int.tdiv a n ∧ Int.tdiv a n ≤ a := by
  rw [Int.tdiv_eq_ediv_of_nonneg ha]
  exact ⟨Int.ediv_nonneg ha (by omega), Int.ediv_le_self _ ha⟩
theorem spec_reader_pick.ok (b : List Int) (p n : Int) (hb : Bytes b) (h0 : 0 ≤ p) (h1 : p ≤ 1000000) : EvP (fun k => spec_reader_pick.f k b p n) (fun r => 0 ≤ r.1 ∧ (0 < n → r.1 < n) ∧ r.2 = p + 1) := by
  have e1 : wrap64 (p + 1) = p + 1 := wrap_id (by omega) (by omega)
  have e2 : wrap64 (p + 1 - 1) = p := by rw [wrap_id (by omega) (by omega)]; omega
  have none' : EvP (fun k => spec_reader_pick.j0 k n true b (p + 1)) (fun r => 0 ≤ r.1 ∧ (0 < n → r.1 < n) ∧ r.2 = p + 1) := by
    refine EvP.succ ?_
    simp only [spec_reader_pick.j0]
    exact EvP.pos (by simp) (EvP.now ⟨by simp, fun h => h, by simp⟩)
  unfold spec_reader_pick.f
  rw [e1]
  refine EvP.ite (fun _ => none') (fun hn => ?_)
  by_cases hl : b.length = 0
  · have : ((b.length : Int) == 0) = true := by simp [hl]
    rw [this]
    exact none'
  · have : ((b.length : Int) == 0) = false := by simp [hl]
    rw [this]
    have hr : ∀ i : Int, 0 ≤ i → i < (b.length : Int) → 0 ≤ rd b i ∧ rd b i ≤ 255 := fun i g0 g1 => hb.2 _ (rd_mem g0 g1)
    refine EvP.succ ?_
    simp only [spec_reader_pick.j0]
    refine EvP.neg (by simp) ?_
    simp only [e2]
    refine EvP.ite (fun hp => EvP.pos h0 (EvP.neg (by omega) (EvP.now ?_))) (fun hp => ?_)
    · have h := hr p h0 hp
      rw [wrap_id (by omega) (by omega)]
      have := tmod_in (rd b p) n h.1 (by omega)
      exact ⟨this.1, fun _ => this.2, by simp⟩
    · have w7 : wrap64 (p * 7) = p * 7 := wrap_id (by omega) (by omega)
      have w73 : wrap64 (p * 7 + 3) = p * 7 + 3 := wrap_id (by omega) (by omega)
      have w29 : wrap64 (p * 29) = p * 29 := wrap_id (by omega) (by omega)
      simp only [w7, w73, w29]
      have m1 := tmod_in p (b.length : Int) h0 (by omega)
      have m2 := tmod_in (p * 7 + 3) (b.length : Int) (by omega) (by omega)
      have d1 := tdiv_in p (b.length : Int) h0 (by omega)
      have r1 := hr _ m1.1 m1.2
      have r2 := hr _ m2.1 m2.2
      refine EvP.neg (by omega) (EvP.pos m1.1 (EvP.pos m1.2 (EvP.pos m2.1 (EvP.pos m2.2 (EvP.neg (by omega) (EvP.now ?_))))))
      generalize rd b (Int.tmod p (b.length : Int)) = u1 at *
      generalize rd b (Int.tmod (p * 7 + 3) (b.length : Int)) = u2 at *
      generalize Int.tdiv p (b.length : Int) = u3 at *
      have a1 : wrap64 u1 = u1 := wrap_id (by omega) (by omega)
      have a2 : wrap64 u2 = u2 := wrap_id (by omega) (by omega)
      have a3 : wrap64 u3 = u3 := wrap_id (by omega) (by omega)
      have a4 : wrap64 (u1 * 131) = u1 * 131 := wrap_id (by omega) (by omega)
      have a5 : wrap64 (u2 * 1117) = u2 * 1117 := wrap_id (by omega) (by omega)
      have a6 : wrap64 (u3 * 53) = u3 * 53 := wrap_id (by omega) (by omega)
      have a7 : wrap64 (u1 * 131 + u2 * 1117) = u1 * 131 + u2 * 1117 := wrap_id (by omega) (by omega)
      have a8 : wrap64 (u1 * 131 + u2 * 1117 + p * 29) = u1 * 131 + u2 * 1117 + p * 29 := wrap_id (by omega) (by omega)
      have a9 : wrap64 (u1 * 131 + u2 * 1117 + p * 29 + u3 * 53) = u1 * 131 + u2 * 1117 + p * 29 + u3 * 53 := wrap_id (by omega) (by omega)
      simp only [a1, a2, a3, a4, a5, a6, a7, a8, a9]
      have hE : 0 ≤ u1 * 131 + u2 * 1117 + p * 29 + u3 * 53 ∧ u1 * 131 + u2 * 1117 + p * 29 + u3 * 53 ≤ 1000000000 := by omega
      generalize u1 * 131 + u2 * 1117 + p * 29 + u3 * 53 = E at *
      have d2 := tdiv_in E 64 hE.1 (by omega)
      have a10 : wrap64 (Int.tdiv E 64) = Int.tdiv E 64 := wrap_id (by omega) (by omega)
      rw [a10]
      have := tmod_in (Go.bits .xor .i64 E (Int.tdiv E 64)) n (xor_nonneg _ _ hE.1 (by omega) d2.1 (by omega)) (by omega)
      exact ⟨this.1, fun _ => this.2, by simp⟩
theorem spec_reader_one.ok (b : List Int) (p : Int) (l : List Int) (hb : Bytes b) (h0 : 0 ≤ p) (h1 : p ≤ 1000000) (hl : 0 < l.length) : EvP (fun k => spec_reader_one.f k b p l) (fun r => r.1 ∈ l ∧ r.2 = p + 1) := by
  unfold spec_reader_one.f
  refine EvP.bind (spec_reader_pick.ok b p _ hb h0 h1) ?_
  rintro ⟨i, q⟩ ⟨g0, g1, rfl⟩
  have g2 := g1 (by omega)
  exact EvP.pos g0 (EvP.pos g2 (EvP.now ⟨rd_mem g0 g2, rfl⟩))
theorem spec_reader_of.ok (b : List Int) (p : Int) (l : List ByteArray) (hb : Bytes b) (h0 : 0 ≤ p) (h1 : p ≤ 1000000) (hl : 0 < l.length) : EvP (fun k => spec_reader_of.f k b p l) (fun r => r.1 ∈ l ∧ r.2 = p + 1) := by
  unfold spec_reader_of.f
  refine EvP.bind (spec_reader_pick.ok b p _ hb h0 h1) ?_
  rintro ⟨i, q⟩ ⟨g0, g1, rfl⟩
  have g2 := g1 (by omega)
  exact EvP.pos g0 (EvP.pos g2 (EvP.now ⟨rdOf_mem _ g0 g2, rfl⟩))
/-! #### names -/
def azB (s : ByteArray) : Bool := decide (∀ j : Nat, j < s.size → 97 ≤ bt s (j : Int) ∧ bt s (j : Int) ≤ 122)
def wordB (s : ByteArray) : Bool := decide (s.toList ≠ [97, 110, 100]) && (decide (s.toList ≠ [111, 114]) && decide (s.toList ≠ [110, 111, 116]))
def nameB (s : ByteArray) : Bool := azB s && (decide (1 ≤ s.size ∧ s.size ≤ 6) && wordB s)
theorem azB_no {s : ByteArray} {i : Nat} (hi : i < s.size) (h : ¬ (97 ≤ bt s (i : Int) ∧ bt s (i : Int) ≤ 122)) : nameB s = false := by
  have : azB s = false := by
    rw [azB, decide_eq_false_iff_not]
    exact fun g => h (g i hi)
  rw [nameB, this]
  rfl
theorem azB_yes {s : ByteArray} (h : ∀ j : Nat, j < s.size → 97 ≤ bt s (j : Int) ∧ bt s (j : Int) ≤ 122) : azB s = true := by
  rw [azB, decide_eq_true_iff]
  exact h
theorem words_ok (s : ByteArray) : EvP (fun _ => if s.toList = ([97, 110, 100] : List UInt8) then (some false) else (if s.toList = ([111, 114] : List UInt8) then (some false) else (some (s.toList != ([110, 111, 116] : List UInt8))))) (· = wordB s) := by
  unfold wordB
  refine EvP.ite (fun h => EvP.now (by simp [h])) (fun h => EvP.ite (fun h2 => EvP.now (by simp [h2])) (fun h2 => EvP.now ?_))
  simp [h, h2, bne]
  rw [Bool.eq_iff_iff]
  simp
def numB (n : Int) : Bool := decide (-99 ≤ n ∧ n ≤ 99)
def numsB (l : List Int) : Bool := l.all numB
theorem numsB_no {l pre rest : List Int} {x : Int} (h : l = pre ++ x :: rest) (hx : ¬ (-99 ≤ x ∧ x ≤ 99)) : numsB l = false := by
  rw [h, numsB, List.all_append, List.all_cons, numB, decide_eq_false hx]
  simp
theorem numsB_snoc {pre : List Int} {x : Int} (h : numsB pre = true) (hx : -99 ≤ x ∧ x ≤ 99) : numsB (pre ++ [x]) = true := by
  rw [numsB, List.all_append, ← numsB, h, List.all_cons, numB, decide_eq_true hx]
  rfl
/-! #### pairs -/
def pairB (x : S29) : Bool := nameB x.f0 && numB x.f1
def pairsB (l : List S29) : Bool := l.all pairB && decide ((l.length : Int) ≤ 8)
def GoodQ (l : List S29) : Prop := (l.length : Int) ≤ 4398046511104 ∧ ∀ x ∈ l, (x.f0.size : Int) ≤ 4398046511104
theorem pall_no {l pre rest : List S29} {x : S29} (h : l = pre ++ x :: rest) (hx : pairB x = false) : pairsB l = false := by
  rw [pairsB, h, List.all_append, List.all_cons, hx]
  simp
theorem pall_yes {pre : List S29} {x : S29} (h : pre.all pairB = true) (hx : pairB x = true) : (pre ++ [x]).all pairB = true := by
  rw [List.all_append, h, List.all_cons, hx]
  rfl
/-- The place of the last pair of a name, -1 if there is none. -/
def lastAt (l : List S29) (s : ByteArray) : Nat → Int
  | 0 => -1
  | n + 1 => if (rd_T29 l (n : Int)).f0.toList = s.toList then (n : Int) else lastAt l s n
def lastP (l : List S29) (s : ByteArray) : Int := lastAt l s l.length
theorem lastAt_lt (l : List S29) (s : ByteArray) : ∀ n, -1 ≤ lastAt l s n ∧ lastAt l s n < (n : Int)
  | 0 => by simp [lastAt]
  | n + 1 => by
    have := lastAt_lt l s n
    rw [lastAt]
    split <;> omega
theorem lastP_lt (l : List S29) (s : ByteArray) : -1 ≤ lastP l s ∧ lastP l s < (l.length : Int) := lastAt_lt l s l.length
/-- What a name reads as, under patches. -/
def valP (base patches : List S29) (s : ByteArray) : Int × Bool :=
  if (pairsB base && pairsB patches) = true then
    if lastP patches s ≥ 0 then ((rd_T29 patches (lastP patches s)).f1, true) else if lastP base s ≥ 0 then ((rd_T29 base (lastP base s)).f1, true) else (0, false)
  else (0, false)
theorem spec_somePairs.ok (b : List Int) (p : Int) (hb : Bytes b) (h0 : 0 ≤ p) (h1 : p ≤ 10000) : EvP (fun k => spec_somePairs.f k b p) (fun r => GoodQ r.1 ∧ r.1.length ≤ 8 ∧ 0 ≤ r.2 ∧ r.2 ≤ p + 20) := by
  unfold spec_somePairs.f
  refine EvP.bind (spec_reader_one.ok b p _ hb h0 (by omega) (by simp)) ?_
  rintro ⟨n, q⟩ ⟨g0, rfl⟩
  have g1 : 0 ≤ n ∧ n ≤ 8 := by
    simp only [List.mem_cons, List.not_mem_nil, or_false] at g0
    omega
  refine EvP.down (L := fun k (s : List S29 × Int) i => spec_somePairs.l0 k s.1 i b s.2) (Inv := fun i s => 0 ≤ i ∧ (s.1.length : Int) + i ≤ 8 ∧ (∀ x ∈ s.1, (x.f0.size : Int) ≤ 4) ∧ 0 ≤ s.2 ∧ s.2 + 2 * i ≤ p + 17) ?_ ?_ n ([], p + 1) ⟨g1.1, by simp only [List.length_nil]; omega, fun x hx => (by cases hx), by simp only; omega, by simp only; omega⟩
  · rintro i ⟨l, q⟩ hi ⟨a0, a1, a2, a3, a4⟩ ih
    simp only at a1 a2 a3 a4
    simp only [spec_somePairs.l0]
    refine EvP.pos hi ?_
    refine EvP.bind (spec_reader_of.ok b q _ hb a3 (by omega) (by simp)) ?_
    rintro ⟨nm, q1⟩ ⟨m0, m1⟩
    simp only at m0 m1
    subst m1
    refine EvP.bind (spec_reader_one.ok b (q + 1) _ hb (by omega) (by omega) (by simp)) ?_
    rintro ⟨v, q2⟩ ⟨v0, v1⟩
    simp only at v0 v1
    subst v1
    refine EvP.pos (by omega) ?_
    rw [wrap_id (by omega) (by omega)]
    refine ih (l ++ [⟨nm, v⟩], q + 1 + 1) ⟨by omega, by simp only [List.length_append, List.length_singleton]; omega, fun x hx => ?_, by simp only; omega, by simp only; omega⟩
    rcases List.mem_append.1 hx with hx | hx
    · exact a2 x hx
    · rw [List.mem_singleton.1 hx]
      show (nm.size : Int) ≤ 4
      clear ih a2 hb hx
      simp only [List.mem_cons, List.not_mem_nil, or_false] at m0
      rcases m0 with rfl | rfl | rfl | rfl | rfl <;> decide
  · rintro i ⟨l, q⟩ hi ⟨a0, a1, a2, a3, a4⟩
    simp only at a1 a2 a3 a4
    simp only [spec_somePairs.l0]
    have hg : GoodQ l := ⟨by omega, fun x hx => by have := a2 x hx; omega⟩
    refine EvP.neg (by omega) (EvP.ite (fun hl => ?_) (fun hl => EvP.now ⟨hg, by simp only; omega, by simp only; omega, by simp only; omega⟩))
    refine EvP.bind (spec_reader_pick.ok b q _ hb a3 (by omega)) ?_
    rintro ⟨c, q1⟩ ⟨c0, _, c1⟩
    simp only at c0 c1
    subst c1
    refine EvP.ite (fun hc => EvP.pos (by omega) (EvP.now ⟨⟨?_, fun x hx => ?_⟩, ?_, by simp only; omega, by simp only; omega⟩)) (fun hc => EvP.now ⟨hg, by simp only; omega, by simp only; omega, by simp only; omega⟩)
    · simp only [List.length_set]
      omega
    · rcases List.mem_or_eq_of_mem_set hx with hx | rfl
      · exact hg.2 x hx
      · show (((⟨#[88]⟩ : ByteArray).size : Nat) : Int) ≤ 4398046511104
        decide
    · simp only [List.length_set]
      omega
/-! #### patches laid on a base -/
theorem rd_app (l : List S29) (x : S29) (i : Int) (h0 : 0 ≤ i) (h : i < (l.length : Int)) : rd_T29 (l ++ [x]) i = rd_T29 l i := by
  unfold rd_T29
  rw [List.getD_eq_getElem?_getD, List.getD_eq_getElem?_getD, List.getElem?_append_left (by omega)]
theorem rd_end (l : List S29) (x : S29) : rd_T29 (l ++ [x]) (l.length : Int) = x := getD_at (rest := []) rfl _
theorem lastAt_app (l : List S29) (x : S29) (s : ByteArray) : ∀ n : Nat, n ≤ l.length → lastAt (l ++ [x]) s n = lastAt l s n
  | 0, _ => rfl
  | n + 1, h => by
    rw [lastAt, lastAt, rd_app l x (n : Int) (by omega) (by omega), lastAt_app l x s n (by omega)]
theorem lastP_snoc (l : List S29) (x : S29) (s : ByteArray) : lastP (l ++ [x]) s = if x.f0.toList = s.toList then (l.length : Int) else lastP l s := by
  unfold lastP
  rw [List.length_append, List.length_singleton, lastAt, rd_end, lastAt_app l x s _ (Nat.le_refl _)]
theorem lastAt_cg (l : List S29) {s t : ByteArray} (h : s.toList = t.toList) : ∀ n, lastAt l s n = lastAt l t n
  | 0 => rfl
  | n + 1 => by rw [lastAt, lastAt, h, lastAt_cg l h n]
/-- What a name reads as in one list. -/
def lk (l : List S29) (s : ByteArray) : Option Int := if lastP l s ≥ 0 then some (rd_T29 l (lastP l s)).f1 else none
theorem lk_cg (l : List S29) {s t : ByteArray} (h : s.toList = t.toList) : lk l s = lk l t := by
  unfold lk lastP
  rw [lastAt_cg l h]
theorem lk_nil (s : ByteArray) : lk [] s = none := rfl
theorem lk_snoc (l : List S29) (x : S29) (s : ByteArray) : lk (l ++ [x]) s = if x.f0.toList = s.toList then some x.f1 else lk l s := by
  unfold lk
  rw [lastP_snoc]
  by_cases h : x.f0.toList = s.toList
  · rw [if_pos h, if_pos h, if_pos (by omega), rd_end]
  · rw [if_neg h, if_neg h]
    have := lastP_lt l s
    by_cases g : lastP l s ≥ 0
    · rw [if_pos g, if_pos g, rd_app l x _ (by omega) (by omega)]
    · rw [if_neg g, if_neg g]
theorem lk_app (a b : List S29) (s : ByteArray) : lk (a ++ b) s = (lk b s).or (lk a s) := by
  refine snoc_ind (P := fun b => lk (a ++ b) s = (lk b s).or (lk a s)) ?_ ?_ b
  · rw [List.append_nil, lk_nil]
    rfl
  · intro l x ih
    rw [← List.append_assoc, lk_snoc, lk_snoc, ih]
    by_cases h : x.f0.toList = s.toList
    · rw [if_pos h, if_pos h]
      rfl
    · rw [if_neg h, if_neg h]
theorem valP_lk (b p : List S29) (s : ByteArray) : valP b p s = if (pairsB b && pairsB p) = true then (match (lk p s).or (lk b s) with | some v => (v, true) | none => (0, false)) else (0, false) := by
  unfold valP lk
  by_cases h : (pairsB b && pairsB p) = true
  · rw [if_pos h, if_pos h]
    by_cases h1 : lastP p s ≥ 0
    · rw [if_pos h1, if_pos h1]
      rfl
    · rw [if_neg h1, if_neg h1]
      by_cases h2 : lastP b s ≥ 0
      · rw [if_pos h2, if_pos h2]
        rfl
      · rw [if_neg h2, if_neg h2]
        rfl
  · rw [if_neg h, if_neg h]
theorem lastP_split (s : ByteArray) (l : List S29) : (lastP l s = -1 ∧ lk l s = none) ∨ ∃ pre y post, l = pre ++ y :: post ∧ lastP l s = (pre.length : Int) ∧ y.f0.toList = s.toList ∧ lk post s = none := by
  refine snoc_ind (P := fun l => (lastP l s = -1 ∧ lk l s = none) ∨ ∃ pre y post, l = pre ++ y :: post ∧ lastP l s = (pre.length : Int) ∧ y.f0.toList = s.toList ∧ lk post s = none) ?_ ?_ l
  · exact .inl ⟨rfl, rfl⟩
  · intro l x ih
    rw [lastP_snoc, lk_snoc]
    by_cases h : x.f0.toList = s.toList
    · exact .inr ⟨l, x, [], rfl, if_pos h, h, rfl⟩
    · rw [if_neg h, if_neg h]
      rcases ih with g | ⟨pre, y, post, rfl, g1, g2, g3⟩
      · exact .inl g
      · exact .inr ⟨pre, y, post ++ [x], by simp, g1, g2, by rw [lk_snoc, if_neg h, g3]⟩
def putP (l : List S29) (p : S29) : List S29 := if lastP l p.f0 ≥ 0 then l.set (lastP l p.f0).toNat p else l ++ [p]
theorem putP_cases (l : List S29) (p : S29) : putP l p = l ++ [p] ∨ ∃ pre y post, l = pre ++ y :: post ∧ putP l p = pre ++ p :: post ∧ y.f0.toList = p.f0.toList ∧ lk post p.f0 = none := by
  unfold putP
  rcases lastP_split p.f0 l with g | ⟨pre, y, post, h, g1, g2, g3⟩
  · exact .inl (by rw [if_neg (by omega)])
  · refine .inr ⟨pre, y, post, h, ?_, g2, g3⟩
    rw [if_pos (by omega), g1, Int.toNat_natCast, h, List.set_append_right _ _ (Nat.le_refl _)]
    simp
theorem lk_put (l : List S29) (p : S29) (s : ByteArray) : lk (putP l p) s = if p.f0.toList = s.toList then some p.f1 else lk l s := by
  rcases putP_cases l p with e | ⟨pre, y, post, rfl, e, g1, g2⟩
  · rw [e, lk_snoc]
  · rw [e, show pre ++ p :: post = (pre ++ [p]) ++ post by simp, show pre ++ y :: post = (pre ++ [y]) ++ post by simp, lk_app (pre ++ [p]) post, lk_app (pre ++ [y]) post, lk_snoc pre p, lk_snoc pre y, g1]
    by_cases h : p.f0.toList = s.toList
    · rw [if_pos h, if_pos h, ← lk_cg post h, g2]
      rfl
    · rw [if_neg h, if_neg h, if_neg h]
theorem put_all {l : List S29} {p : S29} (h : l.all pairB = true) (hp : pairB p = true) : (putP l p).all pairB = true := by
  rcases putP_cases l p with e | ⟨pre, y, post, rfl, e, g1, g2⟩
  · rw [e, List.all_append, h, List.all_cons, hp]
    rfl
  · rw [List.all_append, List.all_cons] at h
    rw [e, List.all_append, List.all_cons, hp]
    simp only [Bool.and_eq_true] at h ⊢
    exact ⟨h.1, trivial, h.2.2⟩
theorem put_len (l : List S29) (p : S29) : l.length ≤ (putP l p).length ∧ (putP l p).length ≤ l.length + 1 := by
  rcases putP_cases l p with e | ⟨pre, y, post, rfl, e, g1, g2⟩
  · rw [e]
    simp
  · rw [e]
    simp
def putsP (l ps : List S29) : List S29 := ps.foldl putP l
theorem puts_snoc (l ps : List S29) (x : S29) : putsP l (ps ++ [x]) = putP (putsP l ps) x := by
  unfold putsP
  rw [List.foldl_append]
  rfl
theorem puts_app (l a b : List S29) : putsP l (a ++ b) = putsP (putsP l a) b := by
  unfold putsP
  rw [List.foldl_append]
theorem puts_all {l ps : List S29} (h : l.all pairB = true) : ps.all pairB = true → (putsP l ps).all pairB = true := by
  refine snoc_ind (P := fun ps => ps.all pairB = true → (putsP l ps).all pairB = true) (fun _ => h) ?_ ps
  intro ps x ih hp
  rw [List.all_append, Bool.and_eq_true] at hp
  rw [puts_snoc]
  exact put_all (ih hp.1) (by simpa using hp.2)
theorem puts_len (l ps : List S29) : l.length ≤ (putsP l ps).length ∧ (putsP l ps).length ≤ l.length + ps.length := by
  refine snoc_ind (P := fun ps => l.length ≤ (putsP l ps).length ∧ (putsP l ps).length ≤ l.length + ps.length) ⟨Nat.le_refl _, Nat.le_refl _⟩ ?_ ps
  intro ps x ih
  rw [puts_snoc, List.length_append, List.length_singleton]
  have := put_len (putsP l ps) x
  omega
theorem lk_puts (l ps : List S29) (s : ByteArray) : lk (putsP l ps) s = (lk ps s).or (lk l s) := by
  refine snoc_ind (P := fun ps => lk (putsP l ps) s = (lk ps s).or (lk l s)) rfl ?_ ps
  intro ps x ih
  rw [puts_snoc, lk_put, lk_snoc, ih]
  by_cases h : x.f0.toList = s.toList
  · rw [if_pos h, if_pos h]
    rfl
  · rw [if_neg h, if_neg h]
theorem pairsB_iff (l : List S29) : pairsB l = true ↔ l.all pairB = true ∧ l.length ≤ 8 := by
  rw [pairsB, Bool.and_eq_true, decide_eq_true_iff]
  constructor
  · exact fun h => ⟨h.1, by omega⟩
  · exact fun h => ⟨h.1, by omega⟩
theorem good_all {l : List S29} (h : l.all pairB = true) (hl : l.length ≤ 1000) : GoodQ l := by
  refine ⟨by omega, fun x hx => ?_⟩
  have := List.all_eq_true.1 h x hx
  rw [pairB, nameB] at this
  simp at this
  omega
def appP (b p : List S29) : List S29 × Bool := if (pairsB b && pairsB p) = true then (if (putsP b p).length ≤ 8 then (putsP b p, true) else ([], false)) else ([], false)
theorem impl_nameOk.ok (s : ByteArray) (h : (s.size : Int) ≤ 9223372036854775807) : EvP (fun k => impl_nameOk.f k s) (· = nameB s) := by
  unfold impl_nameOk.f
  refine EvP.upto (L := fun k (_ : Unit) i => impl_nameOk.l0 k s (s.size : Int) i) (n := s.size) (Inv := fun i _ => ∀ j : Nat, j < i → 97 ≤ bt s (j : Int) ∧ bt s (j : Int) ≤ 122) ?_ ?_ () (fun j hj => by omega)
  · rintro i _ hi hv ih
    simp only [impl_nameOk.l0]
    refine EvP.pos (by omega) (EvP.pos (by omega) (EvP.pos (by omega) ?_))
    refine EvP.ite (fun e => EvP.now (azB_no hi (by omega)).symm) (fun e => EvP.ite (fun e2 => EvP.now (azB_no hi (by omega)).symm) (fun e2 => ?_))
    rw [wrap_id (by omega) (by omega)]
    refine ih () (fun j hj => ?_)
    rcases Nat.lt_succ_iff_lt_or_eq.1 hj with hj | rfl
    · exact hv j hj
    · omega
  · rintro _ hv
    simp only [impl_nameOk.l0]
    have ha := azB_yes hv
    refine EvP.neg (by omega) (EvP.ite (fun e => EvP.ite (fun e2 => ?_) (fun e2 => EvP.now ?_)) (fun e => EvP.now ?_))
    · refine (words_ok s).mono ?_
      rintro _ rfl
      rw [nameB, ha, decide_eq_true (show 1 ≤ s.size ∧ s.size ≤ 6 by omega)]
      rfl
    · rw [nameB, decide_eq_false (show ¬ (1 ≤ s.size ∧ s.size ≤ 6) by omega)]
      simp
    · rw [nameB, decide_eq_false (show ¬ (1 ≤ s.size ∧ s.size ≤ 6) by omega)]
      simp
theorem impl_numbersOk.ok (l : List Int) (h : (l.length : Int) ≤ 9223372036854775807) : EvP (fun k => impl_numbersOk.f k l) (· = numsB l) := by
  unfold impl_numbersOk.f
  refine EvP.range (L := fun k (_ : Unit) i => impl_numbersOk.l0 k l (l.length : Int) i) (xs := l) (Inv := fun pre _ => numsB pre = true) ?_ ?_ () rfl
  · rintro pre x rest _ hx hi ih
    have hl := len_at hx
    have hr : rd l (pre.length : Int) = x := getD_at hx _
    simp only [impl_numbersOk.l0, hr, wrap_at hx h]
    refine EvP.pos hl (EvP.pos (nat_nonneg _) (EvP.pos hl ?_))
    exact EvP.ite (fun e => EvP.now (numsB_no hx (by omega)).symm) (fun e => EvP.ite (fun e2 => EvP.now (numsB_no hx (by omega)).symm) (fun e2 => ih () (numsB_snoc hi (by omega))))
  · rintro _ hi
    simp only [impl_numbersOk.l0]
    exact EvP.neg (by omega) (EvP.now hi.symm)
theorem impl_pairsOk.ok (l : List S29) (h : GoodQ l) : EvP (fun k => impl_pairsOk.f k l) (· = pairsB l) := by
  have h1 := h.1
  unfold impl_pairsOk.f
  refine EvP.range (L := fun k (_ : Unit) i => impl_pairsOk.l0 k l l (l.length : Int) i) (xs := l) (Inv := fun pre _ => pre.all pairB = true) ?_ ?_ () rfl
  · rintro pre x rest _ hx hi ih
    have hl := len_at hx
    have hr : rd_T29 l (pre.length : Int) = x := getD_at hx _
    have hg := h.2 x (by rw [hx]; simp)
    simp only [impl_pairsOk.l0, hr, wrap_at hx (show (l.length : Int) ≤ 9223372036854775807 by omega)]
    refine EvP.pos hl (EvP.pos (nat_nonneg _) (EvP.pos hl ?_))
    refine EvP.bind (impl_nameOk.ok x.f0 (by omega)) ?_
    rintro _ rfl
    refine EvP.ite (fun e => ?_) (fun e => EvP.now (pall_no hx (by rw [pairB, show nameB x.f0 = false by simpa using e]; rfl)).symm)
    refine EvP.bind (impl_numbersOk.ok [x.f1] (by simp)) ?_
    rintro _ rfl
    have e1 : numsB [x.f1] = numB x.f1 := by simp [numsB]
    rw [e1]
    refine EvP.ite (fun e2 => ih () (pall_yes hi (by rw [pairB, e, e2]; rfl))) (fun e2 => EvP.now (pall_no hx (by rw [pairB, show numB x.f1 = false by simpa using e2]; simp)).symm)
  · rintro _ hi
    simp only [impl_pairsOk.l0]
    exact EvP.neg (by omega) (EvP.now (by rw [pairsB, hi]; rfl))
theorem impl_lastOf.ok (l : List S29) (s : ByteArray) (h : (l.length : Int) ≤ 4398046511104) : EvP (fun k => impl_lastOf.f k l s) (· = lastP l s) := by
  unfold impl_lastOf.f
  rw [wrap_id (by omega) (by omega)]
  have main : ∀ n : Nat, n ≤ l.length → EvP (fun k => impl_lastOf.l0 k l s ((n : Int) - 1)) (· = lastAt l s n) := by
    intro n
    induction n with
    | zero =>
      intro _
      refine EvP.succ ?_
      simp only [impl_lastOf.l0]
      exact EvP.neg (by omega) (EvP.now rfl)
    | succ n ih =>
      intro hn
      refine EvP.succ ?_
      rw [show (((n + 1 : Nat) : Int) - 1) = (n : Int) by omega]
      simp only [impl_lastOf.l0]
      rw [wrap_id (x := (n : Int) - 1) (by omega) (by omega)]
      refine EvP.pos (by omega) (EvP.pos (by omega) (EvP.pos (by omega) ?_))
      exact EvP.ite (fun e => EvP.now (by rw [lastAt, if_pos e])) (fun e => by rw [lastAt, if_neg e]; exact ih (by omega))
  exact main l.length (Nat.le_refl _)
theorem impl_Pair.ok (l : List S29) (h : (l.length : Int) ≤ 4398046511104) : EvP (fun (_ : Nat) => impl_Pair.f l) (· = l) := by
  unfold impl_Pair.f
  exact EvP.pos (by omega) (EvP.now rfl)
theorem impl_ApplyPatches.ok (base patches : List S29) (h : GoodQ base) (hp : GoodQ patches) : EvP (fun k => impl_ApplyPatches.f k base patches) (· = appP base patches) := by
  have no : ∀ c : Bool, c = true → (pairsB base && pairsB patches) = false → EvP (fun k => impl_ApplyPatches.j0 k base patches c) (· = appP base patches) := by
    intro c hc hb
    refine EvP.succ ?_
    simp only [impl_ApplyPatches.j0]
    exact EvP.pos hc (EvP.now (by rw [appP, hb]; rfl))
  unfold impl_ApplyPatches.f
  refine EvP.bind (impl_pairsOk.ok base h) ?_
  rintro _ rfl
  refine EvP.ite (fun e => ?_) (fun e => no _ rfl (by rw [show pairsB base = false by simpa using e]; rfl))
  refine EvP.bind (impl_pairsOk.ok patches hp) ?_
  rintro _ rfl
  cases e2 : pairsB patches with
  | false => exact no _ rfl (by rw [e2]; simp)
  | true =>
    obtain ⟨b1, b2⟩ := (pairsB_iff _).1 e
    obtain ⟨p1, p2⟩ := (pairsB_iff _).1 e2
    refine EvP.succ ?_
    simp only [impl_ApplyPatches.j0]
    refine EvP.neg (by simp) ?_
    refine EvP.bind (impl_Pair.ok base (by omega)) ?_
    intro r0 hr0
    rw [hr0]
    clear hr0 r0
    refine EvP.range (L := fun k s i => impl_ApplyPatches.l0 k s patches (patches.length : Int) i) (xs := patches) (Inv := fun pre s => s = putsP base pre) ?_ ?_ _ rfl
    · rintro pre x rest s hx rfl ih
      have hl := len_at hx
      have hr : rd_T29 patches (pre.length : Int) = x := getD_at hx _
      have n1 := puts_len base pre
      have n2 := lastP_lt (putsP base pre) x.f0
      simp only [impl_ApplyPatches.l0, hr, wrap_at hx (show (patches.length : Int) ≤ 9223372036854775807 by omega)]
      refine EvP.pos hl (EvP.pos (nat_nonneg _) (EvP.pos hl ?_))
      refine EvP.bind (impl_lastOf.ok _ x.f0 (by omega)) ?_
      rintro _ rfl
      refine EvP.ite (fun e3 => EvP.pos (by omega) (EvP.pos n2.2 (ih _ ?_))) (fun e3 => EvP.pos (by omega) (ih _ ?_))
      · rw [puts_snoc, putP, if_pos e3]
      · rw [puts_snoc, putP, if_neg e3]
    · rintro s rfl
      simp only [impl_ApplyPatches.l0]
      refine EvP.neg (by omega) (EvP.ite (fun h8 => EvP.now ?_) (fun h8 => EvP.now ?_))
      · rw [appP, e, e2, if_pos (show (true && true) = true from rfl), if_neg (by omega)]
      · rw [appP, e, e2, if_pos (show (true && true) = true from rfl), if_pos (by omega)]
theorem spec_inRange.ok (a b c : Int) : EvP (fun _ => spec_inRange.f a b c) (· = decide (b ≤ a ∧ a ≤ c)) := by
  unfold spec_inRange.f
  exact EvP.ite (fun h => EvP.now (by simp [h])) (fun h => EvP.now (by simp [h]))
theorem spec_validName.ok (s : ByteArray) (h : (s.size : Int) ≤ 9223372036854775807) : EvP (fun k => spec_validName.f k s) (· = nameB s) := by
  unfold spec_validName.f
  refine EvP.upto (L := fun k (_ : Unit) i => spec_validName.l0 k s i) (n := s.size) (Inv := fun i _ => ∀ j : Nat, j < i → 97 ≤ bt s (j : Int) ∧ bt s (j : Int) ≤ 122) ?_ ?_ () (fun j hj => by omega)
  · rintro i _ hi hv ih
    simp only [spec_validName.l0]
    refine EvP.pos (by omega) (EvP.pos (by omega) ?_)
    refine EvP.ite (fun e => EvP.now (azB_no hi (by omega)).symm) (fun e => EvP.ite (fun e2 => EvP.now (azB_no hi (by omega)).symm) (fun e2 => ?_))
    rw [wrap_id (by omega) (by omega)]
    refine ih () (fun j hj => ?_)
    rcases Nat.lt_succ_iff_lt_or_eq.1 hj with hj | rfl
    · exact hv j hj
    · omega
  · rintro _ hv
    simp only [spec_validName.l0]
    have ha := azB_yes hv
    refine EvP.neg (by omega) ?_
    refine EvP.bind (spec_inRange.ok _ _ _) ?_
    rintro _ rfl
    refine EvP.ite (fun e => ?_) (fun e => EvP.now ?_)
    · have e' := of_decide_eq_true e
      refine (words_ok s).mono ?_
      rintro _ rfl
      rw [nameB, ha, decide_eq_true (show 1 ≤ s.size ∧ s.size ≤ 6 by omega)]
      rfl
    · have e' : ¬ (1 ≤ (s.size : Int) ∧ (s.size : Int) ≤ 6) := fun g => e (decide_eq_true g)
      rw [nameB, decide_eq_false (show ¬ (1 ≤ s.size ∧ s.size ≤ 6) by omega)]
      simp
theorem spec_validPairs.ok (l : List S29) (h : GoodQ l) : EvP (fun k => spec_validPairs.f k l) (· = pairsB l) := by
  have h1 := h.1
  unfold spec_validPairs.f
  refine EvP.range (L := fun k (_ : Unit) i => spec_validPairs.l0 k l i) (xs := l) (Inv := fun pre _ => pre.all pairB = true) ?_ ?_ () rfl
  · rintro pre x rest _ hx hi ih
    have hl := len_at hx
    have hr : rd_T29 l (pre.length : Int) = x := getD_at hx _
    have hg := h.2 x (by rw [hx]; simp)
    simp only [spec_validPairs.l0, hr, wrap_at hx (show (l.length : Int) ≤ 9223372036854775807 by omega)]
    refine EvP.pos hl (EvP.pos (nat_nonneg _) ?_)
    refine EvP.bind (spec_validName.ok x.f0 (by omega)) ?_
    rintro _ rfl
    refine EvP.ite (fun e => ?_) (fun e => EvP.now (pall_no hx (by rw [pairB, show nameB x.f0 = false by simpa using e]; rfl)).symm)
    refine EvP.bind (spec_inRange.ok _ _ _) ?_
    rintro _ rfl
    refine EvP.ite (fun e2 => ih () (pall_yes hi (by rw [pairB, e, numB, e2]; rfl))) (fun e2 => EvP.now (pall_no hx (by rw [pairB, numB, show decide (-99 ≤ x.f1 ∧ x.f1 ≤ 99) = false by simpa using e2]; simp)).symm)
  · rintro _ hi
    simp only [spec_validPairs.l0]
    exact EvP.neg (by omega) (EvP.now (by rw [pairsB, hi]; rfl))
theorem spec_pairAt.ok (l : List S29) (s : ByteArray) (h : (l.length : Int) ≤ 4398046511104) : EvP (fun k => spec_pairAt.f k l s) (· = lastP l s) := by
  unfold spec_pairAt.f
  rw [wrap_id (by omega) (by omega)]
  have main : ∀ n : Nat, n ≤ l.length → EvP (fun k => spec_pairAt.l0 k l s ((n : Int) - 1)) (· = lastAt l s n) := by
    intro n
    induction n with
    | zero =>
      intro _
      refine EvP.succ ?_
      simp only [spec_pairAt.l0]
      exact EvP.neg (by omega) (EvP.now rfl)
    | succ n ih =>
      intro hn
      refine EvP.succ ?_
      rw [show (((n + 1 : Nat) : Int) - 1) = (n : Int) by omega]
      simp only [spec_pairAt.l0]
      rw [wrap_id (x := (n : Int) - 1) (by omega) (by omega)]
      refine EvP.pos (by omega) (EvP.pos (by omega) (EvP.pos (by omega) ?_))
      exact EvP.ite (fun e => EvP.now (by rw [lastAt, if_pos e])) (fun e => by rw [lastAt, if_neg e]; exact ih (by omega))
  exact main l.length (Nat.le_refl _)
theorem spec_put.ok (l : List S29) (x : S29) (h : (l.length : Int) ≤ 4398046511104) : EvP (fun k => spec_put.f k l x.f0 x.f1) (· = putP l x) := by
  have n2 := lastP_lt l x.f0
  unfold spec_put.f
  refine EvP.bind (P := (· = [])) (EvP.now rfl) ?_
  rintro _ rfl
  refine EvP.pos (by simp only [List.length_nil]; omega) ?_
  refine EvP.bind (P := (· = l)) (EvP.now rfl) ?_
  rintro _ rfl
  refine EvP.bind (spec_pairAt.ok _ x.f0 (by omega)) ?_
  rintro _ rfl
  refine EvP.ite (fun e3 => EvP.pos (by omega) (EvP.pos n2.2 (EvP.now ?_))) (fun e3 => EvP.pos (by omega) (EvP.now ?_))
  · rw [putP, if_pos e3]
  · rw [putP, if_neg e3]
theorem spec_ApplyPatches.ok (base patches : List S29) (h : GoodQ base) (hp : GoodQ patches) : EvP (fun k => spec_ApplyPatches.f k base patches) (· = appP base patches) := by
  have no : ∀ c : Bool, c = true → (pairsB base && pairsB patches) = false → EvP (fun k => spec_ApplyPatches.j0 k base patches c) (· = appP base patches) := by
    intro c hc hb
    refine EvP.succ ?_
    simp only [spec_ApplyPatches.j0]
    exact EvP.pos hc (EvP.now (by rw [appP, hb]; rfl))
  unfold spec_ApplyPatches.f
  refine EvP.bind (spec_validPairs.ok base h) ?_
  rintro _ rfl
  refine EvP.ite (fun e => ?_) (fun e => no _ rfl (by rw [show pairsB base = false by simpa using e]; rfl))
  refine EvP.bind (spec_validPairs.ok patches hp) ?_
  rintro _ rfl
  cases e2 : pairsB patches with
  | false => exact no _ rfl (by rw [e2]; simp)
  | true =>
    obtain ⟨b1, b2⟩ := (pairsB_iff _).1 e
    obtain ⟨p1, p2⟩ := (pairsB_iff _).1 e2
    refine EvP.succ ?_
    simp only [spec_ApplyPatches.j0]
    refine EvP.neg (by simp) ?_
    refine EvP.bind (P := (· = [])) (EvP.now rfl) ?_
    rintro _ rfl
    refine EvP.pos (by simp only [List.length_nil]; omega) ?_
    rw [List.nil_append]
    refine EvP.range (L := fun k s i => spec_ApplyPatches.l0 k patches s i) (xs := patches) (Inv := fun pre s => s = putsP base pre ∧ pre.all pairB = true) ?_ ?_ _ ⟨rfl, rfl⟩
    · rintro pre x rest s hx ⟨rfl, hi⟩ ih
      have hl := len_at hx
      have hr : rd_T29 patches (pre.length : Int) = x := getD_at hx _
      have n1 := puts_len base pre
      have hb : pairB x = true := List.all_eq_true.1 p1 x (by rw [hx]; simp)
      simp only [spec_ApplyPatches.l0, hr, wrap_at hx (show (patches.length : Int) ≤ 9223372036854775807 by omega)]
      refine EvP.pos hl (EvP.pos (nat_nonneg _) ?_)
      refine EvP.bind (spec_put.ok _ x (by omega)) ?_
      rintro _ rfl
      exact ih _ ⟨by rw [puts_snoc], pall_yes hi hb⟩
    · rintro s ⟨rfl, hi⟩
      have n1 := puts_len base patches
      have hall := puts_all b1 p1
      simp only [spec_ApplyPatches.l0]
      refine EvP.neg (by omega) ?_
      refine EvP.bind (spec_validPairs.ok _ (good_all hall (by omega))) ?_
      rintro _ rfl
      refine EvP.ite (fun h8 => EvP.now ?_) (fun h8 => EvP.now ?_)
      · rw [appP, e, e2, if_pos (show (true && true) = true from rfl), if_pos ((pairsB_iff _).1 h8).2]
      · rw [appP, e, e2, if_pos (show (true && true) = true from rfl), if_neg (fun g => h8 ((pairsB_iff _).2 ⟨hall, g⟩))]
theorem laws_equalPairs.ok (l : List S29) (hl : (l.length : Int) ≤ 9223372036854775807) : EvP (fun k => laws_equalPairs.f k l l) (· = true) := by
  unfold laws_equalPairs.f
  refine EvP.pos rfl ?_
  refine EvP.range (L := fun k (_ : Unit) i => laws_equalPairs.l0 k l l i) (xs := l) (Inv := fun _ _ => True) ?_ ?_ () trivial
  · rintro pre x rest s hx _ ih
    have hlt := len_at hx
    simp only [laws_equalPairs.l0, wrap_at hx hl]
    exact EvP.pos hlt (EvP.pos (nat_nonneg _) (EvP.pos hlt (EvP.neg (by simp) (ih () trivial))))
  · rintro s _
    simp only [laws_equalPairs.l0]
    exact EvP.neg (by omega) (EvP.now rfl)
theorem app_len (b p : List S29) : (appP b p).1.length ≤ 8 := by
  unfold appP
  split
  · split
    · assumption
    · simp
  · simp
theorem app_ok {b p : List S29} (hb : pairsB b = true) (hp : pairsB p = true) (h : (putsP b p).length ≤ 8) : appP b p = (putsP b p, true) := by
  rw [appP, hb, hp, if_pos (show (true && true) = true from rfl), if_pos h]
theorem main : laws_FnApplyPatches.Pure := by
  intro l0 _ _ hw
  refine EvP.rounds ?_
  unfold laws_FnApplyPatches.f
  refine EvP.ite (fun _ => EvP.now rfl) (fun _ => ?_)
  refine EvP.bind (P := fun r => GoodQ r.1 ∧ GoodQ r.2) ?_ ?_
  · unfold spec_DrawApplyPatches.f
    refine EvP.bind (spec_newReader.ok l0 hw) ?_
    rintro ⟨b, p⟩ ⟨hb, hp⟩
    simp only at hb hp
    subst hp
    refine EvP.bind (spec_somePairs.ok b 0 hb (by omega) (by omega)) ?_
    rintro ⟨l, p⟩ ⟨h1, h2, h3, h4⟩
    simp only at h1 h2 h3 h4
    refine EvP.bind (spec_somePairs.ok b p hb (by omega) (by omega)) ?_
    rintro ⟨l2, p2⟩ ⟨g1, g2, g3, g4⟩
    exact EvP.now ⟨h1, g1⟩
  · rintro ⟨b, p⟩ ⟨hb, hp⟩
    simp only at hb hp
    have hu := app_len b p
    have hp1 := hp.1
    refine EvP.bind (impl_ApplyPatches.ok b p hb hp) ?_
    rintro _ rfl
    refine EvP.bind (spec_ApplyPatches.ok b p hb hp) ?_
    rintro _ rfl
    refine EvP.bind (laws_equalPairs.ok _ (by omega)) ?_
    rintro _ rfl
    refine EvP.pos rfl (EvP.neg (by simp) ?_)
    refine EvP.succ ?_
    simp only [laws_FnApplyPatches.j0]
    refine EvP.ite (fun _ => ?_) (fun hv => ?_)
    · refine EvP.bind (laws_equalPairs.ok _ (by omega)) ?_
      rintro _ rfl
      exact EvP.pos rfl (EvP.now (by simp))
    have ha : (appP b p).2 = true := by simpa using hv
    have hc : (pairsB b && pairsB p) = true := by
      cases e : (pairsB b && pairsB p) with
      | true => rfl
      | false =>
        rw [appP, e] at ha
        cases ha
    obtain ⟨eb, ep⟩ := Bool.and_eq_true_iff.1 hc
    obtain ⟨b1, b2⟩ := (pairsB_iff _).1 eb
    obtain ⟨p1, p2⟩ := (pairsB_iff _).1 ep
    have h8 : (putsP b p).length ≤ 8 := by
      rw [appP, if_pos hc] at ha
      by_cases g : (putsP b p).length ≤ 8
      · exact g
      · rw [if_neg g] at ha
        cases ha
    rw [List.all_eq_true] at p1
    have t1 : (p.take (p.length / 2)).all pairB = true := List.all_eq_true.2 fun x hx => p1 x (List.mem_of_mem_take hx)
    have d1 : (p.drop (p.length / 2)).all pairB = true := List.all_eq_true.2 fun x hx => p1 x (List.mem_of_mem_drop hx)
    have t2 : pairsB (p.take (p.length / 2)) = true := (pairsB_iff _).2 ⟨t1, by rw [List.length_take]; omega⟩
    have d2 : pairsB (p.drop (p.length / 2)) = true := (pairsB_iff _).2 ⟨d1, by rw [List.length_drop]; omega⟩
    have es : putsP (putsP b (p.take (p.length / 2))) (p.drop (p.length / 2)) = putsP b p := by rw [← puts_app, List.take_append_drop]
    have n1 := puts_len (putsP b (p.take (p.length / 2))) (p.drop (p.length / 2))
    rw [es] at n1
    have hm : pairsB (putsP b (p.take (p.length / 2))) = true := (pairsB_iff _).2 ⟨puts_all b1 t1, by omega⟩
    have w1 : wrap64 ((p.length : Int) / 2) = ((p.length / 2 : Nat) : Int) := by rw [wrap_id (by omega) (by omega)]; omega
    simp only [w1, Int.toNat_natCast]
    refine EvP.bind (impl_ApplyPatches.ok b [] hb ⟨by simp, fun x hx => by cases hx⟩) ?_
    rintro _ rfl
    refine EvP.pos (by omega) (EvP.pos (by omega) ?_)
    refine EvP.bind (impl_ApplyPatches.ok b _ hb (good_all t1 (by rw [List.length_take]; omega))) ?_
    rintro _ rfl
    rw [app_ok eb t2 (by omega), app_ok eb (show pairsB [] = true from rfl) (show (putsP b []).length ≤ 8 from b2), app_ok eb ep h8]
    refine EvP.bind (impl_ApplyPatches.ok _ _ (good_all (puts_all b1 t1) (show (putsP b (p.take (p.length / 2))).length ≤ 1000 by omega)) (good_all d1 (by rw [List.length_drop]; omega))) ?_
    rintro _ rfl
    rw [app_ok hm d2 (by rw [es]; exact h8), es]
    refine EvP.pos rfl ?_
    refine EvP.bind (laws_equalPairs.ok b (by omega)) ?_
    rintro _ rfl
    refine EvP.pos rfl (EvP.pos rfl (EvP.pos rfl ?_))
    refine EvP.bind (laws_equalPairs.ok _ (by simp only; omega)) ?_
    rintro _ rfl
    exact EvP.now rfl
end QFnApplyPatches
theorem FnApplyPatches : laws_FnApplyPatches.Pure := QFnApplyPatches.main
end Go.Proofs.Ytfflomiadjgbpaa.Pure

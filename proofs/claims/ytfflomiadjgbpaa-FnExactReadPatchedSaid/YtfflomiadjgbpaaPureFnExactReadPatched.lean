/- FnExactReadPatched answers true for all arguments: the program's ReadPatched returns what the reference's returns, and leaves its arguments as they are. Conditions: those of the printed statement alone (bounds on sizes that every input meets). -/
import Derived.Test.YtfflomiadjgbpaaOFnExactReadPatchedx3
import Derived.Test.YtfflomiadjgbpaaBase
namespace Go.Proofs.Ytfflomiadjgbpaa.Pure
open Go.RowKit Go.Proofs.Ytfflomiadjgbpaa.OFnExactReadPatched Go.Proofs.YtfflomiadjgbpaaW.PrintWords Go.Proofs.YtfflomiadjgbpaaW.PrintLast Go.Proofs.YtfflomiadjgbpaaW.PrintMore Go.Proofs.Ytfflomiadjgbpaa.Base
set_option linter.unusedVariables false
set_option linter.unusedSimpArgs false
namespace QFnExactReadPatched
/-! #### names -/
def azB (s : ByteArray) : Bool := decide (∀ j : Nat, j < s.size → 97 ≤ bt s (j : Int) ∧ bt s (j : Int) ≤ 122)
def wordB (s : ByteArray) : Bool := decide (s.toList ≠ [97, 110, 100]) && (decide (s.toList ≠ [111, 114]) && decide (s.toList ≠ [110, 111, 116]))
def nameB (s : ByteArray) : Bool := azB s && (decide (1 ≤ s.size ∧ s.size ≤ 6) && wordB s)
theorem azB_no {s : ByteArray} {i : Nat} (hi : i < s.size) (h : ¬ (97 ≤ bt s (i : Int) ∧ bt s (i : Int) ≤ 122)) : nameB s = false := by
  have : azB s = false := by
    rw [azB, decide_eq_false_iff_not]
    exact fun g => h (g i hi)
  rw [nameB, this]
  rfl
theorem azB_yes {s : ByteArray} (h : ∀ j : Nat, j < s.size → 97 ≤ bt s (j : Int) ∧ bt s (j : Int) ≤ 122) : azB s = true := by
  rw [azB, decide_eq_true_iff]
  exact h
theorem words_ok (s : ByteArray) : EvP (fun _ => if s.toList = ([97, 110, 100] : List UInt8) then (some false) else (if s.toList = ([111, 114] : List UInt8) then (some false) else (some (s.toList != ([110, 111, 116] : List UInt8))))) (· = wordB s) := by
  unfold wordB
  refine EvP.ite (fun h => EvP.now (by simp [h])) (fun h => EvP.ite (fun h2 => EvP.now (by simp [h2])) (fun h2 => EvP.now ?_))
  simp [h, h2, bne]
  rw [Bool.eq_iff_iff]
  simp
def numB (n : Int) : Bool := decide (-99 ≤ n ∧ n ≤ 99)
def numsB (l : List Int) : Bool := l.all numB
theorem numsB_no {l pre rest : List Int} {x : Int} (h : l = pre ++ x :: rest) (hx : ¬ (-99 ≤ x ∧ x ≤ 99)) : numsB l = false := by
  rw [h, numsB, List.all_append, List.all_cons, numB, decide_eq_false hx]
  simp
theorem numsB_snoc {pre : List Int} {x : Int} (h : numsB pre = true) (hx : -99 ≤ x ∧ x ≤ 99) : numsB (pre ++ [x]) = true := by
  rw [numsB, List.all_append, ← numsB, h, List.all_cons, numB, decide_eq_true hx]
  rfl
/-! #### pairs -/
def pairB (x : S29) : Bool := nameB x.f0 && numB x.f1
def pairsB (l : List S29) : Bool := l.all pairB && decide ((l.length : Int) ≤ 8)
def GoodQ (l : List S29) : Prop := (l.length : Int) ≤ 4398046511104 ∧ ∀ x ∈ l, (x.f0.size : Int) ≤ 4398046511104
theorem pall_no {l pre rest : List S29} {x : S29} (h : l = pre ++ x :: rest) (hx : pairB x = false) : pairsB l = false := by
  rw [pairsB, h, List.all_append, List.all_cons, hx]
  simp
theorem pall_yes {pre : List S29} {x : S29} (h : pre.all pairB = true) (hx : pairB x = true) : (pre ++ [x]).all pairB = true := by
  rw [List.all_append, h, List.all_cons, hx]
  rfl
/-- The place of the last pair of a name, -1 if there is none. -/
def lastAt (l : List S29) (s : ByteArray) : Nat → Int
  | 0 => -1
  | n + 1 => if (rd_T29 l (n : Int)).f0.toList = s.toList then (n : Int) else lastAt l s n
def lastP (l : List S29) (s : ByteArray) : Int := lastAt l s l.length
theorem lastAt_lt (l : List S29) (s : ByteArray) : ∀ n, -1 ≤ lastAt l s n ∧ lastAt l s n < (n : Int)
  | 0 => by simp [lastAt]
  | n + 1 => by
    have := lastAt_lt l s n
    rw [lastAt]
    split <;> omega
theorem lastP_lt (l : List S29) (s : ByteArray) : -1 ≤ lastP l s ∧ lastP l s < (l.length : Int) := lastAt_lt l s l.length
/-- What a name reads as, under patches. -/
def valP (base patches : List S29) (s : ByteArray) : Int × Bool :=
  if (pairsB base && pairsB patches) = true then
    if lastP patches s ≥ 0 then ((rd_T29 patches (lastP patches s)).f1, true) else if lastP base s ≥ 0 then ((rd_T29 base (lastP base s)).f1, true) else (0, false)
  else (0, false)
def Q56 (x : S56) : Prop := (x.f0.size ≤ 9223372036854775807) ∧ ((Lit.int .i64 x.f1).wf = true)
def cPair (x : S56) : S29 := ⟨x.f0, x.f1⟩
theorem laws_szPair.ok (x : S56) (h : Q56 x) (left : Int) (h0 : 0 ≤ left) (h1 : left ≤ 1048576) : EvP (fun _ => laws_szPair.f x.f0 x.f1 left) (fun r => r < 0 ∨ (0 ≤ r ∧ r + x.f0.size ≤ left)) := by
  unfold laws_szPair.f
  have := h.1
  rw [wrap_id (by omega) (by omega)]
  exact EvP.ite (fun _ => EvP.now (.inl (by omega))) (fun _ => EvP.now (.inr (by omega)))
theorem laws_szPairS.ok (l : List S56) (hl : l.length ≤ 9223372036854775807) (hq : ∀ x ∈ l, Q56 x) (left : Int) (h0 : 0 ≤ left) (h1 : left ≤ 1048576) :
    EvP (fun k => laws_szPairS.f k l left) (fun r => r < 0 ∨ (0 ≤ r ∧ r + l.length ≤ left ∧ GoodQ (l.map cPair))) := by
  unfold laws_szPairS.f
  rw [wrap_id (by omega) (by omega)]
  refine EvP.ite (fun _ => EvP.now (.inl (by omega))) (fun hn => ?_)
  refine EvP.range (L := fun k s i => laws_szPairS.l0 k l s i) (xs := l) (Inv := fun pre s => 0 ≤ s ∧ s + l.length ≤ left ∧ ∀ x ∈ pre, (x.f0.size : Int) ≤ left) ?_ ?_ _ ⟨by omega, by omega, fun x hx => by cases hx⟩
  · rintro pre x rest s hx ⟨a0, a1, a2⟩ ih
    have hlt := len_at hx
    have hr : rd_T56 l (pre.length : Int) = x := getD_at hx _
    simp only [laws_szPairS.l0, hr, wrap_at hx (by omega)]
    refine EvP.pos hlt (EvP.pos (nat_nonneg _) ?_)
    refine EvP.bind (laws_szPair.ok x (hq x (by rw [hx]; simp)) s a0 (by omega)) ?_
    rintro r (g | ⟨g0, g1⟩)
    · exact EvP.pos g (EvP.now (.inl (by omega)))
    · refine EvP.neg (by omega) (ih r ⟨g0, by omega, fun y hy => ?_⟩)
      rcases List.mem_append.1 hy with hy | hy
      · exact a2 y hy
      · rw [List.mem_singleton.1 hy]
        omega
  · rintro s ⟨a0, a1, a2⟩
    simp only [laws_szPairS.l0]
    refine EvP.neg (by omega) (EvP.now (.inr ⟨a0, a1, by rw [List.length_map]; omega, fun y hy => ?_⟩))
    obtain ⟨x, hx, rfl⟩ := List.mem_map.1 hy
    have := a2 x hx
    simp only [cPair]
    omega
theorem laws_toPair.ok (x : S56) : EvP (fun _ => laws_toPair.f x.f0 x.f1) (fun r => (⟨r.1, r.2⟩ : S29) = cPair x) := by
  unfold laws_toPair.f
  exact EvP.now rfl
theorem laws_toPairS.ok (l : List S56) (hl : (l.length : Int) ≤ 1048576) : EvP (fun k => laws_toPairS.f k l) (· = l.map cPair) := by
  unfold laws_toPairS.f
  refine EvP.pos (by omega) (EvP.pos (by omega) ?_)
  rw [Int.toNat_natCast]
  refine EvP.fill (L := fun k s i => laws_toPairS.l0 k l s i) (xs := l) cPair _ ?_ ?_
  · intro pre x rest s hx hs ih
    have hlt := len_at hx
    have hr : rd_T56 l (pre.length : Int) = x := getD_at hx _
    simp only [laws_toPairS.l0, hr, wrap_at hx (by omega)]
    refine EvP.pos hlt (EvP.pos (nat_nonneg _) ?_)
    refine EvP.bind (laws_toPair.ok x) ?_
    intro r g
    rw [g]
    exact EvP.pos (by omega) ih
  · intro s
    simp only [laws_toPairS.l0]
    exact EvP.neg (by omega) (EvP.now rfl)
theorem laws_eqPairS.ok (l : List S29) (hl : (l.length : Int) ≤ 9223372036854775807) : EvP (fun k => laws_eqPairS.f k l l) (· = true) := by
  unfold laws_eqPairS.f
  refine EvP.pos rfl ?_
  refine EvP.range (L := fun k (_ : Unit) i => laws_eqPairS.l0 k l l i) (xs := l) (Inv := fun _ _ => True) ?_ ?_ () trivial
  · rintro pre x rest s hx _ ih
    have hlt := len_at hx
    have hr : rd_T29 l (pre.length : Int) = x := getD_at hx _
    simp only [laws_eqPairS.l0, hr, wrap_at hx hl]
    refine EvP.pos hlt (EvP.pos (nat_nonneg _) (EvP.pos hlt ?_))
    refine EvP.bind (P := (· = true)) ?_ ?_
    · unfold laws_eqPair.f
      exact EvP.pos rfl (EvP.pos rfl (EvP.now rfl))
    · rintro _ rfl
      exact EvP.pos rfl (ih () trivial)
  · rintro s _
    simp only [laws_eqPairS.l0]
    exact EvP.neg (by omega) (EvP.now rfl)
theorem impl_nameOk.ok (s : ByteArray) (h : (s.size : Int) ≤ 9223372036854775807) : EvP (fun k => impl_nameOk.f k s) (· = nameB s) := by
  unfold impl_nameOk.f
  refine EvP.upto (L := fun k (_ : Unit) i => impl_nameOk.l0 k s (s.size : Int) i) (n := s.size) (Inv := fun i _ => ∀ j : Nat, j < i → 97 ≤ bt s (j : Int) ∧ bt s (j : Int) ≤ 122) ?_ ?_ () (fun j hj => by omega)
  · rintro i _ hi hv ih
    simp only [impl_nameOk.l0]
    refine EvP.pos (by omega) (EvP.pos (by omega) (EvP.pos (by omega) ?_))
    refine EvP.ite (fun e => EvP.now (azB_no hi (by omega)).symm) (fun e => EvP.ite (fun e2 => EvP.now (azB_no hi (by omega)).symm) (fun e2 => ?_))
    rw [wrap_id (by omega) (by omega)]
    refine ih () (fun j hj => ?_)
    rcases Nat.lt_succ_iff_lt_or_eq.1 hj with hj | rfl
    · exact hv j hj
    · omega
  · rintro _ hv
    simp only [impl_nameOk.l0]
    have ha := azB_yes hv
    refine EvP.neg (by omega) (EvP.ite (fun e => EvP.ite (fun e2 => ?_) (fun e2 => EvP.now ?_)) (fun e => EvP.now ?_))
    · refine (words_ok s).mono ?_
      rintro _ rfl
      rw [nameB, ha, decide_eq_true (show 1 ≤ s.size ∧ s.size ≤ 6 by omega)]
      rfl
    · rw [nameB, decide_eq_false (show ¬ (1 ≤ s.size ∧ s.size ≤ 6) by omega)]
      simp
    · rw [nameB, decide_eq_false (show ¬ (1 ≤ s.size ∧ s.size ≤ 6) by omega)]
      simp
theorem impl_numbersOk.ok (l : List Int) (h : (l.length : Int) ≤ 9223372036854775807) : EvP (fun k => impl_numbersOk.f k l) (· = numsB l) := by
  unfold impl_numbersOk.f
  refine EvP.range (L := fun k (_ : Unit) i => impl_numbersOk.l0 k l (l.length : Int) i) (xs := l) (Inv := fun pre _ => numsB pre = true) ?_ ?_ () rfl
  · rintro pre x rest _ hx hi ih
    have hl := len_at hx
    have hr : rd l (pre.length : Int) = x := getD_at hx _
    simp only [impl_numbersOk.l0, hr, wrap_at hx h]
    refine EvP.pos hl (EvP.pos (nat_nonneg _) (EvP.pos hl ?_))
    exact EvP.ite (fun e => EvP.now (numsB_no hx (by omega)).symm) (fun e => EvP.ite (fun e2 => EvP.now (numsB_no hx (by omega)).symm) (fun e2 => ih () (numsB_snoc hi (by omega))))
  · rintro _ hi
    simp only [impl_numbersOk.l0]
    exact EvP.neg (by omega) (EvP.now hi.symm)
theorem impl_pairsOk.ok (l : List S29) (h : GoodQ l) : EvP (fun k => impl_pairsOk.f k l) (· = pairsB l) := by
  have h1 := h.1
  unfold impl_pairsOk.f
  refine EvP.range (L := fun k (_ : Unit) i => impl_pairsOk.l0 k l l (l.length : Int) i) (xs := l) (Inv := fun pre _ => pre.all pairB = true) ?_ ?_ () rfl
  · rintro pre x rest _ hx hi ih
    have hl := len_at hx
    have hr : rd_T29 l (pre.length : Int) = x := getD_at hx _
    have hg := h.2 x (by rw [hx]; simp)
    simp only [impl_pairsOk.l0, hr, wrap_at hx (show (l.length : Int) ≤ 9223372036854775807 by omega)]
    refine EvP.pos hl (EvP.pos (nat_nonneg _) (EvP.pos hl ?_))
    refine EvP.bind (impl_nameOk.ok x.f0 (by omega)) ?_
    rintro _ rfl
    refine EvP.ite (fun e => ?_) (fun e => EvP.now (pall_no hx (by rw [pairB, show nameB x.f0 = false by simpa using e]; rfl)).symm)
    refine EvP.bind (impl_numbersOk.ok [x.f1] (by simp)) ?_
    rintro _ rfl
    have e1 : numsB [x.f1] = numB x.f1 := by simp [numsB]
    rw [e1]
    refine EvP.ite (fun e2 => ih () (pall_yes hi (by rw [pairB, e, e2]; rfl))) (fun e2 => EvP.now (pall_no hx (by rw [pairB, show numB x.f1 = false by simpa using e2]; simp)).symm)
  · rintro _ hi
    simp only [impl_pairsOk.l0]
    exact EvP.neg (by omega) (EvP.now (by rw [pairsB, hi]; rfl))
theorem impl_lastOf.ok (l : List S29) (s : ByteArray) (h : (l.length : Int) ≤ 4398046511104) : EvP (fun k => impl_lastOf.f k l s) (· = lastP l s) := by
  unfold impl_lastOf.f
  rw [wrap_id (by omega) (by omega)]
  have main : ∀ n : Nat, n ≤ l.length → EvP (fun k => impl_lastOf.l0 k l s ((n : Int) - 1)) (· = lastAt l s n) := by
    intro n
    induction n with
    | zero =>
      intro _
      refine EvP.succ ?_
      simp only [impl_lastOf.l0]
      exact EvP.neg (by omega) (EvP.now rfl)
    | succ n ih =>
      intro hn
      refine EvP.succ ?_
      rw [show (((n + 1 : Nat) : Int) - 1) = (n : Int) by omega]
      simp only [impl_lastOf.l0]
      rw [wrap_id (x := (n : Int) - 1) (by omega) (by omega)]
      refine EvP.pos (by omega) (EvP.pos (by omega) (EvP.pos (by omega) ?_))
      exact EvP.ite (fun e => EvP.now (by rw [lastAt, if_pos e])) (fun e => by rw [lastAt, if_neg e]; exact ih (by omega))
  exact main l.length (Nat.le_refl _)
theorem impl_ReadPatched.ok (base patches : List S29) (s : ByteArray) (h : GoodQ base) (hp : GoodQ patches) : EvP (fun k => impl_ReadPatched.f k base patches s) (· = valP base patches s) := by
  have h1 := h.1
  have h2 := hp.1
  have no : ∀ c : Bool, c = true → (pairsB base && pairsB patches) = false → EvP (fun k => impl_ReadPatched.j0 k base patches s c) (· = valP base patches s) := by
    intro c hc hb
    refine EvP.succ ?_
    simp only [impl_ReadPatched.j0]
    exact EvP.pos hc (EvP.now (by rw [valP, hb]; rfl))
  unfold impl_ReadPatched.f
  refine EvP.bind (impl_pairsOk.ok base h) ?_
  rintro _ rfl
  refine EvP.ite (fun e => ?_) (fun e => no _ rfl (by rw [show pairsB base = false by simpa using e]; rfl))
  refine EvP.bind (impl_pairsOk.ok patches hp) ?_
  rintro _ rfl
  cases e2 : pairsB patches with
  | false => exact no _ rfl (by rw [e2]; simp)
  | true =>
    have l1 := lastP_lt patches s
    have l2 := lastP_lt base s
    refine EvP.succ ?_
    simp only [impl_ReadPatched.j0]
    refine EvP.neg (by simp) ?_
    refine EvP.bind (P := (· = [patches, base])) (EvP.now rfl) ?_
    rintro _ rfl
    refine EvP.succ ?_
    simp only [impl_ReadPatched.l0]
    refine EvP.pos (by simp) (EvP.pos (by decide) (EvP.pos (by simp) ?_))
    refine EvP.bind (impl_lastOf.ok patches s (by omega)) ?_
    rintro _ rfl
    refine EvP.ite (fun e3 => EvP.pos (by omega) (EvP.pos l1.2 (EvP.now ?_))) (fun e3 => ?_)
    · rw [valP, e, e2, if_pos (show (true && true) = true from rfl), if_pos e3]
      rfl
    refine EvP.succ ?_
    rw [show wrap64 (0 + 1) = 1 by unfold wrap64; omega]
    simp only [impl_ReadPatched.l0]
    refine EvP.pos (by simp) (EvP.pos (by decide) (EvP.pos (by simp) ?_))
    refine EvP.bind (impl_lastOf.ok base s (by omega)) ?_
    rintro _ rfl
    refine EvP.ite (fun e4 => EvP.pos (by omega) (EvP.pos l2.2 (EvP.now ?_))) (fun e4 => ?_)
    · rw [valP, e, e2, if_pos (show (true && true) = true from rfl), if_neg e3, if_pos e4]
      rfl
    refine EvP.succ ?_
    rw [show wrap64 (1 + 1) = 2 by unfold wrap64; omega]
    simp only [impl_ReadPatched.l0]
    refine EvP.neg (by simp) (EvP.now ?_)
    rw [valP, e, e2, if_pos (show (true && true) = true from rfl), if_neg e3, if_neg e4]
theorem spec_inRange.ok (a b c : Int) : EvP (fun _ => spec_inRange.f a b c) (· = decide (b ≤ a ∧ a ≤ c)) := by
  unfold spec_inRange.f
  exact EvP.ite (fun h => EvP.now (by simp [h])) (fun h => EvP.now (by simp [h]))
theorem spec_validName.ok (s : ByteArray) (h : (s.size : Int) ≤ 9223372036854775807) : EvP (fun k => spec_validName.f k s) (· = nameB s) := by
  unfold spec_validName.f
  refine EvP.upto (L := fun k (_ : Unit) i => spec_validName.l0 k s i) (n := s.size) (Inv := fun i _ => ∀ j : Nat, j < i → 97 ≤ bt s (j : Int) ∧ bt s (j : Int) ≤ 122) ?_ ?_ () (fun j hj => by omega)
  · rintro i _ hi hv ih
    simp only [spec_validName.l0]
    refine EvP.pos (by omega) (EvP.pos (by omega) ?_)
    refine EvP.ite (fun e => EvP.now (azB_no hi (by omega)).symm) (fun e => EvP.ite (fun e2 => EvP.now (azB_no hi (by omega)).symm) (fun e2 => ?_))
    rw [wrap_id (by omega) (by omega)]
    refine ih () (fun j hj => ?_)
    rcases Nat.lt_succ_iff_lt_or_eq.1 hj with hj | rfl
    · exact hv j hj
    · omega
  · rintro _ hv
    simp only [spec_validName.l0]
    have ha := azB_yes hv
    refine EvP.neg (by omega) ?_
    refine EvP.bind (spec_inRange.ok _ _ _) ?_
    rintro _ rfl
    refine EvP.ite (fun e => ?_) (fun e => EvP.now ?_)
    · have e' := of_decide_eq_true e
      refine (words_ok s).mono ?_
      rintro _ rfl
      rw [nameB, ha, decide_eq_true (show 1 ≤ s.size ∧ s.size ≤ 6 by omega)]
      rfl
    · have e' : ¬ (1 ≤ (s.size : Int) ∧ (s.size : Int) ≤ 6) := fun g => e (decide_eq_true g)
      rw [nameB, decide_eq_false (show ¬ (1 ≤ s.size ∧ s.size ≤ 6) by omega)]
      simp
theorem spec_validPairs.ok (l : List S29) (h : GoodQ l) : EvP (fun k => spec_validPairs.f k l) (· = pairsB l) := by
  have h1 := h.1
  unfold spec_validPairs.f
  refine EvP.range (L := fun k (_ : Unit) i => spec_validPairs.l0 k l i) (xs := l) (Inv := fun pre _ => pre.all pairB = true) ?_ ?_ () rfl
  · rintro pre x rest _ hx hi ih
    have hl := len_at hx
    have hr : rd_T29 l (pre.length : Int) = x := getD_at hx _
    have hg := h.2 x (by rw [hx]; simp)
    simp only [spec_validPairs.l0, hr, wrap_at hx (show (l.length : Int) ≤ 9223372036854775807 by omega)]
    refine EvP.pos hl (EvP.pos (nat_nonneg _) ?_)
    refine EvP.bind (spec_validName.ok x.f0 (by omega)) ?_
    rintro _ rfl
    refine EvP.ite (fun e => ?_) (fun e => EvP.now (pall_no hx (by rw [pairB, show nameB x.f0 = false by simpa using e]; rfl)).symm)
    refine EvP.bind (spec_inRange.ok _ _ _) ?_
    rintro _ rfl
    refine EvP.ite (fun e2 => ih () (pall_yes hi (by rw [pairB, e, numB, e2]; rfl))) (fun e2 => EvP.now (pall_no hx (by rw [pairB, numB, show decide (-99 ≤ x.f1 ∧ x.f1 ≤ 99) = false by simpa using e2]; simp)).symm)
  · rintro _ hi
    simp only [spec_validPairs.l0]
    exact EvP.neg (by omega) (EvP.now (by rw [pairsB, hi]; rfl))
theorem spec_pairAt.ok (l : List S29) (s : ByteArray) (h : (l.length : Int) ≤ 4398046511104) : EvP (fun k => spec_pairAt.f k l s) (· = lastP l s) := by
  unfold spec_pairAt.f
  rw [wrap_id (by omega) (by omega)]
  have main : ∀ n : Nat, n ≤ l.length → EvP (fun k => spec_pairAt.l0 k l s ((n : Int) - 1)) (· = lastAt l s n) := by
    intro n
    induction n with
    | zero =>
      intro _
      refine EvP.succ ?_
      simp only [spec_pairAt.l0]
      exact EvP.neg (by omega) (EvP.now rfl)
    | succ n ih =>
      intro hn
      refine EvP.succ ?_
      rw [show (((n + 1 : Nat) : Int) - 1) = (n : Int) by omega]
      simp only [spec_pairAt.l0]
      rw [wrap_id (x := (n : Int) - 1) (by omega) (by omega)]
      refine EvP.pos (by omega) (EvP.pos (by omega) (EvP.pos (by omega) ?_))
      exact EvP.ite (fun e => EvP.now (by rw [lastAt, if_pos e])) (fun e => by rw [lastAt, if_neg e]; exact ih (by omega))
  exact main l.length (Nat.le_refl _)
theorem spec_ReadPatched.ok (base patches : List S29) (s : ByteArray) (h : GoodQ base) (hp : GoodQ patches) : EvP (fun k => spec_ReadPatched.f k base patches s) (· = valP base patches s) := by
  have h1 := h.1
  have h2 := hp.1
  have no : ∀ c : Bool, c = true → (pairsB base && pairsB patches) = false → EvP (fun k => spec_ReadPatched.j0 k base patches s c) (· = valP base patches s) := by
    intro c hc hb
    refine EvP.succ ?_
    simp only [spec_ReadPatched.j0]
    exact EvP.pos hc (EvP.now (by rw [valP, hb]; rfl))
  unfold spec_ReadPatched.f
  refine EvP.bind (spec_validPairs.ok base h) ?_
  rintro _ rfl
  refine EvP.ite (fun e => ?_) (fun e => no _ rfl (by rw [show pairsB base = false by simpa using e]; rfl))
  refine EvP.bind (spec_validPairs.ok patches hp) ?_
  rintro _ rfl
  cases e2 : pairsB patches with
  | false => exact no _ rfl (by rw [e2]; simp)
  | true =>
    have l1 := lastP_lt patches s
    have l2 := lastP_lt base s
    refine EvP.succ ?_
    simp only [spec_ReadPatched.j0]
    refine EvP.neg (by simp) ?_
    refine EvP.bind (spec_pairAt.ok patches s (by omega)) ?_
    rintro _ rfl
    refine EvP.ite (fun e3 => EvP.pos (by omega) (EvP.pos l1.2 (EvP.now ?_))) (fun e3 => ?_)
    · rw [valP, e, e2, if_pos (show (true && true) = true from rfl), if_pos e3]
    refine EvP.bind (spec_pairAt.ok base s (by omega)) ?_
    rintro _ rfl
    refine EvP.ite (fun e4 => EvP.pos (by omega) (EvP.pos l2.2 (EvP.now ?_))) (fun e4 => EvP.now ?_)
    · rw [valP, e, e2, if_pos (show (true && true) = true from rfl), if_neg e3, if_pos e4]
    · rw [valP, e, e2, if_pos (show (true && true) = true from rfl), if_neg e3, if_neg e4]
theorem main (l0 : List S56) (hl : l0.length ≤ 9223372036854775807) (hq : ∀ x ∈ l0, Q56 x) (l1 : List S56) (hl1 : l1.length ≤ 9223372036854775807) (hq1 : ∀ x ∈ l1, Q56 x) (s : ByteArray) (hs : s.size ≤ 140737488351232) : ∃ k, laws_FnExactReadPatched.f k l0 l1 s = some true := by
  refine EvP.rounds ?_
  unfold laws_FnExactReadPatched.f
  refine EvP.ite (fun _ => EvP.now rfl) (fun _ => ?_)
  refine EvP.bind (laws_szPairS.ok l0 hl hq _ (by omega) (by omega)) ?_
  rintro r (g | ⟨g0, g1, gg⟩)
  · exact EvP.pos g (EvP.now rfl)
  refine EvP.neg (by omega) ?_
  refine EvP.bind (laws_szPairS.ok l1 hl1 hq1 r (by omega) (by omega)) ?_
  rintro r2 (g | ⟨g2, g3, gg2⟩)
  · exact EvP.pos g (EvP.now rfl)
  refine EvP.neg (by omega) ?_
  have hto := laws_toPairS.ok l0 (by omega)
  have hto2 := laws_toPairS.ok l1 (by omega)
  have hg := gg.1
  have hg2 := gg2.1
  refine EvP.bind hto ?_
  rintro _ rfl
  refine EvP.bind hto2 ?_
  rintro _ rfl
  refine EvP.bind (spec_ReadPatched.ok _ _ s gg gg2) ?_
  rintro _ rfl
  refine EvP.bind hto ?_
  rintro _ rfl
  refine EvP.bind hto2 ?_
  rintro _ rfl
  refine EvP.bind (impl_ReadPatched.ok _ _ s gg gg2) ?_
  rintro _ rfl
  refine EvP.pos rfl ?_
  refine EvP.succ ?_
  simp only [laws_FnExactReadPatched.j0]
  refine EvP.neg (by simp) ?_
  refine EvP.bind hto ?_
  rintro _ rfl
  refine EvP.bind (laws_eqPairS.ok _ (by omega)) ?_
  rintro _ rfl
  refine EvP.pos rfl ?_
  refine EvP.bind hto2 ?_
  rintro _ rfl
  refine EvP.bind (laws_eqPairS.ok _ (by omega)) ?_
  rintro _ rfl
  exact EvP.pos rfl (EvP.now rfl)
end QFnExactReadPatched
end Go.Proofs.Ytfflomiadjgbpaa.Pure

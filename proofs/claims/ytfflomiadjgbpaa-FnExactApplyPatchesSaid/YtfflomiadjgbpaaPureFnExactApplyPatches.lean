/- FnExactApplyPatches answers true for all arguments: the program's ApplyPatches returns what the reference's returns, shares no memory with its arguments, and leaves them as they are. Conditions: those of the printed statement alone (bounds on sizes that every input meets). -/
import Derived.Test.YtfflomiadjgbpaaOFnExactApplyPatchesx6
import Derived.Test.YtfflomiadjgbpaaBase
namespace Go.Proofs.Ytfflomiadjgbpaa.Pure
open Go.RowKit Go.Proofs.Ytfflomiadjgbpaa.OFnExactApplyPatches Go.Proofs.YtfflomiadjgbpaaW.PrintWords Go.Proofs.YtfflomiadjgbpaaW.PrintLast Go.Proofs.YtfflomiadjgbpaaW.PrintMore Go.Proofs.Ytfflomiadjgbpaa.Base
set_option linter.unusedVariables false
set_option linter.unusedSimpArgs false
namespace QFnExactApplyPatches
/-! #### names -/
def azB (s : ByteArray) : Bool := decide (∀ j : Nat, j < s.size → 97 ≤ bt s (j : Int) ∧ bt s (j : Int) ≤ 122)
def wordB (s : ByteArray) : Bool := decide (s.toList ≠ [97, 110, 100]) && (decide (s.toList ≠ [111, 114]) && decide (s.toList ≠ [110, 111, 116]))
def nameB (s : ByteArray) : Bool := azB s && (decide (1 ≤ s.size ∧ s.size ≤ 6) && wordB s)
theorem azB_no {s : ByteArray} {i : Nat} (hi : i < s.size) (h : ¬ (97 ≤ bt s (i : Int) ∧ bt s (i : Int) ≤ 122)) : nameB s = false := by
  have : azB s = false := by
    rw [azB, decide_eq_false_iff_not]
    exact fun g => h (g i hi)
  rw [nameB, this]
  rfl
theorem azB_yes {s : ByteArray} (h : ∀ j : Nat, j < s.size → 97 ≤ bt s (j : Int) ∧ bt s (j : Int) ≤ 122) : azB s = true := by
  rw [azB, decide_eq_true_iff]
  exact h
theorem words_ok (s : ByteArray) : EvP (fun _ => if s.toList = ([97, 110, 100] : List UInt8) then (some false) else (if s.toList = ([111, 114] : List UInt8) then (some false) else (some (s.toList != ([110, 111, 116] : List UInt8))))) (· = wordB s) := by
  unfold wordB
  refine EvP.ite (fun h => EvP.now (by simp [h])) (fun h => EvP.ite (fun h2 => EvP.now (by simp [h2])) (fun h2 => EvP.now ?_))
  simp [h, h2, bne]
  rw [Bool.eq_iff_iff]
  simp
def numB (n : Int) : Bool := decide (-99 ≤ n ∧ n ≤ 99)
def numsB (l : List Int) : Bool := l.all numB
theorem numsB_no {l pre rest : List Int} {x : Int} (h : l = pre ++ x :: rest) (hx : ¬ (-99 ≤ x ∧ x ≤ 99)) : numsB l = false := by
  rw [h, numsB, List.all_append, List.all_cons, numB, decide_eq_false hx]
  simp
theorem numsB_snoc {pre : List Int} {x : Int} (h : numsB pre = true) (hx : -99 ≤ x ∧ x ≤ 99) : numsB (pre ++ [x]) = true := by
  rw [numsB, List.all_append, ← numsB, h, List.all_cons, numB, decide_eq_true hx]
  rfl
/-! #### pairs -/
def pairB (x : S29) : Bool := nameB x.f0 && numB x.f1
def pairsB (l : List S29) : Bool := l.all pairB && decide ((l.length : Int) ≤ 8)
def GoodQ (l : List S29) : Prop := (l.length : Int) ≤ 4398046511104 ∧ ∀ x ∈ l, (x.f0.size : Int) ≤ 4398046511104
theorem pall_no {l pre rest : List S29} {x : S29} (h : l = pre ++ x :: rest) (hx : pairB x = false) : pairsB l = false := by
  rw [pairsB, h, List.all_append, List.all_cons, hx]
  simp
theorem pall_yes {pre : List S29} {x : S29} (h : pre.all pairB = true) (hx : pairB x = true) : (pre ++ [x]).all pairB = true := by
  rw [List.all_append, h, List.all_cons, hx]
  rfl
/-- The place of the last pair of a name, -1 if there is none. -/
def lastAt (l : List S29) (s : ByteArray) : Nat → Int
  | 0 => -1
  | n + 1 => if (rd_T29 l (n : Int)).f0.toList = s.toList then (n : Int) else lastAt l s n
def lastP (l : List S29) (s : ByteArray) : Int := lastAt l s l.length
theorem lastAt_lt (l : List S29) (s : ByteArray) : ∀ n, -1 ≤ lastAt l s n ∧ lastAt l s n < (n : Int)
  | 0 => by simp [lastAt]
  | n + 1 => by
    have := lastAt_lt l s n
    rw [lastAt]
    split <;> omega
theorem lastP_lt (l : List S29) (s : ByteArray) : -1 ≤ lastP l s ∧ lastP l s < (l.length : Int) := lastAt_lt l s l.length
/-- What a name reads as, under patches. -/
def valP (base patches : List S29) (s : ByteArray) : Int × Bool :=
  if (pairsB base && pairsB patches) = true then
    if lastP patches s ≥ 0 then ((rd_T29 patches (lastP patches s)).f1, true) else if lastP base s ≥ 0 then ((rd_T29 base (lastP base s)).f1, true) else (0, false)
  else (0, false)
def Q56 (x : S56) : Prop := (x.f0.size ≤ 9223372036854775807) ∧ ((Lit.int .i64 x.f1).wf = true)
def cPair (x : S56) : S29 := ⟨x.f0, x.f1⟩
theorem laws_szPair.ok (x : S56) (h : Q56 x) (left : Int) (h0 : 0 ≤ left) (h1 : left ≤ 1048576) : EvP (fun _ => laws_szPair.f x.f0 x.f1 left) (fun r => r < 0 ∨ (0 ≤ r ∧ r + x.f0.size ≤ left)) := by
  unfold laws_szPair.f
  have := h.1
  rw [wrap_id (by omega) (by omega)]
  exact EvP.ite (fun _ => EvP.now (.inl (by omega))) (fun _ => EvP.now (.inr (by omega)))
theorem laws_szPairS.ok (l : List S56) (hl : l.length ≤ 9223372036854775807) (hq : ∀ x ∈ l, Q56 x) (left : Int) (h0 : 0 ≤ left) (h1 : left ≤ 1048576) :
    EvP (fun k => laws_szPairS.f k l left) (fun r => r < 0 ∨ (0 ≤ r ∧ r + l.length ≤ left ∧ GoodQ (l.map cPair))) := by
  unfold laws_szPairS.f
  rw [wrap_id (by omega) (by omega)]
  refine EvP.ite (fun _ => EvP.now (.inl (by omega))) (fun hn => ?_)
  refine EvP.range (L := fun k s i => laws_szPairS.l0 k l s i) (xs := l) (Inv := fun pre s => 0 ≤ s ∧ s + l.length ≤ left ∧ ∀ x ∈ pre, (x.f0.size : Int) ≤ left) ?_ ?_ _ ⟨by omega, by omega, fun x hx => by cases hx⟩
  · rintro pre x rest s hx ⟨a0, a1, a2⟩ ih
    have hlt := len_at hx
    have hr : rd_T56 l (pre.length : Int) = x := getD_at hx _
    simp only [laws_szPairS.l0, hr, wrap_at hx (by omega)]
    refine EvP.pos hlt (EvP.pos (nat_nonneg _) ?_)
    refine EvP.bind (laws_szPair.ok x (hq x (by rw [hx]; simp)) s a0 (by omega)) ?_
    rintro r (g | ⟨g0, g1⟩)
    · exact EvP.pos g (EvP.now (.inl (by omega)))
    · refine EvP.neg (by omega) (ih r ⟨g0, by omega, fun y hy => ?_⟩)
      rcases List.mem_append.1 hy with hy | hy
      · exact a2 y hy
      · rw [List.mem_singleton.1 hy]
        omega
  · rintro s ⟨a0, a1, a2⟩
    simp only [laws_szPairS.l0]
    refine EvP.neg (by omega) (EvP.now (.inr ⟨a0, a1, by rw [List.length_map]; omega, fun y hy => ?_⟩))
    obtain ⟨x, hx, rfl⟩ := List.mem_map.1 hy
    have := a2 x hx
    simp only [cPair]
    omega
theorem laws_toPair.ok (x : S56) : EvP (fun _ => laws_toPair.f x.f0 x.f1) (fun r => (⟨r.1, r.2⟩ : S29) = cPair x) := by
  unfold laws_toPair.f
  exact EvP.now rfl
theorem laws_toPairS.ok (l : List S56) (hl : (l.length : Int) ≤ 1048576) : EvP (fun k => laws_toPairS.f k l) (· = l.map cPair) := by
  unfold laws_toPairS.f
  refine EvP.pos (by omega) (EvP.pos (by omega) ?_)
  rw [Int.toNat_natCast]
  refine EvP.fill (L := fun k s i => laws_toPairS.l0 k l s i) (xs := l) cPair _ ?_ ?_
  · intro pre x rest s hx hs ih
    have hlt := len_at hx
    have hr : rd_T56 l (pre.length : Int) = x := getD_at hx _
    simp only [laws_toPairS.l0, hr, wrap_at hx (by omega)]
    refine EvP.pos hlt (EvP.pos (nat_nonneg _) ?_)
    refine EvP.bind (laws_toPair.ok x) ?_
    intro r g
    rw [g]
    exact EvP.pos (by omega) ih
  · intro s
    simp only [laws_toPairS.l0]
    exact EvP.neg (by omega) (EvP.now rfl)
theorem laws_eqPairS.ok (l : List S29) (hl : (l.length : Int) ≤ 9223372036854775807) : EvP (fun k => laws_eqPairS.f k l l) (· = true) := by
  unfold laws_eqPairS.f
  refine EvP.pos rfl ?_
  refine EvP.range (L := fun k (_ : Unit) i => laws_eqPairS.l0 k l l i) (xs := l) (Inv := fun _ _ => True) ?_ ?_ () trivial
  · rintro pre x rest s hx _ ih
    have hlt := len_at hx
    have hr : rd_T29 l (pre.length : Int) = x := getD_at hx _
    simp only [laws_eqPairS.l0, hr, wrap_at hx hl]
    refine EvP.pos hlt (EvP.pos (nat_nonneg _) (EvP.pos hlt ?_))
    refine EvP.bind (P := (· = true)) ?_ ?_
    · unfold laws_eqPair.f
      exact EvP.pos rfl (EvP.pos rfl (EvP.now rfl))
    · rintro _ rfl
      exact EvP.pos rfl (ih () trivial)
  · rintro s _
    simp only [laws_eqPairS.l0]
    exact EvP.neg (by omega) (EvP.now rfl)
/-! #### patches laid on a base -/
theorem rd_app (l : List S29) (x : S29) (i : Int) (h0 : 0 ≤ i) (h : i < (l.length : Int)) : rd_T29 (l ++ [x]) i = rd_T29 l i := by
  unfold rd_T29
  rw [List.getD_eq_getElem?_getD, List.getD_eq_getElem?_getD, List.getElem?_append_left (by omega)]
theorem rd_end (l : List S29) (x : S29) : rd_T29 (l ++ [x]) (l.length : Int) = x := getD_at (rest := []) rfl _
theorem lastAt_app (l : List S29) (x : S29) (s : ByteArray) : ∀ n : Nat, n ≤ l.length → lastAt (l ++ [x]) s n = lastAt l s n
  | 0, _ => rfl
  | n + 1, h => by
    rw [lastAt, lastAt, rd_app l x (n : Int) (by omega) (by omega), lastAt_app l x s n (by omega)]
theorem lastP_snoc (l : List S29) (x : S29) (s : ByteArray) : lastP (l ++ [x]) s = if x.f0.toList = s.toList then (l.length : Int) else lastP l s := by
  unfold lastP
  rw [List.length_append, List.length_singleton, lastAt, rd_end, lastAt_app l x s _ (Nat.le_refl _)]
theorem lastAt_cg (l : List S29) {s t : ByteArray} (h : s.toList = t.toList) : ∀ n, lastAt l s n = lastAt l t n
  | 0 => rfl
  | n + 1 => by rw [lastAt, lastAt, h, lastAt_cg l h n]
/-- What a name reads as in one list. -/
def lk (l : List S29) (s : ByteArray) : Option Int := if lastP l s ≥ 0 then some (rd_T29 l (lastP l s)).f1 else none
theorem lk_cg (l : List S29) {s t : ByteArray} (h : s.toList = t.toList) : lk l s = lk l t := by
  unfold lk lastP
  rw [lastAt_cg l h]
theorem lk_nil (s : ByteArray) : lk [] s = none := rfl
theorem lk_snoc (l : List S29) (x : S29) (s : ByteArray) : lk (l ++ [x]) s = if x.f0.toList = s.toList then some x.f1 else lk l s := by
  unfold lk
  rw [lastP_snoc]
  by_cases h : x.f0.toList = s.toList
  · rw [if_pos h, if_pos h, if_pos (by omega), rd_end]
  · rw [if_neg h, if_neg h]
    have := lastP_lt l s
    by_cases g : lastP l s ≥ 0
    · rw [if_pos g, if_pos g, rd_app l x _ (by omega) (by omega)]
    · rw [if_neg g, if_neg g]
theorem lk_app (a b : List S29) (s : ByteArray) : lk (a ++ b) s = (lk b s).or (lk a s) := by
  refine snoc_ind (P := fun b => lk (a ++ b) s = (lk b s).or (lk a s)) ?_ ?_ b
  · rw [List.append_nil, lk_nil]
    rfl
  · intro l x ih
    rw [← List.append_assoc, lk_snoc, lk_snoc, ih]
    by_cases h : x.f0.toList = s.toList
    · rw [if_pos h, if_pos h]
      rfl
    · rw [if_neg h, if_neg h]
theorem valP_lk (b p : List S29) (s : ByteArray) : valP b p s = if (pairsB b && pairsB p) = true then (match (lk p s).or (lk b s) with | some v => (v, true) | none => (0, false)) else (0, false) := by
  unfold valP lk
  by_cases h : (pairsB b && pairsB p) = true
  · rw [if_pos h, if_pos h]
    by_cases h1 : lastP p s ≥ 0
    · rw [if_pos h1, if_pos h1]
      rfl
    · rw [if_neg h1, if_neg h1]
      by_cases h2 : lastP b s ≥ 0
      · rw [if_pos h2, if_pos h2]
        rfl
      · rw [if_neg h2, if_neg h2]
        rfl
  · rw [if_neg h, if_neg h]
theorem lastP_split (s : ByteArray) (l : List S29) : (lastP l s = -1 ∧ lk l s = none) ∨ ∃ pre y post, l = pre ++ y :: post ∧ lastP l s = (pre.length : Int) ∧ y.f0.toList = s.toList ∧ lk post s = none := by
  refine snoc_ind (P := fun l => (lastP l s = -1 ∧ lk l s = none) ∨ ∃ pre y post, l = pre ++ y :: post ∧ lastP l s = (pre.length : Int) ∧ y.f0.toList = s.toList ∧ lk post s = none) ?_ ?_ l
  · exact .inl ⟨rfl, rfl⟩
  · intro l x ih
    rw [lastP_snoc, lk_snoc]
    by_cases h : x.f0.toList = s.toList
    · exact .inr ⟨l, x, [], rfl, if_pos h, h, rfl⟩
    · rw [if_neg h, if_neg h]
      rcases ih with g | ⟨pre, y, post, rfl, g1, g2, g3⟩
      · exact .inl g
      · exact .inr ⟨pre, y, post ++ [x], by simp, g1, g2, by rw [lk_snoc, if_neg h, g3]⟩
def putP (l : List S29) (p : S29) : List S29 := if lastP l p.f0 ≥ 0 then l.set (lastP l p.f0).toNat p else l ++ [p]
theorem putP_cases (l : List S29) (p : S29) : putP l p = l ++ [p] ∨ ∃ pre y post, l = pre ++ y :: post ∧ putP l p = pre ++ p :: post ∧ y.f0.toList = p.f0.toList ∧ lk post p.f0 = none := by
  unfold putP
  rcases lastP_split p.f0 l with g | ⟨pre, y, post, h, g1, g2, g3⟩
  · exact .inl (by rw [if_neg (by omega)])
  · refine .inr ⟨pre, y, post, h, ?_, g2, g3⟩
    rw [if_pos (by omega), g1, Int.toNat_natCast, h, List.set_append_right _ _ (Nat.le_refl _)]
    simp
theorem lk_put (l : List S29) (p : S29) (s : ByteArray) : lk (putP l p) s = if p.f0.toList = s.toList then some p.f1 else lk l s := by
  rcases putP_cases l p with e | ⟨pre, y, post, rfl, e, g1, g2⟩
  · rw [e, lk_snoc]
  · rw [e, show pre ++ p :: post = (pre ++ [p]) ++ post by simp, show pre ++ y :: post = (pre ++ [y]) ++ post by simp, lk_app (pre ++ [p]) post, lk_app (pre ++ [y]) post, lk_snoc pre p, lk_snoc pre y, g1]
    by_cases h : p.f0.toList = s.toList
    · rw [if_pos h, if_pos h, ← lk_cg post h, g2]
      rfl
    · rw [if_neg h, if_neg h, if_neg h]
theorem put_all {l : List S29} {p : S29} (h : l.all pairB = true) (hp : pairB p = true) : (putP l p).all pairB = true := by
  rcases putP_cases l p with e | ⟨pre, y, post, rfl, e, g1, g2⟩
  · rw [e, List.all_append, h, List.all_cons, hp]
    rfl
  · rw [List.all_append, List.all_cons] at h
    rw [e, List.all_append, List.all_cons, hp]
    simp only [Bool.and_eq_true] at h ⊢
    exact ⟨h.1, trivial, h.2.2⟩
theorem put_len (l : List S29) (p : S29) : l.length ≤ (putP l p).length ∧ (putP l p).length ≤ l.length + 1 := by
  rcases putP_cases l p with e | ⟨pre, y, post, rfl, e, g1, g2⟩
  · rw [e]
    simp
  · rw [e]
    simp
def putsP (l ps : List S29) : List S29 := ps.foldl putP l
theorem puts_snoc (l ps : List S29) (x : S29) : putsP l (ps ++ [x]) = putP (putsP l ps) x := by
  unfold putsP
  rw [List.foldl_append]
  rfl
theorem puts_app (l a b : List S29) : putsP l (a ++ b) = putsP (putsP l a) b := by
  unfold putsP
  rw [List.foldl_append]
theorem puts_all {l ps : List S29} (h : l.all pairB = true) : ps.all pairB = true → (putsP l ps).all pairB = true := by
  refine snoc_ind (P := fun ps => ps.all pairB = true → (putsP l ps).all pairB = true) (fun _ => h) ?_ ps
  intro ps x ih hp
  rw [List.all_append, Bool.and_eq_true] at hp
  rw [puts_snoc]
  exact put_all (ih hp.1) (by simpa using hp.2)
theorem puts_len (l ps : List S29) : l.length ≤ (putsP l ps).length ∧ (putsP l ps).length ≤ l.length + ps.length := by
  refine snoc_ind (P := fun ps => l.length ≤ (putsP l ps).length ∧ (putsP l ps).length ≤ l.length + ps.length) ⟨Nat.le_refl _, Nat.le_refl _⟩ ?_ ps
  intro ps x ih
  rw [puts_snoc, List.length_append, List.length_singleton]
  have := put_len (putsP l ps) x
  omega
theorem lk_puts (l ps : List S29) (s : ByteArray) : lk (putsP l ps) s = (lk ps s).or (lk l s) := by
  refine snoc_ind (P := fun ps => lk (putsP l ps) s = (lk ps s).or (lk l s)) rfl ?_ ps
  intro ps x ih
  rw [puts_snoc, lk_put, lk_snoc, ih]
  by_cases h : x.f0.toList = s.toList
  · rw [if_pos h, if_pos h]
    rfl
  · rw [if_neg h, if_neg h]
theorem pairsB_iff (l : List S29) : pairsB l = true ↔ l.all pairB = true ∧ l.length ≤ 8 := by
  rw [pairsB, Bool.and_eq_true, decide_eq_true_iff]
  constructor
  · exact fun h => ⟨h.1, by omega⟩
  · exact fun h => ⟨h.1, by omega⟩
theorem good_all {l : List S29} (h : l.all pairB = true) (hl : l.length ≤ 1000) : GoodQ l := by
  refine ⟨by omega, fun x hx => ?_⟩
  have := List.all_eq_true.1 h x hx
  rw [pairB, nameB] at this
  simp at this
  omega
def appP (b p : List S29) : List S29 × Bool := if (pairsB b && pairsB p) = true then (if (putsP b p).length ≤ 8 then (putsP b p, true) else ([], false)) else ([], false)
theorem impl_nameOk.ok (s : ByteArray) (h : (s.size : Int) ≤ 9223372036854775807) : EvP (fun k => impl_nameOk.f k s) (· = nameB s) := by
  unfold impl_nameOk.f
  refine EvP.upto (L := fun k (_ : Unit) i => impl_nameOk.l0 k s (s.size : Int) i) (n := s.size) (Inv := fun i _ => ∀ j : Nat, j < i → 97 ≤ bt s (j : Int) ∧ bt s (j : Int) ≤ 122) ?_ ?_ () (fun j hj => by omega)
  · rintro i _ hi hv ih
    simp only [impl_nameOk.l0]
    refine EvP.pos (by omega) (EvP.pos (by omega) (EvP.pos (by omega) ?_))
    refine EvP.ite (fun e => EvP.now (azB_no hi (by omega)).symm) (fun e => EvP.ite (fun e2 => EvP.now (azB_no hi (by omega)).symm) (fun e2 => ?_))
    rw [wrap_id (by omega) (by omega)]
    refine ih () (fun j hj => ?_)
    rcases Nat.lt_succ_iff_lt_or_eq.1 hj with hj | rfl
    · exact hv j hj
    · omega
  · rintro _ hv
    simp only [impl_nameOk.l0]
    have ha := azB_yes hv
    refine EvP.neg (by omega) (EvP.ite (fun e => EvP.ite (fun e2 => ?_) (fun e2 => EvP.now ?_)) (fun e => EvP.now ?_))
    · refine (words_ok s).mono ?_
      rintro _ rfl
      rw [nameB, ha, decide_eq_true (show 1 ≤ s.size ∧ s.size ≤ 6 by omega)]
      rfl
    · rw [nameB, decide_eq_false (show ¬ (1 ≤ s.size ∧ s.size ≤ 6) by omega)]
      simp
    · rw [nameB, decide_eq_false (show ¬ (1 ≤ s.size ∧ s.size ≤ 6) by omega)]
      simp
theorem impl_numbersOk.ok (l : List Int) (h : (l.length : Int) ≤ 9223372036854775807) : EvP (fun k => impl_numbersOk.f k l) (· = numsB l) := by
  unfold impl_numbersOk.f
  refine EvP.range (L := fun k (_ : Unit) i => impl_numbersOk.l0 k l (l.length : Int) i) (xs := l) (Inv := fun pre _ => numsB pre = true) ?_ ?_ () rfl
  · rintro pre x rest _ hx hi ih
    have hl := len_at hx
    have hr : rd l (pre.length : Int) = x := getD_at hx _
    simp only [impl_numbersOk.l0, hr, wrap_at hx h]
    refine EvP.pos hl (EvP.pos (nat_nonneg _) (EvP.pos hl ?_))
    exact EvP.ite (fun e => EvP.now (numsB_no hx (by omega)).symm) (fun e => EvP.ite (fun e2 => EvP.now (numsB_no hx (by omega)).symm) (fun e2 => ih () (numsB_snoc hi (by omega))))
  · rintro _ hi
    simp only [impl_numbersOk.l0]
    exact EvP.neg (by omega) (EvP.now hi.symm)
theorem impl_pairsOk.ok (l : List S29) (h : GoodQ l) : EvP (fun k => impl_pairsOk.f k l) (· = pairsB l) := by
  have h1 := h.1
  unfold impl_pairsOk.f
  refine EvP.range (L := fun k (_ : Unit) i => impl_pairsOk.l0 k l l (l.length : Int) i) (xs := l) (Inv := fun pre _ => pre.all pairB = true) ?_ ?_ () rfl
  · rintro pre x rest _ hx hi ih
    have hl := len_at hx
    have hr : rd_T29 l (pre.length : Int) = x := getD_at hx _
    have hg := h.2 x (by rw [hx]; simp)
    simp only [impl_pairsOk.l0, hr, wrap_at hx (show (l.length : Int) ≤ 9223372036854775807 by omega)]
    refine EvP.pos hl (EvP.pos (nat_nonneg _) (EvP.pos hl ?_))
    refine EvP.bind (impl_nameOk.ok x.f0 (by omega)) ?_
    rintro _ rfl
    refine EvP.ite (fun e => ?_) (fun e => EvP.now (pall_no hx (by rw [pairB, show nameB x.f0 = false by simpa using e]; rfl)).symm)
    refine EvP.bind (impl_numbersOk.ok [x.f1] (by simp)) ?_
    rintro _ rfl
    have e1 : numsB [x.f1] = numB x.f1 := by simp [numsB]
    rw [e1]
    refine EvP.ite (fun e2 => ih () (pall_yes hi (by rw [pairB, e, e2]; rfl))) (fun e2 => EvP.now (pall_no hx (by rw [pairB, show numB x.f1 = false by simpa using e2]; simp)).symm)
  · rintro _ hi
    simp only [impl_pairsOk.l0]
    exact EvP.neg (by omega) (EvP.now (by rw [pairsB, hi]; rfl))
theorem impl_lastOf.ok (l : List S29) (s : ByteArray) (h : (l.length : Int) ≤ 4398046511104) : EvP (fun k => impl_lastOf.f k l s) (· = lastP l s) := by
  unfold impl_lastOf.f
  rw [wrap_id (by omega) (by omega)]
  have main : ∀ n : Nat, n ≤ l.length → EvP (fun k => impl_lastOf.l0 k l s ((n : Int) - 1)) (· = lastAt l s n) := by
    intro n
    induction n with
    | zero =>
      intro _
      refine EvP.succ ?_
      simp only [impl_lastOf.l0]
      exact EvP.neg (by omega) (EvP.now rfl)
    | succ n ih =>
      intro hn
      refine EvP.succ ?_
      rw [show (((n + 1 : Nat) : Int) - 1) = (n : Int) by omega]
      simp only [impl_lastOf.l0]
      rw [wrap_id (x := (n : Int) - 1) (by omega) (by omega)]
      refine EvP.pos (by omega) (EvP.pos (by omega) (EvP.pos (by omega) ?_))
      exact EvP.ite (fun e => EvP.now (by rw [lastAt, if_pos e])) (fun e => by rw [lastAt, if_neg e]; exact ih (by omega))
  exact main l.length (Nat.le_refl _)
theorem impl_Pair.ok (l : List S29) (h : (l.length : Int) ≤ 4398046511104) : EvP (fun (_ : Nat) => impl_Pair.f l) (· = l) := by
  unfold impl_Pair.f
  exact EvP.pos (by omega) (EvP.now rfl)
theorem impl_ApplyPatches.ok (base patches : List S29) (h : GoodQ base) (hp : GoodQ patches) : EvP (fun k => impl_ApplyPatches.f k base patches) (· = appP base patches) := by
  have no : ∀ c : Bool, c = true → (pairsB base && pairsB patches) = false → EvP (fun k => impl_ApplyPatches.j0 k base patches c) (· = appP base patches) := by
    intro c hc hb
    refine EvP.succ ?_
    simp only [impl_ApplyPatches.j0]
    exact EvP.pos hc (EvP.now (by rw [appP, hb]; rfl))
  unfold impl_ApplyPatches.f
  refine EvP.bind (impl_pairsOk.ok base h) ?_
  rintro _ rfl
  refine EvP.ite (fun e => ?_) (fun e => no _ rfl (by rw [show pairsB base = false by simpa using e]; rfl))
  refine EvP.bind (impl_pairsOk.ok patches hp) ?_
  rintro _ rfl
  cases e2 : pairsB patches with
  | false => exact no _ rfl (by rw [e2]; simp)
  | true =>
    obtain ⟨b1, b2⟩ := (pairsB_iff _).1 e
    obtain ⟨p1, p2⟩ := (pairsB_iff _).1 e2
    refine EvP.succ ?_
    simp only [impl_ApplyPatches.j0]
    refine EvP.neg (by simp) ?_
    refine EvP.bind (impl_Pair.ok base (by omega)) ?_
    intro r0 hr0
    rw [hr0]
    clear hr0 r0
    refine EvP.range (L := fun k s i => impl_ApplyPatches.l0 k s patches (patches.length : Int) i) (xs := patches) (Inv := fun pre s => s = putsP base pre) ?_ ?_ _ rfl
    · rintro pre x rest s hx rfl ih
      have hl := len_at hx
      have hr : rd_T29 patches (pre.length : Int) = x := getD_at hx _
      have n1 := puts_len base pre
      have n2 := lastP_lt (putsP base pre) x.f0
      simp only [impl_ApplyPatches.l0, hr, wrap_at hx (show (patches.length : Int) ≤ 9223372036854775807 by omega)]
      refine EvP.pos hl (EvP.pos (nat_nonneg _) (EvP.pos hl ?_))
      refine EvP.bind (impl_lastOf.ok _ x.f0 (by omega)) ?_
      rintro _ rfl
      refine EvP.ite (fun e3 => EvP.pos (by omega) (EvP.pos n2.2 (ih _ ?_))) (fun e3 => EvP.pos (by omega) (ih _ ?_))
      · rw [puts_snoc, putP, if_pos e3]
      · rw [puts_snoc, putP, if_neg e3]
    · rintro s rfl
      simp only [impl_ApplyPatches.l0]
      refine EvP.neg (by omega) (EvP.ite (fun h8 => EvP.now ?_) (fun h8 => EvP.now ?_))
      · rw [appP, e, e2, if_pos (show (true && true) = true from rfl), if_neg (by omega)]
      · rw [appP, e, e2, if_pos (show (true && true) = true from rfl), if_pos (by omega)]
theorem spec_inRange.ok (a b c : Int) : EvP (fun _ => spec_inRange.f a b c) (· = decide (b ≤ a ∧ a ≤ c)) := by
  unfold spec_inRange.f
  exact EvP.ite (fun h => EvP.now (by simp [h])) (fun h => EvP.now (by simp [h]))
theorem spec_validName.ok (s : ByteArray) (h : (s.size : Int) ≤ 9223372036854775807) : EvP (fun k => spec_validName.f k s) (· = nameB s) := by
  unfold spec_validName.f
  refine EvP.upto (L := fun k (_ : Unit) i => spec_validName.l0 k s i) (n := s.size) (Inv := fun i _ => ∀ j : Nat, j < i → 97 ≤ bt s (j : Int) ∧ bt s (j : Int) ≤ 122) ?_ ?_ () (fun j hj => by omega)
  · rintro i _ hi hv ih
    simp only [spec_validName.l0]
    refine EvP.pos (by omega) (EvP.pos (by omega) ?_)
    refine EvP.ite (fun e => EvP.now (azB_no hi (by omega)).symm) (fun e => EvP.ite (fun e2 => EvP.now (azB_no hi (by omega)).symm) (fun e2 => ?_))
    rw [wrap_id (by omega) (by omega)]
    refine ih () (fun j hj => ?_)
    rcases Nat.lt_succ_iff_lt_or_eq.1 hj with hj | rfl
    · exact hv j hj
    · omega
  · rintro _ hv
    simp only [spec_validName.l0]
    have ha := azB_yes hv
    refine EvP.neg (by omega) ?_
    refine EvP.bind (spec_inRange.ok _ _ _) ?_
    rintro _ rfl
    refine EvP.ite (fun e => ?_) (fun e => EvP.now ?_)
    · have e' := of_decide_eq_true e
      refine (words_ok s).mono ?_
      rintro _ rfl
      rw [nameB, ha, decide_eq_true (show 1 ≤ s.size ∧ s.size ≤ 6 by omega)]
      rfl
    · have e' : ¬ (1 ≤ (s.size : Int) ∧ (s.size : Int) ≤ 6) := fun g => e (decide_eq_true g)
      rw [nameB, decide_eq_false (show ¬ (1 ≤ s.size ∧ s.size ≤ 6) by omega)]
      simp
theorem spec_validPairs.ok (l : List S29) (h : GoodQ l) : EvP (fun k => spec_validPairs.f k l) (· = pairsB l) := by
  have h1 := h.1
  unfold spec_validPairs.f
  refine EvP.range (L := fun k (_ : Unit) i => spec_validPairs.l0 k l i) (xs := l) (Inv := fun pre _ => pre.all pairB = true) ?_ ?_ () rfl
  · rintro pre x rest _ hx hi ih
    have hl := len_at hx
    have hr : rd_T29 l (pre.length : Int) = x := getD_at hx _
    have hg := h.2 x (by rw [hx]; simp)
    simp only [spec_validPairs.l0, hr, wrap_at hx (show (l.length : Int) ≤ 9223372036854775807 by omega)]
    refine EvP.pos hl (EvP.pos (nat_nonneg _) ?_)
    refine EvP.bind (spec_validName.ok x.f0 (by omega)) ?_
    rintro _ rfl
    refine EvP.ite (fun e => ?_) (fun e => EvP.now (pall_no hx (by rw [pairB, show nameB x.f0 = false by simpa using e]; rfl)).symm)
    refine EvP.bind (spec_inRange.ok _ _ _) ?_
    rintro _ rfl
    refine EvP.ite (fun e2 => ih () (pall_yes hi (by rw [pairB, e, numB, e2]; rfl))) (fun e2 => EvP.now (pall_no hx (by rw [pairB, numB, show decide (-99 ≤ x.f1 ∧ x.f1 ≤ 99) = false by simpa using e2]; simp)).symm)
  · rintro _ hi
    simp only [spec_validPairs.l0]
    exact EvP.neg (by omega) (EvP.now (by rw [pairsB, hi]; rfl))
theorem spec_pairAt.ok (l : List S29) (s : ByteArray) (h : (l.length : Int) ≤ 4398046511104) : EvP (fun k => spec_pairAt.f k l s) (· = lastP l s) := by
  unfold spec_pairAt.f
  rw [wrap_id (by omega) (by omega)]
  have main : ∀ n : Nat, n ≤ l.length → EvP (fun k => spec_pairAt.l0 k l s ((n : Int) - 1)) (· = lastAt l s n) := by
    intro n
    induction n with
    | zero =>
      intro _
      refine EvP.succ ?_
      simp only [spec_pairAt.l0]
      exact EvP.neg (by omega) (EvP.now rfl)
    | succ n ih =>
      intro hn
      refine EvP.succ ?_
      rw [show (((n + 1 : Nat) : Int) - 1) = (n : Int) by omega]
      simp only [spec_pairAt.l0]
      rw [wrap_id (x := (n : Int) - 1) (by omega) (by omega)]
      refine EvP.pos (by omega) (EvP.pos (by omega) (EvP.pos (by omega) ?_))
      exact EvP.ite (fun e => EvP.now (by rw [lastAt, if_pos e])) (fun e => by rw [lastAt, if_neg e]; exact ih (by omega))
  exact main l.length (Nat.le_refl _)
theorem spec_put.ok (l : List S29) (x : S29) (h : (l.length : Int) ≤ 4398046511104) : EvP (fun k => spec_put.f k l x.f0 x.f1) (· = putP l x) := by
  have n2 := lastP_lt l x.f0
  unfold spec_put.f
  refine EvP.bind (P := (· = [])) (EvP.now rfl) ?_
  rintro _ rfl
  refine EvP.pos (by simp only [List.length_nil]; omega) ?_
  refine EvP.bind (P := (· = l)) (EvP.now rfl) ?_
  rintro _ rfl
  refine EvP.bind (spec_pairAt.ok _ x.f0 (by omega)) ?_
  rintro _ rfl
  refine EvP.ite (fun e3 => EvP.pos (by omega) (EvP.pos n2.2 (EvP.now ?_))) (fun e3 => EvP.pos (by omega) (EvP.now ?_))
  · rw [putP, if_pos e3]
  · rw [putP, if_neg e3]
theorem spec_ApplyPatches.ok (base patches : List S29) (h : GoodQ base) (hp : GoodQ patches) : EvP (fun k => spec_ApplyPatches.f k base patches) (· = appP base patches) := by
  have no : ∀ c : Bool, c = true → (pairsB base && pairsB patches) = false → EvP (fun k => spec_ApplyPatches.j0 k base patches c) (· = appP base patches) := by
    intro c hc hb
    refine EvP.succ ?_
    simp only [spec_ApplyPatches.j0]
    exact EvP.pos hc (EvP.now (by rw [appP, hb]; rfl))
  unfold spec_ApplyPatches.f
  refine EvP.bind (spec_validPairs.ok base h) ?_
  rintro _ rfl
  refine EvP.ite (fun e => ?_) (fun e => no _ rfl (by rw [show pairsB base = false by simpa using e]; rfl))
  refine EvP.bind (spec_validPairs.ok patches hp) ?_
  rintro _ rfl
  cases e2 : pairsB patches with
  | false => exact no _ rfl (by rw [e2]; simp)
  | true =>
    obtain ⟨b1, b2⟩ := (pairsB_iff _).1 e
    obtain ⟨p1, p2⟩ := (pairsB_iff _).1 e2
    refine EvP.succ ?_
    simp only [spec_ApplyPatches.j0]
    refine EvP.neg (by simp) ?_
    refine EvP.bind (P := (· = [])) (EvP.now rfl) ?_
    rintro _ rfl
    refine EvP.pos (by simp only [List.length_nil]; omega) ?_
    rw [List.nil_append]
    refine EvP.range (L := fun k s i => spec_ApplyPatches.l0 k patches s i) (xs := patches) (Inv := fun pre s => s = putsP base pre ∧ pre.all pairB = true) ?_ ?_ _ ⟨rfl, rfl⟩
    · rintro pre x rest s hx ⟨rfl, hi⟩ ih
      have hl := len_at hx
      have hr : rd_T29 patches (pre.length : Int) = x := getD_at hx _
      have n1 := puts_len base pre
      have hb : pairB x = true := List.all_eq_true.1 p1 x (by rw [hx]; simp)
      simp only [spec_ApplyPatches.l0, hr, wrap_at hx (show (patches.length : Int) ≤ 9223372036854775807 by omega)]
      refine EvP.pos hl (EvP.pos (nat_nonneg _) ?_)
      refine EvP.bind (spec_put.ok _ x (by omega)) ?_
      rintro _ rfl
      exact ih _ ⟨by rw [puts_snoc], pall_yes hi hb⟩
    · rintro s ⟨rfl, hi⟩
      have n1 := puts_len base patches
      have hall := puts_all b1 p1
      simp only [spec_ApplyPatches.l0]
      refine EvP.neg (by omega) ?_
      refine EvP.bind (spec_validPairs.ok _ (good_all hall (by omega))) ?_
      rintro _ rfl
      refine EvP.ite (fun h8 => EvP.now ?_) (fun h8 => EvP.now ?_)
      · rw [appP, e, e2, if_pos (show (true && true) = true from rfl), if_pos ((pairsB_iff _).1 h8).2]
      · rw [appP, e, e2, if_pos (show (true && true) = true from rfl), if_neg (fun g => h8 ((pairsB_iff _).2 ⟨hall, g⟩))]
/-! #### marks -/
theorem strOf_one (n : Int) : (strOfNums [n]).size = 1 := rfl
theorem laws_markText.all (n : Int) (h0 : 0 ≤ n) (h1 : n ≤ 9223372036854775807) : EvP (fun k => laws_markText.f k n) (fun _ => True) := by
  unfold laws_markText.f
  refine EvP.ite (fun _ => EvP.now trivial) (fun hn => ?_)
  have loop : ∀ (d : Nat) (x : Int) (s : ByteArray), x.toNat < d → 0 ≤ x → x ≤ 9223372036854775807 → (s.size : Int) + x ≤ 9223372036854775807 + 0 ∨ s.size ≤ 20 ∧ x < 10 ^ (20 - s.size) → s.size ≤ 20 ∧ x < 10 ^ (20 - s.size) →
      EvP (fun k => laws_markText.l0 k x s) (fun _ => True) := by
    intro d
    induction d with
    | zero => intro x s a0; omega
    | succ d ih =>
      intro x s a0 a1 a2 _ a3
      refine EvP.succ ?_
      simp only [laws_markText.l0]
      refine EvP.ite (fun hx => ?_) (fun hx => EvP.pos (by omega) (EvP.now trivial))
      have hd : s.size ≠ 20 := by
        intro e
        rw [e] at a3
        simp at a3
        omega
      refine EvP.bind (P := fun y => (strOfNums y).size = 1) (EvP.now (strOf_one _)) ?_
      intro y hy
      refine EvP.pos (by omega) ?_
      have e1 : Int.tdiv x 10 = x / 10 := Int.tdiv_eq_ediv_of_nonneg a1
      rw [e1, wrap_id (by omega) (by omega)]
      have e2 : (strOfNums y ++ s).size = s.size + 1 := by rw [ByteArray.size_append, hy]; omega
      have e3 : x / 10 < 10 ^ (20 - (strOfNums y ++ s).size) := by
        rw [e2]
        have : (10 : Int) ^ (20 - s.size) = 10 ^ (20 - (s.size + 1)) * 10 := by
          rw [← Int.pow_succ]
          congr 1
          omega
        have h3 := a3.2
        rw [this] at h3
        omega
      exact ih _ _ (by omega) (by omega) (by omega) (.inr ⟨by omega, e3⟩) ⟨by omega, e3⟩
  refine loop (n.toNat + 1) n _ (by omega) (by omega) h1 (.inr ⟨by decide, ?_⟩) ⟨by decide, ?_⟩
  · have : (10 : Int) ^ (20 - (⟨#[]⟩ : ByteArray).size) = 100000000000000000000 := by decide
    omega
  · have : (10 : Int) ^ (20 - (⟨#[]⟩ : ByteArray).size) = 100000000000000000000 := by decide
    omega
noncomputable def mkT (n : Int) : ByteArray := endOf ByteArray.empty (fun k => laws_markText.f k n)
theorem laws_markText.ok (n : Int) (h0 : 0 ≤ n) (h1 : n ≤ 9223372036854775807) : EvP (fun k => laws_markText.f k n) (· = mkT n) := (laws_markText.all n h0 h1).ended _
noncomputable def marksP (n : Int) (m : Nat) : List S29 := (List.range m).map fun (i : Nat) => ⟨mkT (n + 2 * (i : Int)), n + 2 * (i : Int) + 1⟩
theorem marksP_len (n : Int) (m : Nat) : (marksP n m).length = m := by simp [marksP]
theorem marksP_snoc (n : Int) (m : Nat) : marksP n (m + 1) = marksP n m ++ [⟨mkT (n + 2 * m), n + 2 * m + 1⟩] := by simp [marksP, List.range_succ]
theorem laws_markPairS.ok (l : List S29) (n : Int) (h0 : 0 ≤ n) (h1 : n + 2 * l.length ≤ 1000000000) : EvP (fun k => laws_markPairS.f k l n) (fun r => r.1 = n + 2 * l.length ∧ r.2 = marksP n l.length) := by
  unfold laws_markPairS.f
  refine EvP.upto (L := fun k (s : List S29 × Int) i => laws_markPairS.l0 k s.1 s.2 i) (n := l.length) (Inv := fun i s => s.1.length = l.length ∧ s.1.take i = marksP n i ∧ s.2 = n + 2 * i) ?_ ?_ (l, n) ⟨rfl, by simp [marksP], by simp⟩
  · rintro i ⟨s, m⟩ hi ⟨a0, a1, a2⟩ ih
    simp only at a0 a1 a2
    subst a2
    simp only [laws_markPairS.l0]
    refine EvP.pos (by omega) ?_
    refine EvP.bind (laws_markText.ok _ (by omega) (by omega)) ?_
    rintro _ rfl
    refine EvP.pos (by omega) ?_
    refine EvP.bind (P := (· = s.set i ⟨mkT (n + 2 * (i : Int)), (rd_T29 s (i : Int)).f1⟩)) (EvP.now (by rw [Int.toNat_natCast])) ?_
    rintro _ rfl
    have e : (rd_T29 (s.set i ⟨mkT (n + 2 * (i : Int)), (rd_T29 s (i : Int)).f1⟩) (i : Int)).f0 = mkT (n + 2 * (i : Int)) := by
      conv => lhs; unfold rd_T29
      rw [Int.toNat_natCast, List.getD_eq_getElem?_getD, List.getElem?_set_self (by omega)]
      rfl
    rw [e, Int.toNat_natCast, List.set_set, wrap_id (x := n + 2 * (i : Int) + 1) (by omega) (by omega), wrap_id (x := n + 2 * (i : Int) + 1 + 1) (by omega) (by omega), wrap_id (x := (i : Int) + 1) (by omega) (by omega)]
    refine ih (s.set i ⟨mkT (n + 2 * (i : Int)), n + 2 * (i : Int) + 1⟩, n + 2 * (i : Int) + 1 + 1) ⟨by simpa using a0, ?_, by simp only; omega⟩
    rw [take_set _ _ _ (by omega), a1, marksP_snoc]
  · rintro ⟨s, m⟩ ⟨a0, a1, a2⟩
    simp only at a0 a1 a2
    simp only [laws_markPairS.l0]
    refine EvP.neg (by omega) (EvP.now ⟨a2, ?_⟩)
    simp only
    rw [← a1, List.take_of_length_le (by omega)]
theorem laws_heldPairS.ok (m : Nat) (n : Int) (h0 : 0 ≤ n) (h1 : n + 2 * m ≤ 1000000000) : EvP (fun k => laws_heldPairS.f k (marksP n m) n) (· = n + 2 * m) := by
  unfold laws_heldPairS.f
  have hm := marksP_len n m
  refine EvP.upto (L := fun k s i => laws_heldPairS.l0 k (marksP n m) s i) (n := m) (Inv := fun i s => s = n + 2 * i) ?_ ?_ n (by simp)
  · rintro i s hi rfl ih
    simp only [laws_heldPairS.l0]
    have hr : rd_T29 (marksP n m) (i : Int) = ⟨mkT (n + 2 * (i : Int)), n + 2 * (i : Int) + 1⟩ := by
      unfold rd_T29 marksP
      rw [Int.toNat_natCast, List.getD_eq_getElem?_getD, List.getElem?_map, List.getElem?_range hi]
      rfl
    refine EvP.pos (by omega) (EvP.pos (by omega) ?_)
    refine EvP.bind (laws_markText.ok _ (by omega) (by omega)) ?_
    rintro _ rfl
    rw [hr, wrap_id (x := n + 2 * (i : Int) + 1) (by omega) (by omega), wrap_id (x := n + 2 * (i : Int) + 1 + 1) (by omega) (by omega), wrap_id (x := (i : Int) + 1) (by omega) (by omega)]
    exact EvP.pos rfl (EvP.pos rfl (ih _ (by omega)))
  · rintro s rfl
    simp only [laws_heldPairS.l0]
    exact EvP.neg (by omega) (EvP.now rfl)
theorem app_len (b p : List S29) : (appP b p).1.length ≤ 8 := by
  unfold appP
  split
  · split
    · assumption
    · simp
  · simp
theorem main (l0 : List S56) (hl : l0.length ≤ 9223372036854775807) (hq : ∀ x ∈ l0, Q56 x) (l1 : List S56) (hl1 : l1.length ≤ 9223372036854775807) (hq1 : ∀ x ∈ l1, Q56 x) : ∃ k, laws_FnExactApplyPatches.f k l0 l1 = some true := by
  refine EvP.rounds ?_
  unfold laws_FnExactApplyPatches.f
  refine EvP.bind (laws_szPairS.ok l0 hl hq _ (by omega) (by omega)) ?_
  rintro r (g | ⟨g0, g1, gg⟩)
  · exact EvP.pos g (EvP.now rfl)
  refine EvP.neg (by omega) ?_
  refine EvP.bind (laws_szPairS.ok l1 hl1 hq1 r (by omega) (by omega)) ?_
  rintro r2 (g | ⟨g2, g3, gg2⟩)
  · exact EvP.pos g (EvP.now rfl)
  refine EvP.neg (by omega) ?_
  have hto := laws_toPairS.ok l0 (by omega)
  have hto2 := laws_toPairS.ok l1 (by omega)
  have hm : ((l0.map cPair).length : Int) ≤ 1048576 := by rw [List.length_map]; omega
  have hm2 : ((l1.map cPair).length : Int) ≤ 1048576 := by rw [List.length_map]; omega
  have hu := app_len (l0.map cPair) (l1.map cPair)
  refine EvP.bind hto ?_
  rintro _ rfl
  refine EvP.bind hto2 ?_
  rintro _ rfl
  refine EvP.bind (spec_ApplyPatches.ok _ _ gg gg2) ?_
  rintro _ rfl
  refine EvP.bind hto ?_
  rintro _ rfl
  refine EvP.bind hto2 ?_
  rintro _ rfl
  refine EvP.bind (impl_ApplyPatches.ok _ _ gg gg2) ?_
  rintro _ rfl
  refine EvP.bind (laws_eqPairS.ok _ (by omega)) ?_
  rintro _ rfl
  refine EvP.pos rfl (EvP.succ ?_)
  simp only [laws_FnExactApplyPatches.j0]
  refine EvP.neg (by simp) ?_
  refine EvP.bind hto ?_
  rintro _ rfl
  refine EvP.bind (laws_eqPairS.ok _ (by omega)) ?_
  rintro _ rfl
  refine EvP.pos rfl ?_
  refine EvP.bind hto2 ?_
  rintro _ rfl
  refine EvP.bind (laws_eqPairS.ok _ (by omega)) ?_
  rintro _ rfl
  refine EvP.pos rfl ?_
  refine EvP.bind (laws_markPairS.ok _ 1 (by omega) (by omega)) ?_
  rintro ⟨m, s⟩ ⟨e1, e2⟩
  simp only at e1 e2
  subst e1 e2
  refine EvP.bind (laws_markPairS.ok _ _ (by omega) (by omega)) ?_
  rintro ⟨m, s⟩ ⟨e1, e2⟩
  simp only at e1 e2
  subst e1 e2
  refine EvP.neg (by omega) ?_
  refine EvP.bind (laws_eqPairS.ok _ (by omega)) ?_
  rintro _ rfl
  refine EvP.pos rfl (EvP.succ ?_)
  simp only [laws_FnExactApplyPatches.j1]
  refine EvP.neg (by simp) ?_
  refine EvP.bind (laws_markPairS.ok _ 1 (by omega) (by omega)) ?_
  rintro ⟨m, s⟩ ⟨e1, e2⟩
  simp only at e1 e2
  subst e1 e2
  refine EvP.bind (laws_heldPairS.ok _ 1 (by omega) (by omega)) ?_
  rintro _ rfl
  refine EvP.neg (by omega) (EvP.pos rfl ?_)
  refine EvP.bind hto ?_
  rintro _ rfl
  refine EvP.bind hto2 ?_
  rintro _ rfl
  refine EvP.bind (impl_ApplyPatches.ok _ _ gg gg2) ?_
  rintro _ rfl
  refine EvP.bind (laws_eqPairS.ok _ (by omega)) ?_
  rintro _ rfl
  refine EvP.pos rfl (EvP.succ ?_)
  simp only [laws_FnExactApplyPatches.j2]
  refine EvP.neg (by simp) ?_
  refine EvP.bind (laws_heldPairS.ok _ 1 (by omega) (by omega)) ?_
  rintro _ rfl
  exact EvP.neg (by omega) (EvP.pos rfl (EvP.now rfl))
end QFnExactApplyPatches
end Go.Proofs.Ytfflomiadjgbpaa.Pure

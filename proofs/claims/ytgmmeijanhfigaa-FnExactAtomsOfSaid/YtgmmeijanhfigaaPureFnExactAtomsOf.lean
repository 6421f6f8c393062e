/- FnExactAtomsOf answers true for all texts: the program's AtomsOf returns what the reference's returns, a list of its own. Conditions: those of the printed statement alone (bounds on sizes that every input meets). -/
import Derived.Test.YtgmmeijanhfigaaOFnExactAtomsOfx5
import Derived.Test.YtgmmeijanhfigaaBase
namespace Go.Proofs.Ytgmmeijanhfigaa.Pure
open Go.RowKit Go.Proofs.Ytgmmeijanhfigaa.OFnExactAtomsOf Go.Proofs.YtgmmeijanhfigaaW.PrintWords Go.Proofs.YtgmmeijanhfigaaW.PrintLast Go.Proofs.YtgmmeijanhfigaaW.PrintMore Go.Proofs.Ytgmmeijanhfigaa.Base
set_option linter.unusedVariables false
set_option linter.unusedSimpArgs false
namespace QFnExactAtomsOf
/-! #### names -/
def azB (s : ByteArray) : Bool := decide (∀ j : Nat, j < s.size → 97 ≤ bt s (j : Int) ∧ bt s (j : Int) ≤ 122)
def wordB (s : ByteArray) : Bool := decide (s.toList ≠ [97, 110, 100]) && (decide (s.toList ≠ [111, 114]) && decide (s.toList ≠ [110, 111, 116]))
def nameB (s : ByteArray) : Bool := azB s && (decide (1 ≤ s.size ∧ s.size ≤ 6) && wordB s)
theorem azB_no {s : ByteArray} {i : Nat} (hi : i < s.size) (h : ¬ (97 ≤ bt s (i : Int) ∧ bt s (i : Int) ≤ 122)) : nameB s = false := by
  have : azB s = false := by
    rw [azB, decide_eq_false_iff_not]
    exact fun g => h (g i hi)
  rw [nameB, this]
  rfl
theorem azB_yes {s : ByteArray} (h : ∀ j : Nat, j < s.size → 97 ≤ bt s (j : Int) ∧ bt s (j : Int) ≤ 122) : azB s = true := by
  rw [azB, decide_eq_true_iff]
  exact h
theorem words_ok (s : ByteArray) : EvP (fun _ => if s.toList = ([97, 110, 100] : List UInt8) then (some false) else (if s.toList = ([111, 114] : List UInt8) then (some false) else (some (s.toList != ([110, 111, 116] : List UInt8))))) (· = wordB s) := by
  unfold wordB
  refine EvP.ite (fun h => EvP.now (by simp [h])) (fun h => EvP.ite (fun h2 => EvP.now (by simp [h2])) (fun h2 => EvP.now ?_))
  simp [h, h2, bne]
  rw [Bool.eq_iff_iff]
  simp
theorem impl_nameOk.ok (s : ByteArray) (h : (s.size : Int) ≤ 9223372036854775807) : EvP (fun k => impl_nameOk.f k s) (· = nameB s) := by
  unfold impl_nameOk.f
  refine EvP.upto (L := fun k (_ : Unit) i => impl_nameOk.l0 k s (s.size : Int) i) (n := s.size) (Inv := fun i _ => ∀ j : Nat, j < i → 97 ≤ bt s (j : Int) ∧ bt s (j : Int) ≤ 122) ?_ ?_ () (fun j hj => by omega)
  · rintro i _ hi hv ih
    simp only [impl_nameOk.l0]
    refine EvP.pos (by omega) (EvP.pos (by omega) (EvP.pos (by omega) ?_))
    refine EvP.ite (fun e => EvP.now (azB_no hi (by omega)).symm) (fun e => EvP.ite (fun e2 => EvP.now (azB_no hi (by omega)).symm) (fun e2 => ?_))
    rw [wrap_id (by omega) (by omega)]
    refine ih () (fun j hj => ?_)
    rcases Nat.lt_succ_iff_lt_or_eq.1 hj with hj | rfl
    · exact hv j hj
    · omega
  · rintro _ hv
    simp only [impl_nameOk.l0]
    have ha := azB_yes hv
    refine EvP.neg (by omega) (EvP.ite (fun e => EvP.ite (fun e2 => ?_) (fun e2 => EvP.now ?_)) (fun e => EvP.now ?_))
    · refine (words_ok s).mono ?_
      rintro _ rfl
      rw [nameB, ha, decide_eq_true (show 1 ≤ s.size ∧ s.size ≤ 6 by omega)]
      rfl
    · rw [nameB, decide_eq_false (show ¬ (1 ≤ s.size ∧ s.size ≤ 6) by omega)]
      simp
    · rw [nameB, decide_eq_false (show ¬ (1 ≤ s.size ∧ s.size ≤ 6) by omega)]
      simp
theorem spec_inRange.ok (a b c : Int) : EvP (fun _ => spec_inRange.f a b c) (· = decide (b ≤ a ∧ a ≤ c)) := by
  unfold spec_inRange.f
  exact EvP.ite (fun h => EvP.now (by simp [h])) (fun h => EvP.now (by simp [h]))
theorem spec_validName.ok (s : ByteArray) (h : (s.size : Int) ≤ 9223372036854775807) : EvP (fun k => spec_validName.f k s) (· = nameB s) := by
  unfold spec_validName.f
  refine EvP.upto (L := fun k (_ : Unit) i => spec_validName.l0 k s i) (n := s.size) (Inv := fun i _ => ∀ j : Nat, j < i → 97 ≤ bt s (j : Int) ∧ bt s (j : Int) ≤ 122) ?_ ?_ () (fun j hj => by omega)
  · rintro i _ hi hv ih
    simp only [spec_validName.l0]
    refine EvP.pos (by omega) (EvP.pos (by omega) ?_)
    refine EvP.ite (fun e => EvP.now (azB_no hi (by omega)).symm) (fun e => EvP.ite (fun e2 => EvP.now (azB_no hi (by omega)).symm) (fun e2 => ?_))
    rw [wrap_id (by omega) (by omega)]
    refine ih () (fun j hj => ?_)
    rcases Nat.lt_succ_iff_lt_or_eq.1 hj with hj | rfl
    · exact hv j hj
    · omega
  · rintro _ hv
    simp only [spec_validName.l0]
    have ha := azB_yes hv
    refine EvP.neg (by omega) ?_
    refine EvP.bind (spec_inRange.ok _ _ _) ?_
    rintro _ rfl
    refine EvP.ite (fun e => ?_) (fun e => EvP.now ?_)
    · have e' := of_decide_eq_true e
      refine (words_ok s).mono ?_
      rintro _ rfl
      rw [nameB, ha, decide_eq_true (show 1 ≤ s.size ∧ s.size ≤ 6 by omega)]
      rfl
    · have e' : ¬ (1 ≤ (s.size : Int) ∧ (s.size : Int) ≤ 6) := fun g => e (decide_eq_true g)
      rw [nameB, decide_eq_false (show ¬ (1 ≤ s.size ∧ s.size ≤ 6) by omega)]
      simp
/-- Is a text in a list? -/
def hasT (l : List ByteArray) (s : ByteArray) : Bool := l.any fun y => decide (y.toList = s.toList)
theorem hasT_cons (y : ByteArray) (l : List ByteArray) (s : ByteArray) : hasT (y :: l) s = (decide (y.toList = s.toList) || hasT l s) := rfl
theorem hasT_append (a b : List ByteArray) (s : ByteArray) : hasT (a ++ b) s = (hasT a s || hasT b s) := by simp [hasT, List.any_append]
theorem hasT_iff (l : List ByteArray) (s : ByteArray) : hasT l s = true ↔ ∃ y ∈ l, y.toList = s.toList := by simp [hasT]
theorem spec_hasText.ok (l : List ByteArray) (s : ByteArray) (h : (l.length : Int) ≤ 9223372036854775807) : EvP (fun k => spec_hasText.f k l s) (· = hasT l s) := by
  unfold spec_hasText.f
  refine EvP.range (L := fun k (_ : Unit) i => spec_hasText.l0 k l s i) (xs := l) (Inv := fun pre _ => hasT pre s = false) ?_ ?_ () rfl
  · rintro pre x rest _ hx hi ih
    have hl := len_at hx
    have hr : rdOf ByteArray.empty l (pre.length : Int) = x := getD_at hx _
    simp only [spec_hasText.l0, hr, wrap_at hx h]
    refine EvP.pos hl (EvP.pos (nat_nonneg _) ?_)
    refine EvP.ite (fun e => EvP.now ?_) (fun e => ih () ?_)
    · rw [hx, hasT_append, hasT_cons, e]
      simp
    · rw [hasT_append, hasT_cons, hi]
      simp [e, hasT]
  · rintro _ hi
    simp only [spec_hasText.l0]
    exact EvP.neg (by omega) (EvP.now hi.symm)
/-! #### an expression, as both sides read it -/
theorem toList_loop (s : ByteArray) : ∀ (n i : Nat) (r : List UInt8), s.size - i = n → ByteArray.toList.loop s i r = r.reverse ++ s.data.toList.drop i := by
  intro n
  have hl : s.data.toList.length = s.size := by rw [Array.length_toList]; rfl
  induction n with
  | zero =>
    intro i r h
    rw [ByteArray.toList.loop, if_neg (by omega), List.drop_eq_nil_of_le (by omega), List.append_nil]
  | succ n ih =>
    intro i r h
    have hi : i < s.data.toList.length := by omega
    rw [ByteArray.toList.loop, if_pos (by omega), ih _ _ (by omega), List.drop_eq_getElem_cons hi]
    have hg : s.get! i = s.data.toList[i] := by
      show s.data[i]! = _
      rw [Array.getElem_toList, getElem!_pos s.data i (by rw [Array.length_toList] at hi; exact hi)]
    rw [List.reverse_cons, List.append_assoc, hg]
    rfl
theorem toList_eq (s : ByteArray) : s.toList = s.data.toList := (toList_loop s _ 0 [] rfl).trans (by simp)
theorem ba_inj {a b : ByteArray} (h : a.toList = b.toList) : a = b := by
  rw [toList_eq, toList_eq] at h
  exact ByteArray.ext (Array.toList_inj.1 h)
/-- The text from p on. -/
def sf (T : ByteArray) (p : Nat) : ByteArray := T.extract p T.size
theorem sf_zero (T : ByteArray) : sf T 0 = T := by
  apply ByteArray.ext
  simp [sf, ← ByteArray.size_data]
theorem sf_size (T : ByteArray) (p : Nat) : (sf T p).size = T.size - p := by simp [sf]
theorem sf_ext (T : ByteArray) (p a b : Nat) (h : p + b ≤ T.size) : (sf T p).extract a b = T.extract (p + a) (p + b) := by
  rw [sf, ByteArray.extract_extract, Nat.min_eq_left h]
theorem sf_sf (T : ByteArray) (p a : Nat) (h : p ≤ T.size) : (sf T p).extract a (sf T p).size = sf T (p + a) := by
  rw [sf_size, sf_ext T p a _ (by omega), sf, show p + (T.size - p) = T.size by omega]
theorem bt_sf (T : ByteArray) (p j : Nat) (h : p + j < T.size) : bt (sf T p) (j : Int) = bt T ((p + j : Nat) : Int) := by
  have h1 : j < (sf T p).size := by rw [sf_size]; omega
  unfold bt
  rw [dif_pos (show ((j : Nat) : Int).toNat < (sf T p).size from h1), dif_pos (show ((p + j : Nat) : Int).toNat < T.size from h)]
  show (((sf T p)[j]'h1).toNat : Int) = ((T[p + j]'h).toNat : Int)
  simp [sf, ByteArray.getElem_eq_getElem_data]
/-- The text has lit (of n bytes) at p. -/
def At (T : ByteArray) (p : Nat) (lit : ByteArray) (n : Nat) : Prop := p + n ≤ T.size ∧ T.extract p (p + n) = lit
theorem cut_yes (T : ByteArray) (p : Nat) (lit : ByteArray) (n : Nat) (hn : lit.size = n) (h : At T p lit n) : strings_CutPrefix.f (sf T p) lit = some (sf T (p + n), true) := by
  obtain ⟨h1, h2⟩ := h
  have hs := sf_size T p
  have e1 : stringslite_HasPrefix.f (sf T p) lit = some true := by
    unfold stringslite_HasPrefix.f
    rw [if_pos (by omega), if_pos (by omega), if_pos (by omega), hn, Int.toNat_natCast, sf_ext T p 0 n (by omega), Nat.add_zero, h2]
    simp
  have e2 : stringslite_CutPrefix.f (sf T p) lit = some (sf T (p + n), true) := by
    unfold stringslite_CutPrefix.f
    rw [e1, Option.bind_some, if_pos rfl, if_pos (by omega), if_pos (by omega), hn, Int.toNat_natCast, sf_sf T p n (by omega)]
  unfold strings_CutPrefix.f
  rw [e2]
  rfl
theorem cut_no (T : ByteArray) (p : Nat) (lit : ByteArray) (n : Nat) (hn : lit.size = n) (hp : p ≤ T.size) (h : ¬ At T p lit n) : strings_CutPrefix.f (sf T p) lit = some (sf T p, false) := by
  have hs := sf_size T p
  have e1 : stringslite_HasPrefix.f (sf T p) lit = some false := by
    unfold stringslite_HasPrefix.f
    by_cases c : p + n ≤ T.size
    · rw [if_pos (by omega), if_pos (by omega), if_pos (by omega), hn, Int.toNat_natCast, sf_ext T p 0 n (by omega), Nat.add_zero]
      refine congrArg some (beq_eq_false_iff_ne.2 (fun e => h ⟨c, ba_inj e⟩))
    · rw [if_neg (by omega)]
  have e2 : stringslite_CutPrefix.f (sf T p) lit = some (sf T p, false) := by
    unfold stringslite_CutPrefix.f
    rw [e1, Option.bind_some, if_neg (by simp)]
  unfold strings_CutPrefix.f
  rw [e2]
  rfl
theorem cut_any (s lit : ByteArray) : ∃ c, strings_CutPrefix.f s lit = some c := by
  rcases Nat.lt_or_ge s.size lit.size with c | c
  · have e1 : stringslite_HasPrefix.f s lit = some false := by
      unfold stringslite_HasPrefix.f
      rw [if_neg (by omega)]
    refine ⟨(s, false), ?_⟩
    simp [strings_CutPrefix.f, stringslite_CutPrefix.f, e1]
  · have e1 : stringslite_HasPrefix.f s lit = some ((s.extract 0 ((lit.size : Int) : Int).toNat).toList == lit.toList) := by
      unfold stringslite_HasPrefix.f
      rw [if_pos (by omega), if_pos (by omega), if_pos (by omega)]
    cases e : ((s.extract 0 ((lit.size : Int) : Int).toNat).toList == lit.toList) with
    | true =>
      refine ⟨(s.extract ((lit.size : Int) : Int).toNat s.size, true), ?_⟩
      rw [strings_CutPrefix.f, stringslite_CutPrefix.f, e1, e, Option.bind_some, if_pos rfl, if_pos (by omega), if_pos (by omega)]
      rfl
    | false =>
      refine ⟨(s, false), ?_⟩
      rw [strings_CutPrefix.f, stringslite_CutPrefix.f, e1, e, Option.bind_some, if_neg (by simp)]
      rfl
theorem eat_yes (T : ByteArray) (p : Nat) (x y : ByteArray) (l m : List ByteArray) (b : Bool) (lit : ByteArray) (n : Nat) (hn : lit.size = n) (hT : T.size ≤ 60) (h : At T p lit n) : spec_eat.f T (p : Int) x y l m b lit = some (true, T, ((p + n : Nat) : Int), x, y, b) := by
  obtain ⟨h1, h2⟩ := h
  have hw : wrap64 ((p : Int) + (lit.size : Int)) = ((p + n : Nat) : Int) := by rw [hn, wrap_id (by omega) (by omega)]; omega
  unfold spec_eat.f
  rw [hw, if_neg (by omega), if_pos (by omega), if_pos (by omega), if_pos (by omega), Int.toNat_natCast, Int.toNat_natCast, h2, if_pos rfl]
theorem eat_no (T : ByteArray) (p : Nat) (x y : ByteArray) (l m : List ByteArray) (b : Bool) (lit : ByteArray) (n : Nat) (hn : lit.size = n) (h60 : n ≤ 60) (hT : T.size ≤ 60) (hp : p ≤ T.size) (h : ¬ At T p lit n) : spec_eat.f T (p : Int) x y l m b lit = some (false, T, (p : Int), x, y, b) := by
  have hw : wrap64 ((p : Int) + (lit.size : Int)) = ((p + n : Nat) : Int) := by rw [hn, wrap_id (by omega) (by omega)]; omega
  unfold spec_eat.f
  rw [hw]
  by_cases c : p + n ≤ T.size
  · rw [if_neg (by omega), if_pos (by omega), if_pos (by omega), if_pos (by omega), Int.toNat_natCast, Int.toNat_natCast, if_neg (fun e => h ⟨c, ba_inj e⟩)]
  · rw [if_pos (by omega)]
theorem name_at (T : ByteArray) (p : Nat) (x y : ByteArray) (l m : List ByteArray) (b : Bool) (hT : T.size ≤ 60) (hp : p ≤ T.size) : EvP (fun k => spec_nameAt.f k T (p : Int) x y l m b) (· = (T.extract p (p + nameLen (sf T p)), T, ((p + nameLen (sf T p) : Nat) : Int), x, y, b)) := by
  unfold spec_nameAt.f
  have hle := nameLen_le (sf T p)
  rw [sf_size] at hle
  have key : ∀ (d i : Nat), nameLen (sf T p) - i = d → i ≤ nameLen (sf T p) → EvP (fun k => spec_nameAt.l0 k (p : Int) T ((p + i : Nat) : Int) x y l m b) (· = (T.extract p (p + nameLen (sf T p)), T, ((p + nameLen (sf T p) : Nat) : Int), x, y, b)) := by
    intro d
    induction d with
    | zero =>
      intro i hd hi
      obtain rfl : i = nameLen (sf T p) := by omega
      refine EvP.succ ?_
      simp only [spec_nameAt.l0]
      have fin : EvP (fun _ : Nat => if 0 ≤ (p : Int) then (if (p : Int) ≤ ((p + nameLen (sf T p) : Nat) : Int) then (if ((p + nameLen (sf T p) : Nat) : Int) ≤ (T.size : Int) then (some (T.extract (p : Int).toNat (((p + nameLen (sf T p) : Nat) : Int)).toNat, T, ((p + nameLen (sf T p) : Nat) : Int), x, y, b)) else (none)) else (none)) else (none)) (· = (T.extract p (p + nameLen (sf T p)), T, ((p + nameLen (sf T p) : Nat) : Int), x, y, b)) := by
        refine EvP.pos (by omega) (EvP.pos (by omega) (EvP.pos (by omega) (EvP.now ?_)))
        rw [Int.toNat_natCast, Int.toNat_natCast]
      refine EvP.ite (fun e => EvP.pos (by omega) ?_) (fun _ => fin)
      have hst := nameLen_stop (sf T p) (by rw [sf_size]; omega)
      rw [bt_sf T p _ (by omega)] at hst
      exact EvP.ite (fun e2 => EvP.ite (fun e3 => absurd ⟨e2, e3⟩ hst) (fun _ => fin)) (fun _ => fin)
    | succ d ih =>
      intro i hd hi
      refine EvP.succ ?_
      simp only [spec_nameAt.l0]
      have hin := nameLen_in (sf T p) i (by omega)
      rw [bt_sf T p _ (by omega)] at hin
      refine EvP.pos (by omega) (EvP.pos (by omega) (EvP.pos hin.1 (EvP.pos hin.2 ?_)))
      rw [wrap_id (by omega) (by omega)]
      have := ih (i + 1) (by omega) (by omega)
      rwa [show ((p + (i + 1) : Nat) : Int) = ((p + i : Nat) : Int) + 1 by omega] at this
  exact key _ 0 rfl (Nat.zero_le _)
def PI (T : ByteArray) (ls : List ByteArray) (q : Nat) (ok : Bool) (t : List ByteArray × ByteArray × Bool) : Prop := t.1 = ls ∧ t.2.2 = ok ∧ (ok = true → t.2.1 = sf T q)
def PS (T x y : ByteArray) (q : Nat) (ok : Bool) (t : Bool × ByteArray × Int × ByteArray × ByteArray × Bool) : Prop :=
  t.2.1 = T ∧ (∃ z : Nat, t.2.2.1 = (z : Int) ∧ z ≤ T.size ∧ (ok = true → z = q)) ∧ t.2.2.2.1 = x ∧ t.2.2.2.2.1 = y ∧ t.2.2.2.2.2 = ok
def Wc (T : ByteArray) (p : Nat) : Prop := bt T (p : Int) = 64 ∨ (97 ≤ bt T (p : Int) ∧ bt T (p : Int) ≤ 122)
/-- No word goes on at q. -/
def Cond (T : ByteArray) (q : Nat) : Prop := q < T.size → ¬ Wc T q
theorem at_bt {T : ByteArray} {p : Nat} {lit : ByteArray} {n : Nat} (h : At T p lit n) (i : Nat) (hi : i < n) : bt T ((p + i : Nat) : Int) = bt lit (i : Int) := by
  obtain ⟨h1, h2⟩ := h
  rw [← h2]
  unfold bt
  have h3 : i < (T.extract p (p + n)).size := by simp; omega
  rw [dif_pos (show ((p + i : Nat) : Int).toNat < T.size by simp; omega), dif_pos (show ((i : Nat) : Int).toNat < (T.extract p (p + n)).size from h3)]
  show ((T[p + i]'(by omega)).toNat : Int) = (((T.extract p (p + n))[i]'h3).toNat : Int)
  simp [ByteArray.getElem_eq_getElem_data]
theorem cond_at {T : ByteArray} {p : Nat} {lit : ByteArray} {n : Nat} (h : At T p lit n) (hn : 0 < n) (hl : bt lit 0 < 64) : Cond T p := by
  intro _ hw
  have := at_bt h 0 hn
  rw [Nat.add_zero] at this
  unfold Wc at hw
  rw [this] at hw
  simp only [Int.natCast_zero] at hw
  omega
structure ScOk (T : ByteArray) (Sc : Nat → Nat → List ByteArray → Prop) : Prop where
  not_ : ∀ p q ls, At T p (⟨#[110, 111, 116, 32]⟩ : ByteArray) 4 → Sc (p + 4) q ls → Sc p q ls
  par : ∀ p q ls, At T p (⟨#[40]⟩ : ByteArray) 1 → At T q (⟨#[41]⟩ : ByteArray) 1 → Sc (p + 1) q ls → Sc p (q + 1) ls
  nm : ∀ p, p ≤ T.size → nameB (T.extract p (p + nameLen (sf T p))) = true → Cond T (p + nameLen (sf T p)) → Sc p (p + nameLen (sf T p)) [T.extract p (p + nameLen (sf T p))]
  at_ : ∀ p, At T p (⟨#[64]⟩ : ByteArray) 1 → nameB (T.extract (p + 1) (p + 1 + nameLen (sf T (p + 1)))) = true → Cond T (p + 1 + nameLen (sf T (p + 1))) → Sc p (p + 1 + nameLen (sf T (p + 1))) [(⟨#[64]⟩ : ByteArray) ++ T.extract (p + 1) (p + 1 + nameLen (sf T (p + 1)))]
  or_ : ∀ p q r ls ms, At T q (sepOf true) 4 → Sc p q ls → Sc (q + 4) r ms → Sc p r (ls ++ ms)
  and_ : ∀ p q r ls ms, At T q (sepOf false) 5 → Sc p q ls → Sc (q + 5) r ms → Sc p r (ls ++ ms)
def Q (T : ByteArray) (Sc : Nat → Nat → List ByteArray → Prop) (p : Nat) (I : Nat → Option (List ByteArray × ByteArray × Bool)) (S : ByteArray → ByteArray → Nat → Option (Bool × ByteArray × Int × ByteArray × ByteArray × Bool)) : Prop :=
  ∃ (ls : List ByteArray) (q : Nat) (ok : Bool), p ≤ q ∧ q ≤ T.size ∧ EvP I (PI T ls q ok) ∧ (∀ x y, EvP (S x y) (PS T x y q ok)) ∧ (ok = true → Cond T q → Sc p q ls)
theorem eatY (T : ByteArray) (p : Nat) (x y : ByteArray) (l m : List ByteArray) (b : Bool) (lit : ByteArray) (n : Nat) (hn : lit.size = n) (hT : T.size ≤ 60) (h : At T p lit n) : EvP (fun _ : Nat => spec_eat.f T (p : Int) x y l m b lit) (· = (true, T, ((p + n : Nat) : Int), x, y, b)) := by
  rw [eat_yes T p x y l m b lit n hn hT h]
  exact EvP.now rfl
theorem eatN (T : ByteArray) (p : Nat) (x y : ByteArray) (l m : List ByteArray) (b : Bool) (lit : ByteArray) (n : Nat) (hn : lit.size = n) (h60 : n ≤ 60) (hT : T.size ≤ 60) (hp : p ≤ T.size) (h : ¬ At T p lit n) : EvP (fun _ : Nat => spec_eat.f T (p : Int) x y l m b lit) (· = (false, T, (p : Int), x, y, b)) := by
  rw [eat_no T p x y l m b lit n hn h60 hT hp h]
  exact EvP.now rfl
theorem jF (T : ByteArray) (Sc : Nat → Nat → List ByteArray → Prop) (hT : T.size ≤ 60) (hs : ScOk T Sc) (p : Nat) (hp : p ≤ T.size)
    (ihF : ∀ p', p < p' → p' ≤ T.size → Q T Sc p' (fun k => impl_takeFactor.f k (sf T p')) (fun x y k => spec_factor.f k T ((p' : Nat) : Int) x y ([] : List ByteArray) ([] : List ByteArray) true))
    (ihE : ∀ p', p < p' → p' ≤ T.size → Q T Sc p' (fun k => impl_takeRow.f k (sf T p') true) (fun x y k => spec_expr.f k T ((p' : Nat) : Int) x y ([] : List ByteArray) ([] : List ByteArray) true)) : Q T Sc p (fun k => impl_takeFactor.f k (sf T p)) (fun x y k => spec_factor.f k T ((p : Nat) : Int) x y ([] : List ByteArray) ([] : List ByteArray) true) := by
  by_cases a1 : At T p (⟨#[110, 111, 116, 32]⟩ : ByteArray) 4
  · obtain ⟨ls, q, ok, h1, h2, hI, hS, hsc⟩ := ihF (p + 4) (by omega) a1.1
    refine ⟨ls, q, ok, by omega, h2, ?_, ?_, fun e c => hs.not_ p q ls a1 (hsc e c)⟩
    · refine EvP.succ ?_
      simp only [impl_takeFactor.f, cut_yes T p _ 4 rfl a1, Option.bind_some, ↓reduceIte]
      exact hI
    · intro x y
      refine EvP.succ ?_
      simp only [spec_factor.f]
      refine EvP.bind (eatY T p _ _ _ _ true _ 4 rfl hT a1) ?_
      rintro _ rfl
      refine EvP.pos rfl ?_
      dsimp only
      refine EvP.bind (hS x y) ?_
      rintro ⟨b, T', z, x', y', ok'⟩ ⟨e1, e2, e3, e4, e5⟩
      exact EvP.now ⟨e1, e2, e3, e4, e5⟩
  by_cases a2 : At T p (⟨#[40]⟩ : ByteArray) 1
  · obtain ⟨ls, q, ok, h1, h2, hI, hS, hsc⟩ := ihE (p + 1) (by omega) a2.1
    have iI : ∀ (q' : Nat) (ok' : Bool), (∀ r : ByteArray, (ok = true → r = sf T q) → ∃ d : ByteArray × Bool, strings_CutPrefix.f r (⟨#[41]⟩ : ByteArray) = some d ∧ (ok && d.2) = ok' ∧ (ok' = true → d.1 = sf T q')) → EvP (fun k => impl_takeFactor.f k (sf T p)) (PI T ls q' ok') := by
      intro q' ok' hd
      refine EvP.succ ?_
      simp only [impl_takeFactor.f, cut_no T p _ 4 rfl hp a1, cut_yes T p _ 1 rfl a2, Option.bind_some, ↓reduceIte, Bool.false_eq_true]
      refine EvP.bind hI ?_
      rintro ⟨l, r, ok2⟩ ⟨rfl, rfl, hr⟩
      obtain ⟨d, e1, e2, e3⟩ := hd r hr
      simp only [e1, Option.bind_some]
      exact EvP.now ⟨rfl, e2, e3⟩
    have iS : ∀ (q' : Nat) (ok' : Bool), (∀ z : Nat, z ≤ T.size → (ok = true → z = q) → (At T z (⟨#[41]⟩ : ByteArray) 1 → (ok = ok' ∧ (ok' = true → z + 1 = q'))) ∧ (¬ At T z (⟨#[41]⟩ : ByteArray) 1 → ok' = false)) → ∀ x y, EvP (fun k => spec_factor.f k T (p : Int) x y ([] : List ByteArray) ([] : List ByteArray) true) (PS T x y q' ok') := by
      intro q' ok' hd x y
      refine EvP.succ ?_
      simp only [spec_factor.f]
      refine EvP.bind (eatN T p _ _ _ _ true _ 4 rfl (by omega) hT hp a1) ?_
      rintro _ rfl
      refine EvP.neg (by simp) ?_
      dsimp only
      refine EvP.bind (eatY T p _ _ _ _ true _ 1 rfl hT a2) ?_
      rintro _ rfl
      refine EvP.pos rfl ?_
      dsimp only
      refine EvP.bind (hS x y) ?_
      rintro ⟨b, T', z, x', y', ok2⟩ ⟨e1, ⟨z', e2, hz, hzq⟩, e3, e4, e5⟩
      dsimp only at e1 e2 e3 e4 e5
      subst e1 e2 e3 e4 e5
      have g := hd z' hz hzq
      by_cases a3 : At T' z' (⟨#[41]⟩ : ByteArray) 1
      · refine EvP.bind (eatY T' z' _ _ _ _ ok2 _ 1 rfl hT a3) ?_
        rintro _ rfl
        refine EvP.pos rfl ?_
        dsimp only
        have g1 := g.1 a3
        exact EvP.now ⟨rfl, ⟨z' + 1, rfl, a3.1, fun e => g1.2 e⟩, rfl, rfl, g1.1⟩
      · refine EvP.bind (eatN T' z' _ _ _ _ ok2 _ 1 rfl (by omega) hT hz a3) ?_
        rintro _ rfl
        refine EvP.neg (by simp) ?_
        dsimp only
        have g1 := g.2 a3
        exact EvP.now ⟨rfl, ⟨z', rfl, hz, fun e => by rw [g1] at e; cases e⟩, rfl, rfl, g1.symm⟩
    cases ok with
    | false =>
      refine ⟨ls, p, false, Nat.le_refl _, hp, iI p false ?_, iS p false ?_, fun e => by cases e⟩
      · intro r _
        obtain ⟨c, hc⟩ := cut_any r (⟨#[41]⟩ : ByteArray)
        exact ⟨c, hc, rfl, fun e => by cases e⟩
      · exact fun z hz _ => ⟨fun _ => ⟨rfl, fun e => by cases e⟩, fun _ => rfl⟩
    | true =>
      by_cases a3 : At T q (⟨#[41]⟩ : ByteArray) 1
      · refine ⟨ls, q + 1, true, by omega, a3.1, iI (q + 1) true ?_, iS (q + 1) true ?_, fun _ _ => hs.par p q ls a2 a3 (hsc rfl (cond_at a3 (by omega) (by decide)))⟩
        · intro r hr
          obtain rfl := hr rfl
          exact ⟨_, cut_yes T q _ 1 rfl a3, rfl, fun _ => rfl⟩
        · intro z hz hq
          obtain rfl := hq rfl
          exact ⟨fun _ => ⟨rfl, fun _ => rfl⟩, fun h => absurd a3 h⟩
      · refine ⟨ls, p, false, Nat.le_refl _, hp, iI p false ?_, iS p false ?_, fun e => by cases e⟩
        · intro r hr
          obtain rfl := hr rfl
          exact ⟨_, cut_no T q _ 1 rfl h2 a3, rfl, fun e => by cases e⟩
        · intro z hz hq
          obtain rfl := hq rfl
          exact ⟨fun h => absurd h a3, fun _ => rfl⟩
  by_cases a3 : At T p (⟨#[64]⟩ : ByteArray) 1
  · have hle := nameLen_le (sf T (p + 1))
    rw [sf_size] at hle
    have hp1 := a3.1
    have hz := sf_size T (p + 1)
    generalize hnb : nameB (T.extract (p + 1) (p + 1 + nameLen (sf T (p + 1)))) = ok
    have hx : (sf T (p + 1)).extract 0 (nameLen (sf T (p + 1))) = T.extract (p + 1) (p + 1 + nameLen (sf T (p + 1))) := sf_ext T (p + 1) 0 _ (by omega)
    have hxs : (T.extract (p + 1) (p + 1 + nameLen (sf T (p + 1)))).size = nameLen (sf T (p + 1)) := by simp; omega
    refine ⟨if ok = true then [(⟨#[64]⟩ : ByteArray) ++ T.extract (p + 1) (p + 1 + nameLen (sf T (p + 1)))] else [⟨#[]⟩], p + 1 + nameLen (sf T (p + 1)), ok, by omega, by omega, ?_, ?_, ?_⟩
    · refine EvP.succ ?_
      simp only [impl_takeFactor.f, cut_no T p _ 4 rfl hp a1, cut_no T p _ 1 rfl hp a2, cut_yes T p _ 1 rfl a3, Option.bind_some, ↓reduceIte, Bool.false_eq_true, impl_takeFactor.fin]
      rw [hx]
      refine EvP.pos (by omega) (EvP.bind (impl_nameOk.ok _ (by omega)) ?_)
      rintro _ rfl
      rw [hnb]
      cases ok with
      | true =>
        simp only [↓reduceIte]
        exact EvP.pos (by omega) (EvP.now ⟨rfl, rfl, fun _ => sf_sf T (p + 1) _ hp1⟩)
      | false =>
        simp only [↓reduceIte, Bool.false_eq_true]
        exact EvP.now ⟨rfl, rfl, fun e => by cases e⟩
    · intro x y
      refine EvP.succ ?_
      simp only [spec_factor.f]
      refine EvP.bind (eatN T p _ _ _ _ true _ 4 rfl (by omega) hT hp a1) ?_
      rintro _ rfl
      refine EvP.neg (by simp) ?_
      dsimp only
      refine EvP.bind (eatN T p _ _ _ _ true _ 1 rfl (by omega) hT hp a2) ?_
      rintro _ rfl
      refine EvP.neg (by simp) ?_
      dsimp only
      refine EvP.bind (eatY T p _ _ _ _ true _ 1 rfl hT a3) ?_
      rintro _ rfl
      refine EvP.pos rfl ?_
      dsimp only
      refine EvP.bind (name_at T (p + 1) x y _ _ true hT hp1) ?_
      rintro _ rfl
      refine EvP.pos rfl ?_
      dsimp only
      refine EvP.bind (spec_validName.ok _ (by omega)) ?_
      rintro _ rfl
      exact EvP.now ⟨rfl, ⟨_, rfl, by omega, fun _ => rfl⟩, rfl, rfl, hnb⟩
    · rintro rfl c
      rw [if_pos rfl]
      exact hs.at_ p a3 hnb c
  · have hle := nameLen_le (sf T p)
    rw [sf_size] at hle
    have hz := sf_size T p
    generalize hnb : nameB (T.extract p (p + nameLen (sf T p))) = ok
    have hx : (sf T p).extract 0 (nameLen (sf T p)) = T.extract p (p + nameLen (sf T p)) := sf_ext T p 0 _ (by omega)
    have hxs : (T.extract p (p + nameLen (sf T p))).size = nameLen (sf T p) := by simp; omega
    refine ⟨if ok = true then [T.extract p (p + nameLen (sf T p))] else [⟨#[]⟩], p + nameLen (sf T p), ok, by omega, by omega, ?_, ?_, ?_⟩
    · refine EvP.succ ?_
      simp only [impl_takeFactor.f, cut_no T p _ 4 rfl hp a1, cut_no T p _ 1 rfl hp a2, cut_no T p _ 1 rfl hp a3, Option.bind_some, ↓reduceIte, Bool.false_eq_true, impl_takeFactor.fin]
      rw [hx]
      refine EvP.pos (by omega) (EvP.bind (impl_nameOk.ok _ (by omega)) ?_)
      rintro _ rfl
      rw [hnb]
      cases ok with
      | true =>
        simp only [↓reduceIte]
        exact EvP.now ⟨rfl, rfl, fun _ => sf_sf T p _ hp⟩
      | false =>
        simp only [↓reduceIte, Bool.false_eq_true]
        exact EvP.now ⟨rfl, rfl, fun e => by cases e⟩
    · intro x y
      refine EvP.succ ?_
      simp only [spec_factor.f]
      refine EvP.bind (eatN T p _ _ _ _ true _ 4 rfl (by omega) hT hp a1) ?_
      rintro _ rfl
      refine EvP.neg (by simp) ?_
      dsimp only
      refine EvP.bind (eatN T p _ _ _ _ true _ 1 rfl (by omega) hT hp a2) ?_
      rintro _ rfl
      refine EvP.neg (by simp) ?_
      dsimp only
      refine EvP.bind (eatN T p _ _ _ _ true _ 1 rfl (by omega) hT hp a3) ?_
      rintro _ rfl
      refine EvP.neg (by simp) ?_
      dsimp only
      refine EvP.bind (name_at T p x y _ _ true hT hp) ?_
      rintro _ rfl
      refine EvP.pos rfl ?_
      dsimp only
      refine EvP.bind (spec_validName.ok _ (by omega)) ?_
      rintro _ rfl
      refine EvP.bind (spec_hasText.ok _ _ (by simp)) ?_
      rintro _ rfl
      exact EvP.now ⟨rfl, ⟨_, rfl, by omega, fun _ => rfl⟩, rfl, rfl, hnb⟩
    · rintro rfl c
      rw [if_pos rfl]
      exact hs.nm p hp hnb c
theorem lT (T : ByteArray) (Sc : Nat → Nat → List ByteArray → Prop) (hT : T.size ≤ 60) (hs : ScOk T Sc) : ∀ (m q : Nat), T.size - q ≤ m → q ≤ T.size → (∀ p', q < p' → p' ≤ T.size → Q T Sc p' (fun k => impl_takeFactor.f k (sf T p')) (fun x y k => spec_factor.f k T ((p' : Nat) : Int) x y ([] : List ByteArray) ([] : List ByteArray) true)) → ∀ (p : Nat) (ls : List ByteArray), (Cond T q → Sc p q ls) →
    ∃ (ls' : List ByteArray) (q' : Nat) (ok' : Bool), q ≤ q' ∧ q' ≤ T.size ∧ EvP (fun k => impl_takeRow.l0 k false ls (sf T q) true) (PI T ls' q' ok') ∧ (∀ b x y, EvP (fun k => spec_term.l0 k b T (q : Int) x y ([] : List ByteArray) ([] : List ByteArray) true) (PS T x y q' ok')) ∧ (ok' = true → Cond T q' → Sc p q' ls') := by
  intro m
  induction m with
  | zero =>
    intro q hm hq _ p ls hc
    have a1 : ¬ At T q (sepOf false) 5 := fun h => by have := h.1; omega
    refine ⟨ls, q, true, Nat.le_refl _, hq, ?_, ?_, fun _ c => hc c⟩
    · refine EvP.succ ?_
      simp only [impl_takeRow.l0, cut_no T q (sepOf false) 5 rfl hq a1, Option.bind_some, ↓reduceIte, Bool.false_eq_true]
      exact EvP.now ⟨rfl, rfl, fun _ => rfl⟩
    · intro b x y
      refine EvP.succ ?_
      simp only [spec_term.l0, show (⟨#[32, 97, 110, 100, 32]⟩ : ByteArray) = sepOf false from rfl, eat_no T q x y _ _ true (sepOf false) 5 rfl (by omega) hT hq a1, Option.bind_some, ↓reduceIte, Bool.false_eq_true]
      exact EvP.now ⟨rfl, ⟨q, rfl, hq, fun _ => rfl⟩, rfl, rfl, rfl⟩
  | succ m ih =>
    intro q hm hq ihJ p ls hc
    by_cases a1 : At T q (sepOf false) 5
    · have h5 := a1.1
      obtain ⟨l2, q2, ok2, h1, h2, hI, hS, hsc⟩ := ihJ (q + 5) (by omega) h5
      have hc2 : ok2 = true → Cond T q2 → Sc p q2 (ls ++ l2) := fun e c => hs.and_ p q q2 ls l2 a1 (hc (cond_at a1 (by omega) (by decide))) (hsc e c)
      cases ok2 with
      | false =>
        refine ⟨ls ++ l2, q2, false, by omega, h2, ?_, ?_, fun e => by cases e⟩
        · refine EvP.succ ?_
          simp only [impl_takeRow.l0, cut_yes T q (sepOf false) 5 rfl a1, Option.bind_some, ↓reduceIte, Bool.false_eq_true]
          refine EvP.bind hI ?_
          rintro ⟨l, r, ok3⟩ ⟨e1, e2, _⟩
          dsimp only at e1 e2
          subst e1 e2
          refine EvP.succ ?_
          simp only [impl_takeRow.l0, ↓reduceIte, Bool.false_eq_true]
          exact EvP.now ⟨rfl, rfl, fun e => by cases e⟩
        · intro b x y
          refine EvP.succ ?_
          simp only [spec_term.l0, show (⟨#[32, 97, 110, 100, 32]⟩ : ByteArray) = sepOf false from rfl, eat_yes T q x y _ _ true (sepOf false) 5 rfl hT a1, Option.bind_some, ↓reduceIte, Bool.false_eq_true]
          refine EvP.bind (hS x y) ?_
          rintro ⟨b2, T', z, x', y', ok3⟩ ⟨e1, ⟨z', e2, hz, hzq⟩, e3, e4, e5⟩
          dsimp only at e1 e2 e3 e4 e5
          subst e1 e2 e3 e4 e5
          have g : ∀ b3, EvP (fun k => spec_term.l0 k b3 T' ((z' : Nat) : Int) x' y' ([] : List ByteArray) ([] : List ByteArray) false) (PS T' x' y' q2 false) := by
            intro b3
            refine EvP.succ ?_
            simp only [spec_term.l0, ↓reduceIte, Bool.false_eq_true]
            exact EvP.now ⟨rfl, ⟨z', rfl, hz, fun e => by cases e⟩, rfl, rfl, rfl⟩
          exact EvP.ite (fun _ => g _) (fun _ => g _)
      | true =>
        obtain ⟨ls', q', ok', g1, g2, gI, gS, gsc⟩ := ih q2 (by omega) h2 (fun p' hp' => ihJ p' (by omega)) p (ls ++ l2) (hc2 rfl)
        refine ⟨ls', q', ok', by omega, g2, ?_, ?_, gsc⟩
        · refine EvP.succ ?_
          simp only [impl_takeRow.l0, cut_yes T q (sepOf false) 5 rfl a1, Option.bind_some, ↓reduceIte, Bool.false_eq_true]
          refine EvP.bind hI ?_
          rintro ⟨l, r, ok3⟩ ⟨e1, e2, e3⟩
          dsimp only at e1 e2
          have e3' := e3 rfl
          dsimp only at e3'
          subst e1 e2 e3'
          exact gI
        · intro b x y
          refine EvP.succ ?_
          simp only [spec_term.l0, show (⟨#[32, 97, 110, 100, 32]⟩ : ByteArray) = sepOf false from rfl, eat_yes T q x y _ _ true (sepOf false) 5 rfl hT a1, Option.bind_some, ↓reduceIte, Bool.false_eq_true]
          refine EvP.bind (hS x y) ?_
          rintro ⟨b2, T', z, x', y', ok3⟩ ⟨e1, ⟨z', e2, hz, hzq⟩, e3, e4, e5⟩
          dsimp only at e1 e2 e3 e4 e5
          have e6 := hzq rfl
          subst e1 e2 e3 e4 e5 e6
          exact EvP.ite (fun _ => gS _ _ _) (fun _ => gS _ _ _)
    · refine ⟨ls, q, true, Nat.le_refl _, hq, ?_, ?_, fun _ c => hc c⟩
      · refine EvP.succ ?_
        simp only [impl_takeRow.l0, cut_no T q (sepOf false) 5 rfl hq a1, Option.bind_some, ↓reduceIte, Bool.false_eq_true]
        exact EvP.now ⟨rfl, rfl, fun _ => rfl⟩
      · intro b x y
        refine EvP.succ ?_
        simp only [spec_term.l0, show (⟨#[32, 97, 110, 100, 32]⟩ : ByteArray) = sepOf false from rfl, eat_no T q x y _ _ true (sepOf false) 5 rfl (by omega) hT hq a1, Option.bind_some, ↓reduceIte, Bool.false_eq_true]
        exact EvP.now ⟨rfl, ⟨q, rfl, hq, fun _ => rfl⟩, rfl, rfl, rfl⟩
theorem lE (T : ByteArray) (Sc : Nat → Nat → List ByteArray → Prop) (hT : T.size ≤ 60) (hs : ScOk T Sc) : ∀ (m q : Nat), T.size - q ≤ m → q ≤ T.size → (∀ p', q < p' → p' ≤ T.size → Q T Sc p' (fun k => impl_takeRow.f k (sf T p') false) (fun x y k => spec_term.f k T ((p' : Nat) : Int) x y ([] : List ByteArray) ([] : List ByteArray) true)) → ∀ (p : Nat) (ls : List ByteArray), (Cond T q → Sc p q ls) →
    ∃ (ls' : List ByteArray) (q' : Nat) (ok' : Bool), q ≤ q' ∧ q' ≤ T.size ∧ EvP (fun k => impl_takeRow.l0 k true ls (sf T q) true) (PI T ls' q' ok') ∧ (∀ b x y, EvP (fun k => spec_expr.l0 k b T (q : Int) x y ([] : List ByteArray) ([] : List ByteArray) true) (PS T x y q' ok')) ∧ (ok' = true → Cond T q' → Sc p q' ls') := by
  intro m
  induction m with
  | zero =>
    intro q hm hq _ p ls hc
    have a1 : ¬ At T q (sepOf true) 4 := fun h => by have := h.1; omega
    refine ⟨ls, q, true, Nat.le_refl _, hq, ?_, ?_, fun _ c => hc c⟩
    · refine EvP.succ ?_
      simp only [impl_takeRow.l0, cut_no T q (sepOf true) 4 rfl hq a1, Option.bind_some, ↓reduceIte, Bool.false_eq_true]
      exact EvP.now ⟨rfl, rfl, fun _ => rfl⟩
    · intro b x y
      refine EvP.succ ?_
      simp only [spec_expr.l0, show (⟨#[32, 111, 114, 32]⟩ : ByteArray) = sepOf true from rfl, eat_no T q x y _ _ true (sepOf true) 4 rfl (by omega) hT hq a1, Option.bind_some, ↓reduceIte, Bool.false_eq_true]
      exact EvP.now ⟨rfl, ⟨q, rfl, hq, fun _ => rfl⟩, rfl, rfl, rfl⟩
  | succ m ih =>
    intro q hm hq ihJ p ls hc
    by_cases a1 : At T q (sepOf true) 4
    · have h5 := a1.1
      obtain ⟨l2, q2, ok2, h1, h2, hI, hS, hsc⟩ := ihJ (q + 4) (by omega) h5
      have hc2 : ok2 = true → Cond T q2 → Sc p q2 (ls ++ l2) := fun e c => hs.or_ p q q2 ls l2 a1 (hc (cond_at a1 (by omega) (by decide))) (hsc e c)
      cases ok2 with
      | false =>
        refine ⟨ls ++ l2, q2, false, by omega, h2, ?_, ?_, fun e => by cases e⟩
        · refine EvP.succ ?_
          simp only [impl_takeRow.l0, cut_yes T q (sepOf true) 4 rfl a1, Option.bind_some, ↓reduceIte, Bool.false_eq_true]
          refine EvP.bind hI ?_
          rintro ⟨l, r, ok3⟩ ⟨e1, e2, _⟩
          dsimp only at e1 e2
          subst e1 e2
          refine EvP.succ ?_
          simp only [impl_takeRow.l0, ↓reduceIte, Bool.false_eq_true]
          exact EvP.now ⟨rfl, rfl, fun e => by cases e⟩
        · intro b x y
          refine EvP.succ ?_
          simp only [spec_expr.l0, show (⟨#[32, 111, 114, 32]⟩ : ByteArray) = sepOf true from rfl, eat_yes T q x y _ _ true (sepOf true) 4 rfl hT a1, Option.bind_some, ↓reduceIte, Bool.false_eq_true]
          refine EvP.bind (hS x y) ?_
          rintro ⟨b2, T', z, x', y', ok3⟩ ⟨e1, ⟨z', e2, hz, hzq⟩, e3, e4, e5⟩
          dsimp only at e1 e2 e3 e4 e5
          subst e1 e2 e3 e4 e5
          have g : ∀ b3, EvP (fun k => spec_expr.l0 k b3 T' ((z' : Nat) : Int) x' y' ([] : List ByteArray) ([] : List ByteArray) false) (PS T' x' y' q2 false) := by
            intro b3
            refine EvP.succ ?_
            simp only [spec_expr.l0, ↓reduceIte, Bool.false_eq_true]
            exact EvP.now ⟨rfl, ⟨z', rfl, hz, fun e => by cases e⟩, rfl, rfl, rfl⟩
          exact EvP.ite (fun _ => g _) (fun _ => g _)
      | true =>
        obtain ⟨ls', q', ok', g1, g2, gI, gS, gsc⟩ := ih q2 (by omega) h2 (fun p' hp' => ihJ p' (by omega)) p (ls ++ l2) (hc2 rfl)
        refine ⟨ls', q', ok', by omega, g2, ?_, ?_, gsc⟩
        · refine EvP.succ ?_
          simp only [impl_takeRow.l0, cut_yes T q (sepOf true) 4 rfl a1, Option.bind_some, ↓reduceIte, Bool.false_eq_true]
          refine EvP.bind hI ?_
          rintro ⟨l, r, ok3⟩ ⟨e1, e2, e3⟩
          dsimp only at e1 e2
          have e3' := e3 rfl
          dsimp only at e3'
          subst e1 e2 e3'
          exact gI
        · intro b x y
          refine EvP.succ ?_
          simp only [spec_expr.l0, show (⟨#[32, 111, 114, 32]⟩ : ByteArray) = sepOf true from rfl, eat_yes T q x y _ _ true (sepOf true) 4 rfl hT a1, Option.bind_some, ↓reduceIte, Bool.false_eq_true]
          refine EvP.bind (hS x y) ?_
          rintro ⟨b2, T', z, x', y', ok3⟩ ⟨e1, ⟨z', e2, hz, hzq⟩, e3, e4, e5⟩
          dsimp only at e1 e2 e3 e4 e5
          have e6 := hzq rfl
          subst e1 e2 e3 e4 e5 e6
          exact EvP.ite (fun _ => gS _ _ _) (fun _ => gS _ _ _)
    · refine ⟨ls, q, true, Nat.le_refl _, hq, ?_, ?_, fun _ c => hc c⟩
      · refine EvP.succ ?_
        simp only [impl_takeRow.l0, cut_no T q (sepOf true) 4 rfl hq a1, Option.bind_some, ↓reduceIte, Bool.false_eq_true]
        exact EvP.now ⟨rfl, rfl, fun _ => rfl⟩
      · intro b x y
        refine EvP.succ ?_
        simp only [spec_expr.l0, show (⟨#[32, 111, 114, 32]⟩ : ByteArray) = sepOf true from rfl, eat_no T q x y _ _ true (sepOf true) 4 rfl (by omega) hT hq a1, Option.bind_some, ↓reduceIte, Bool.false_eq_true]
        exact EvP.now ⟨rfl, ⟨q, rfl, hq, fun _ => rfl⟩, rfl, rfl, rfl⟩
theorem jT (T : ByteArray) (Sc : Nat → Nat → List ByteArray → Prop) (hT : T.size ≤ 60) (hs : ScOk T Sc) (p : Nat) (hp : p ≤ T.size) (h0 : Q T Sc p (fun k => impl_takeFactor.f k (sf T p)) (fun x y k => spec_factor.f k T ((p : Nat) : Int) x y ([] : List ByteArray) ([] : List ByteArray) true)) (ihJ : ∀ p', p < p' → p' ≤ T.size → Q T Sc p' (fun k => impl_takeFactor.f k (sf T p')) (fun x y k => spec_factor.f k T ((p' : Nat) : Int) x y ([] : List ByteArray) ([] : List ByteArray) true)) : Q T Sc p (fun k => impl_takeRow.f k (sf T p) false) (fun x y k => spec_term.f k T ((p : Nat) : Int) x y ([] : List ByteArray) ([] : List ByteArray) true) := by
  obtain ⟨l2, q2, ok2, h1, h2, hI, hS, hsc⟩ := h0
  cases ok2 with
  | false =>
    refine ⟨l2, q2, false, h1, h2, ?_, ?_, fun e => by cases e⟩
    · refine EvP.succ ?_
      simp only [impl_takeRow.f, ↓reduceIte, Bool.false_eq_true]
      refine EvP.bind hI ?_
      rintro ⟨l, r, ok3⟩ ⟨e1, e2, _⟩
      dsimp only at e1 e2
      subst e1 e2
      refine EvP.succ ?_
      simp only [impl_takeRow.l0, ↓reduceIte, Bool.false_eq_true]
      exact EvP.now ⟨rfl, rfl, fun e => by cases e⟩
    · intro x y
      refine EvP.succ ?_
      simp only [spec_term.f]
      refine EvP.bind (hS x y) ?_
      rintro ⟨b2, T', z, x', y', ok3⟩ ⟨e1, ⟨z', e2, hz, hzq⟩, e3, e4, e5⟩
      dsimp only at e1 e2 e3 e4 e5
      subst e1 e2 e3 e4 e5
      refine EvP.succ ?_
      simp only [spec_term.l0, ↓reduceIte, Bool.false_eq_true]
      exact EvP.now ⟨rfl, ⟨z', rfl, hz, fun e => by cases e⟩, rfl, rfl, rfl⟩
  | true =>
    obtain ⟨ls', q', ok', g1, g2, gI, gS, gsc⟩ := lT T Sc hT hs _ q2 (Nat.le_refl _) h2 (fun p' hp' => ihJ p' (by omega)) p l2 (hsc rfl)
    refine ⟨ls', q', ok', by omega, g2, ?_, ?_, gsc⟩
    · refine EvP.succ ?_
      simp only [impl_takeRow.f, ↓reduceIte, Bool.false_eq_true]
      refine EvP.bind hI ?_
      rintro ⟨l, r, ok3⟩ ⟨e1, e2, e3⟩
      dsimp only at e1 e2
      have e3' := e3 rfl
      dsimp only at e3'
      subst e1 e2 e3'
      exact gI
    · intro x y
      refine EvP.succ ?_
      simp only [spec_term.f]
      refine EvP.bind (hS x y) ?_
      rintro ⟨b2, T', z, x', y', ok3⟩ ⟨e1, ⟨z', e2, hz, hzq⟩, e3, e4, e5⟩
      dsimp only at e1 e2 e3 e4 e5
      have e6 := hzq rfl
      subst e1 e2 e3 e4 e5 e6
      exact gS _ _ _
theorem jE (T : ByteArray) (Sc : Nat → Nat → List ByteArray → Prop) (hT : T.size ≤ 60) (hs : ScOk T Sc) (p : Nat) (hp : p ≤ T.size) (h0 : Q T Sc p (fun k => impl_takeRow.f k (sf T p) false) (fun x y k => spec_term.f k T ((p : Nat) : Int) x y ([] : List ByteArray) ([] : List ByteArray) true)) (ihJ : ∀ p', p < p' → p' ≤ T.size → Q T Sc p' (fun k => impl_takeRow.f k (sf T p') false) (fun x y k => spec_term.f k T ((p' : Nat) : Int) x y ([] : List ByteArray) ([] : List ByteArray) true)) : Q T Sc p (fun k => impl_takeRow.f k (sf T p) true) (fun x y k => spec_expr.f k T ((p : Nat) : Int) x y ([] : List ByteArray) ([] : List ByteArray) true) := by
  obtain ⟨l2, q2, ok2, h1, h2, hI, hS, hsc⟩ := h0
  cases ok2 with
  | false =>
    refine ⟨l2, q2, false, h1, h2, ?_, ?_, fun e => by cases e⟩
    · refine EvP.succ ?_
      simp only [impl_takeRow.f, ↓reduceIte, Bool.false_eq_true]
      refine EvP.bind hI ?_
      rintro ⟨l, r, ok3⟩ ⟨e1, e2, _⟩
      dsimp only at e1 e2
      subst e1 e2
      refine EvP.succ ?_
      simp only [impl_takeRow.l0, ↓reduceIte, Bool.false_eq_true]
      exact EvP.now ⟨rfl, rfl, fun e => by cases e⟩
    · intro x y
      refine EvP.succ ?_
      simp only [spec_expr.f]
      refine EvP.bind (hS x y) ?_
      rintro ⟨b2, T', z, x', y', ok3⟩ ⟨e1, ⟨z', e2, hz, hzq⟩, e3, e4, e5⟩
      dsimp only at e1 e2 e3 e4 e5
      subst e1 e2 e3 e4 e5
      refine EvP.succ ?_
      simp only [spec_expr.l0, ↓reduceIte, Bool.false_eq_true]
      exact EvP.now ⟨rfl, ⟨z', rfl, hz, fun e => by cases e⟩, rfl, rfl, rfl⟩
  | true =>
    obtain ⟨ls', q', ok', g1, g2, gI, gS, gsc⟩ := lE T Sc hT hs _ q2 (Nat.le_refl _) h2 (fun p' hp' => ihJ p' (by omega)) p l2 (hsc rfl)
    refine ⟨ls', q', ok', by omega, g2, ?_, ?_, gsc⟩
    · refine EvP.succ ?_
      simp only [impl_takeRow.f, ↓reduceIte, Bool.false_eq_true]
      refine EvP.bind hI ?_
      rintro ⟨l, r, ok3⟩ ⟨e1, e2, e3⟩
      dsimp only at e1 e2
      have e3' := e3 rfl
      dsimp only at e3'
      subst e1 e2 e3'
      exact gI
    · intro x y
      refine EvP.succ ?_
      simp only [spec_expr.f]
      refine EvP.bind (hS x y) ?_
      rintro ⟨b2, T', z, x', y', ok3⟩ ⟨e1, ⟨z', e2, hz, hzq⟩, e3, e4, e5⟩
      dsimp only at e1 e2 e3 e4 e5
      have e6 := hzq rfl
      subst e1 e2 e3 e4 e5 e6
      exact gS _ _ _
theorem jAll (T : ByteArray) (Sc : Nat → Nat → List ByteArray → Prop) (hT : T.size ≤ 60) (hs : ScOk T Sc) : ∀ (n p : Nat), T.size - p ≤ n → p ≤ T.size → (Q T Sc p (fun k => impl_takeFactor.f k (sf T p)) (fun x y k => spec_factor.f k T ((p : Nat) : Int) x y ([] : List ByteArray) ([] : List ByteArray) true)) ∧ (Q T Sc p (fun k => impl_takeRow.f k (sf T p) false) (fun x y k => spec_term.f k T ((p : Nat) : Int) x y ([] : List ByteArray) ([] : List ByteArray) true)) ∧ (Q T Sc p (fun k => impl_takeRow.f k (sf T p) true) (fun x y k => spec_expr.f k T ((p : Nat) : Int) x y ([] : List ByteArray) ([] : List ByteArray) true)) := by
  intro n
  induction n with
  | zero =>
    intro p hn hp
    have f := jF T Sc hT hs p hp (fun p' h1 h2 => absurd h2 (by omega)) (fun p' h1 h2 => absurd h2 (by omega))
    have t := jT T Sc hT hs p hp f (fun p' h1 h2 => absurd h2 (by omega))
    exact ⟨f, t, jE T Sc hT hs p hp t (fun p' h1 h2 => absurd h2 (by omega))⟩
  | succ n ih =>
    intro p hn hp
    have f := jF T Sc hT hs p hp (fun p' h1 h2 => (ih p' (by omega) h2).1) (fun p' h1 h2 => (ih p' (by omega) h2).2.2)
    have t := jT T Sc hT hs p hp f (fun p' h1 h2 => (ih p' (by omega) h2).1)
    exact ⟨f, t, jE T Sc hT hs p hp t (fun p' h1 h2 => (ih p' (by omega) h2).2.1)⟩
/-- A text: both sides read it alike. -/
theorem read_both (T : ByteArray) (Sc : Nat → Nat → List ByteArray → Prop) (hT : T.size ≤ 60) (hs : ScOk T Sc) : ∃ (ls : List ByteArray) (ok : Bool), EvP (fun k => impl_readExpr.f k T) (· = (ls, ok)) ∧ EvP (fun k => spec_evaluate.f k T) (· = ok) ∧ (ok = true → Sc 0 T.size ls) := by
  obtain ⟨ls, q, ok, h1, h2, hI, hS, hsc⟩ := (jAll T Sc hT hs _ 0 (Nat.le_refl _) (Nat.zero_le _)).2.2
  rw [sf_zero] at hI
  have iS : EvP (fun k => spec_evaluate.f k T) (· = (ok && decide (q = T.size))) := by
    unfold spec_evaluate.f
    refine EvP.pos (by omega) (EvP.bind (hS _ _) ?_)
    rintro ⟨b2, T', z, x', y', ok3⟩ ⟨e1, ⟨z', e2, hz, hzq⟩, e3, e4, e5⟩
    dsimp only at e1 e2 e3 e4 e5
    subst e1 e2 e3 e4 e5
    refine EvP.now ?_
    cases ok3 with
    | false => rfl
    | true =>
      obtain rfl := hzq rfl
      rw [Bool.true_and, Bool.true_and, Bool.eq_iff_iff, beq_iff_eq, decide_eq_true_iff]
      dsimp only
      omega
  have iI : EvP (fun k => impl_readExpr.f k T) (· = (ls, ok && decide (q = T.size))) := by
    unfold impl_readExpr.f
    refine EvP.pos (by omega) (EvP.bind hI ?_)
    rintro ⟨l, r, ok3⟩ ⟨e1, e2, e3⟩
    dsimp only at e1 e2
    subst e1 e2
    refine EvP.now ?_
    cases ok3 with
    | false => rfl
    | true =>
      have e3' := e3 rfl
      dsimp only at e3'
      subst e3'
      dsimp only
      refine congrArg (Prod.mk l) (congrArg (and true) ?_)
      rw [Bool.eq_iff_iff, beq_iff_eq, decide_eq_true_iff]
      have hz := sf_size T q
      constructor
      · intro e
        have e' : sf T q = ⟨#[]⟩ := ba_inj (e.trans (by simp [toList_eq]))
        rw [e'] at hz
        have : (⟨#[]⟩ : ByteArray).size = 0 := rfl
        omega
      · intro e
        have hz0 : (sf T q).size = 0 := by omega
        rw [toList_eq]
        exact List.eq_nil_of_length_eq_zero (by rw [Array.length_toList]; exact hz0)
  refine ⟨ls, _, iI, iS, fun e => ?_⟩
  simp only [Bool.and_eq_true, decide_eq_true_iff] at e
  obtain ⟨e1, rfl⟩ := e
  exact hsc e1 (fun h => absurd h (Nat.lt_irrefl _))
theorem spec_addText.ok (l : List ByteArray) (x : ByteArray) (h : (l.length : Int) < 8796093022208) : EvP (fun k => spec_addText.f k l x) (· = if hasT l x = true then l else l ++ [x]) := by
  unfold spec_addText.f
  refine EvP.bind (spec_hasText.ok l x (by omega)) ?_
  rintro _ rfl
  exact EvP.ite (fun e => EvP.now (by rw [if_pos e])) (fun e => EvP.pos (by omega) (EvP.now (by rw [if_neg e])))
theorem slices_Index_string_string.ok (l : List ByteArray) (s : ByteArray) (h : (l.length : Int) ≤ 9223372036854775807) : EvP (fun k => slices_Index_string_string.f k l s) (fun r => decide (r ≥ 0) = hasT l s) := by
  unfold slices_Index_string_string.f
  refine EvP.range (L := fun k (_ : Unit) i => slices_Index_string_string.l0 k l s (l.length : Int) i) (xs := l) (Inv := fun pre _ => hasT pre s = false) ?_ ?_ () rfl
  · rintro pre x rest _ hx hi ih
    have hl := len_at hx
    have hr : rdOf ByteArray.empty l (pre.length : Int) = x := getD_at hx _
    simp only [slices_Index_string_string.l0, hr, wrap_at hx h]
    refine EvP.pos hl (EvP.pos (nat_nonneg _) (EvP.pos hl ?_))
    refine EvP.ite (fun e => EvP.now ?_) (fun e => ih () ?_)
    · rw [hx, hasT_append, hasT_cons, e]
      simp
    · rw [hasT_append, hasT_cons, hi]
      simp [Ne.symm e, hasT]
  · rintro _ hi
    simp only [slices_Index_string_string.l0]
    exact EvP.neg (by omega) (EvP.now (by rw [hi]; rfl))
theorem slices_Contains_string_string.ok (l : List ByteArray) (s : ByteArray) (h : (l.length : Int) ≤ 9223372036854775807) : EvP (fun k => slices_Contains_string_string.f k l s) (· = hasT l s) := by
  unfold slices_Contains_string_string.f
  refine EvP.bind (slices_Index_string_string.ok l s h) ?_
  intro r hr
  exact EvP.now hr
/-! #### the words of a text, in order -/
def addT (l : List ByteArray) (u : ByteArray) : List ByteArray := if hasT l u = true then l else l ++ [u]
def addTs (l us : List ByteArray) : List ByteArray := us.foldl addT l
theorem addTs_append (l us vs : List ByteArray) : addTs l (us ++ vs) = addTs (addTs l us) vs := by simp [addTs]
theorem addT_length (l : List ByteArray) (u : ByteArray) : (addT l u).length ≤ l.length + 1 := by
  unfold addT
  split
  · omega
  · simp
theorem addTs_length (us : List ByteArray) : ∀ l : List ByteArray, (addTs l us).length ≤ l.length + us.length := by
  induction us with
  | nil => intro l; simp [addTs]
  | cons u us ih =>
    intro l
    have h1 := ih (addT l u)
    have h2 := addT_length l u
    rw [List.length_cons]
    show (addTs (addT l u) us).length ≤ _
    omega
theorem addLeaves_ok (us : List ByteArray) : ∀ l : List ByteArray, l.length + us.length ≤ 1000 → EvP (fun k => addLeaves k l us) (· = addTs l us) := by
  induction us with
  | nil => exact fun l _ => EvP.now rfl
  | cons u us ih =>
    intro l h
    rw [List.length_cons] at h
    have h2 := addT_length l u
    have h1 : EvP (fun k => addLeaf k l u) (· = addT l u) := by
      unfold addLeaf
      refine EvP.bind (slices_Contains_string_string.ok l u (by omega)) ?_
      rintro _ rfl
      exact EvP.ite (fun e => EvP.now (by rw [addT, if_pos e])) (fun e => EvP.pos (by omega) (EvP.now (by rw [addT, if_neg e])))
    refine EvP.bind (f := fun k l' => addLeaves k l' us) h1 ?_
    rintro _ rfl
    exact ih (addT l u) (by omega)
/-- At a word's end. -/
def flushP (l : List ByteArray) (w : ByteArray) : List ByteArray := if w.toList = ([] : List UInt8) then l else if w.toList = ([97, 110, 100] : List UInt8) then l else if w.toList = ([111, 114] : List UInt8) then l else if w.toList = ([110, 111, 116] : List UInt8) then l else addT l w
theorem nil_toList : (⟨#[]⟩ : ByteArray).toList = [] := by rw [toList_eq]
theorem flushP_nil (l : List ByteArray) : flushP l ⟨#[]⟩ = l := by rw [flushP, if_pos nil_toList]
theorem sc_word (T : ByteArray) (hT : T.size ≤ 60) (p : Nat) (hp : p < T.size) (hw : Wc T p) (l : List ByteArray) (w : ByteArray) (hz : w.size ≤ 1000) (P : List ByteArray → Prop) (h : EvP (fun k => spec_atoms.l0 k T l (w ++ T.extract p (p + 1)) ((p + 1 : Nat) : Int)) P) : EvP (fun k => spec_atoms.l0 k T l w (p : Int)) P := by
  have g : EvP (fun k => spec_atoms.j1 k T l w (p : Int) true) P := by
    refine EvP.succ ?_
    simp only [spec_atoms.j1]
    have e : wrap64 ((p : Int) + 1) = ((p + 1 : Nat) : Int) := by rw [wrap_id (by omega) (by omega)]; omega
    rw [e, Int.toNat_natCast, Int.toNat_natCast]
    have hs : (T.extract p (p + 1)).size ≤ 1 := by simp; omega
    exact EvP.pos (by simp) (EvP.pos (by omega) (EvP.pos (by omega) (EvP.pos (by omega) (EvP.pos (by omega) h))))
  refine EvP.succ ?_
  simp only [spec_atoms.l0]
  refine EvP.pos (by omega) (EvP.pos (by omega) (EvP.pos (by omega) (EvP.ite (fun _ => g) (fun e => ?_))))
  rcases hw with hw | ⟨h1, h2⟩
  · exact absurd hw e
  · exact EvP.pos h1 (by rw [decide_eq_true h2]; exact g)
theorem sc_skip (T : ByteArray) (hT : T.size ≤ 60) (p : Nat) (hp : p ≤ T.size) (hc : Cond T p) (l : List ByteArray) (w : ByteArray) (hl : l.length ≤ 2000) (P : List ByteArray → Prop) (h : EvP (fun k => spec_atoms.l0 k T (flushP l w) (⟨#[]⟩ : ByteArray) ((p + 1 : Nat) : Int)) P) : EvP (fun k => spec_atoms.l0 k T l w (p : Int)) P := by
  have g : EvP (fun k => spec_atoms.j1 k T l w (p : Int) false) P := by
    refine EvP.succ ?_
    simp only [spec_atoms.j1]
    have e : wrap64 ((p : Int) + 1) = ((p + 1 : Nat) : Int) := by rw [wrap_id (by omega) (by omega)]; omega
    rw [e]
    unfold flushP at h
    refine EvP.neg (by simp) (EvP.ite (fun e1 => ?_) (fun e1 => EvP.ite (fun e2 => ?_) (fun e2 => EvP.ite (fun e3 => ?_) (fun e3 => EvP.ite (fun e4 => ?_) (fun e4 => ?_)))))
    · rwa [if_pos e1] at h
    · rwa [if_neg e1, if_pos e2] at h
    · rwa [if_neg e1, if_neg e2, if_pos e3] at h
    · rwa [if_neg e1, if_neg e2, if_neg e3, if_pos e4] at h
    · rw [if_neg e1, if_neg e2, if_neg e3, if_neg e4] at h
      refine EvP.bind (spec_addText.ok l w (by omega)) ?_
      rintro _ rfl
      exact h
  refine EvP.succ ?_
  simp only [spec_atoms.l0]
  refine EvP.pos (by omega) (EvP.ite (fun e => EvP.pos (by omega) ?_) (fun _ => g))
  have hn := hc (by omega)
  unfold Wc at hn
  refine EvP.ite (fun e1 => absurd (.inl e1) hn) (fun _ => EvP.ite (fun e2 => ?_) (fun _ => g))
  rw [decide_eq_false (fun e3 => hn (.inr ⟨e2, e3⟩))]
  exact g
theorem sc_eq (T : ByteArray) (hT : T.size ≤ 60) (p : Nat) (hp : p ≤ T.size) (hc : Cond T p) (l : List ByteArray) (k : Nat) : spec_atoms.l0 (k + 2) T l (⟨#[]⟩ : ByteArray) (p : Int) = spec_atoms.l0 k T l (⟨#[]⟩ : ByteArray) ((p + 1 : Nat) : Int) := by
  have e : wrap64 ((p : Int) + 1) = ((p + 1 : Nat) : Int) := by rw [wrap_id (by omega) (by omega)]; omega
  have g : spec_atoms.j1 (k + 1) T l (⟨#[]⟩ : ByteArray) (p : Int) false = spec_atoms.l0 k T l (⟨#[]⟩ : ByteArray) ((p + 1 : Nat) : Int) := by
    rw [spec_atoms.j1, if_neg (by simp), if_pos nil_toList, e]
  rw [spec_atoms.l0, if_pos (by omega)]
  by_cases c : (p : Int) < (T.size : Int)
  · rw [if_pos c, if_pos (by omega)]
    have hn := hc (by omega)
    unfold Wc at hn
    rw [if_neg (fun e1 => hn (.inl e1))]
    by_cases e2 : bt T (p : Int) ≥ 97
    · rw [if_pos e2, decide_eq_false (fun e3 => hn (.inr ⟨e2, e3⟩))]
      exact g
    · rw [if_neg e2]
      exact g
  · rw [if_neg c]
    exact g
theorem sc_back (T : ByteArray) (hT : T.size ≤ 60) (p : Nat) (hp : p ≤ T.size) (hc : Cond T p) (l : List ByteArray) (P : List ByteArray → Prop) (h : EvP (fun k => spec_atoms.l0 k T l (⟨#[]⟩ : ByteArray) (p : Int)) P) : EvP (fun k => spec_atoms.l0 k T l (⟨#[]⟩ : ByteArray) ((p + 1 : Nat) : Int)) P := by
  obtain ⟨r, ⟨K, h1⟩, h2⟩ := h
  exact ⟨r, ⟨K, fun n hn => (sc_eq T hT p hp hc l n).symm.trans (h1 (n + 2) (by omega))⟩, h2⟩
theorem sc_end (T : ByteArray) (hT : T.size ≤ 60) (p : Nat) (hp : p ≤ T.size) (hc : Cond T p) (l : List ByteArray) (w : ByteArray) (hl : l.length ≤ 2000) (P : List ByteArray → Prop) (h : EvP (fun k => spec_atoms.l0 k T (flushP l w) (⟨#[]⟩ : ByteArray) (p : Int)) P) : EvP (fun k => spec_atoms.l0 k T l w (p : Int)) P :=
  sc_skip T hT p hp hc l w hl P (sc_back T hT p hp hc _ P h)
theorem sc_run (T : ByteArray) (hT : T.size ≤ 60) (p q : Nat) (hpq : p ≤ q) (hq : q ≤ T.size) (hw : ∀ j, p ≤ j → j < q → Wc T j) (l : List ByteArray) (P : List ByteArray → Prop) (h : EvP (fun k => spec_atoms.l0 k T l (T.extract p q) (q : Int)) P) : EvP (fun k => spec_atoms.l0 k T l (⟨#[]⟩ : ByteArray) (p : Int)) P := by
  have key : ∀ (d i : Nat), q - i = d → p ≤ i → i ≤ q → EvP (fun k => spec_atoms.l0 k T l (T.extract p i) (i : Int)) P := by
    intro d
    induction d with
    | zero =>
      intro i hd h1 h2
      obtain rfl : i = q := by omega
      exact h
    | succ d ih =>
      intro i hd h1 h2
      refine sc_word T hT i (by omega) (hw i h1 (by omega)) l _ (by simp; omega) P ?_
      have := ih (i + 1) (by omega) (by omega) (by omega)
      rwa [ByteArray.extract_eq_extract_append_extract i h1 (Nat.le_succ i)] at this
  have := key _ p rfl (Nat.le_refl _) hpq
  rwa [show T.extract p p = (⟨#[]⟩ : ByteArray) from by apply ByteArray.ext; simp] at this
def Sc (T : ByteArray) (p q : Nat) (ls : List ByteArray) : Prop := p ≤ q ∧ ls.length ≤ q - p ∧ ∀ (l : List ByteArray) (P : List ByteArray → Prop), l.length + (T.size - p) ≤ 1000 → EvP (fun k => spec_atoms.l0 k T (addTs l ls) (⟨#[]⟩ : ByteArray) (q : Int)) P → EvP (fun k => spec_atoms.l0 k T l (⟨#[]⟩ : ByteArray) (p : Int)) P
theorem wc_at {T : ByteArray} {p : Nat} {lit : ByteArray} {n : Nat} (h : At T p lit n) (i : Nat) (hi : i < n) (hl : bt lit (i : Int) = 64 ∨ (97 ≤ bt lit (i : Int) ∧ bt lit (i : Int) ≤ 122)) : Wc T (p + i) := by
  unfold Wc
  rw [at_bt h i hi]
  exact hl
theorem cond_in {T : ByteArray} {p : Nat} {lit : ByteArray} {n : Nat} (h : At T p lit n) (i : Nat) (hi : i < n) (hl : bt lit (i : Int) < 64) : Cond T (p + i) := by
  intro _ hw
  unfold Wc at hw
  rw [at_bt h i hi] at hw
  omega
theorem at_part {T : ByteArray} {p : Nat} {lit : ByteArray} {n : Nat} (h : At T p lit n) (a b : Nat) (hb : b ≤ n) : T.extract (p + a) (p + b) = lit.extract a b := by
  obtain ⟨h1, h2⟩ := h
  rw [← h2, ByteArray.extract_extract, Nat.min_eq_left (by omega)]
theorem wordB_flush {w : ByteArray} (h1 : 0 < w.size) (h : wordB w = true) (l : List ByteArray) : flushP l w = addT l w := by
  unfold wordB at h
  simp only [Bool.and_eq_true, decide_eq_true_iff] at h
  have h0 : ¬ w.toList = [] := by
    rw [toList_eq]
    intro e
    have := congrArg List.length e
    rw [Array.length_toList] at this
    exact absurd this (by show ¬ w.size = 0; omega)
  rw [flushP, if_neg h0, if_neg h.1, if_neg h.2.1, if_neg h.2.2]
theorem at_flush (x : ByteArray) (l : List ByteArray) : flushP l ((⟨#[64]⟩ : ByteArray) ++ x) = addT l ((⟨#[64]⟩ : ByteArray) ++ x) := by
  have e : ((⟨#[64]⟩ : ByteArray) ++ x).toList = 64 :: x.data.toList := by
    rw [toList_eq, ByteArray.toList_data_append]
    rfl
  have n1 : (64 : UInt8) ≠ 97 := by decide
  have n2 : (64 : UInt8) ≠ 111 := by decide
  have n3 : (64 : UInt8) ≠ 110 := by decide
  rw [flushP, e, if_neg (by simp), if_neg (fun g => n1 (List.cons.inj g).1), if_neg (fun g => n2 (List.cons.inj g).1), if_neg (fun g => n3 (List.cons.inj g).1)]
theorem letters (T : ByteArray) (p : Nat) (j : Nat) (h1 : p ≤ j) (h2 : j < p + nameLen (sf T p)) (hp : p ≤ T.size) : Wc T j := by
  have hle := nameLen_le (sf T p)
  rw [sf_size] at hle
  have h := nameLen_in (sf T p) (j - p) (by omega)
  rw [bt_sf T p _ (by omega), show p + (j - p) = j by omega] at h
  exact .inr h
theorem sep_scan (T : ByteArray) (hT : T.size ≤ 60) (q n : Nat) (lit : ByteArray) (h : At T q lit (n + 2)) (h0 : bt lit 0 < 64) (hn : bt lit ((n + 1 : Nat) : Int) < 64) (hw : ∀ i, 1 ≤ i → i < n + 1 → (bt lit (i : Int) = 64 ∨ (97 ≤ bt lit (i : Int) ∧ bt lit (i : Int) ≤ 122))) (hf : ∀ l, flushP l (lit.extract 1 (n + 1)) = l) (l : List ByteArray) (hl : l.length ≤ 2000) (P : List ByteArray → Prop)
    (g : EvP (fun k => spec_atoms.l0 k T l (⟨#[]⟩ : ByteArray) ((q + (n + 2) : Nat) : Int)) P) : EvP (fun k => spec_atoms.l0 k T l (⟨#[]⟩ : ByteArray) (q : Int)) P := by
  have h1 := h.1
  refine sc_skip T hT q (by omega) (cond_in h 0 (by omega) h0) l _ hl P ?_
  rw [flushP_nil]
  refine sc_run T hT (q + 1) (q + (n + 1)) (by omega) (by omega) (fun j j1 j2 => ?_) l P ?_
  · have := wc_at h (j - q) (by omega) (hw _ (by omega) (by omega))
    rwa [show q + (j - q) = j by omega] at this
  · refine sc_skip T hT (q + (n + 1)) (by omega) (cond_in h (n + 1) (by omega) hn) l _ hl P ?_
    rw [at_part h 1 (n + 1) (by omega), hf]
    exact g
theorem scOk (T : ByteArray) (hT : T.size ≤ 60) : ScOk T (Sc T) where
  not_ := by
    rintro p q ls ha ⟨h1, h2, h3⟩
    refine ⟨by omega, by omega, fun l P hl g => ?_⟩
    have hz := ha.1
    refine sc_run T hT p (p + 3) (by omega) (by omega) (fun j j1 j2 => ?_) l P ?_
    · have := wc_at ha (j - p) (by omega) (by
        have : j - p = 0 ∨ j - p = 1 ∨ j - p = 2 := by omega
        rcases this with e | e | e <;> rw [e] <;> decide)
      rwa [show p + (j - p) = j by omega] at this
    · refine sc_skip T hT (p + 3) (by omega) (cond_in ha 3 (by omega) (by decide)) l _ (by omega) P ?_
      have e : flushP l (T.extract p (p + 3)) = l := by
        have := at_part ha 0 3 (by omega)
        rw [Nat.add_zero] at this
        rw [this, flushP, toList_eq, if_neg (by decide), if_neg (by decide), if_neg (by decide), if_pos (by decide)]
      rw [e]
      exact h3 l P (by omega) g
  par := by
    rintro p q ls ha hb ⟨h1, h2, h3⟩
    have hz := hb.1
    refine ⟨by omega, by omega, fun l P hl g => ?_⟩
    have hlen := addTs_length ls l
    refine sc_skip T hT p (by omega) (cond_in ha 0 (by omega) (by decide)) l _ (by omega) P ?_
    rw [flushP_nil]
    refine h3 l P (by omega) ?_
    refine sc_skip T hT q (by omega) (cond_in hb 0 (by omega) (by decide)) _ _ (by omega) P ?_
    rw [flushP_nil]
    exact g
  nm := by
    intro p hp hn hc
    have hle := nameLen_le (sf T p)
    rw [sf_size] at hle
    have hs : (T.extract p (p + nameLen (sf T p))).size = nameLen (sf T p) := by simp; omega
    unfold nameB at hn
    simp only [Bool.and_eq_true, decide_eq_true_iff] at hn
    obtain ⟨_, ⟨n1, n2⟩, n3⟩ := hn
    refine ⟨by omega, by simp; omega, fun l P hl g => ?_⟩
    refine sc_run T hT p (p + nameLen (sf T p)) (by omega) (by omega) (fun j j1 j2 => letters T p j j1 j2 hp) l P ?_
    refine sc_end T hT (p + nameLen (sf T p)) (by omega) hc l _ (by omega) P ?_
    rw [wordB_flush (by omega) n3]
    exact g
  at_ := by
    intro p ha hn hc
    have hz := ha.1
    have hle := nameLen_le (sf T (p + 1))
    rw [sf_size] at hle
    refine ⟨by omega, by simp; omega, fun l P hl g => ?_⟩
    refine sc_run T hT p (p + 1 + nameLen (sf T (p + 1))) (by omega) (by omega) (fun j j1 j2 => ?_) l P ?_
    · by_cases e : j = p
      · subst e
        exact wc_at ha 0 (by omega) (by decide)
      · exact letters T (p + 1) j (by omega) j2 hz
    · refine sc_end T hT (p + 1 + nameLen (sf T (p + 1))) (by omega) hc l _ (by omega) P ?_
      rw [ByteArray.extract_eq_extract_append_extract (p + 1) (by omega) (by omega), ha.2, at_flush]
      exact g
  or_ := by
    rintro p q r ls ms ha ⟨h1, h2, h3⟩ ⟨k1, k2, k3⟩
    have hz := ha.1
    have hlen := fun l => addTs_length ls l
    refine ⟨by omega, by rw [List.length_append]; omega, fun l P hl g => ?_⟩
    have hl2 := hlen l
    rw [addTs_append] at g
    refine h3 l P hl ?_
    refine sep_scan T hT q 2 (sepOf true) ha (by decide) (by decide) (fun i i1 i2 => ?_) (fun l => ?_) _ (by omega) P (k3 _ P (by omega) g)
    · have : i = 1 ∨ i = 2 := by omega
      rcases this with rfl | rfl <;> decide
    · rw [flushP, toList_eq, if_neg (by decide), if_neg (by decide), if_pos (by decide)]
  and_ := by
    rintro p q r ls ms ha ⟨h1, h2, h3⟩ ⟨k1, k2, k3⟩
    have hz := ha.1
    have hlen := fun l => addTs_length ls l
    refine ⟨by omega, by rw [List.length_append]; omega, fun l P hl g => ?_⟩
    have hl2 := hlen l
    rw [addTs_append] at g
    refine h3 l P hl ?_
    refine sep_scan T hT q 3 (sepOf false) ha (by decide) (by decide) (fun i i1 i2 => ?_) (fun l => ?_) _ (by omega) P (k3 _ P (by omega) g)
    · have : i = 1 ∨ i = 2 ∨ i = 3 := by omega
      rcases this with rfl | rfl | rfl <;> decide
    · rw [flushP, toList_eq, if_neg (by decide), if_pos (by decide)]
/-- The words of a text: both sides tell the same. -/
theorem atoms_both (T : ByteArray) : ∃ L : List ByteArray, L.length ≤ 60 ∧ EvP (fun k => impl_AtomsOf.f k T) (· = L) ∧ EvP (fun k => spec_AtomsOf.f k T) (· = L) := by
  by_cases h : T.size ≤ 60
  · obtain ⟨ls, ok, h1, h2, h3⟩ := read_both T (Sc T) h (scOk T h)
    cases ok with
    | false =>
      refine ⟨[], by simp, ?_, ?_⟩
      · unfold impl_AtomsOf.f
        refine EvP.bind h1 ?_
        rintro _ rfl
        exact EvP.neg (by simp) (EvP.now rfl)
      · unfold spec_AtomsOf.f
        refine EvP.bind (f := fun k t => if t = true then (spec_atoms.f k T).bind fun t210 => (some t210) else some ([] : List ByteArray)) h2 ?_
        rintro _ rfl
        exact EvP.neg (by simp) (EvP.now rfl)
    | true =>
      obtain ⟨s1, s2, s3⟩ := h3 rfl
      have hlen := addTs_length ls []
      rw [List.length_nil] at hlen
      refine ⟨addTs [] ls, by omega, ?_, ?_⟩
      · unfold impl_AtomsOf.f
        refine EvP.bind h1 ?_
        rintro _ rfl
        exact EvP.pos rfl (addLeaves_ok ls [] (by simp; omega))
      · have g : EvP (fun k => spec_atoms.f k T) (· = addTs [] ls) := by
          unfold spec_atoms.f
          refine s3 [] _ (by simp; omega) ?_
          refine sc_skip T h T.size (Nat.le_refl _) (fun h => absurd h (Nat.lt_irrefl _)) _ _ (by omega) _ ?_
          rw [flushP_nil]
          refine EvP.succ ?_
          simp only [spec_atoms.l0]
          exact EvP.neg (by omega) (EvP.now rfl)
        unfold spec_AtomsOf.f
        refine EvP.bind (f := fun k t => if t = true then (spec_atoms.f k T).bind fun t210 => (some t210) else some ([] : List ByteArray)) h2 ?_
        rintro _ rfl
        refine EvP.pos rfl (EvP.bind g ?_)
        rintro _ rfl
        exact EvP.now rfl
  · refine ⟨[], by simp, ?_, ?_⟩
    · unfold impl_AtomsOf.f impl_readExpr.f
      refine EvP.bind (EvP.neg (by omega) (EvP.now (P := (· = ([(⟨#[]⟩ : ByteArray)], false))) rfl)) ?_
      rintro _ rfl
      exact EvP.neg (by simp) (EvP.now rfl)
    · unfold spec_AtomsOf.f spec_validExpr.f spec_evaluate.f
      refine EvP.bind (EvP.neg (by omega) (EvP.now (P := (· = false)) rfl)) ?_
      rintro _ rfl
      exact EvP.neg (by simp) (EvP.now rfl)
theorem laws_eqStringS.ok (l : List ByteArray) (hl : (l.length : Int) ≤ 9223372036854775807) : EvP (fun k => laws_eqStringS.f k l l) (· = true) := by
  unfold laws_eqStringS.f
  refine EvP.pos rfl ?_
  refine EvP.range (L := fun k (_ : Unit) i => laws_eqStringS.l0 k l l i) (xs := l) (Inv := fun _ _ => True) ?_ ?_ () trivial
  · rintro pre x rest s hx _ ih
    have hlt := len_at hx
    simp only [laws_eqStringS.l0, wrap_at hx hl]
    exact EvP.pos hlt (EvP.pos (nat_nonneg _) (EvP.pos hlt (EvP.pos trivial (ih () trivial))))
  · rintro s _
    simp only [laws_eqStringS.l0]
    exact EvP.neg (by omega) (EvP.now rfl)
/-! #### marks -/
theorem strOf_one (n : Int) : (strOfNums [n]).size = 1 := rfl
theorem laws_markText.all (n : Int) (h0 : 0 ≤ n) (h1 : n ≤ 9223372036854775807) : EvP (fun k => laws_markText.f k n) (fun _ => True) := by
  unfold laws_markText.f
  refine EvP.ite (fun _ => EvP.now trivial) (fun hn => ?_)
  have loop : ∀ (d : Nat) (x : Int) (s : ByteArray), x.toNat < d → 0 ≤ x → x ≤ 9223372036854775807 → (s.size : Int) + x ≤ 9223372036854775807 + 0 ∨ s.size ≤ 20 ∧ x < 10 ^ (20 - s.size) → s.size ≤ 20 ∧ x < 10 ^ (20 - s.size) →
      EvP (fun k => laws_markText.l0 k x s) (fun _ => True) := by
    intro d
    induction d with
    | zero => intro x s a0; omega
    | succ d ih =>
      intro x s a0 a1 a2 _ a3
      refine EvP.succ ?_
      simp only [laws_markText.l0]
      refine EvP.ite (fun hx => ?_) (fun hx => EvP.pos (by omega) (EvP.now trivial))
      have hd : s.size ≠ 20 := by
        intro e
        rw [e] at a3
        simp at a3
        omega
      refine EvP.bind (P := fun y => (strOfNums y).size = 1) (EvP.now (strOf_one _)) ?_
      intro y hy
      refine EvP.pos (by omega) ?_
      have e1 : Int.tdiv x 10 = x / 10 := Int.tdiv_eq_ediv_of_nonneg a1
      rw [e1, wrap_id (by omega) (by omega)]
      have e2 : (strOfNums y ++ s).size = s.size + 1 := by rw [ByteArray.size_append, hy]; omega
      have e3 : x / 10 < 10 ^ (20 - (strOfNums y ++ s).size) := by
        rw [e2]
        have : (10 : Int) ^ (20 - s.size) = 10 ^ (20 - (s.size + 1)) * 10 := by
          rw [← Int.pow_succ]
          congr 1
          omega
        have h3 := a3.2
        rw [this] at h3
        omega
      exact ih _ _ (by omega) (by omega) (by omega) (.inr ⟨by omega, e3⟩) ⟨by omega, e3⟩
  refine loop (n.toNat + 1) n _ (by omega) (by omega) h1 (.inr ⟨by decide, ?_⟩) ⟨by decide, ?_⟩
  · have : (10 : Int) ^ (20 - (⟨#[]⟩ : ByteArray).size) = 100000000000000000000 := by decide
    omega
  · have : (10 : Int) ^ (20 - (⟨#[]⟩ : ByteArray).size) = 100000000000000000000 := by decide
    omega
noncomputable def mkT (n : Int) : ByteArray := endOf ByteArray.empty (fun k => laws_markText.f k n)
theorem laws_markText.ok (n : Int) (h0 : 0 ≤ n) (h1 : n ≤ 9223372036854775807) : EvP (fun k => laws_markText.f k n) (· = mkT n) := (laws_markText.all n h0 h1).ended _
noncomputable def marks (n : Int) (m : Nat) : List ByteArray := (List.range m).map fun (i : Nat) => mkT (n + (i : Int))
theorem marks_len (n : Int) (m : Nat) : (marks n m).length = m := by simp [marks]
theorem marks_snoc (n : Int) (m : Nat) : marks n (m + 1) = marks n m ++ [mkT (n + m)] := by simp [marks, List.range_succ]
theorem laws_markStringS.ok (l : List ByteArray) (n : Int) (h0 : 0 ≤ n) (h1 : n + l.length ≤ 1000000000) : EvP (fun k => laws_markStringS.f k l n) (fun r => r.1 = n + l.length ∧ r.2 = marks n l.length) := by
  unfold laws_markStringS.f
  refine EvP.upto (L := fun k (s : List ByteArray × Int) i => laws_markStringS.l0 k s.1 s.2 i) (n := l.length) (Inv := fun i s => s.1.length = l.length ∧ s.1.take i = marks n i ∧ s.2 = n + i) ?_ ?_ (l, n) ⟨rfl, by simp [marks], by simp⟩
  · rintro i ⟨s, m⟩ hi ⟨a0, a1, a2⟩ ih
    simp only at a0 a1 a2
    subst a2
    simp only [laws_markStringS.l0]
    refine EvP.pos (by omega) ?_
    refine EvP.bind (laws_markText.ok _ (by omega) (by omega)) ?_
    rintro _ rfl
    refine EvP.pos (by omega) ?_
    rw [wrap_id (x := n + (i : Int) + 1) (by omega) (by omega), wrap_id (x := (i : Int) + 1) (by omega) (by omega), Int.toNat_natCast]
    refine ih (s.set i (mkT (n + i)), n + (i : Int) + 1) ⟨by simpa using a0, ?_, by simp only; omega⟩
    rw [take_set _ _ _ (by omega), a1, marks_snoc]
  · rintro ⟨s, m⟩ ⟨a0, a1, a2⟩
    simp only at a0 a1 a2
    simp only [laws_markStringS.l0]
    refine EvP.neg (by omega) (EvP.now ⟨a2, ?_⟩)
    simp only
    rw [← a1, List.take_of_length_le (by omega)]
theorem laws_heldStringS.ok (m : Nat) (n : Int) (h0 : 0 ≤ n) (h1 : n + m ≤ 1000000000) : EvP (fun k => laws_heldStringS.f k (marks n m) n) (· = n + m) := by
  unfold laws_heldStringS.f
  have hm := marks_len n m
  refine EvP.upto (L := fun k s i => laws_heldStringS.l0 k (marks n m) s i) (n := m) (Inv := fun i s => s = n + i) ?_ ?_ n (by simp)
  · rintro i s hi rfl ih
    simp only [laws_heldStringS.l0]
    have hr : rdOf ByteArray.empty (marks n m) (i : Int) = mkT (n + i) := by
      unfold rdOf marks
      rw [Int.toNat_natCast, List.getD_eq_getElem?_getD, List.getElem?_map, List.getElem?_range hi]
      rfl
    refine EvP.pos (by omega) (EvP.pos (by omega) ?_)
    refine EvP.bind (laws_markText.ok _ (by omega) (by omega)) ?_
    rintro _ rfl
    rw [hr, wrap_id (x := n + (i : Int) + 1) (by omega) (by omega), wrap_id (x := (i : Int) + 1) (by omega) (by omega)]
    exact EvP.pos rfl (ih _ (by omega))
  · rintro s rfl
    simp only [laws_heldStringS.l0]
    exact EvP.neg (by omega) (EvP.now rfl)
theorem main (a0 : ByteArray) (h0 : a0.size ≤ 140737488351232) : ∃ k, laws_FnExactAtomsOf.f k a0 = some true := by
  refine EvP.rounds ?_
  unfold laws_FnExactAtomsOf.f
  refine EvP.ite (fun _ => EvP.now rfl) (fun h => ?_)
  obtain ⟨L, hL, hI, hS⟩ := atoms_both a0
  refine EvP.bind hS ?_
  rintro _ rfl
  refine EvP.bind hI ?_
  rintro _ rfl
  refine EvP.bind (laws_eqStringS.ok _ (by omega)) ?_
  rintro _ rfl
  refine EvP.pos rfl ?_
  refine EvP.bind (laws_markStringS.ok _ 1 (by omega) (by omega)) ?_
  rintro ⟨m, s⟩ ⟨e1, e2⟩
  simp only at e1 e2
  subst e1 e2
  refine EvP.bind (laws_heldStringS.ok _ 1 (by omega) (by omega)) ?_
  rintro _ rfl
  refine EvP.neg (by omega) (EvP.pos rfl ?_)
  refine EvP.bind hI ?_
  rintro _ rfl
  refine EvP.bind (laws_eqStringS.ok _ (by omega)) ?_
  rintro _ rfl
  refine EvP.pos rfl ?_
  refine EvP.bind (laws_heldStringS.ok _ 1 (by omega) (by omega)) ?_
  rintro _ rfl
  exact EvP.neg (by omega) (EvP.pos rfl (EvP.now rfl))
end QFnExactAtomsOf
end Go.Proofs.Ytgmmeijanhfigaa.Pure

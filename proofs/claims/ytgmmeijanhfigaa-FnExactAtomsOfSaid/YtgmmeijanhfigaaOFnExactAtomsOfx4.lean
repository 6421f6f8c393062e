-- Written by a program of this session (the kit's printing program with additions of this session's own); Lean checks it.
import Derived.Test.YtgmmeijanhfigaaOFnExactAtomsOfx0
import Derived.Test.YtgmmeijanhfigaaOFnExactAtomsOfx3
namespace Go.Proofs.Ytgmmeijanhfigaa.OFnExactAtomsOf
open Go.RowKit Go.Proofs.YtgmmeijanhfigaaW.PrintWords Go.Proofs.YtgmmeijanhfigaaW.PrintLast Go.Proofs.YtgmmeijanhfigaaW.PrintMore
attribute [local go_sem] max2_int min2_int max_two min_two max_three min_three max_four min_four   -- for this text's walks alone
set_option linter.unusedVariables false
set_option linter.unusedSimpArgs false

/-! ### impl_readExpr: function 23 -/
/-- What lies in the blocks of S is as it was. -/
def Mid (S : Nat → Prop) (W W' : World) : Prop := ∀ g, S g → g < W'.heap.size ∧ W'.heap[g]? = W.heap[g]?
theorem Mid.refl {S : Nat → Prop} {W : World} (h : ∀ g, S g → g < W.heap.size) : Mid S W W := fun g hg => ⟨h g hg, rfl⟩
theorem Mid.alloc {S : Nat → Prop} {W W' : World} (h : Mid S W W') (o : Obj) : Mid S W (W'.alloc o) :=
  fun g hg => ⟨by have := (h g hg).1; simp; omega, (Below.heap_alloc W' o g (h g hg).1).trans (h g hg).2⟩
theorem Mid.set {S : Nat → Prop} {W W' : World} (h : Mid S W W') {p : Addr} (hp : ¬ S p.block) (u : Value) : Mid S W (W'.setCell p u) :=
  fun g hg => ⟨by have := (h g hg).1; simpa using this, (Below.heap_setCell W' p u g (fun e => hp (e ▸ hg))).trans (h g hg).2⟩
theorem Mid.drewN {S : Nat → Prop} {W W' : World} (h : Mid S W W') (n : Nat) : Mid S W (W'.drewN n) := h
theorem Mid.below {S : Nat → Prop} {b : Nat} {W W' W2 : World} (h : Mid S W W') (hb : Below b W' W2) (hh : ∀ g, S g → g < b) : Mid S W W2 :=
  fun g hg => ⟨Nat.lt_of_lt_of_le (h g hg).1 hb.size, (hb.block g (hh g hg)).trans (h g hg).2⟩
/-- An expression's value, and the words at its tree's leaves, in order; the tree lies in blocks of S. -/
inductive Leaves (W : World) (S : Nat → Prop) : Value → List ByteArray → Prop
  | leaf (u : ByteArray) : Leaves W S (.agg #[.string u, .slice none 0 0]) [u]
  | one (u x : ByteArray) (s : Value) (g : Nat) (l : List ByteArray) (h1 : S g) (hg : W.heap[g]? = some (.cells #[.string x, s] 32 (0, 0))) (h : Leaves W S (.agg #[.string x, s]) l) : Leaves W S (.agg #[.string u, .slice (some ⟨g, 0, none⟩) 1 1]) l
  | two (u x y : ByteArray) (s t : Value) (g : Nat) (l m : List ByteArray) (h1 : S g) (hg : W.heap[g]? = some (.cells #[.string x, s, .string y, t] 32 (0, 0))) (h : Leaves W S (.agg #[.string x, s]) l) (k : Leaves W S (.agg #[.string y, t]) m) : Leaves W S (.agg #[.string u, .slice (some ⟨g, 0, none⟩) 2 2]) (l ++ m)
theorem Leaves.mid {S S' : Nat → Prop} {W W' : World} {v : Value} {l : List ByteArray} (h : Leaves W S v l) (hm : Mid S W W') (hs : ∀ g, S g → S' g) : Leaves W' S' v l := by
  induction h with
  | leaf u => exact .leaf u
  | one u x s g l a hg h ih => exact .one u x s g l (hs g a) ((hm g a).2.trans hg) ih
  | two u x y s t g l m a hg h k ih ik => exact .two u x y s t g l m (hs g a) ((hm g a).2.trans hg) ih ik
theorem Leaves.form {S : Nat → Prop} {W : World} {v : Value} {l : List ByteArray} (h : Leaves W S v l) : ∃ u A n c, v = .agg #[.string u, .slice A n c] := by
  cases h with
  | leaf u => exact ⟨_, _, _, _, rfl⟩
  | one u => exact ⟨_, _, _, _, rfl⟩
  | two u => exact ⟨_, _, _, _, rfl⟩
/-- The blocks from a on, below b. -/
def From (a b : Nat) (g : Nat) : Prop := a ≤ g ∧ g < b
theorem From.lt {a b g : Nat} (h : From a b g) : g < b := h.2
theorem From.no {a b g : Nat} (h : g < a) : ¬ From a b g := fun k => by have := k.1; omega
theorem From.up {a b a' b' : Nat} (h1 : a' ≤ a) (h2 : b ≤ b') : ∀ g, From a b g → From a' b' g := fun g h => ⟨Nat.le_trans h1 h.1, Nat.lt_of_lt_of_le h.2 h2⟩
def letter (b : UInt8) : Bool := decide (97 ≤ b.toNat) && decide (b.toNat ≤ 122)
/-- How many letters stand at the begin. -/
def nameLen (s : ByteArray) : Nat := (s.data.toList.takeWhile letter).length
def impl_takeFactor.fin (k : Nat) (s nm : ByteArray) (at_ : Bool) : Option (List ByteArray × ByteArray × Bool) :=
  if (nm.size : Int) ≤ 140737488351232 then ((impl_nameOk.f k (nm.extract 0 (nameLen nm))).bind fun b => if b = true then (if at_ = true then (if 1 + (nm.extract 0 (nameLen nm)).size ≤ 9223372036854775807 then some ([(⟨#[64]⟩ : ByteArray) ++ nm.extract 0 (nameLen nm)], nm.extract (nameLen nm) nm.size, true) else none) else some ([nm.extract 0 (nameLen nm)], nm.extract (nameLen nm) nm.size, true)) else some ([(⟨#[]⟩ : ByteArray)], s, false)) else none
def wordOf (o : Bool) : ByteArray := if o = true then ⟨#[111, 114]⟩ else ⟨#[97, 110, 100]⟩
def sepOf (o : Bool) : ByteArray := if o = true then ⟨#[32, 111, 114, 32]⟩ else ⟨#[32, 97, 110, 100, 32]⟩
mutual
def impl_takeFactor.f : Nat → ByteArray → Option (List ByteArray × ByteArray × Bool)
  | 0, _ => none
  | k + 1, s => (strings_CutPrefix.f s (⟨#[110, 111, 116, 32]⟩ : ByteArray)).bind fun c => if c.2 = true then impl_takeFactor.f k c.1 else ((strings_CutPrefix.f s (⟨#[40]⟩ : ByteArray)).bind fun c => if c.2 = true then ((impl_takeRow.f k c.1 true).bind fun r => (strings_CutPrefix.f r.2.1 (⟨#[41]⟩ : ByteArray)).bind fun d => some (r.1, d.1, r.2.2 && d.2)) else ((strings_CutPrefix.f s (⟨#[64]⟩ : ByteArray)).bind fun c => impl_takeFactor.fin k s c.1 c.2))
def impl_takeRow.l0 : Nat → Bool → List ByteArray → ByteArray → Bool → Option (List ByteArray × ByteArray × Bool)
  | 0, _, _, _, _ => none
  | k + 1, o, ls, rest, ok => if ok = true then ((strings_CutPrefix.f rest (sepOf o)).bind fun c => if c.2 = true then ((if o = true then impl_takeRow.f k c.1 false else impl_takeFactor.f k c.1).bind fun r => impl_takeRow.l0 k o (ls ++ r.1) r.2.1 r.2.2) else some (ls, rest, true)) else some (ls, rest, false)
def impl_takeRow.f : Nat → ByteArray → Bool → Option (List ByteArray × ByteArray × Bool)
  | 0, _, _ => none
  | k + 1, s, o => (if o = true then impl_takeRow.f k s false else impl_takeFactor.f k s).bind fun r => impl_takeRow.l0 k o r.1 r.2.1 r.2.2
end
theorem impl_takeFactor.fin_mono (k : Nat) (s nm : ByteArray) (a : Bool) : LeO (impl_takeFactor.fin k s nm a) (impl_takeFactor.fin (k + 1) s nm a) := by
  unfold impl_takeFactor.fin
  exact LeO.ite (LeO.bind (impl_nameOk.mono _ _) (fun _ => LeO.refl _)) (LeO.refl _)
theorem impl_take.mono : ∀ k, (∀ s, LeO (impl_takeFactor.f k s) (impl_takeFactor.f (k + 1) s)) ∧ (∀ o ls r ok, LeO (impl_takeRow.l0 k o ls r ok) (impl_takeRow.l0 (k + 1) o ls r ok)) ∧ (∀ s o, LeO (impl_takeRow.f k s o) (impl_takeRow.f (k + 1) s o))
  | 0 => ⟨fun _ r h => by simp [impl_takeFactor.f] at h, fun _ _ _ _ r h => by simp [impl_takeRow.l0] at h, fun _ _ r h => by simp [impl_takeRow.f] at h⟩
  | k + 1 => by
    obtain ⟨i1, i2, i3⟩ := impl_take.mono k
    refine ⟨fun s => ?_, fun o ls r ok => ?_, fun s o => ?_⟩
    · rw [impl_takeFactor.f, impl_takeFactor.f]
      exact LeO.bind (LeO.refl _) (fun _ => LeO.ite (i1 _) (LeO.bind (LeO.refl _) (fun _ => LeO.ite (LeO.bind (i3 _ _) (fun _ => LeO.refl _)) (LeO.bind (LeO.refl _) (fun _ => impl_takeFactor.fin_mono _ _ _ _)))))
    · rw [impl_takeRow.l0, impl_takeRow.l0]
      exact LeO.ite (LeO.bind (LeO.refl _) (fun _ => LeO.ite (LeO.bind (LeO.ite (i3 _ _) (i1 _)) (fun _ => i2 _ _ _ _)) (LeO.refl _))) (LeO.refl _)
    · rw [impl_takeRow.f, impl_takeRow.f]
      exact LeO.bind (LeO.ite (i3 _ _) (i1 _)) (fun _ => i2 _ _ _ _)
theorem new_at {W : World} {o : Obj} {g : Nat} (h : W.heap.size = g) : (W.alloc o).heap[g]? = some o := h ▸ heap_alloc_new W o
theorem nameLen_le (s : ByteArray) : nameLen s ≤ s.size := by
  unfold nameLen
  have h := (List.takeWhile_prefix (p := letter) (l := s.data.toList)).length_le
  rw [Array.length_toList] at h
  exact h
theorem letter_iff (b : UInt8) : letter b = true ↔ 97 ≤ (b.toNat : Int) ∧ (b.toNat : Int) ≤ 122 := by
  unfold letter
  rw [Bool.and_eq_true, decide_eq_true_iff, decide_eq_true_iff]
  omega
theorem bt_eq (s : ByteArray) (j : Nat) (h : j < s.size) : bt s (j : Int) = ((s.data.toList[j]'(by rw [Array.length_toList]; exact h)).toNat : Int) := by
  rw [← bt_at s (j : Int) (by simpa using h)]
  rfl
theorem nameLen_in (s : ByteArray) (j : Nat) (h : j < nameLen s) : 97 ≤ bt s (j : Int) ∧ bt s (j : Int) ≤ 122 := by
  have hs : j < s.size := Nat.lt_of_lt_of_le h (nameLen_le s)
  rw [bt_eq s j hs, ← letter_iff]
  have h1 : (s.data.toList.takeWhile letter)[j]'h = s.data.toList[j]'(by rw [Array.length_toList]; exact hs) := (List.takeWhile_prefix letter).getElem h
  rw [← h1]
  exact List.all_eq_true.1 (List.all_takeWhile) _ (List.getElem_mem _)
theorem takeWhile_stop {α : Type} (p : α → Bool) : ∀ (l : List α) (x : α), l[(l.takeWhile p).length]? = some x → p x = false
  | [], x, h => by simp at h
  | a :: l, x, h => by
    rw [List.takeWhile_cons] at h
    by_cases e : p a = true
    · rw [if_pos e] at h
      exact takeWhile_stop p l x (by simpa using h)
    · rw [if_neg e] at h
      have : a = x := by simpa using h
      rw [← this]
      simpa using e
theorem nameLen_stop (s : ByteArray) (h : nameLen s < s.size) : ¬ (97 ≤ bt s (nameLen s : Int) ∧ bt s (nameLen s : Int) ≤ 122) := by
  rw [bt_eq s _ h, ← letter_iff]
  have hl : nameLen s < s.data.toList.length := by rw [Array.length_toList]; exact h
  have := takeWhile_stop letter s.data.toList _ (List.getElem?_eq_getElem hl)
  rw [this]
  simp
/-- What is taken: an expression with these leaves, the rest, and whether it is one. -/
def TPost (w : World) (ls : List ByteArray) (rest : ByteArray) (ok : Bool) (e : Ending) (w' : World) : Prop :=
  ∃ v, e = .returned (.tuple #[v, .string rest, .bool ok]) ∧ Leaves w' (From w.heap.size w'.heap.size) v ls ∧ Below w.heap.size w w'
set_option maxHeartbeats 8000000 in
set_option maxRecDepth 100000 in
theorem impl_takeFactor.step (k : Nat)
    (ihF : ∀ s ls rest ok w, impl_takeFactor.f k s = some (ls, rest, ok) → Calls Try.prog 34 #[.string s] w (TPost w ls rest ok))
    (ihR : ∀ s o ls rest ok w, impl_takeRow.f k s o = some (ls, rest, ok) → Calls Try.prog 30 #[.string s, .string (wordOf o)] w (TPost w ls rest ok))
    (s : ByteArray) (ls : List ByteArray) (rest : ByteArray) (ok : Bool) (w : World) (h : impl_takeFactor.f (k + 1) s = some (ls, rest, ok)) : Calls Try.prog 34 #[.string s] w (TPost w ls rest ok) := by
  have hu32 := Try.underlying32
  rw [impl_takeFactor.f] at h
  obtain ⟨⟨c1, b1⟩, h1, h⟩ := Option.bind_eq_some_iff.mp h
  have H1 := Aside0.mk h1
  clear h1
  simp only at h
  cases b1 with
  | true =>
    rw [if_pos rfl] at h
    have HF := Aside0.mk (fun w => ihF c1 ls rest ok w h)
    clear ihF ihR h
    go_enter Try.func34, Try.ntmps34
    go_wp2_with (first | (go_at_call 36; (with_reducible refine (strings_CutPrefix.calls s (⟨#[110, 111, 116, 32]⟩ : ByteArray) c1 true _ H1.out).mono ?_); rintro e w' ⟨rfl, ⟨nd, rfl⟩⟩) | (go_at_call 34; refine (HF.out _).mono ?_; rintro e w3 ⟨v, rfl, hL, hb⟩; obtain ⟨u, A, n, c, rfl⟩ := hL.form; have HL := Aside0.mk hL; have B3 := Aside0.mk hb; have hc0 : w3.cell? ⟨w.heap.size, 0, none⟩ = some (.string (⟨#[]⟩ : ByteArray)) := (hb.cell (p := ⟨w.heap.size, 0, none⟩) (by simp)).trans (by simp); have hc1 : w3.cell? ⟨w.heap.size, 1, none⟩ = some (.slice none 0 0) := (hb.cell (p := ⟨w.heap.size, 1, none⟩) (by simp)).trans (by simp); have hf0 : w3.frozen? ⟨w.heap.size, 0, none⟩ = false := (hb.frozen (p := ⟨w.heap.size, 0, none⟩) (by simp)).trans (by simp); have hf1 : w3.frozen? ⟨w.heap.size, 1, none⟩ = false := (hb.frozen (p := ⟨w.heap.size, 1, none⟩) (by simp)).trans (by simp); have hz : w.heap.size < w3.heap.size := Nat.lt_of_lt_of_le (by simp) hb.size; clear hL hb))
    refine bodyPost_ret (v := .tuple #[.agg #[.string (⟨#[110, 111, 116]⟩ : ByteArray), .slice (some ⟨w3.heap.size + 1, 0, none⟩) 1 1], .string rest, .bool ok]) (by simp [results, Try.results34, go_sem, hc0, hc1, hf0, hf1, hz]) rfl ⟨_, rfl, ?_, ?_⟩
    · refine Leaves.one _ u (.slice A n c) (w3.heap.size + 1) ls ⟨by omega, by simp⟩ (new_at (by simp)) (HL.out.mid ((((Mid.refl (fun _ h_ => h_.lt)).set (From.no (by simp)) _).set (From.no (by simp)) _).alloc _ |>.alloc _) (From.up (by simp) (by simp; omega)))
    · exact (((((pw_below_drewN (below_alloc (Below.refl _ w) _) _).trans (B3.out.mono (by simp))).setCell (by simp) _).setCell (by simp) _).alloc (by simp; omega) _).alloc (by simp; omega) _
  | false =>
    rw [if_neg (by simp)] at h
    obtain ⟨⟨c2, b2⟩, h2, h⟩ := Option.bind_eq_some_iff.mp h
    have H2 := Aside0.mk h2
    clear h2
    simp only at h
    cases b2 with
    | true =>
      rw [if_pos rfl] at h
      obtain ⟨⟨l1, r1, k1⟩, h3, h⟩ := Option.bind_eq_some_iff.mp h
      obtain ⟨⟨d1, d2⟩, h4, h⟩ := Option.bind_eq_some_iff.mp h
      simp only at h4 h
      have HR := Aside0.mk (fun w => (show Calls Try.prog 30 #[.string c2, .string (⟨#[111, 114]⟩ : ByteArray)] w (TPost w l1 r1 k1) from ihR c2 true l1 r1 k1 w h3))
      have H4 := Aside0.mk h4
      obtain ⟨rfl, rfl, hk⟩ : l1 = ls ∧ d1 = rest ∧ (k1 && d2) = ok := by simpa using Option.some.inj h
      have HK := Aside0.mk hk
      clear ihF ihR h h3 h4 hk
      cases k1 with
      | true =>
        go_enter Try.func34, Try.ntmps34
        go_wp2_with (first | (go_at_call 36; (with_reducible refine (strings_CutPrefix.calls s (⟨#[110, 111, 116, 32]⟩ : ByteArray) c1 false _ H1.out).mono ?_); rintro e w' ⟨rfl, ⟨nd, rfl⟩⟩) | (go_at_call 36; (with_reducible refine (strings_CutPrefix.calls s (⟨#[40]⟩ : ByteArray) c2 true _ H2.out).mono ?_); rintro e w' ⟨rfl, ⟨nd, rfl⟩⟩) | (go_at_call 36; (with_reducible refine (strings_CutPrefix.calls r1 (⟨#[41]⟩ : ByteArray) d1 d2 _ H4.out).mono ?_); rintro e w' ⟨rfl, ⟨nd, rfl⟩⟩) | (go_at_call 30; (with_reducible refine (HR.out _).mono ?_); rintro e w3 ⟨v, rfl, hL, hb⟩; obtain ⟨u, A, n, c, rfl⟩ := hL.form; have HL := Aside0.mk hL; have B3 := Aside0.mk hb; have hc0 : w3.cell? ⟨w.heap.size, 0, none⟩ = some (.string (⟨#[]⟩ : ByteArray)) := (hb.cell (p := ⟨w.heap.size, 0, none⟩) (by simp)).trans (by simp); have hc1 : w3.cell? ⟨w.heap.size, 1, none⟩ = some (.slice none 0 0) := (hb.cell (p := ⟨w.heap.size, 1, none⟩) (by simp)).trans (by simp); have hf0 : w3.frozen? ⟨w.heap.size, 0, none⟩ = false := (hb.frozen (p := ⟨w.heap.size, 0, none⟩) (by simp)).trans (by simp); have hf1 : w3.frozen? ⟨w.heap.size, 1, none⟩ = false := (hb.frozen (p := ⟨w.heap.size, 1, none⟩) (by simp)).trans (by simp); have hz : w.heap.size < w3.heap.size := Nat.lt_of_lt_of_le (by simp) hb.size; clear hL hb))
        refine bodyPost_ret (v := .tuple #[.agg #[.string u, .slice A n c], .string d1, .bool d2]) (by simp [results, Try.results34, go_sem, hc0, hc1, hf0, hf1, hz]) rfl ⟨_, by rw [← HK.out]; rfl, ?_, ?_⟩
        · exact HL.out.mid (((((Mid.refl (fun _ h_ => h_.lt)).alloc _).drewN _).set (From.no (by simp)) _).set (From.no (by simp)) _) (From.up (by simp) (by simp))
        · exact ((pw_below_drewN (((pw_below_drewN (below_alloc (Below.refl _ w) _) _).trans (B3.out.mono (by simp))).alloc (by omega) _) _).setCell (by simp) _).setCell (by simp) _
      | false =>
        go_enter Try.func34, Try.ntmps34
        go_wp2_with (first | (go_at_call 36; (with_reducible refine (strings_CutPrefix.calls s (⟨#[110, 111, 116, 32]⟩ : ByteArray) c1 false _ H1.out).mono ?_); rintro e w' ⟨rfl, ⟨nd, rfl⟩⟩) | (go_at_call 36; (with_reducible refine (strings_CutPrefix.calls s (⟨#[40]⟩ : ByteArray) c2 true _ H2.out).mono ?_); rintro e w' ⟨rfl, ⟨nd, rfl⟩⟩) | (go_at_call 36; (with_reducible refine (strings_CutPrefix.calls r1 (⟨#[41]⟩ : ByteArray) d1 d2 _ H4.out).mono ?_); rintro e w' ⟨rfl, ⟨nd, rfl⟩⟩) | (go_at_call 30; (with_reducible refine (HR.out _).mono ?_); rintro e w3 ⟨v, rfl, hL, hb⟩; obtain ⟨u, A, n, c, rfl⟩ := hL.form; have HL := Aside0.mk hL; have B3 := Aside0.mk hb; have hc0 : w3.cell? ⟨w.heap.size, 0, none⟩ = some (.string (⟨#[]⟩ : ByteArray)) := (hb.cell (p := ⟨w.heap.size, 0, none⟩) (by simp)).trans (by simp); have hc1 : w3.cell? ⟨w.heap.size, 1, none⟩ = some (.slice none 0 0) := (hb.cell (p := ⟨w.heap.size, 1, none⟩) (by simp)).trans (by simp); have hf0 : w3.frozen? ⟨w.heap.size, 0, none⟩ = false := (hb.frozen (p := ⟨w.heap.size, 0, none⟩) (by simp)).trans (by simp); have hf1 : w3.frozen? ⟨w.heap.size, 1, none⟩ = false := (hb.frozen (p := ⟨w.heap.size, 1, none⟩) (by simp)).trans (by simp); have hz : w.heap.size < w3.heap.size := Nat.lt_of_lt_of_le (by simp) hb.size; clear hL hb))
        refine bodyPost_ret (v := .tuple #[.agg #[.string u, .slice A n c], .string d1, .bool false]) (by simp [results, Try.results34, go_sem, hc0, hc1, hf0, hf1, hz]) rfl ⟨_, by rw [← HK.out]; rfl, ?_, ?_⟩
        · exact HL.out.mid (((((Mid.refl (fun _ h_ => h_.lt)).alloc _).drewN _).set (From.no (by simp)) _).set (From.no (by simp)) _) (From.up (by simp) (by simp))
        · exact ((pw_below_drewN (((pw_below_drewN (below_alloc (Below.refl _ w) _) _).trans (B3.out.mono (by simp))).alloc (by omega) _) _).setCell (by simp) _).setCell (by simp) _
    | false =>
      simp only [Bool.false_eq_true, if_false] at h
      obtain ⟨⟨nm, b3⟩, h3, h⟩ := Option.bind_eq_some_iff.mp h
      have H3 := Aside0.mk h3
      clear h3 ihF ihR
      simp only [impl_takeFactor.fin] at h
      by_cases hsz : (nm.size : Int) ≤ 140737488351232
      case neg => rw [if_neg hsz] at h; cases h
      rw [if_pos hsz] at h
      obtain ⟨b4, h4, h⟩ := Option.bind_eq_some_iff.mp h
      have H4 := Aside0.mk h4
      have HX := Aside0.mk h
      clear h h4
      generalize hE : nameLen nm = E at H4 HX
      have HE := Aside0.mk hE
      have hEl : E ≤ nm.size := by rw [← hE]; exact nameLen_le nm
      clear hE
      go_enter Try.func34, Try.ntmps34
      go_wp2_with (first | (go_at_call 36; (with_reducible refine (strings_CutPrefix.calls s (⟨#[110, 111, 116, 32]⟩ : ByteArray) c1 false _ H1.out).mono ?_); rintro e w' ⟨rfl, ⟨nd, rfl⟩⟩) | (go_at_call 36; (with_reducible refine (strings_CutPrefix.calls s (⟨#[40]⟩ : ByteArray) c2 false _ H2.out).mono ?_); rintro e w' ⟨rfl, ⟨nd, rfl⟩⟩) | (go_at_call 36; (with_reducible refine (strings_CutPrefix.calls s (⟨#[64]⟩ : ByteArray) nm b3 _ H3.out).mono ?_); rintro e w' ⟨rfl, ⟨nd, rfl⟩⟩))
      go_loop [18] (fun v => ∃ n : Nat, n ≤ E ∧ v = .int .i64 n) (fun v => E - (intOf v).toNat)
      case atStart => exact ⟨0, Nat.zero_le _, rfl⟩
      case round =>
        obtain ⟨n, hn, rfl⟩ := hrel
        by_cases hlt : n < E
        · have hs : n < nm.size := Nat.lt_of_lt_of_le hlt hEl
          have hi := nameLen_in nm n (by rw [HE.out]; exact hlt)
          have hb := bt_at nm (n : Int) (by simpa using hs)
          simp only [Int.toNat_natCast] at hb
          rw [← hb] at hi
          have hi1 := hi.1
          have hi2 := hi.2
          clear hi hb
          go_wp2
          go_round
          case rel => exact ⟨n + 1, by omega, by go_num⟩
          case measure => simp [intOf]; omega
        · obtain rfl : n = E := by omega
          have hstop : (nm.size ≤ n) ∨ (∃ h : n < nm.size, (nm[n].toNat : Int) < 97) ∨ (∃ h : n < nm.size, 97 ≤ (nm[n].toNat : Int) ∧ 122 < (nm[n].toNat : Int)) := by
            by_cases e : n = nm.size
            · exact .inl (by omega)
            · have hs : n < nm.size := by omega
              have h1 := nameLen_stop nm (by rw [HE.out]; exact hs)
              have hb := bt_at nm (n : Int) (by simpa using hs)
              simp only [Int.toNat_natCast] at hb
              rw [HE.out, ← hb] at h1
              by_cases e2 : (nm[n].toNat : Int) < 97
              · exact .inr (.inl ⟨hs, e2⟩)
              · exact .inr (.inr ⟨hs, by omega, by omega⟩)
          clear hlt hn
          have hn0 : (0 : Int) ≤ (n : Int) := by omega
          have hnl : (n : Int) ≤ (nm.size : Int) := by omega
          cases b4 with
          | true =>
            rw [if_pos rfl] at HX
            cases b3 with
            | true =>
              rw [if_pos rfl] at HX
              by_cases hw : 1 + (nm.extract 0 n).size ≤ 9223372036854775807
              case neg => rw [if_neg hw] at HX; cases HX.out
              rw [if_pos hw] at HX
              obtain ⟨rfl, rfl, rfl⟩ : [(⟨#[64]⟩ : ByteArray) ++ nm.extract 0 n] = ls ∧ nm.extract n nm.size = rest ∧ true = ok := by simpa using Option.some.inj HX.out
              clear HX hw
              rcases hstop with hs | ⟨hs, h1⟩ | ⟨hs, h1, h2⟩
              all_goals
                go_wp2_with (go_at_call 40; (with_reducible refine (impl_nameOk.calls k (nm.extract 0 n) true _ H4.out).mono ?_); rintro e w' ⟨rfl, ⟨nd, rfl⟩⟩)
                go_region
                go_wp2
                refine bodyPost_ret (v := .tuple #[.agg #[.string ((⟨#[64]⟩ : ByteArray) ++ nm.extract 0 n), .slice none 0 0], .string (nm.extract n nm.size), .bool true]) (by simp [results, Try.results34, go_sem]) rfl ⟨_, rfl, .leaf _, ?_⟩
                exact ((pw_below_drewN (below_alloc (Below.refl _ w) _) _).setCell (by simp) _).setCell (by simp) _
            | false =>
              rw [if_neg (by simp)] at HX
              obtain ⟨rfl, rfl, rfl⟩ : [nm.extract 0 n] = ls ∧ nm.extract n nm.size = rest ∧ true = ok := by simpa using Option.some.inj HX.out
              clear HX
              rcases hstop with hs | ⟨hs, h1⟩ | ⟨hs, h1, h2⟩
              all_goals
                go_wp2_with (go_at_call 40; (with_reducible refine (impl_nameOk.calls k (nm.extract 0 n) true _ H4.out).mono ?_); rintro e w' ⟨rfl, ⟨nd, rfl⟩⟩)
                go_region
                go_wp2
                refine bodyPost_ret (v := .tuple #[.agg #[.string (nm.extract 0 n), .slice none 0 0], .string (nm.extract n nm.size), .bool true]) (by simp [results, Try.results34, go_sem]) rfl ⟨_, rfl, .leaf _, ?_⟩
                exact ((pw_below_drewN (below_alloc (Below.refl _ w) _) _).setCell (by simp) _).setCell (by simp) _
          | false =>
            rw [if_neg (by simp)] at HX
            obtain ⟨rfl, rfl, rfl⟩ : [(⟨#[]⟩ : ByteArray)] = ls ∧ s = rest ∧ false = ok := by simpa using Option.some.inj HX.out
            clear HX
            rcases hstop with hs | ⟨hs, h1⟩ | ⟨hs, h1, h2⟩
            all_goals
              go_wp2_with (go_at_call 40; (with_reducible refine (impl_nameOk.calls k (nm.extract 0 n) false _ H4.out).mono ?_); rintro e w' ⟨rfl, ⟨nd, rfl⟩⟩)
              refine bodyPost_ret (v := .tuple #[.agg #[.string (⟨#[]⟩ : ByteArray), .slice none 0 0], .string s, .bool false]) (by simp [results, Try.results34, go_sem]) rfl ⟨_, rfl, .leaf _, ?_⟩
              exact ((pw_below_drewN (below_alloc (Below.refl _ w) _) _).setCell (by simp) _).setCell (by simp) _
set_option maxHeartbeats 8000000 in
set_option maxRecDepth 100000 in
theorem impl_takeRow1.step (s : ByteArray) (ls : List ByteArray) (rest : ByteArray) (ok : Bool) (w : World)
    (ih : ∀ w, Calls Try.prog 30 #[.string s, .string (wordOf false)] w (TPost w ls rest ok)) : Calls Try.prog 35 #[.string s] w (TPost w ls rest ok) := by
  have hu32 := Try.underlying32
  have HR := Aside0.mk (fun w => (show Calls Try.prog 30 #[.string s, .string (⟨#[97, 110, 100]⟩ : ByteArray)] w (TPost w ls rest ok) from ih w))
  clear ih
  go_enter Try.func35, Try.ntmps35
  go_wp2_with (go_at_call 30; (with_reducible refine (HR.out _).mono ?_); rintro e w3 ⟨v, rfl, hL, hb⟩; obtain ⟨u, A, n, c, rfl⟩ := hL.form; have HL := Aside0.mk hL; have B3 := Aside0.mk hb; have hc0 : w3.cell? ⟨w.heap.size, 0, none⟩ = some (.string (⟨#[]⟩ : ByteArray)) := (hb.cell (p := ⟨w.heap.size, 0, none⟩) (by simp)).trans (by simp); have hc1 : w3.cell? ⟨w.heap.size, 1, none⟩ = some (.slice none 0 0) := (hb.cell (p := ⟨w.heap.size, 1, none⟩) (by simp)).trans (by simp); have hf0 : w3.frozen? ⟨w.heap.size, 0, none⟩ = false := (hb.frozen (p := ⟨w.heap.size, 0, none⟩) (by simp)).trans (by simp); have hf1 : w3.frozen? ⟨w.heap.size, 1, none⟩ = false := (hb.frozen (p := ⟨w.heap.size, 1, none⟩) (by simp)).trans (by simp); have hz : w.heap.size < w3.heap.size := Nat.lt_of_lt_of_le (by simp) hb.size; clear hL hb)
  refine bodyPost_ret (v := .tuple #[.agg #[.string u, .slice A n c], .string rest, .bool ok]) (by simp [results, Try.results35, go_sem, hc0, hc1, hf0, hf1, hz]) rfl ⟨_, rfl, ?_, ?_⟩
  · exact HL.out.mid (((Mid.refl (fun _ h_ => h_.lt)).set (From.no (by simp)) _).set (From.no (by simp)) _) (From.up (by simp) (by simp))
  · exact (((below_alloc (Below.refl _ w) _).trans (B3.out.mono (by simp))).setCell (by simp) _).setCell (by simp) _
/-- Where a row of terms, or of factors, stands: the result's block is as it was laid, the expression lies in block ge, its tree in other blocks of the call's own. -/
def RowInv (w wr : World) (ge : Nat) (u : ByteArray) (A : Option Addr) (n c : Nat) (ls : List ByteArray) : Prop :=
  w.heap.size < ge ∧ ge < wr.heap.size ∧ wr.heap[w.heap.size]? = some (.cells #[.string (⟨#[]⟩ : ByteArray), .slice none 0 0] 32 (0, 0)) ∧ wr.heap[ge]? = some (.cells #[.string u, .slice A n c] 32 (0, 0)) ∧ Leaves wr (fun g => w.heap.size < g ∧ g < wr.heap.size ∧ g ≠ ge) (.agg #[.string u, .slice A n c]) ls ∧ Below w.heap.size w wr
set_option maxHeartbeats 8000000 in
set_option maxRecDepth 100000 in
theorem impl_takeRow.step_true (k : Nat)
    (ih : ∀ m, m < k + 1 → ∀ s ls rest ok w, impl_takeRow.f m s false = some (ls, rest, ok) → Calls Try.prog 35 #[.string s] w (TPost w ls rest ok))
    (s : ByteArray) (ls : List ByteArray) (rest : ByteArray) (ok : Bool) (w : World) (h : impl_takeRow.f (k + 1) s true = some (ls, rest, ok)) : Calls Try.prog 30 #[.string s, .string (⟨#[111, 114]⟩ : ByteArray)] w (TPost w ls rest ok) := by
  have hu32 := Try.underlying32
  rw [impl_takeRow.f, if_pos rfl] at h
  obtain ⟨⟨l1, r1, k1⟩, h1, h⟩ := Option.bind_eq_some_iff.mp h
  have HT := Aside0.mk (fun w => ih k (Nat.lt_succ_self _) s l1 r1 k1 w h1)
  have H' : Aside0 (impl_takeRow.l0 k true l1 r1 k1 = some (ls, rest, ok)) := ⟨h⟩
  have IH := Aside0.mk ih
  clear h1 h ih
  go_enter Try.func30, Try.ntmps30
  go_wp2_with (go_at_call 35; (with_reducible refine (HT.out _).mono ?_); rintro e w3 ⟨v, rfl, hL, hb⟩; obtain ⟨u, A, n, c, rfl⟩ := hL.form; have HL := Aside0.mk hL; have B3 := Aside0.mk hb; have hc0 : w3.cell? ⟨w.heap.size, 0, none⟩ = some (.string (⟨#[]⟩ : ByteArray)) := (hb.cell (p := ⟨w.heap.size, 0, none⟩) (by simp)).trans (by simp); have hc1 : w3.cell? ⟨w.heap.size, 1, none⟩ = some (.slice none 0 0) := (hb.cell (p := ⟨w.heap.size, 1, none⟩) (by simp)).trans (by simp); have hf0 : w3.frozen? ⟨w.heap.size, 0, none⟩ = false := (hb.frozen (p := ⟨w.heap.size, 0, none⟩) (by simp)).trans (by simp); have hf1 : w3.frozen? ⟨w.heap.size, 1, none⟩ = false := (hb.frozen (p := ⟨w.heap.size, 1, none⟩) (by simp)).trans (by simp); have hz : w.heap.size < w3.heap.size := Nat.lt_of_lt_of_le (by simp) hb.size; clear hL hb)
  have hr3 : Aside0 (w3.heap[w.heap.size]? = some (.cells #[.string (⟨#[]⟩ : ByteArray), .slice none 0 0] 32 (0, 0))) := ⟨(B3.out.block w.heap.size (by simp)).trans (new_at rfl)⟩
  have BW : Aside0 (Below w.heap.size w w3) := ⟨(below_alloc (Below.refl _ w) _).trans (B3.out.mono (by simp))⟩
  clear hc0 hc1 hf0 hf1
  generalize hge : w3.heap.size = ge
  go_loopg [9, 10] k (fun kq v9 v10 wr => ∃ (ls' : List ByteArray) (r' : ByteArray) (k' : Bool) (u : ByteArray) (A : Option Addr) (n c : Nat), v9 = .string r' ∧ v10 = .bool k' ∧ Aside0 (impl_takeRow.l0 kq true ls' r' k' = some (ls, rest, ok)) ∧ Aside0 (kq ≤ k) ∧ Aside0 (RowInv w wr ge u A n c ls'))
  case atStart =>
    refine ⟨l1, r1, k1, u, A, n, c, rfl, rfl, H', ⟨Nat.le_refl _⟩, ⟨?_⟩⟩
    refine ⟨by omega, by simp; omega, blk_alloc hr3.out _, new_at hge, HL.out.mid ((Mid.refl (fun _ h_ => h_.lt)).alloc _) (fun g h_ => ⟨by have := h_.1; simp at this; omega, by have := h_.2; simp; omega, by have := h_.2; omega⟩), BW.out.alloc (by omega) _⟩
  case round =>
    clear H' HT HL B3 hr3 BW
    obtain ⟨ls', r', k', u, A, n, c, rfl, rfl, HA, HK, HI⟩ := hrel
    cases gk with
    | zero => exact absurd HA.out (by simp [impl_takeRow.l0])
    | succ k1 =>
      have H := HA.out
      clear HA
      rw [impl_takeRow.l0] at H
      obtain ⟨i1, i2, i3, i4, i5, i6⟩ := HI.out
      have HR := Aside0.mk i3
      have HE := Aside0.mk i4
      have HL := Aside0.mk i5
      have HB := Aside0.mk i6
      have ce0 := (blk_cell i4 0).trans rfl
      have ce1 := (blk_cell i4 1).trans rfl
      have cr0 := (blk_cell i3 0).trans rfl
      have cr1 := (blk_cell i3 1).trans rfl
      have fr0 := blk_frozen i3 0
      have fr1 := blk_frozen i3 1
      clear i3 i4 i5 i6 HI
      have hne : ge ≠ w.heap.size := by omega
      cases k' with
      | false =>
        rw [if_neg (show ¬ (false = true) by decide)] at H
        obtain ⟨rfl, rfl, rfl⟩ : ls' = ls ∧ r' = rest ∧ false = ok := by simpa using Option.some.inj H
        clear H
        go_wp2
        refine bodyPost_ret (v := .tuple #[.agg #[.string u, .slice A n c], .string r', .bool false]) (by simp [results, Try.results30, go_sem, cr0, cr1, fr0, fr1]) rfl ⟨_, rfl, ?_, ?_⟩
        · exact HL.out.mid (((Mid.refl (fun _ h_ => h_.2.1)).set (fun h_ => by have := h_.1; simp at this) _).set (fun h_ => by have := h_.1; simp at this) _) (fun g h_ => ⟨by have := h_.1; omega, by have := h_.2.1; simpa using this⟩)
        · exact (HB.out.setCell (by simp) _).setCell (by simp) _
      | true =>
        rw [if_pos rfl] at H
        obtain ⟨⟨m1, b1⟩, h1, H⟩ := Option.bind_eq_some_iff.mp H
        have HC : Aside0 (strings_CutPrefix.f r' (⟨#[32, 111, 114, 32]⟩ : ByteArray) = some (m1, b1)) := ⟨h1⟩
        clear h1
        simp only at H
        cases b1 with
        | false =>
          rw [if_neg (show ¬ (false = true) by decide)] at H
          obtain ⟨rfl, rfl, rfl⟩ : ls' = ls ∧ r' = rest ∧ true = ok := by simpa using Option.some.inj H
          clear H
          go_wp2_with (go_at_call 36; refine (strings_CutPrefix.calls r' (⟨#[32, 111, 114, 32]⟩ : ByteArray) m1 false _ HC.out).mono ?_; rintro e w' ⟨rfl, ⟨nd, rfl⟩⟩)
          refine bodyPost_ret (v := .tuple #[.agg #[.string u, .slice A n c], .string r', .bool true]) (by simp [results, Try.results30, go_sem, cr0, cr1, fr0, fr1]) rfl ⟨_, rfl, ?_, ?_⟩
          · exact HL.out.mid ((((Mid.refl (fun _ h_ => h_.2.1)).drewN _).set (fun h_ => by have := h_.1; simp at this) _).set (fun h_ => by have := h_.1; simp at this) _) (fun g h_ => ⟨by have := h_.1; omega, by have := h_.2.1; simpa using this⟩)
          · exact ((pw_below_drewN HB.out _).setCell (by simp) _).setCell (by simp) _
        | true =>
          rw [if_pos rfl, if_pos trivial] at H
          obtain ⟨⟨l2, r2, k2⟩, h2, H⟩ := Option.bind_eq_some_iff.mp H
          have HT := Aside0.mk (fun w => IH.out k1 (by have := HK.out; omega) m1 l2 r2 k2 w h2)
          have H' : Aside0 (impl_takeRow.l0 k1 true (ls' ++ l2) r2 k2 = some (ls, rest, ok)) := ⟨H⟩
          clear h2 H ce0 ce1 cr0 cr1 fr0 fr1
          go_wp2_with (go_at_call 36; refine (strings_CutPrefix.calls r' (⟨#[32, 111, 114, 32]⟩ : ByteArray) m1 true _ HC.out).mono ?_; rintro e w' ⟨rfl, ⟨nd, rfl⟩⟩)
          with_reducible refine (HT.out _).mono ?_
          rintro e w4 ⟨v2, rfl, hL2, hb2⟩
          obtain ⟨u2, A2, n2, c2, rfl⟩ := hL2.form
          have HL2 := Aside0.mk hL2
          have B4 := Aside0.mk hb2
          have hge4 := (hb2.block ge (by simp <;> omega)).trans (blk_alloc (blk_drewN HE.out _) _)
          have hgr4 := (hb2.block w.heap.size (by simp <;> omega)).trans (blk_alloc (blk_drewN HR.out _) _)
          have hgn4 := (hb2.block wr.heap.size (by simp)).trans (new_at (by simp))
          have ce0 := (blk_cell hge4 0).trans rfl
          have ce1 := (blk_cell hge4 1).trans rfl
          have fe0 := blk_frozen hge4 0
          have fe1 := blk_frozen hge4 1
          have cn0 := (blk_cell hgn4 0).trans rfl
          have cn1 := (blk_cell hgn4 1).trans rfl
          have fn0 := blk_frozen hgn4 0
          have fn1 := blk_frozen hgn4 1
          have hz4 : wr.heap.size < w4.heap.size := Nat.lt_of_lt_of_le (by simp) hb2.size
          have hn4 : ge ≠ wr.heap.size := by omega
          have hn5 : wr.heap.size ≠ ge := by omega
          have hn6 : ge < w4.heap.size := by omega
          have HE4 := Aside0.mk hge4
          have HR4 := Aside0.mk hgr4
          have HN4 := Aside0.mk hgn4
          clear hL2 hb2 hge4 hgr4 hgn4
          go_wp2
          go_roundg k1
          case measure => have := HK.out; omega
          case rel =>
            refine ⟨ls' ++ l2, r2, k2, ⟨#[111, 114]⟩, some ⟨w4.heap.size, 0, none⟩, 2, 2, rfl, rfl, H', ⟨by have := HK.out; omega⟩, ⟨i1, by simp; omega, ?_, ?_, ?_, ?_⟩⟩
            · exact blk_alloc (blk_far (blk_far (blk_far (blk_far HR4.out (by simp <;> omega) _) (by simp <;> omega) _) (by simp <;> omega) _) (by simp <;> omega) _) _
            · exact blk_alloc (blk_put (blk_put (blk_far (blk_far HE4.out (by simpa using hn4) _) (by simpa using hn4) _) 0 _ rfl) 1 _ rfl) _
            · refine Leaves.two _ u u2 (.slice A n c) (.slice A2 n2 c2) w4.heap.size ls' l2 ⟨by omega, by simp, by omega⟩ (new_at (by simp)) ?_ ?_
              · exact HL.out.mid (((((((((Mid.refl (fun _ h_ => h_.2.1)).drewN nd).alloc _).below B4.out (fun g h_ => by have := h_.2.1; simp <;> omega)).set (fun h_ => by have := h_.2.1; simp at this) _).set (fun h_ => by have := h_.2.1; simp at this) _).set (fun h_ => h_.2.2 rfl) _).set (fun h_ => h_.2.2 rfl) _).alloc _) (fun g h => ⟨h.1, by have := h.2.1; simp; omega, h.2.2⟩)
              · exact HL2.out.mid ((((((Mid.refl (fun _ h_ => h_.2)).set (fun h_ => by have := h_.1; simp at this; omega) _).set (fun h_ => by have := h_.1; simp at this; omega) _).set (fun h_ => by have := h_.1; simp at this; omega) _).set (fun h_ => by have := h_.1; simp at this; omega) _).alloc _) (fun g h => ⟨by have := h.1; simp at this; omega, by have := h.2; simp; omega, by have := h.1; simp at this; omega⟩)
            · exact ((((((((pw_below_drewN HB.out nd).alloc (by simp <;> omega) _).trans (B4.out.mono (by simp <;> omega))).setCell (by simp <;> omega) _).setCell (by simp <;> omega) _).setCell (by simp <;> omega) _).setCell (by simp <;> omega) _).alloc (by simp <;> omega) _)
set_option maxHeartbeats 8000000 in
set_option maxRecDepth 100000 in
theorem impl_takeRow.step_false (k : Nat)
    (ih : ∀ m, m < k + 1 → ∀ s ls rest ok w, impl_takeFactor.f m s = some (ls, rest, ok) → Calls Try.prog 34 #[.string s] w (TPost w ls rest ok))
    (s : ByteArray) (ls : List ByteArray) (rest : ByteArray) (ok : Bool) (w : World) (h : impl_takeRow.f (k + 1) s false = some (ls, rest, ok)) : Calls Try.prog 30 #[.string s, .string (⟨#[97, 110, 100]⟩ : ByteArray)] w (TPost w ls rest ok) := by
  have hu32 := Try.underlying32
  rw [impl_takeRow.f, if_neg (show ¬ (false = true) by decide)] at h
  obtain ⟨⟨l1, r1, k1⟩, h1, h⟩ := Option.bind_eq_some_iff.mp h
  have HT := Aside0.mk (fun w => ih k (Nat.lt_succ_self _) s l1 r1 k1 w h1)
  have H' : Aside0 (impl_takeRow.l0 k false l1 r1 k1 = some (ls, rest, ok)) := ⟨h⟩
  have IH := Aside0.mk ih
  clear h1 h ih
  go_enter Try.func30, Try.ntmps30
  go_wp2_with (go_at_call 34; (with_reducible refine (HT.out _).mono ?_); rintro e w3 ⟨v, rfl, hL, hb⟩; obtain ⟨u, A, n, c, rfl⟩ := hL.form; have HL := Aside0.mk hL; have B3 := Aside0.mk hb; have hc0 : w3.cell? ⟨w.heap.size, 0, none⟩ = some (.string (⟨#[]⟩ : ByteArray)) := (hb.cell (p := ⟨w.heap.size, 0, none⟩) (by simp)).trans (by simp); have hc1 : w3.cell? ⟨w.heap.size, 1, none⟩ = some (.slice none 0 0) := (hb.cell (p := ⟨w.heap.size, 1, none⟩) (by simp)).trans (by simp); have hf0 : w3.frozen? ⟨w.heap.size, 0, none⟩ = false := (hb.frozen (p := ⟨w.heap.size, 0, none⟩) (by simp)).trans (by simp); have hf1 : w3.frozen? ⟨w.heap.size, 1, none⟩ = false := (hb.frozen (p := ⟨w.heap.size, 1, none⟩) (by simp)).trans (by simp); have hz : w.heap.size < w3.heap.size := Nat.lt_of_lt_of_le (by simp) hb.size; clear hL hb)
  have hr3 : Aside0 (w3.heap[w.heap.size]? = some (.cells #[.string (⟨#[]⟩ : ByteArray), .slice none 0 0] 32 (0, 0))) := ⟨(B3.out.block w.heap.size (by simp)).trans (new_at rfl)⟩
  have BW : Aside0 (Below w.heap.size w w3) := ⟨(below_alloc (Below.refl _ w) _).trans (B3.out.mono (by simp))⟩
  clear hc0 hc1 hf0 hf1
  generalize hge : w3.heap.size = ge
  go_loopg [9, 10] k (fun kq v9 v10 wr => ∃ (ls' : List ByteArray) (r' : ByteArray) (k' : Bool) (u : ByteArray) (A : Option Addr) (n c : Nat), v9 = .string r' ∧ v10 = .bool k' ∧ Aside0 (impl_takeRow.l0 kq false ls' r' k' = some (ls, rest, ok)) ∧ Aside0 (kq ≤ k) ∧ Aside0 (RowInv w wr ge u A n c ls'))
  case atStart =>
    refine ⟨l1, r1, k1, u, A, n, c, rfl, rfl, H', ⟨Nat.le_refl _⟩, ⟨?_⟩⟩
    refine ⟨by omega, by simp; omega, blk_alloc hr3.out _, new_at hge, HL.out.mid ((Mid.refl (fun _ h_ => h_.lt)).alloc _) (fun g h_ => ⟨by have := h_.1; simp at this; omega, by have := h_.2; simp; omega, by have := h_.2; omega⟩), BW.out.alloc (by omega) _⟩
  case round =>
    clear H' HT HL B3 hr3 BW
    obtain ⟨ls', r', k', u, A, n, c, rfl, rfl, HA, HK, HI⟩ := hrel
    cases gk with
    | zero => exact absurd HA.out (by simp [impl_takeRow.l0])
    | succ k1 =>
      have H := HA.out
      clear HA
      rw [impl_takeRow.l0] at H
      obtain ⟨i1, i2, i3, i4, i5, i6⟩ := HI.out
      have HR := Aside0.mk i3
      have HE := Aside0.mk i4
      have HL := Aside0.mk i5
      have HB := Aside0.mk i6
      have ce0 := (blk_cell i4 0).trans rfl
      have ce1 := (blk_cell i4 1).trans rfl
      have cr0 := (blk_cell i3 0).trans rfl
      have cr1 := (blk_cell i3 1).trans rfl
      have fr0 := blk_frozen i3 0
      have fr1 := blk_frozen i3 1
      clear i3 i4 i5 i6 HI
      have hne : ge ≠ w.heap.size := by omega
      cases k' with
      | false =>
        rw [if_neg (show ¬ (false = true) by decide)] at H
        obtain ⟨rfl, rfl, rfl⟩ : ls' = ls ∧ r' = rest ∧ false = ok := by simpa using Option.some.inj H
        clear H
        go_wp2
        refine bodyPost_ret (v := .tuple #[.agg #[.string u, .slice A n c], .string r', .bool false]) (by simp [results, Try.results30, go_sem, cr0, cr1, fr0, fr1]) rfl ⟨_, rfl, ?_, ?_⟩
        · exact HL.out.mid (((Mid.refl (fun _ h_ => h_.2.1)).set (fun h_ => by have := h_.1; simp at this) _).set (fun h_ => by have := h_.1; simp at this) _) (fun g h_ => ⟨by have := h_.1; omega, by have := h_.2.1; simpa using this⟩)
        · exact (HB.out.setCell (by simp) _).setCell (by simp) _
      | true =>
        rw [if_pos rfl] at H
        obtain ⟨⟨m1, b1⟩, h1, H⟩ := Option.bind_eq_some_iff.mp H
        have HC : Aside0 (strings_CutPrefix.f r' (⟨#[32, 97, 110, 100, 32]⟩ : ByteArray) = some (m1, b1)) := ⟨h1⟩
        clear h1
        simp only at H
        cases b1 with
        | false =>
          rw [if_neg (show ¬ (false = true) by decide)] at H
          obtain ⟨rfl, rfl, rfl⟩ : ls' = ls ∧ r' = rest ∧ true = ok := by simpa using Option.some.inj H
          clear H
          go_wp2_with (go_at_call 36; refine (strings_CutPrefix.calls r' (⟨#[32, 97, 110, 100, 32]⟩ : ByteArray) m1 false _ HC.out).mono ?_; rintro e w' ⟨rfl, ⟨nd, rfl⟩⟩)
          refine bodyPost_ret (v := .tuple #[.agg #[.string u, .slice A n c], .string r', .bool true]) (by simp [results, Try.results30, go_sem, cr0, cr1, fr0, fr1]) rfl ⟨_, rfl, ?_, ?_⟩
          · exact HL.out.mid ((((Mid.refl (fun _ h_ => h_.2.1)).drewN _).set (fun h_ => by have := h_.1; simp at this) _).set (fun h_ => by have := h_.1; simp at this) _) (fun g h_ => ⟨by have := h_.1; omega, by have := h_.2.1; simpa using this⟩)
          · exact ((pw_below_drewN HB.out _).setCell (by simp) _).setCell (by simp) _
        | true =>
          rw [if_pos rfl, if_neg (show ¬ (false = true) by decide)] at H
          obtain ⟨⟨l2, r2, k2⟩, h2, H⟩ := Option.bind_eq_some_iff.mp H
          have HT := Aside0.mk (fun w => IH.out k1 (by have := HK.out; omega) m1 l2 r2 k2 w h2)
          have H' : Aside0 (impl_takeRow.l0 k1 false (ls' ++ l2) r2 k2 = some (ls, rest, ok)) := ⟨H⟩
          clear h2 H ce0 ce1 cr0 cr1 fr0 fr1
          go_wp2_with (go_at_call 36; refine (strings_CutPrefix.calls r' (⟨#[32, 97, 110, 100, 32]⟩ : ByteArray) m1 true _ HC.out).mono ?_; rintro e w' ⟨rfl, ⟨nd, rfl⟩⟩)
          with_reducible refine (HT.out _).mono ?_
          rintro e w4 ⟨v2, rfl, hL2, hb2⟩
          obtain ⟨u2, A2, n2, c2, rfl⟩ := hL2.form
          have HL2 := Aside0.mk hL2
          have B4 := Aside0.mk hb2
          have hge4 := (hb2.block ge (by simp <;> omega)).trans (blk_alloc (blk_drewN HE.out _) _)
          have hgr4 := (hb2.block w.heap.size (by simp <;> omega)).trans (blk_alloc (blk_drewN HR.out _) _)
          have hgn4 := (hb2.block wr.heap.size (by simp)).trans (new_at (by simp))
          have ce0 := (blk_cell hge4 0).trans rfl
          have ce1 := (blk_cell hge4 1).trans rfl
          have fe0 := blk_frozen hge4 0
          have fe1 := blk_frozen hge4 1
          have cn0 := (blk_cell hgn4 0).trans rfl
          have cn1 := (blk_cell hgn4 1).trans rfl
          have fn0 := blk_frozen hgn4 0
          have fn1 := blk_frozen hgn4 1
          have hz4 : wr.heap.size < w4.heap.size := Nat.lt_of_lt_of_le (by simp) hb2.size
          have hn4 : ge ≠ wr.heap.size := by omega
          have hn5 : wr.heap.size ≠ ge := by omega
          have hn6 : ge < w4.heap.size := by omega
          have HE4 := Aside0.mk hge4
          have HR4 := Aside0.mk hgr4
          have HN4 := Aside0.mk hgn4
          clear hL2 hb2 hge4 hgr4 hgn4
          go_wp2
          go_roundg k1
          case measure => have := HK.out; omega
          case rel =>
            refine ⟨ls' ++ l2, r2, k2, ⟨#[97, 110, 100]⟩, some ⟨w4.heap.size, 0, none⟩, 2, 2, rfl, rfl, H', ⟨by have := HK.out; omega⟩, ⟨i1, by simp; omega, ?_, ?_, ?_, ?_⟩⟩
            · exact blk_alloc (blk_far (blk_far (blk_far (blk_far HR4.out (by simp <;> omega) _) (by simp <;> omega) _) (by simp <;> omega) _) (by simp <;> omega) _) _
            · exact blk_alloc (blk_put (blk_put (blk_far (blk_far HE4.out (by simpa using hn4) _) (by simpa using hn4) _) 0 _ rfl) 1 _ rfl) _
            · refine Leaves.two _ u u2 (.slice A n c) (.slice A2 n2 c2) w4.heap.size ls' l2 ⟨by omega, by simp, by omega⟩ (new_at (by simp)) ?_ ?_
              · exact HL.out.mid (((((((((Mid.refl (fun _ h_ => h_.2.1)).drewN nd).alloc _).below B4.out (fun g h_ => by have := h_.2.1; simp <;> omega)).set (fun h_ => by have := h_.2.1; simp at this) _).set (fun h_ => by have := h_.2.1; simp at this) _).set (fun h_ => h_.2.2 rfl) _).set (fun h_ => h_.2.2 rfl) _).alloc _) (fun g h => ⟨h.1, by have := h.2.1; simp; omega, h.2.2⟩)
              · exact HL2.out.mid ((((((Mid.refl (fun _ h_ => h_.2)).set (fun h_ => by have := h_.1; simp at this; omega) _).set (fun h_ => by have := h_.1; simp at this; omega) _).set (fun h_ => by have := h_.1; simp at this; omega) _).set (fun h_ => by have := h_.1; simp at this; omega) _).alloc _) (fun g h => ⟨by have := h.1; simp at this; omega, by have := h.2; simp; omega, by have := h.1; simp at this; omega⟩)
            · exact ((((((((pw_below_drewN HB.out nd).alloc (by simp <;> omega) _).trans (B4.out.mono (by simp <;> omega))).setCell (by simp <;> omega) _).setCell (by simp <;> omega) _).setCell (by simp <;> omega) _).setCell (by simp <;> omega) _).alloc (by simp <;> omega) _)
theorem impl_take.calls (k : Nat) : (∀ s ls rest ok w, impl_takeFactor.f k s = some (ls, rest, ok) → Calls Try.prog 34 #[.string s] w (TPost w ls rest ok)) ∧ (∀ s o ls rest ok w, impl_takeRow.f k s o = some (ls, rest, ok) → Calls Try.prog 30 #[.string s, .string (wordOf o)] w (TPost w ls rest ok)) := by
  induction k using Nat.strongRecOn with
  | ind k ih =>
    cases k with
    | zero => exact ⟨fun _ _ _ _ _ h => by simp [impl_takeFactor.f] at h, fun _ _ _ _ _ _ h => by simp [impl_takeRow.f] at h⟩
    | succ k =>
      refine ⟨fun s ls rest ok w h => impl_takeFactor.step k (ih k (Nat.lt_succ_self _)).1 (ih k (Nat.lt_succ_self _)).2 s ls rest ok w h, fun s o ls rest ok w h => ?_⟩
      cases o with
      | true => exact impl_takeRow.step_true k (fun m hm s ls rest ok w h => impl_takeRow1.step s ls rest ok w (fun w => (ih m hm).2 s false ls rest ok w h)) s ls rest ok w h
      | false => exact impl_takeRow.step_false k (fun m hm s ls rest ok w h => (ih m hm).1 s ls rest ok w h) s ls rest ok w h
/-- An expression that is read: the words at its leaves, and whether it is one. -/
def impl_readExpr.f (k : Nat) (s : ByteArray) : Option (List ByteArray × Bool) := if (s.size : Int) ≤ 60 then ((impl_takeRow.f k s true).bind fun r => some (r.1, r.2.2 && (r.2.1.toList == ([] : List UInt8)))) else some ([(⟨#[]⟩ : ByteArray)], false)
theorem impl_readExpr.mono : ∀ s k, LeO (impl_readExpr.f k s) (impl_readExpr.f (k + 1) s) := by
  intro s k
  unfold impl_readExpr.f
  exact LeO.ite (LeO.bind ((impl_take.mono k).2.2 _ _) (fun _ => LeO.refl _)) (LeO.refl _)
def RPost (w : World) (ls : List ByteArray) (ok : Bool) (e : Ending) (w' : World) : Prop :=
  ∃ v, e = .returned (.tuple #[v, .bool ok]) ∧ Leaves w' (From w.heap.size w'.heap.size) v ls ∧ Below w.heap.size w w'
set_option maxHeartbeats 8000000 in
set_option maxRecDepth 100000 in
theorem impl_readExpr.calls (k : Nat) (s : ByteArray) (ls : List ByteArray) (ok : Bool) (w : World) (h : impl_readExpr.f k s = some (ls, ok)) : Calls Try.prog 23 #[.string s] w (RPost w ls ok) := by
  have hu32 := Try.underlying32
  rw [impl_readExpr.f] at h
  by_cases hs : (s.size : Int) ≤ 60
  · rw [if_pos hs] at h
    have hs0 : decide ((60 : Int) < (s.size : Int)) = false := decide_eq_false (by omega)
    obtain ⟨⟨l1, r1, k1⟩, h1, h2⟩ := Option.bind_eq_some_iff.mp h
    obtain ⟨rfl, hk⟩ : l1 = ls ∧ (k1 && (r1.toList == ([] : List UInt8))) = ok := Prod.mk.inj (Option.some.inj h2)
    have HK := Aside0.mk hk
    have HR := Aside0.mk (fun w => (show Calls Try.prog 30 #[.string s, .string (⟨#[111, 114]⟩ : ByteArray)] w (TPost w l1 r1 k1) from (impl_take.calls k).2 s true l1 r1 k1 w h1))
    clear h h1 h2 hk hs
    cases k1 with
    | true =>
      by_cases e : r1.toList = ([] : List UInt8)
      · have hq : (r1.toList == ([] : List UInt8)) = true := beq_iff_eq.mpr e
        have E : Aside0 (ok = true) := ⟨by have := HK.out; rw [← this, hq]; rfl⟩
        clear HK e
        go_enter Try.func23, Try.ntmps23
        go_wp2_with (go_at_call 30; (with_reducible refine (HR.out _).mono ?_); rintro e w3 ⟨v, rfl, hL, hb⟩; obtain ⟨u, A, n, c, rfl⟩ := hL.form; have HL := Aside0.mk hL; have B3 := Aside0.mk hb; have hc0 : w3.cell? ⟨w.heap.size, 0, none⟩ = some (.string (⟨#[]⟩ : ByteArray)) := (hb.cell (p := ⟨w.heap.size, 0, none⟩) (by simp)).trans (by simp); have hc1 : w3.cell? ⟨w.heap.size, 1, none⟩ = some (.slice none 0 0) := (hb.cell (p := ⟨w.heap.size, 1, none⟩) (by simp)).trans (by simp); have hf0 : w3.frozen? ⟨w.heap.size, 0, none⟩ = false := (hb.frozen (p := ⟨w.heap.size, 0, none⟩) (by simp)).trans (by simp); have hf1 : w3.frozen? ⟨w.heap.size, 1, none⟩ = false := (hb.frozen (p := ⟨w.heap.size, 1, none⟩) (by simp)).trans (by simp); have hz : w.heap.size < w3.heap.size := Nat.lt_of_lt_of_le (by simp) hb.size; clear hL hb)
        refine bodyPost_ret (v := .tuple #[.agg #[.string u, .slice A n c], .bool true]) (by simp [results, Try.results23, go_sem, hc0, hc1, hf0, hf1, hz]) rfl ⟨_, by rw [E.out], ?_, ?_⟩
        · exact HL.out.mid ((((Mid.refl (fun _ h_ => h_.lt)).set (From.no (by simp)) _).set (From.no (by simp)) _).alloc _) (From.up (by simp) (by simp))
        · exact ((((below_alloc (Below.refl _ w) _).trans (B3.out.mono (by simp))).setCell (Nat.le_refl _) _).setCell (Nat.le_refl _) _).alloc (by simp <;> omega) _
      · have hq : (r1.toList == ([] : List UInt8)) = false := beq_eq_false_iff_ne.mpr e
        have E : Aside0 (ok = false) := ⟨by have := HK.out; rw [← this, hq]; rfl⟩
        clear HK e
        go_enter Try.func23, Try.ntmps23
        go_wp2_with (go_at_call 30; (with_reducible refine (HR.out _).mono ?_); rintro e w3 ⟨v, rfl, hL, hb⟩; obtain ⟨u, A, n, c, rfl⟩ := hL.form; have HL := Aside0.mk hL; have B3 := Aside0.mk hb; have hc0 : w3.cell? ⟨w.heap.size, 0, none⟩ = some (.string (⟨#[]⟩ : ByteArray)) := (hb.cell (p := ⟨w.heap.size, 0, none⟩) (by simp)).trans (by simp); have hc1 : w3.cell? ⟨w.heap.size, 1, none⟩ = some (.slice none 0 0) := (hb.cell (p := ⟨w.heap.size, 1, none⟩) (by simp)).trans (by simp); have hf0 : w3.frozen? ⟨w.heap.size, 0, none⟩ = false := (hb.frozen (p := ⟨w.heap.size, 0, none⟩) (by simp)).trans (by simp); have hf1 : w3.frozen? ⟨w.heap.size, 1, none⟩ = false := (hb.frozen (p := ⟨w.heap.size, 1, none⟩) (by simp)).trans (by simp); have hz : w.heap.size < w3.heap.size := Nat.lt_of_lt_of_le (by simp) hb.size; clear hL hb)
        refine bodyPost_ret (v := .tuple #[.agg #[.string u, .slice A n c], .bool false]) (by simp [results, Try.results23, go_sem, hc0, hc1, hf0, hf1, hz]) rfl ⟨_, by rw [E.out], ?_, ?_⟩
        · exact HL.out.mid ((((Mid.refl (fun _ h_ => h_.lt)).set (From.no (by simp)) _).set (From.no (by simp)) _).alloc _) (From.up (by simp) (by simp))
        · exact ((((below_alloc (Below.refl _ w) _).trans (B3.out.mono (by simp))).setCell (Nat.le_refl _) _).setCell (Nat.le_refl _) _).alloc (by simp <;> omega) _
    | false =>
      · have E : Aside0 (ok = false) := ⟨by have := HK.out; rw [← this]; rfl⟩
        clear HK
        go_enter Try.func23, Try.ntmps23
        go_wp2_with (go_at_call 30; (with_reducible refine (HR.out _).mono ?_); rintro e w3 ⟨v, rfl, hL, hb⟩; obtain ⟨u, A, n, c, rfl⟩ := hL.form; have HL := Aside0.mk hL; have B3 := Aside0.mk hb; have hc0 : w3.cell? ⟨w.heap.size, 0, none⟩ = some (.string (⟨#[]⟩ : ByteArray)) := (hb.cell (p := ⟨w.heap.size, 0, none⟩) (by simp)).trans (by simp); have hc1 : w3.cell? ⟨w.heap.size, 1, none⟩ = some (.slice none 0 0) := (hb.cell (p := ⟨w.heap.size, 1, none⟩) (by simp)).trans (by simp); have hf0 : w3.frozen? ⟨w.heap.size, 0, none⟩ = false := (hb.frozen (p := ⟨w.heap.size, 0, none⟩) (by simp)).trans (by simp); have hf1 : w3.frozen? ⟨w.heap.size, 1, none⟩ = false := (hb.frozen (p := ⟨w.heap.size, 1, none⟩) (by simp)).trans (by simp); have hz : w.heap.size < w3.heap.size := Nat.lt_of_lt_of_le (by simp) hb.size; clear hL hb)
        refine bodyPost_ret (v := .tuple #[.agg #[.string u, .slice A n c], .bool false]) (by simp [results, Try.results23, go_sem, hc0, hc1, hf0, hf1, hz]) rfl ⟨_, by rw [E.out], ?_, ?_⟩
        · exact HL.out.mid ((((Mid.refl (fun _ h_ => h_.lt)).set (From.no (by simp)) _).set (From.no (by simp)) _).alloc _) (From.up (by simp) (by simp))
        · exact ((((below_alloc (Below.refl _ w) _).trans (B3.out.mono (by simp))).setCell (Nat.le_refl _) _).setCell (Nat.le_refl _) _).alloc (by simp <;> omega) _
  · rw [if_neg hs] at h
    have hs0 : decide ((60 : Int) < (s.size : Int)) = true := decide_eq_true (by omega)
    obtain ⟨rfl, rfl⟩ : [(⟨#[]⟩ : ByteArray)] = ls ∧ false = ok := Prod.mk.inj (Option.some.inj h)
    clear h hs
    go_enter Try.func23, Try.ntmps23
    go_wp2
    refine bodyPost_ret (v := .tuple #[.agg #[.string (⟨#[]⟩ : ByteArray), .slice none 0 0], .bool false]) (by simp [results, Try.results23, go_sem]) rfl ⟨_, rfl, Leaves.leaf _, ?_⟩
    exact below_alloc (Below.refl _ w) _

/-! ### slices_Index_string_string: function 37 -/
def slices_Index_string_string.l0 : Nat → List ByteArray → ByteArray → Int → Int → Option (Int)
  | 0, _, _, _, _ => none
  | k + 1, x0, x1, x7, x8 => if x8 < x7 then (if 0 ≤ x8 then (if x8 < (x0.length : Int) then (if x1.toList = (rdOf ByteArray.empty x0 x8).toList then (some x8) else (slices_Index_string_string.l0 k x0 x1 x7 (wrap64 (x8 + 1)))) else (none)) else (none)) else (some (-1))
def slices_Index_string_string.f (k : Nat) (l0 : List ByteArray) (a1 : ByteArray) : Option (Int) := slices_Index_string_string.l0 k l0 a1 (l0.length : Int) 0
theorem slices_Index_string_string.mono_l : ∀ k, (∀ y0 y1 y2 y3, LeO (slices_Index_string_string.l0 k y0 y1 y2 y3) (slices_Index_string_string.l0 (k + 1) y0 y1 y2 y3))
  | 0 => fun _ _ _ _ r h => by simp [slices_Index_string_string.l0] at h
  | k + 1 => by
    have ih0 := slices_Index_string_string.mono_l k
    · intro y0 y1 y2 y3
      unfold slices_Index_string_string.l0
      repeat' first
      | (with_reducible exact ih0 _ _ _ _)
      | (with_reducible exact LeO.refl _)
      | (with_reducible exact LeO.none _)
      | (with_reducible refine LeO.ite ?_ ?_)
      | (with_reducible refine LeO.bind ?_ (fun _ => ?_))
      | exact ih0 _ _ _ _
      | exact LeO.none _
      | refine LeO.ite ?_ ?_
      | refine LeO.bind ?_ (fun _ => ?_)
theorem slices_Index_string_string.mono : ∀ a0 a1 k, LeO (slices_Index_string_string.f k a0 a1) (slices_Index_string_string.f (k + 1) a0 a1) := by
  intro a0 a1 k
  have ih0 := slices_Index_string_string.mono_l k
  unfold slices_Index_string_string.f
  repeat' first
      | (with_reducible exact ih0 _ _ _ _)
      | (with_reducible exact LeO.refl _)
      | (with_reducible exact LeO.none _)
      | (with_reducible refine LeO.ite ?_ ?_)
      | (with_reducible refine LeO.bind ?_ (fun _ => ?_))
      | exact ih0 _ _ _ _
      | exact LeO.none _
      | refine LeO.ite ?_ ?_
      | refine LeO.bind ?_ (fun _ => ?_)
set_option maxHeartbeats 8000000 in
set_option maxRecDepth 100000 in
theorem slices_Index_string_string.calls (k : Nat) (A0 : Option Addr) (c0 : Nat) (l0 : List ByteArray) (a1 : ByteArray) (r : Int) (w : World) (hr0 : Kd.C Kd.string w A0 l0.length l0) (hc0 : l0.length ≤ c0) (h : slices_Index_string_string.f k l0 a1 = some r) :
    Calls Try.prog 37 #[.slice A0 l0.length c0, .string a1] w fun e w' => e = .returned (.int .i64 r) ∧ Drawn0 w w' := by
  have HR0 := Aside0.mk hr0
  have HC0 := Aside0.mk hc0
  clear hr0 hc0
  have H : (slices_Index_string_string.l0 k l0 a1 (l0.length : Int) 0) = some r := h
  clear h
  have H' := Aside0.mk H
  clear H
  go_enter Try.func37, Try.ntmps37
  go_wp2
  go_loopg [8] k (fun kq v8 w' => ∃ (x8_1 : Int), v8 = .int .i64 x8_1 ∧ Aside0 (slices_Index_string_string.l0 kq l0 a1 (l0.length : Int) x8_1 = some r) ∧ Aside0 (kq ≤ k) ∧ Drawn0 w w')
  case atStart => exact ⟨(0), (by first | rfl | (simp; done) | (simp [*]; done)), H', ⟨Nat.le_refl _⟩, by repeat (first | exact Drawn0.refl _ | apply Drawn0.step)⟩
  case round =>
    clear H'
    try clear p2
    obtain ⟨x8_1, rfl, HA, HK1, ⟨m1, rfl⟩⟩ := hrel
    cases gk with
    | zero => exact absurd HA.out (by simp [slices_Index_string_string.l0])
    | succ k1 =>
      have H := HA.out
      clear HA
      simp only [slices_Index_string_string.l0] at H
      by_cases c3 : x8_1 < (l0.length : Int)
      · rw [if_pos c3] at H
        have c3b0 : decide (x8_1 < (l0.length : Int)) = true := decide_eq_true c3
        clear c3
        by_cases c4 : 0 ≤ x8_1
        · rw [if_pos c4] at H
          have c4b0 : decide (0 ≤ x8_1) = true := decide_eq_true c4
          clear c4
          by_cases c5 : x8_1 < (l0.length : Int)
          · rw [if_pos c5] at H
            have c5b0 : decide (x8_1 < (l0.length : Int)) = true := decide_eq_true c5
            clear c5
            by_cases c6 : a1.toList = (rdOf ByteArray.empty l0 x8_1).toList
            · rw [if_pos c6] at H
              have c6b0 : (a1.toList == (rdOf ByteArray.empty l0 x8_1).toList) = true := beq_iff_eq.mpr c6
              have c6b1 : (a1.toList != (rdOf ByteArray.empty l0 x8_1).toList) = false := bne_eq_false_iff_eq.mpr c6
              clear c6
              obtain rfl := Option.some.inj H
              have p232 : 0 ≤ (x8_1 : Int) := of_decide_eq_true (by first | (with_reducible assumption) | assumption)
              have q232 : x8_1 < (l0.length : Int) := of_decide_eq_true (by first | (with_reducible assumption) | assumption)
              obtain ⟨ad232, e232, hx232_0⟩ := Kd.at_string HR0.out x8_1 p232 q232
              cases e232
              replace p232 := eq_true p232
              replace q232 := eq_true q232
              go_wp2
              go_ret
              exact ⟨by first | rfl | (simp; done) | (simp [*]; done), by repeat (first | exact Drawn0.refl _ | apply Drawn0.step)⟩
            · rw [if_neg c6] at H
              have c6b0 : (a1.toList == (rdOf ByteArray.empty l0 x8_1).toList) = false := beq_eq_false_iff_ne.mpr c6
              have c6b1 : (a1.toList != (rdOf ByteArray.empty l0 x8_1).toList) = true := bne_iff_ne.mpr c6
              have H' := Aside0.mk H
              clear H
              have p232 : 0 ≤ (x8_1 : Int) := of_decide_eq_true (by first | (with_reducible assumption) | assumption)
              have q232 : x8_1 < (l0.length : Int) := of_decide_eq_true (by first | (with_reducible assumption) | assumption)
              obtain ⟨ad232, e232, hx232_0⟩ := Kd.at_string HR0.out x8_1 p232 q232
              cases e232
              replace p232 := eq_true p232
              replace q232 := eq_true q232
              go_wp2
              go_roundg k1
              case measure => have := HK1.out; omega
              case rel => exact ⟨(wrap64 (x8_1 + 1)), (by first | rfl | (simp; done) | (simp [*]; done)), H', ⟨by have := HK1.out; omega⟩, by repeat (first | exact Drawn0.refl _ | apply Drawn0.step)⟩
          · rw [if_neg c5] at H
            exact absurd H (by simp)
        · rw [if_neg c4] at H
          exact absurd H (by simp)
      · rw [if_neg c3] at H
        have c3b0 : decide (x8_1 < (l0.length : Int)) = false := decide_eq_false c3
        clear c3
        obtain rfl := Option.some.inj H
        go_wp2
        go_ret
        exact ⟨by first | rfl | (simp; done) | (simp [*]; done), by repeat (first | exact Drawn0.refl _ | apply Drawn0.step)⟩

/-! ### slices_Contains_string_string: function 31 -/
def slices_Contains_string_string.f (k : Nat) (l0 : List ByteArray) (a1 : ByteArray) : Option (Bool) := (slices_Index_string_string.f k l0 a1).bind fun t233 => (some (decide (t233 ≥ 0)))
theorem slices_Contains_string_string.mono : ∀ a0 a1 k, LeO (slices_Contains_string_string.f k a0 a1) (slices_Contains_string_string.f (k + 1) a0 a1) := by
  intro a0 a1 k
  unfold slices_Contains_string_string.f
  repeat' first
      | (with_reducible exact slices_Index_string_string.mono _ _ _)
      | (with_reducible exact LeO.refl _)
      | (with_reducible exact LeO.none _)
      | (with_reducible refine LeO.ite ?_ ?_)
      | (with_reducible refine LeO.bind ?_ (fun _ => ?_))
      | exact slices_Index_string_string.mono _ _ _
      | exact LeO.none _
      | refine LeO.ite ?_ ?_
      | refine LeO.bind ?_ (fun _ => ?_)
set_option maxHeartbeats 8000000 in
set_option maxRecDepth 100000 in
theorem slices_Contains_string_string.calls (k : Nat) (A0 : Option Addr) (c0 : Nat) (l0 : List ByteArray) (a1 : ByteArray) (r : Bool) (w : World) (hr0 : Kd.C Kd.string w A0 l0.length l0) (hc0 : l0.length ≤ c0) (h : slices_Contains_string_string.f k l0 a1 = some r) :
    Calls Try.prog 31 #[.slice A0 l0.length c0, .string a1] w fun e w' => e = .returned (.bool r) ∧ Drawn0 w w' := by
  have HR0 := Aside0.mk hr0
  have HC0 := Aside0.mk hc0
  clear hr0 hc0
  have H : ((slices_Index_string_string.f k l0 a1).bind fun t233 => (some (decide (t233 ≥ 0)))) = some r := h
  clear h
  replace H := Option.bind_eq_some_iff.mp H
  obtain ⟨t233, A30, H⟩ := H
  replace H : (some (decide (t233 ≥ 0))) = some r := H
  have A3 := Aside0.mk A30
  clear A30
  obtain rfl := Option.some.inj H
  go_enter Try.func31, Try.ntmps31
  go_wp2_with (first | ((with_reducible refine gate_callee (f := 37) rfl ?_); refine goesL_ (some 7) rfl rfl Try.func37 (by kernel_rfl) rfl #[.slice A0 l0.length c0, .string a1] rfl (by (try simp only [List.map_toArray, List.map_cons, List.map_nil]); first | done | rfl | (simp only [List.length_drop, List.length_take]; rfl)) ?_; (with_reducible refine (slices_Index_string_string.calls k _ _ l0 a1 t233 _ ?side1 ?side2 A3.out).mono ?_); (case side1 => repeat (first | exact HR0.out | (with_reducible refine Kd.C_alloc ?_ _) | (with_reducible refine Kd.C_drewN ?_ _) | (with_reducible refine Kd.C_drew ?_))); (case side2 => exact HC0.out); rintro e w' ⟨rfl, ⟨nd, rfl⟩⟩; refine ⟨_, rfl, ?_⟩))
  go_ret
  exact ⟨by first | rfl | (simp; done) | (simp [*]; done), by repeat (first | exact Drawn0.refl _ | apply Drawn0.step)⟩

-- NOT PRINTED: function 24 (impl_expr_atoms)

/-! ### impl_AtomsOf: function 9 -/
/-- A word is added, where it is not there. -/
def addLeaf (k : Nat) (l : List ByteArray) (u : ByteArray) : Option (List ByteArray) := (slices_Contains_string_string.f k l u).bind fun t => if t = true then some l else if l.length < 8796093022208 then some (l ++ [u]) else none
def addLeaves (k : Nat) : List ByteArray → List ByteArray → Option (List ByteArray)
  | l, [] => some l
  | l, u :: us => (addLeaf k l u).bind fun l' => addLeaves k l' us
theorem addLeaves_append (k : Nat) : ∀ (us vs l : List ByteArray), addLeaves k l (us ++ vs) = (addLeaves k l us).bind fun l' => addLeaves k l' vs
  | [], vs, l => rfl
  | u :: us, vs, l => by
    show (addLeaf k l u).bind (fun l' => addLeaves k l' (us ++ vs)) = ((addLeaf k l u).bind fun l' => addLeaves k l' us).bind fun l' => addLeaves k l' vs
    cases addLeaf k l u with
    | none => rfl
    | some l' => exact addLeaves_append k us vs l'
theorem addLeaf.mono (k : Nat) (l : List ByteArray) (u : ByteArray) : LeO (addLeaf k l u) (addLeaf (k + 1) l u) := LeO.bind (slices_Contains_string_string.mono _ _ _) (fun _ => LeO.refl _)
theorem addLeaves.mono (k : Nat) : ∀ us l, LeO (addLeaves k l us) (addLeaves (k + 1) l us)
  | [], l => LeO.refl _
  | u :: us, l => LeO.bind (addLeaf.mono k l u) (fun l' => addLeaves.mono k us l')
def APost (w0 w : World) (P : Nat → Prop) (r : List ByteArray) (e : Ending) (w' : World) : Prop :=
  ∃ v, e = .returned v ∧ Kd.R Kd.string 9 w' w0.heap.size (fun k_ => (P k_ ∨ w.heap.size ≤ k_)) v r ∧ Below w0.heap.size w0 w' ∧ Kept w w' P
set_option maxHeartbeats 8000000 in
set_option maxRecDepth 100000 in
theorem impl_expr_atoms.calls (k : Nat) (w0 W : World) (S : Nat → Prop) (v : Value) (ls : List ByteArray) (hL : Leaves W S v ls) : ∀ (w : World) (l r : List ByteArray) (P : Nat → Prop) (lv : Value), Mid S W w → (∀ g, S g → ¬ P g) → Below w0.heap.size w0 w → Kd.R Kd.string 9 w w0.heap.size P lv l → addLeaves k l ls = some r → Calls Try.prog 24 #[v, lv] w (APost w0 w P r) := by
  induction hL with
  | leaf u =>
    intro w l r P lv hM hS hB hO h
    obtain ⟨l', h1, h2⟩ := Option.bind_eq_some_iff.mp (show (addLeaf k l u).bind (fun l' => addLeaves k l' []) = some r from h)
    obtain rfl : l' = r := Option.some.inj h2
    obtain ⟨t, h3, h4⟩ := Option.bind_eq_some_iff.mp (show (slices_Contains_string_string.f k l u).bind (fun t => if t = true then some l else if l.length < 8796093022208 then some (l ++ [u]) else none) = some l' from h1)
    have hu32 := Try.underlying32
    have HC := Aside0.mk h3
    have HB := Aside0.mk hB
    have HO := Aside0.mk (show Kd.R Kd.string 9 w w0.heap.size (fun k_ => (P k_ ∨ w.heap.size ≤ k_)) lv l from Kd.R_mono hO (fun k_ hk => (.inl hk)))
    have HK := Aside0.mk (Kept.refl w P)
    obtain ⟨A, c, rfl⟩ := Kd.R_slice HO.out
    cases t with
    | true =>
      rw [if_pos rfl] at h4
      obtain rfl : l = l' := Option.some.inj h4
      clear h h1 h2 h3 h4 hM hS hB hO
      go_enter Try.func24, Try.ntmps24
      go_wp2_with (go_at_call 31; (with_reducible refine (slices_Contains_string_string.calls k _ _ l u true _ ?side1 ?side2 HC.out).mono ?_); (case side1 => repeat (first | exact (Kd.R_reads' HO.out).2.2 | (with_reducible refine Kd.C_alloc ?_ _) | (with_reducible refine Kd.C_drewN ?_ _) | (with_reducible refine Kd.C_drew ?_))); (case side2 => exact (Kd.R_reads' HO.out).2.1); rintro e w' ⟨rfl, ⟨nd, rfl⟩⟩)
      refine wp_loop_rounds 1 ?_
      rw [rounds_succ]
      go_wp2
      go_ret
      exact ⟨_, rfl, (by (with_reducible repeat (first | apply Kd.R_alloc | apply Kd.R_drewN | apply Kd.R_drew)); exact HO.out), (by repeat (first | (with_reducible first | exact HB.out | apply below_alloc | apply pw_below_drewN | apply below_drew1) | exact HB.out)), (by repeat (first | (with_reducible first | exact HK.out | apply Kept.alloc | apply Kept.drewN | apply Kept.drew) | exact HK.out))⟩
    | false =>
      rw [if_neg (show ¬ (false = true) by decide)] at h4
      by_cases hl : l.length < 8796093022208
      · rw [if_pos hl] at h4
        obtain rfl : l ++ [u] = l' := Option.some.inj h4
        have HL := Aside0.mk hl
        clear h h1 h2 h3 h4 hM hS hB hO hl
        go_enter Try.func24, Try.ntmps24
        go_wp2_with (first | (go_at_call 31; (with_reducible refine (slices_Contains_string_string.calls k _ _ l u false _ ?side1 ?side2 HC.out).mono ?_); (case side1 => repeat (first | exact (Kd.R_reads' HO.out).2.2 | (with_reducible refine Kd.C_alloc ?_ _) | (with_reducible refine Kd.C_drewN ?_ _) | (with_reducible refine Kd.C_drew ?_))); (case side2 => exact (Kd.R_reads' HO.out).2.1); rintro e w3 ⟨rfl, ⟨nd, hq⟩⟩; have hb0 : w3.cell? ⟨w.heap.size, 0, none⟩ = some (.string u) := (by subst hq; simp); have hz : w.heap.size < w3.heap.size := (by subst hq; simp); have n0_ : Aside0 (Below w0.heap.size w0 w3) := ⟨by subst hq; exact (by repeat (first | (with_reducible first | exact HB.out | apply below_alloc | apply pw_below_drewN | apply below_drew1) | exact HB.out))⟩; have n1_ : Aside0 (Kept w w3 P) := ⟨by subst hq; exact (by repeat (first | (with_reducible first | exact HK.out | apply Kept.alloc | apply Kept.drewN | apply Kept.drew) | exact HK.out))⟩; have n2_ : Aside0 (Kd.R Kd.string 9 w3 w0.heap.size (fun k_ => (P k_ ∨ w.heap.size ≤ k_)) (.slice A l.length c) l) := ⟨by subst hq; exact (by (with_reducible repeat (first | apply Kd.R_alloc | apply Kd.R_drewN | apply Kd.R_drew)); exact HO.out)⟩; clear HB; clear HK; clear HO; have HB := n0_; have HK := n1_; have HO := n2_; clear n0_ n1_ n2_ hq) | ((with_reducible refine gate_builtin (b := .append) (xs := #[.tmp 18, .tmp 21]) rfl ?_); go_loud (at_builtin; refine Kd.R_append Kd.string (w0 := w0) w0.heap.size rfl (.tmp 18) (.tmp 21) 22 9 (.string ⟨#[]⟩) 16 rfl Try.underlying22 info9 rfl (by decide) (by omega) (.slice A l.length c) l u [.string u] (fun k_ => (P k_ ∨ w.heap.size ≤ k_)) (fun _ => False) rfl rfl ?aP (fun _ hk => hk.elim) ?aF ?aO ?aB ?aS ?aL ?_; (case aP => exact rfl); (case aB => exact (by repeat (first | (with_reducible first | exact HB.out | apply below_alloc | apply pw_below_drewN | apply below_drew1) | exact HB.out))); (case aF => exact (fun k_ hk => (.inr (Nat.le_trans (show Kept w _ P from (by repeat (first | (with_reducible first | exact HK.out | apply Kept.alloc | apply Kept.drewN | apply Kept.drew) | exact HK.out))).1 hk)))); (case aO => exact (by (with_reducible repeat (first | apply Kd.R_alloc | apply Kd.R_drewN | apply Kd.R_drew)); exact HO.out)); (case aS => exact (below_size (by repeat (first | (with_reducible first | exact HB.out | apply below_alloc | apply pw_below_drewN | apply below_drew1) | exact HB.out)))); (case aL => have := HL.out; omega); intro v201 w8 ho hb hg hat; have n0_ := Aside0.mk hb; have n1_ := Aside0.mk (Kept.of_grown (S := P) hg (by repeat (first | (with_reducible first | exact HK.out | apply Kept.alloc | apply Kept.drewN | apply Kept.drew) | exact HK.out)) (fun k_ e_ => (HO.out.1 k_ e_))); have n2_ := Aside0.mk ho; clear HB; clear HK; clear HO; have HB := n0_; have HK := n1_; have HO := n2_; clear n0_ n1_ n2_; clear ho hb hg hat)))
        go_ret
        exact ⟨_, rfl, (by (with_reducible repeat (first | apply Kd.R_alloc | apply Kd.R_drewN | apply Kd.R_drew)); exact HO.out), (by repeat (first | (with_reducible first | exact HB.out | apply below_alloc | apply pw_below_drewN | apply below_drew1) | exact HB.out)), (by repeat (first | (with_reducible first | exact HK.out | apply Kept.alloc | apply Kept.drewN | apply Kept.drew) | exact HK.out))⟩
      · rw [if_neg hl] at h4
        cases h4
  | one u x s g l1 a hg hk ih =>
    intro w l r P lv hM hS hB hO h
    have hu32 := Try.underlying32
    have hgw := (hM g a).2.trans hg
    have hgs := (hM g a).1
    have ce0 : w.cell? ⟨g, 0, none⟩ = some (.string x) := (blk_cell hgw 0).trans rfl
    have ce1 : w.cell? ⟨g, 1, none⟩ = some s := (blk_cell hgw 1).trans rfl
    obtain ⟨ux, Ax, nx, cx, eqx⟩ := hk.form
    obtain ⟨rfl, rfl⟩ : x = ux ∧ s = .slice Ax nx cx := by simpa using eqx
    have HS : Aside0 ((∀ g, S g → ¬ P g) ∧ ∀ g, S g → g < w.heap.size) := ⟨hS, fun g h_ => (hM g h_).1⟩
    have HM := Aside0.mk hM
    have HE := Aside0.mk h
    have HB := Aside0.mk hB
    have HO := Aside0.mk (show Kd.R Kd.string 9 w w0.heap.size (fun k_ => (P k_ ∨ w.heap.size ≤ k_)) lv l from Kd.R_mono hO (fun k_ hk => (.inl hk)))
    have HK := Aside0.mk (Kept.refl w P)
    obtain ⟨A, c, rfl⟩ := Kd.R_slice HO.out
    clear h hM hS hB hO hgw hg hk eqx
    go_enter Try.func24, Try.ntmps24
    go_wp2
    refine wp_loop_rounds 2 ?_
    rw [rounds_succ]
    go_wp2_with (go_at_call 24; go_loud ((with_reducible refine (ih _ l r (fun k_ => (P k_ ∨ w.heap.size ≤ k_)) _ ?m1 ?m2 ?m3 ?m4 HE.out).mono ?_); (case m1 => exact (by repeat (first | exact HM.out | apply Mid.alloc | apply Mid.drewN))); (case m2 => exact fun g_ h_ => not_or.2 ⟨HS.out.1 g_ h_, by have := HS.out.2 g_ h_; omega⟩); (case m3 => exact (by repeat (first | (with_reducible first | exact HB.out | apply below_alloc | apply pw_below_drewN | apply below_drew1) | exact HB.out))); (case m4 => exact (by (with_reducible repeat (first | apply Kd.R_alloc | apply Kd.R_drewN | apply Kd.R_drew)); exact HO.out)); rintro e w4 ⟨v4, rfl, ho, hb, hk⟩; have n0_ := Aside0.mk hb; have n1_ : Aside0 (Kept w w4 P) := ⟨Kept.then_ (by repeat (first | (with_reducible first | exact HK.out | apply Kept.alloc | apply Kept.drewN | apply Kept.drew) | exact HK.out)) hk (fun _ h_ => h_)⟩; have n2_ : Aside0 (Kd.R Kd.string 9 w4 w0.heap.size (fun k_ => (P k_ ∨ w.heap.size ≤ k_)) v4 r) := ⟨Kd.R_mono ho (fun k_ h_ => h_.elim id (fun h2_ => .inr (Nat.le_trans (show Kept w _ P from (by repeat (first | (with_reducible first | exact HK.out | apply Kept.alloc | apply Kept.drewN | apply Kept.drew) | exact HK.out))).1 h2_)))⟩; have n3_ : Aside0 (Mid S W w4) := ⟨fun g_ h_ => ⟨Nat.lt_of_lt_of_le (HM.out g_ h_).1 n1_.out.1, (n1_.out.2 g_ (HM.out g_ h_).1 (HS.out.1 g_ h_)).trans (HM.out g_ h_).2⟩⟩; clear HB; clear HK; clear HO; have HB := n0_; have HK := n1_; have HO := n2_; have HM4 := n3_; clear n0_ n1_ n2_ n3_; clear ho hb hk))
    rw [rounds_succ]
    go_wp2
    go_ret
    exact ⟨_, rfl, (by (with_reducible repeat (first | apply Kd.R_alloc | apply Kd.R_drewN | apply Kd.R_drew)); exact HO.out), (by repeat (first | (with_reducible first | exact HB.out | apply below_alloc | apply pw_below_drewN | apply below_drew1) | exact HB.out)), (by repeat (first | (with_reducible first | exact HK.out | apply Kept.alloc | apply Kept.drewN | apply Kept.drew) | exact HK.out))⟩
  | two u x y s t g l1 l2 a hg hk hk2 ih ih2 =>
    intro w l r P lv hM hS hB hO h
    rw [addLeaves_append] at h
    obtain ⟨lm, h1, h2⟩ := Option.bind_eq_some_iff.mp h
    have hu32 := Try.underlying32
    have hgw := (hM g a).2.trans hg
    have hgs := (hM g a).1
    have ce0 : w.cell? ⟨g, 0, none⟩ = some (.string x) := (blk_cell hgw 0).trans rfl
    have ce1 : w.cell? ⟨g, 1, none⟩ = some s := (blk_cell hgw 1).trans rfl
    obtain ⟨ux, Ax, nx, cx, eqx⟩ := hk.form
    obtain ⟨rfl, rfl⟩ : x = ux ∧ s = .slice Ax nx cx := by simpa using eqx
    obtain ⟨uy, Ay, ny, cy, eqy⟩ := hk2.form
    obtain ⟨rfl, rfl⟩ : y = uy ∧ t = .slice Ay ny cy := by simpa using eqy
    have HS : Aside0 ((∀ g, S g → ¬ P g) ∧ ∀ g, S g → g < w.heap.size) := ⟨hS, fun g h_ => (hM g h_).1⟩
    have HM := Aside0.mk hM
    have HG := Aside0.mk hg
    have HE1 := Aside0.mk h1
    have HE2 := Aside0.mk h2
    have HB := Aside0.mk hB
    have HO := Aside0.mk (show Kd.R Kd.string 9 w w0.heap.size (fun k_ => (P k_ ∨ w.heap.size ≤ k_)) lv l from Kd.R_mono hO (fun k_ hk => (.inl hk)))
    have HK := Aside0.mk (Kept.refl w P)
    obtain ⟨A, c, rfl⟩ := Kd.R_slice HO.out
    clear h h1 h2 hM hS hB hO hgw hg hk eqx hk2 eqy
    go_enter Try.func24, Try.ntmps24
    go_wp2
    refine wp_loop_rounds 3 ?_
    rw [rounds_succ]
    go_wp2_with (go_at_call 24; go_loud ((with_reducible refine (ih _ l lm (fun k_ => (P k_ ∨ w.heap.size ≤ k_)) _ ?m1 ?m2 ?m3 ?m4 HE1.out).mono ?_); (case m1 => exact (by repeat (first | exact HM.out | apply Mid.alloc | apply Mid.drewN))); (case m2 => exact fun g_ h_ => not_or.2 ⟨HS.out.1 g_ h_, by have := HS.out.2 g_ h_; omega⟩); (case m3 => exact (by repeat (first | (with_reducible first | exact HB.out | apply below_alloc | apply pw_below_drewN | apply below_drew1) | exact HB.out))); (case m4 => exact (by (with_reducible repeat (first | apply Kd.R_alloc | apply Kd.R_drewN | apply Kd.R_drew)); exact HO.out)); rintro e w4 ⟨v4, rfl, ho, hb, hk⟩; have n0_ := Aside0.mk hb; have n1_ : Aside0 (Kept w w4 P) := ⟨Kept.then_ (by repeat (first | (with_reducible first | exact HK.out | apply Kept.alloc | apply Kept.drewN | apply Kept.drew) | exact HK.out)) hk (fun _ h_ => h_)⟩; have n2_ : Aside0 (Kd.R Kd.string 9 w4 w0.heap.size (fun k_ => (P k_ ∨ w.heap.size ≤ k_)) v4 lm) := ⟨Kd.R_mono ho (fun k_ h_ => h_.elim id (fun h2_ => .inr (Nat.le_trans (show Kept w _ P from (by repeat (first | (with_reducible first | exact HK.out | apply Kept.alloc | apply Kept.drewN | apply Kept.drew) | exact HK.out))).1 h2_)))⟩; have n3_ : Aside0 (Mid S W w4) := ⟨fun g_ h_ => ⟨Nat.lt_of_lt_of_le (HM.out g_ h_).1 n1_.out.1, (n1_.out.2 g_ (HM.out g_ h_).1 (HS.out.1 g_ h_)).trans (HM.out g_ h_).2⟩⟩; clear HB; clear HK; clear HO; have HB := n0_; have HK := n1_; have HO := n2_; have HM4 := n3_; clear n0_ n1_ n2_ n3_; clear ho hb hk))
    have hgw4 := (HM4.out g a).2.trans HG.out
    have hgs4 := (HM4.out g a).1
    have ce2 : w4.cell? ⟨g, 2, none⟩ = some (.string y) := (blk_cell hgw4 2).trans rfl
    have ce3 : w4.cell? ⟨g, 3, none⟩ = some (.slice Ay ny cy) := (blk_cell hgw4 3).trans rfl
    clear hgw4 HM
    have HM := HM4
    have HS4 : Aside0 (∀ g, S g → g < w4.heap.size) := ⟨fun g h_ => (HM4.out g h_).1⟩
    clear HM4
    rw [rounds_succ]
    go_wp2_with (go_at_call 24; go_loud ((with_reducible refine (ih2 _ lm r (fun k_ => (P k_ ∨ w.heap.size ≤ k_)) _ ?m1 ?m2 ?m3 ?m4 HE2.out).mono ?_); (case m1 => exact (by repeat (first | exact HM.out | apply Mid.alloc | apply Mid.drewN))); (case m2 => exact fun g_ h_ => not_or.2 ⟨HS.out.1 g_ h_, by have := HS.out.2 g_ h_; omega⟩); (case m3 => exact (by repeat (first | (with_reducible first | exact HB.out | apply below_alloc | apply pw_below_drewN | apply below_drew1) | exact HB.out))); (case m4 => exact (by (with_reducible repeat (first | apply Kd.R_alloc | apply Kd.R_drewN | apply Kd.R_drew)); exact HO.out)); rintro e w5 ⟨v4, rfl, ho, hb, hk⟩; have n0_ := Aside0.mk hb; have n1_ : Aside0 (Kept w w5 P) := ⟨Kept.then_ (by repeat (first | (with_reducible first | exact HK.out | apply Kept.alloc | apply Kept.drewN | apply Kept.drew) | exact HK.out)) hk (fun _ h_ => h_)⟩; have n2_ : Aside0 (Kd.R Kd.string 9 w5 w0.heap.size (fun k_ => (P k_ ∨ w.heap.size ≤ k_)) v4 r) := ⟨Kd.R_mono ho (fun k_ h_ => h_.elim id (fun h2_ => .inr (Nat.le_trans (show Kept w _ P from (by repeat (first | (with_reducible first | exact HK.out | apply Kept.alloc | apply Kept.drewN | apply Kept.drew) | exact HK.out))).1 h2_)))⟩; clear HB; clear HK; clear HO; have HB := n0_; have HK := n1_; have HO := n2_; clear n0_ n1_ n2_; clear ho hb hk))
    rw [rounds_succ]
    go_wp2
    go_ret
    exact ⟨_, rfl, (by (with_reducible repeat (first | apply Kd.R_alloc | apply Kd.R_drewN | apply Kd.R_drew)); exact HO.out), (by repeat (first | (with_reducible first | exact HB.out | apply below_alloc | apply pw_below_drewN | apply below_drew1) | exact HB.out)), (by repeat (first | (with_reducible first | exact HK.out | apply Kept.alloc | apply Kept.drewN | apply Kept.drew) | exact HK.out))⟩
def impl_AtomsOf.f (k : Nat) (a0 : ByteArray) : Option (List ByteArray) := (impl_readExpr.f k a0).bind fun t => if t.2 = true then addLeaves k [] t.1 else some []
theorem impl_AtomsOf.mono : ∀ a0 k, LeO (impl_AtomsOf.f k a0) (impl_AtomsOf.f (k + 1) a0) := by
  intro a0 k
  unfold impl_AtomsOf.f
  exact LeO.bind (impl_readExpr.mono _ _) (fun _ => LeO.ite (addLeaves.mono _ _ _) (LeO.refl _))
set_option maxHeartbeats 8000000 in
set_option maxRecDepth 100000 in
theorem impl_AtomsOf.calls (k : Nat) (a0 : ByteArray) (r : List ByteArray) (w : World) (h : impl_AtomsOf.f k a0 = some r) :
    Calls Try.prog 9 #[.string a0] w fun e w' => ∃ v0_ : Value, e = .returned (v0_) ∧ Kd.R Kd.string 9 w' w.heap.size (fun _ => True) v0_ r ∧ Below w.heap.size w w' := by
  have hu32 := Try.underlying32
  obtain ⟨⟨ls, ok⟩, h1, h2⟩ := Option.bind_eq_some_iff.mp h
  have HR := Aside0.mk (impl_readExpr.calls k a0 ls ok w h1)
  cases ok with
  | true =>
    have HE : Aside0 (addLeaves k [] ls = some r) := ⟨by simpa using h2⟩
    clear h h1 h2
    go_enter Try.func9, Try.ntmps9
    go_wp2_with (first | (go_at_call 23; (with_reducible refine HR.out.mono ?_); rintro e w3 ⟨v, rfl, hL, hb⟩; obtain ⟨u, A, n, c, rfl⟩ := hL.form; have HL := Aside0.mk hL; have B3 := Aside0.mk hb; clear hL hb) | (go_at_call 24; (with_reducible refine (impl_expr_atoms.calls k w w3 _ _ ls HL.out _ [] r (fun _ => False) _ ?m1 ?m2 ?m3 ?m4 HE.out).mono ?_); (case m1 => exact (Mid.refl (fun _ h_ => h_.lt)).alloc _); (case m2 => exact fun _ _ h_ => h_); (case m3 => exact below_alloc B3.out _); (case m4 => exact Kd.R_nil _ _ _ _ _); rintro e w5 ⟨v5, rfl, ho, hb, hk⟩; have HO := Aside0.mk ho; have HB := Aside0.mk hb; clear ho hb hk))
    go_ret
    exact ⟨_, rfl, Kd.R_mono HO.out (fun _ _ => trivial), HB.out⟩
  | false =>
    obtain rfl : [] = r := by simpa using h2
    clear h h1 h2
    go_enter Try.func9, Try.ntmps9
    go_wp2_with (go_at_call 23; (with_reducible refine HR.out.mono ?_); rintro e w3 ⟨v, rfl, hL, hb⟩; obtain ⟨u, A, n, c, rfl⟩ := hL.form; have B3 := Aside0.mk hb; clear hL hb)
    go_ret
    exact ⟨_, rfl, Kd.R_nil _ _ _ _ _, below_alloc B3.out _⟩

end Go.Proofs.Ytgmmeijanhfigaa.OFnExactAtomsOf

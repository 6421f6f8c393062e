/- Plain words for the pure statements of this seat: 'from some number of rounds on, the printed function answers r, and P r' (EvP), rounds of loops over lists, machine sums in range. No conditions. -/
import Derived.Test.YtfpoihcpjmkbkaaWWords
namespace Go.Proofs.Ytfpoihcpjmkbkaa.Base
open Go.RowKit Go.Proofs.YtfpoihcpjmkbkaaW.PrintWords

theorem wrap_id {x : Int} (h1 : -9223372036854775808 ≤ x) (h2 : x ≤ 9223372036854775807) : wrap64 x = x := by
  unfold wrap64
  omega

/-- From some number of rounds on: an answer, and P of it. -/
def EvP {α : Type} (g : Nat → Option α) (P : α → Prop) : Prop := ∃ r, Ev g r ∧ P r

theorem EvP.now {α : Type} {P : α → Prop} {a : α} (h : P a) : EvP (fun _ => some a) P := ⟨a, Ev.now a, h⟩
theorem EvP.mono {α : Type} {P Q : α → Prop} {g : Nat → Option α} (h : EvP g P) (k : ∀ a, P a → Q a) : EvP g Q := by
  obtain ⟨r, h1, h2⟩ := h
  exact ⟨r, h1, k r h2⟩
theorem EvP.bind {α β : Type} {g : Nat → Option α} {f : Nat → α → Option β} {P : α → Prop} {Q : β → Prop} (h : EvP g P) (k : ∀ a, P a → EvP (fun n => f n a) Q) : EvP (fun n => (g n).bind (f n)) Q := by
  obtain ⟨a, h1, h2⟩ := h
  obtain ⟨r, k1, k2⟩ := k a h2
  exact ⟨r, Ev.bind h1 k1, k2⟩
theorem EvP.map {α β : Type} {g : Nat → Option α} {f : α → β} {P : α → Prop} {Q : β → Prop} (h : EvP g P) (k : ∀ a, P a → Q (f a)) : EvP (fun n => (g n).map f) Q := by
  obtain ⟨a, ⟨K, h1⟩, h2⟩ := h
  refine ⟨f a, ⟨K, fun n hn => ?_⟩, k a h2⟩
  show (g n).map f = some (f a)
  rw [h1 n hn]
  rfl
theorem EvP.succ {α : Type} {g : Nat → Option α} {P : α → Prop} (h : EvP (fun k => g (k + 1)) P) : EvP g P := by
  obtain ⟨r, h1, h2⟩ := h
  exact ⟨r, Ev.step (fun _ => rfl) h1, h2⟩
theorem EvP.pos {α : Type} {c : Prop} [Decidable c] {f g : Nat → Option α} {P : α → Prop} (h : c) (k : EvP f P) : EvP (fun n => if c then f n else g n) P := by
  simp only [h, if_true]
  exact k
theorem EvP.neg {α : Type} {c : Prop} [Decidable c] {f g : Nat → Option α} {P : α → Prop} (h : ¬ c) (k : EvP g P) : EvP (fun n => if c then f n else g n) P := by
  simp only [h, if_false]
  exact k
theorem EvP.ite {α : Type} {c : Prop} [Decidable c] {f g : Nat → Option α} {P : α → Prop} (h1 : c → EvP f P) (h2 : ¬ c → EvP g P) : EvP (fun n => if c then f n else g n) P := by
  by_cases h : c
  · exact EvP.pos h (h1 h)
  · exact EvP.neg h (h2 h)
theorem EvP.rounds {α : Type} {g : Nat → Option α} {r : α} (h : EvP g (· = r)) : ∃ k, g k = some r := by
  obtain ⟨a, h1, rfl⟩ := h
  exact h1.rounds
theorem EvP.eq {α : Type} {g : Nat → Option α} {r : α} {P : α → Prop} (h : EvP g (· = r)) (hp : P r) : EvP g P := h.mono fun a ha => by rw [ha]; exact hp

theorem getD_at {α : Type} {xs pre rest : List α} {x : α} (h : xs = pre ++ x :: rest) (d : α) : xs.getD (pre.length : Int).toNat d = x := by
  subst h
  simp
theorem len_at {α : Type} {xs pre rest : List α} {x : α} (h : xs = pre ++ x :: rest) : (pre.length : Int) < (xs.length : Int) := by
  subst h
  simp
  omega
theorem len_snoc {α : Type} (pre : List α) (x : α) : ((pre ++ [x]).length : Int) = (pre.length : Int) + 1 := by simp
theorem wrap_at {α : Type} {xs pre rest : List α} {x : α} (h : xs = pre ++ x :: rest) (hn : (xs.length : Int) ≤ 9223372036854775807) : wrap64 ((pre.length : Int) + 1) = ((pre ++ [x]).length : Int) := by
  have := len_at h
  rw [len_snoc, wrap_id (by omega) (by omega)]
theorem nat_nonneg (n : Nat) : (0 : Int) ≤ (n : Int) := Int.natCast_nonneg n

/-- A loop over a list by its index: an invariant over what has been read. -/
theorem EvP.range {α β σ : Type} (L : Nat → σ → Int → Option β) (xs : List α) (Inv : List α → σ → Prop) {P : β → Prop}
    (step : ∀ pre x rest s, xs = pre ++ x :: rest → Inv pre s → (∀ s', Inv (pre ++ [x]) s' → EvP (fun k => L k s' ((pre ++ [x]).length : Int)) P) → EvP (fun k => L (k + 1) s (pre.length : Int)) P)
    (done : ∀ s, Inv xs s → EvP (fun k => L (k + 1) s (xs.length : Int)) P) (s : σ) (h : Inv [] s) : EvP (fun k => L k s 0) P := by
  have key : ∀ (rest pre : List α) (s : σ), xs = pre ++ rest → Inv pre s → EvP (fun k => L k s (pre.length : Int)) P := by
    intro rest
    induction rest with
    | nil =>
      intro pre s hx hi
      have : xs = pre := by simpa using hx
      subst this
      exact EvP.succ (done s hi)
    | cons x rest ih =>
      intro pre s hx hi
      exact EvP.succ (step pre x rest s hx hi (fun s' hi' => ih (pre ++ [x]) s' (by simpa using hx) hi'))
  exact key xs [] s rfl h

/-- A loop that counts down from n. -/
theorem EvP.down {β σ : Type} (L : Nat → σ → Int → Option β) (Inv : Int → σ → Prop) {P : β → Prop}
    (step : ∀ (n : Int) s, 0 < n → Inv n s → (∀ s', Inv (n - 1) s' → EvP (fun k => L k s' (n - 1)) P) → EvP (fun k => L (k + 1) s n) P)
    (done : ∀ (n : Int) s, n ≤ 0 → Inv n s → EvP (fun k => L (k + 1) s n) P) (n : Int) (s : σ) (h : Inv n s) : EvP (fun k => L k s n) P := by
  have key : ∀ (m : Nat) (n : Int) (s : σ), n.toNat = m → Inv n s → EvP (fun k => L k s n) P := by
    intro m
    induction m with
    | zero =>
      intro n s hn hi
      exact EvP.succ (done n s (by omega) hi)
    | succ m ih =>
      intro n s hn hi
      exact EvP.succ (step n s (by omega) hi (fun s' hi' => ih (n - 1) s' (by omega) hi'))
  exact key n.toNat n s rfl h

/-- A list that is filled from its begin on. -/
theorem set_at {α β : Type} (f : α → β) (pre : List α) (x : α) (n : Nat) (z : β) : (pre.map f ++ List.replicate (n + 1) z).set (pre.length : Int).toNat (f x) = (pre ++ [x]).map f ++ List.replicate n z := by
  rw [Int.toNat_natCast, List.replicate_succ, List.set_append_right _ _ (by simp)]
  simp
theorem rest_at {α : Type} {xs pre rest : List α} {x : α} (h : xs = pre ++ x :: rest) : xs.length - pre.length = (xs.length - (pre ++ [x]).length) + 1 := by
  subst h
  simp
  omega
/-- toX over a list: the loop that fills. -/
theorem EvP.fill {α β : Type} (L : Nat → List β → Int → Option (List β)) (xs : List α) (f : α → β) (z : β)
    (step : ∀ pre x rest s, xs = pre ++ x :: rest → s.length = xs.length → (EvP (fun k => L k (s.set (pre.length : Int).toNat (f x)) ((pre ++ [x]).length : Int)) (· = xs.map f)) → EvP (fun k => L (k + 1) s (pre.length : Int)) (· = xs.map f))
    (done : ∀ s, EvP (fun k => L (k + 1) s (xs.length : Int)) (· = s)) : EvP (fun k => L k (List.replicate xs.length z) 0) (· = xs.map f) := by
  refine EvP.range (L := L) (xs := xs) (Inv := fun pre s => s = pre.map f ++ List.replicate (xs.length - pre.length) z) ?_ ?_ _ (by simp)
  · rintro pre x rest s hx rfl ih
    have hr := rest_at hx
    refine step pre x rest _ hx ?_ (ih _ ?_)
    · simp
      have := len_at hx
      omega
    · rw [hr, set_at]
  · rintro s rfl
    refine (done _).mono ?_
    rintro _ rfl
    simp

/-- A loop by its index up to n. -/
theorem EvP.upto {β σ : Type} (L : Nat → σ → Int → Option β) (n : Nat) (Inv : Nat → σ → Prop) {P : β → Prop}
    (step : ∀ (i : Nat) s, i < n → Inv i s → (∀ s', Inv (i + 1) s' → EvP (fun k => L k s' ((i : Int) + 1)) P) → EvP (fun k => L (k + 1) s (i : Int)) P)
    (done : ∀ s, Inv n s → EvP (fun k => L (k + 1) s (n : Int)) P) (s : σ) (h : Inv 0 s) : EvP (fun k => L k s 0) P := by
  have key : ∀ (d i : Nat) (s : σ), n - i = d → i ≤ n → Inv i s → EvP (fun k => L k s (i : Int)) P := by
    intro d
    induction d with
    | zero =>
      intro i s hd hi hv
      have : i = n := by omega
      subst this
      exact EvP.succ (done s hv)
    | succ d ih =>
      intro i s hd hi hv
      exact EvP.succ (step i s (by omega) hv (fun s' hs' => ih (i + 1) s' (by omega) (by omega) hs'))
  exact key n 0 s (by omega) (by omega) h
theorem take_set {α : Type} (l : List α) (i : Nat) (v : α) (h : i < l.length) : (l.set i v).take (i + 1) = l.take i ++ [v] := by
  rw [List.take_add_one, List.take_set_of_le (by omega), List.getElem?_set_self h]
  rfl
/-- What a printed function comes to, where it ends. -/
noncomputable def endOf {α : Type} (d : α) (g : Nat → Option α) : α := open Classical in if h : ∃ r, Ev g r then Classical.choose h else d
theorem Ev.unique {α : Type} {g : Nat → Option α} {r q : α} (h : Ev g r) (k : Ev g q) : r = q := by
  obtain ⟨K, h⟩ := h
  obtain ⟨M, k⟩ := k
  have h1 := h (max K M) (by omega)
  rw [k (max K M) (by omega)] at h1
  exact (Option.some.inj h1).symm
theorem EvP.ended {α : Type} (d : α) {g : Nat → Option α} {P : α → Prop} (h : EvP g P) : EvP g (· = endOf d g) := by
  obtain ⟨r, h1, _⟩ := h
  refine ⟨r, h1, ?_⟩
  have e : ∃ r, Ev g r := ⟨r, h1⟩
  unfold endOf
  rw [dif_pos e]
  exact Ev.unique h1 (Classical.choose_spec e)

theorem snoc_ind {α : Type} {P : List α → Prop} (nil : P []) (snoc : ∀ l x, P l → P (l ++ [x])) (l : List α) : P l := by
  have key : ∀ r : List α, P r.reverse := by
    intro r
    induction r with
    | nil => exact nil
    | cons x r ih =>
      rw [List.reverse_cons]
      exact snoc _ _ ih
  have := key l.reverse
  rwa [List.reverse_reverse] at this

end Go.Proofs.Ytfpoihcpjmkbkaa.Base

-- Written by a program of this session (the kit's printing program with additions of this session's own); Lean checks it.
import Derived.Test.YtboppbejnadpmaaOFnTestIdx0
import Derived.Test.YtboppbejnadpmaaOFnTestIdx1
import Derived.Test.YtboppbejnadpmaaOFnTestIdx2
import Derived.Test.YtboppbejnadpmaaOFnTestIdx5
namespace Go.Proofs.Ytboppbejnadpmaa.OFnTestId
open Go.RowKit Go.Proofs.YtboppbejnadpmaaW.PrintWords Go.Proofs.YtboppbejnadpmaaW.PrintLast Go.Proofs.YtboppbejnadpmaaW.PrintMore
attribute [local go_sem] max2_int min2_int max_two min_two max_three min_three max_four min_four   -- for this text's walks alone
set_option linter.unusedVariables false
set_option linter.unusedSimpArgs false

/-! ### impl_FindTest: function 16 -/
set_option maxHeartbeats 8000000 in
set_option maxRecDepth 100000 in
theorem impl_FindTest1.calls (a b : ByteArray) (A2 : Option Addr) (c2 : Nat) (l2 : List ByteArray) (A3 : Option Addr) (c3 : Nat) (l3 : List ByteArray) (id r : ByteArray) (B : Nat) (w : World) (hr2 : Kd.C Kd.string w A2 l2.length l2) (hc2 : l2.length ≤ c2) (hr3 : Kd.C Kd.string w A3 l3.length l3) (hc3 : l3.length ≤ c3) (hB : B < w.heap.size) (hid : w.cell? ⟨B, 0, none⟩ = some (.string id)) (h : impl_idOf.f a b l2 l3 = some r) :
  Calls Try.prog 35 #[.agg #[.string a, .string b, .slice A2 l2.length c2, .slice A3 l3.length c3], .pointer (some ⟨B, 0, none⟩)] w fun e w' => e = .returned (.bool (r.toList == id.toList)) ∧ Below w.heap.size w w' := by
 have hne : B ≠ w.heap.size := by omega
 go_enter Try.func35, Try.ntmps35
 go_wp2
 generalize hw1 : w.alloc (.cells #[.string a, .string b, .slice A2 l2.length c2, .slice A3 l3.length c3] 31) = w1
 have hb1 : Below w.heap.size w w1 := by rw [← hw1]; exact (Below.refl _ w).alloc (Nat.le_refl _) _
 have h2 : Kd.C Kd.string w1 A2 l2.length l2 := by rw [← hw1]; exact Kd.C_alloc hr2 _
 have h3 : Kd.C Kd.string w1 A3 l3.length l3 := by rw [← hw1]; exact Kd.C_alloc hr3 _
 have hid1 : w1.cell? ⟨B, 0, none⟩ = some (.string id) := by rw [← hw1]; exact Lib.cell?_alloc_some _ hid
 have hs : w.heap.size < w1.heap.size := by rw [← hw1]; simp
 have g0 : w1.cell? ⟨w.heap.size, 0, none⟩ = some (.string a) := by rw [← hw1]; simp
 have g1 : w1.cell? ⟨w.heap.size, 1, none⟩ = some (.string b) := by rw [← hw1]; simp
 have g2 : w1.cell? ⟨w.heap.size, 2, none⟩ = some (.slice A2 l2.length c2) := by rw [← hw1]; simp
 have g3 : w1.cell? ⟨w.heap.size, 3, none⟩ = some (.slice A3 l3.length c3) := by rw [← hw1]; simp
 have e1 : Below w.heap.size w w1.drew := hb1.drew
 have e2 : Below w1.heap.size w1 w1.drew := (Below.refl _ _).drew
 go_region_held3 (fun w' => Below w.heap.size w w' ∧ Below w1.heap.size w1 w' ∧ w'.cell? ⟨B, 0, none⟩ = some (.string id) ∧ w'.cell? ⟨w.heap.size, 0, none⟩ = some (.string a) ∧ w'.cell? ⟨w.heap.size, 1, none⟩ = some (.string b) ∧ w'.cell? ⟨w.heap.size, 2, none⟩ = some (.slice A2 l2.length c2) ∧ w'.cell? ⟨w.heap.size, 3, none⟩ = some (.slice A3 l3.length c3)) (first | go_keep | (simp_all; done) | (repeat' apply And.intro) <;> (first | assumption | exact hb1.drew | exact (Below.refl _ _).drew))
  (first | (go_at_call 28; refine (impl_idOf.calls a b A2 c2 l2 A3 c3 l3 r _ (Kd.C_drew h2) hc2 (Kd.C_drew h3) hc3 h).mono ?_; rintro e w' ⟨rfl, hb⟩; have hb' : Below w1.heap.size w1 w' := e2.trans hb; have f0 := (hb'.cell (p := ⟨B, 0, none⟩) (by have := hs; simp; omega)).trans hid1; have f1 := (hb'.cell (p := ⟨w.heap.size, 0, none⟩) hs).trans g0; have f2 := (hb'.cell (p := ⟨w.heap.size, 1, none⟩) hs).trans g1; have f3 := (hb'.cell (p := ⟨w.heap.size, 2, none⟩) hs).trans g2; have f4 := (hb'.cell (p := ⟨w.heap.size, 3, none⟩) hs).trans g3; have f5 : Below w.heap.size w w' := hb1.trans (hb'.mono hb1.size)))
 go_wp2
 go_ret
 exact ⟨rfl, by first | assumption | (simp_all; done)⟩
/-- The place of the first test of an id, from place x on. -/
def impl_Test.l0 (xs : List S31) (id : ByteArray) : Nat → Int → Option Int
 | 0, _ => none
 | n + 1, x => if x < (xs.length : Int) then (if 0 ≤ x then ((impl_idOf.f (rd_T31 xs x).f0 (rd_T31 xs x).f1 (rd_T31 xs x).f2 (rd_T31 xs x).f3).bind fun t => if t.toList = id.toList then some x else impl_Test.l0 xs id n (wrap64 (x + 1))) else none) else some (-1)
set_option maxHeartbeats 8000000 in
set_option maxRecDepth 100000 in
theorem impl_Test.calls (A : Option Addr) (c : Nat) (xs : List S31) (id : ByteArray) (B : Nat) (r : Int) (k : Nat) (w : World) (hx : Kd.C k31 w A xs.length xs) (hc : xs.length ≤ c) (hB : B < w.heap.size) (hid : w.cell? ⟨B, 0, none⟩ = some (.string id)) (h : impl_Test.l0 xs id k 0 = some r) :
  Calls Try.prog 34 #[.slice A xs.length c, .func (.func 35) #[] #[.pointer (some ⟨B, 0, none⟩)]] w fun e w' => e = .returned (.int .i64 r) ∧ Below w.heap.size w w' := by
 have hu31 := Try.underlying31
 have HR0 := ak hx
 have HC0 := ak hc
 have HI0 := ak hid
 have HB0 := ak hB
 have H' := ak h
 clear hx hc hid hB h
 have HB := ak (Below.refl w.heap.size w)
 go_enter Try.func34, Try.ntmps34
 go_wp2
 go_loopg [5, 8] k (fun gg _ s8 wr => ∃ x : Int, s8 = .int .i64 x ∧ Aside0 (impl_Test.l0 xs id gg x = some r) ∧ Aside0 (Below w.heap.size w wr))
 case atStart => exact ⟨0, rfl, H', HB⟩
 case round =>
  clear H' HB
  obtain ⟨x, rfl, HA, HB⟩ := hrel
  cases gk with
  | zero => exact absurd HA.out (by simp [impl_Test.l0])
  | succ k1 =>
   have H := HA.out
   clear HA
   rw [impl_Test.l0] at H
   by_cases c4 : x < (xs.length : Int)
   ·rw [if_pos c4] at H
    have c4b0 : decide (x < (xs.length : Int)) = true := decide_eq_true c4
    by_cases c5 : 0 ≤ x
    ·rw [if_pos c5] at H
     have c5b0 : decide (0 ≤ x) = true := decide_eq_true c5
     obtain ⟨t, ht, hif⟩ := Option.bind_eq_some_iff.mp H
     clear H
     obtain ⟨ad, A2, c2, A3, c3, e0, hx0, hx1, hx2, hx3, hl2, hi2, hl3, hi3⟩ := at_T31 HR0.out x c5 c4
     cases e0
     replace hx0 := (HB.out.cell (World.block_lt_of_cell? w _ hx0)).trans hx0
     replace hx1 := (HB.out.cell (World.block_lt_of_cell? w _ hx1)).trans hx1
     replace hx2 := (HB.out.cell (World.block_lt_of_cell? w _ hx2)).trans hx2
     replace hx3 := (HB.out.cell (World.block_lt_of_cell? w _ hx3)).trans hx3
     have hcall := ak (impl_FindTest1.calls _ _ A2 c2 _ A3 c3 _ id t B wr (Kd.C_below hi2 HB.out) hl2 (Kd.C_below hi3 HB.out) hl3 (Nat.lt_of_lt_of_le HB0.out HB.out.size) ((HB.out.cell (p := ⟨B, 0, none⟩) HB0.out).trans HI0.out) ht)
     have HI := ak hif
     have c5p := eq_true c5
     have c4p := eq_true c4
     clear hif ht c4 c5 hl2 hi2 hl3 hi3
     by_cases e : t.toList = id.toList
     ·have hq : (t.toList == id.toList) = true := beq_iff_eq.mpr e
      rw [hq] at hcall
      have E := ak e
      clear e hq
      go_wp2_with (go_at_call 35; refine hcall.out.mono ?_; rintro e w' ⟨rfl, hb'⟩)
      go_ret
      have := HI.out
      rw [if_pos E.out] at this
      exact ⟨by cases this; rfl, HB.out.trans (hb'.mono HB.out.size)⟩
     ·have hq : (t.toList == id.toList) = false := beq_eq_false_iff_ne.mpr e
      rw [hq] at hcall
      have E := ak e
      clear e hq
      go_wp2_with (go_at_call 35; refine hcall.out.mono ?_; rintro e w' ⟨rfl, hb'⟩)
      have h1 := HI.out
      rw [if_neg E.out] at h1
      go_roundg k1
      case measure => omega
      case rel => exact ⟨wrap64 (x + 1), by first | rfl | (simp; done) | (simp [*]; done), ⟨h1⟩, ⟨HB.out.trans (hb'.mono HB.out.size)⟩⟩
    ·rw [if_neg c5] at H
     cases H
   ·rw [if_neg c4] at H
    have c4b0 : decide (x < (xs.length : Int)) = false := decide_eq_false c4
    clear c4
    obtain rfl := Option.some.inj H
    clear H
    go_wp2
    go_ret
    exact ⟨rfl, HB.out⟩
def impl_FindTest.f (k : Nat) (l0 : List (S31)) (a1 : ByteArray) : Option (Int) := (impl_ValidTests.f k l0).bind fun t => if t = true then impl_Test.l0 l0 a1 (l0.length + 1) 0 else (some (-1))
theorem impl_FindTest.mono : ∀ a0 a1 k, LeO (impl_FindTest.f k a0 a1) (impl_FindTest.f (k + 1) a0 a1) := by
 intro a0 a1 k
 unfold impl_FindTest.f
 exact LeO.bind (impl_ValidTests.mono _ _) (fun _ => LeO.refl _)
set_option maxHeartbeats 8000000 in
set_option maxRecDepth 100000 in
theorem impl_FindTest.calls (k : Nat) (A0 : Option Addr) (c0 : Nat) (l0 : List (S31)) (a1 : ByteArray) (r : Int) (w : World) (hr0 : Kd.C k31 w A0 l0.length l0) (hc0 : l0.length ≤ c0) (h : impl_FindTest.f k l0 a1 = some r) :
  Calls Try.prog 16 #[.slice A0 l0.length c0, .string a1] w fun e w' => e = .returned (.int .i64 r) ∧ Below w.heap.size w w' := by
 obtain ⟨t, ht, h2⟩ := Option.bind_eq_some_iff.mp h
 clear h
 have HR0 := ak hr0
 have HC0 := ak hc0
 have HT := ak ht
 have H2 := ak h2
 clear hr0 hc0 ht h2
 have heq : ∀ w' : World, Below (w.alloc (.cells #[.string a1] 9)).heap.size (w.alloc (.cells #[.string a1] 9)) w' → w'.cell? ⟨w.heap.size, 0, none⟩ = some (.string a1) := fun w' hb => (hb.cell (p := ⟨w.heap.size, 0, none⟩) (by simp)).trans (by simp)
 have HE := ak heq
 have HV := ak (impl_ValidTests.calls k A0 c0 l0 t (w.alloc (.cells #[.string a1] 9)) (Kd.C_alloc HR0.out _) HC0.out HT.out)
 clear heq
 cases t with
 | true =>
  have H3 : Aside0 (impl_Test.l0 l0 a1 (l0.length + 1) 0 = some r) := ⟨by have h_ := H2.out; first | rwa [if_pos rfl] at h_ | rwa [if_pos trivial] at h_⟩
  clear H2
  go_enter Try.func16, Try.ntmps16
  go_wp2_with (go_at_call 9; refine HV.out.mono ?_; rintro e w1 ⟨rfl, hb1⟩; have B1 := ak hb1; clear hb1)
  go_wp2_with (go_at_call 34; refine (impl_Test.calls A0 c0 l0 a1 w.heap.size r (l0.length + 1) w1 (Kd.C_below (Kd.C_alloc HR0.out _) B1.out) HC0.out (by have := B1.out.size; simp at this; omega) (HE.out w1 B1.out) H3.out).mono ?_; rintro e w2 ⟨rfl, hb2⟩)
  go_ret
  exact ⟨rfl, ((Below.refl _ w).alloc (Nat.le_refl _) _).trans ((B1.out.trans (hb2.mono B1.out.size)).mono (by simp))⟩
 | false =>
  have hr : r = -1 := by have := H2.out; rw [if_neg (by simp)] at this; exact (Option.some.inj this).symm
  subst hr
  go_enter Try.func16, Try.ntmps16
  go_wp2_with (go_at_call 9; refine HV.out.mono ?_; rintro e w1 ⟨rfl, hb1⟩; have B1 := ak hb1; clear hb1)
  go_ret
  exact ⟨rfl, ((Below.refl _ w).alloc (Nat.le_refl _) _).trans (B1.out.mono (by simp))⟩

/-! ### laws_FnTestId: function 4 -/
def laws_FnTestId.j0 : Nat → ByteArray → Bool → ByteArray → ByteArray → List ByteArray → List ByteArray → Option (Bool)
 | 0, _, _, _, _, _, _ => none
 | k + 1, x4, x19, x382000, x382001, x382002, x382003 => if x19 = true then ((spec_TestId.f k x382000 x382001 x382002 x382003).bind fun t384 => (some (x4.toList == t384.toList))) else ((impl_FindTest.f k (([(⟨x382000, x382001, x382002, x382003⟩ : S31)] : List (S31))) x4).bind fun t388 => (if t388 = 0 then ((impl_ValidTests.f k (([(⟨x382000, x382001, x382002, x382003⟩ : S31)] : List (S31)))).bind fun t392 => (some t392)) else (some false)))
def laws_FnTestId.f (k : Nat) (l0 : List Int) : Option (Bool) := if (l0.length : Int) > 1048576 then (some true) else ((spec_DrawTestId.f k l0).bind fun bt373 => ((impl_TestId.f k bt373.1 bt373.2.1 bt373.2.2.1 bt373.2.2.2).bind fun t382 => ((spec_TestId.f k bt373.1 bt373.2.1 bt373.2.2.1 bt373.2.2.2).bind fun t383 => (if t382.toList = t383.toList then (laws_FnTestId.j0 k t382 (t382.toList == ([] : List UInt8)) bt373.1 bt373.2.1 bt373.2.2.1 bt373.2.2.2) else (laws_FnTestId.j0 k t382 true bt373.1 bt373.2.1 bt373.2.2.1 bt373.2.2.2)))))
theorem laws_FnTestId.mono_l : ∀ k, (∀ y0 y1 y2 y3 y4 y5, LeO (laws_FnTestId.j0 k y0 y1 y2 y3 y4 y5) (laws_FnTestId.j0 (k + 1) y0 y1 y2 y3 y4 y5))
 | 0 => fun _ _ _ _ _ _ r h => by simp [laws_FnTestId.j0] at h
 | k + 1 => by
  have ih0 := laws_FnTestId.mono_l k
  ·intro y0 y1 y2 y3 y4 y5
   unfold laws_FnTestId.j0
   repeat' first
   | (with_reducible exact ih0 _ _ _ _ _ _)
   | (with_reducible exact impl_FindTest.mono _ _ _)
   | (with_reducible exact impl_TestId.mono _ _ _ _ _)
   | (with_reducible exact impl_ValidTests.mono _ _)
   | (with_reducible exact spec_DrawTestId.mono _ _)
   | (with_reducible exact spec_TestId.mono _ _ _ _ _)
   | (with_reducible exact LeO.refl _)
   | (with_reducible exact LeO.none _)
   | (with_reducible refine LeO.ite ?_ ?_)
   | (with_reducible refine LeO.bind ?_ (fun _ => ?_))
   | exact ih0 _ _ _ _ _ _
   | exact impl_FindTest.mono _ _ _
   | exact impl_TestId.mono _ _ _ _ _
   | exact impl_ValidTests.mono _ _
   | exact spec_DrawTestId.mono _ _
   | exact spec_TestId.mono _ _ _ _ _
   | exact LeO.none _
   | refine LeO.ite ?_ ?_
   | refine LeO.bind ?_ (fun _ => ?_)
theorem laws_FnTestId.mono : ∀ a0 k, LeO (laws_FnTestId.f k a0) (laws_FnTestId.f (k + 1) a0) := by
 intro a0 k
 have ih0 := laws_FnTestId.mono_l k
 unfold laws_FnTestId.f
 repeat' first
   | (with_reducible exact ih0 _ _ _ _ _ _)
   | (with_reducible exact impl_FindTest.mono _ _ _)
   | (with_reducible exact impl_TestId.mono _ _ _ _ _)
   | (with_reducible exact impl_ValidTests.mono _ _)
   | (with_reducible exact spec_DrawTestId.mono _ _)
   | (with_reducible exact spec_TestId.mono _ _ _ _ _)
   | (with_reducible exact LeO.refl _)
   | (with_reducible exact LeO.none _)
   | (with_reducible refine LeO.ite ?_ ?_)
   | (with_reducible refine LeO.bind ?_ (fun _ => ?_))
   | exact ih0 _ _ _ _ _ _
   | exact impl_FindTest.mono _ _ _
   | exact impl_TestId.mono _ _ _ _ _
   | exact impl_ValidTests.mono _ _
   | exact spec_DrawTestId.mono _ _
   | exact spec_TestId.mono _ _ _ _ _
   | exact LeO.none _
   | refine LeO.ite ?_ ?_
   | refine LeO.bind ?_ (fun _ => ?_)
set_option maxHeartbeats 8000000 in
set_option maxRecDepth 100000 in
theorem laws_FnTestId.calls (k : Nat) (A0 : Option Addr) (c0 : Nat) (l0 : List Int) (r : Bool) (w : World) (hr0 : Kd.C (Kd.int .u8) w A0 l0.length l0) (hc0 : l0.length ≤ c0) (h : laws_FnTestId.f k l0 = some r) :
  Calls Try.prog 4 #[.slice A0 l0.length c0] w fun e w' => e = .returned (.bool r) ∧ Below w.heap.size w w' := by
 have hu31 := Try.underlying31
 have HR0 := ak hr0
 have HC0 := ak hc0
 clear hr0 hc0
 have HB := ak (Below.refl w.heap.size w)
 have H : (if (l0.length : Int) > 1048576 then (some true) else ((spec_DrawTestId.f k l0).bind fun bt373 => ((impl_TestId.f k bt373.1 bt373.2.1 bt373.2.2.1 bt373.2.2.2).bind fun t382 => ((spec_TestId.f k bt373.1 bt373.2.1 bt373.2.2.1 bt373.2.2.2).bind fun t383 => (if t382.toList = t383.toList then (laws_FnTestId.j0 k t382 (t382.toList == ([] : List UInt8)) bt373.1 bt373.2.1 bt373.2.2.1 bt373.2.2.2) else (laws_FnTestId.j0 k t382 true bt373.1 bt373.2.1 bt373.2.2.1 bt373.2.2.2)))))) = some r := h
 clear h
 by_cases c2 : (l0.length : Int) > 1048576
 ·rw [if_pos c2] at H
  have c2b0 : decide (1048576 < (l0.length : Int)) = true := decide_eq_true c2
  have c2b1 : decide (1048576 < l0.length) = true := decide_eq_true (by omega)
  clear c2
  obtain rfl := Option.some.inj H
  go_enter Try.func4, Try.ntmps4
  go_wp2
  go_ret
  exact ⟨by first | rfl | (simp [errW_none, errW_some] <;> rfl) | (simp [*, errW_none, errW_some] <;> rfl), by repeat (first | (with_reducible first | exact HB.out | apply below_alloc | apply pw_below_drewN | apply below_drew1) | exact HB.out)⟩
 ·rw [if_neg c2] at H
  have c2b0 : decide (1048576 < (l0.length : Int)) = false := decide_eq_false c2
  have c2b1 : decide (1048576 < l0.length) = false := decide_eq_false (by omega)
  clear c2
  replace H := Option.bind_eq_some_iff.mp H
  obtain ⟨⟨t373, t374, t375, t378⟩, A30, H⟩ := H
  replace H : ((impl_TestId.f k t373 t374 t375 t378).bind fun t382 => ((spec_TestId.f k t373 t374 t375 t378).bind fun t383 => (if t382.toList = t383.toList then (laws_FnTestId.j0 k t382 (t382.toList == ([] : List UInt8)) t373 t374 t375 t378) else (laws_FnTestId.j0 k t382 true t373 t374 t375 t378)))) = some r := H
  have A3 := ak A30
  clear A30
  replace H := Option.bind_eq_some_iff.mp H
  obtain ⟨t382, A40, H⟩ := H
  replace H : ((spec_TestId.f k t373 t374 t375 t378).bind fun t383 => (if t382.toList = t383.toList then (laws_FnTestId.j0 k t382 (t382.toList == ([] : List UInt8)) t373 t374 t375 t378) else (laws_FnTestId.j0 k t382 true t373 t374 t375 t378))) = some r := H
  have A4 := ak A40
  clear A40
  have HC5 := ak H
  clear H
  go_enter Try.func4, Try.ntmps4
  go_upto_region 5 with (first | ((with_reducible refine gate_callee (f := 13) rfl ?_); refine goesL_ (some 9) rfl rfl Try.func13 (by kernel_rfl) rfl #[.slice A0 l0.length c0] rfl (by (try simp only [List.map_toArray, List.map_cons, List.map_nil]); first | done | rfl | (simp only [List.length_drop, List.length_take]; rfl)) ?_; (with_reducible refine (spec_DrawTestId.calls k _ _ l0 t373 t374 t375 t378 _ ?side1 ?side2 A3.out).mono ?_); (case side1 => repeat (first | exact HR0.out | (with_reducible refine Kd.C_alloc ?_ _) | (with_reducible refine Kd.C_drewN ?_ _) | (with_reducible refine Kd.C_drew ?_))); (case side2 => exact HC0.out); rintro e w6 ⟨v376, v379, rfl, ho0, ho1, hb⟩; refine ⟨_, rfl, ?_⟩; have n0_ := ak (Kd.V_lower (Kd.V_mono (ok' := fun k_ => True) ho0 (fun k_ hk_ => trivial)) (below_size (by repeat (first | (with_reducible first | exact HB.out | apply below_alloc | apply pw_below_drewN | apply below_drew1) | exact HB.out)))); have n1_ := ak (Kd.V_lower (Kd.V_mono (ok' := fun k_ => True) ho1 (fun k_ hk_ => trivial)) (below_size (by repeat (first | (with_reducible first | exact HB.out | apply below_alloc | apply pw_below_drewN | apply below_drew1) | exact HB.out)))); have n2_ := ak (below_step (by repeat (first | (with_reducible first | exact HB.out | apply below_alloc | apply pw_below_drewN | apply below_drew1) | exact HB.out)) hb); clear HB; have HO377 := n0_; have HO380 := n1_; have HB := n2_; clear n0_ n1_ n2_; (try clear hb); (try clear hb2); (try clear hk); (try clear hi); (try clear ho0); (try clear ho1)) | ((with_reducible refine gate_dst (N := 3) rfl ?_); (try (refine gate_guard (by rfl) ?_; dsimp only)); refine box_event ?hg (N := 3) ?hd (cs := #[.string (⟨#[]⟩ : ByteArray), .string (⟨#[]⟩ : ByteArray), .slice none 0 0, .slice none 0 0]) (t := 31) ?hr ?_; (case hd => rfl); (case hg => rfl); (case hr => first | (go_simp; done) | (go_simp; rfl)); intro gb381 hg w7 hbox hb; have n0_ := ak (Kd.V_below (Kd.V_elderB (by (with_reducible repeat (first | apply Kd.V_alloc | apply Kd.V_drewN | apply Kd.V_drew)); exact HO377.out) gb381 (Nat.le_of_eq hg.symm)) hb); have n1_ := ak (Kd.V_below (Kd.V_elderB (by (with_reducible repeat (first | apply Kd.V_alloc | apply Kd.V_drewN | apply Kd.V_drew)); exact HO380.out) gb381 (Nat.le_of_eq hg.symm)) hb); have n2_ := ak (below_step (by repeat (first | (with_reducible first | exact HB.out | apply below_alloc | apply pw_below_drewN | apply below_drew1) | exact HB.out)) hb); have n3_ := ak (hbox); have n4_ := ak ((by rw [hg]; exact (below_size (by repeat (first | (with_reducible first | exact HB.out | apply below_alloc | apply pw_below_drewN | apply below_drew1) | exact HB.out))) : w.heap.size ≤ gb381)); have n5_ := ak ((by rw [hg]; exact (below_size (by repeat (first | (with_reducible first | exact HB.out | apply below_alloc | apply pw_below_drewN | apply below_drew1) | exact HB.out))) : w.heap.size ≤ gb381)); clear HO377; clear HO380; clear HB; have HO377 := n0_; have HO380 := n1_; have HB := n2_; have BK381 := n3_; have GW381 := n4_; have GE381 := n5_; clear n0_ n1_ n2_ n3_ n4_ n5_; clear hb hbox hg; have hcz8_0 : w7.cell? ⟨gb381, 0, none⟩ = some (.string (⟨#[]⟩ : ByteArray)) := (blk_cell BK381.out 0).trans rfl; have hcz8_1 : w7.cell? ⟨gb381, 1, none⟩ = some (.string (⟨#[]⟩ : ByteArray)) := (blk_cell BK381.out 1).trans rfl; have hcz8_2 : w7.cell? ⟨gb381, 2, none⟩ = some (.slice none 0 0) := (blk_cell BK381.out 2).trans rfl; have hcz8_3 : w7.cell? ⟨gb381, 3, none⟩ = some (.slice none 0 0) := (blk_cell BK381.out 3).trans rfl; have hfz8_0 := blk_frozen BK381.out 0; have hfz8_1 := blk_frozen BK381.out 1; have hfz8_2 := blk_frozen BK381.out 2; have hfz8_3 := blk_frozen BK381.out 3; obtain ⟨Ao9, co9, eo9⟩ := Kd.V_slice HO377.out; subst eo9; obtain ⟨Ao10, co10, eo10⟩ := Kd.V_slice HO380.out; subst eo10) | ((with_reducible refine gate_callee (f := 14) rfl ?_); refine goesL_ (some 11) rfl rfl Try.func14 (by kernel_rfl) rfl #[.agg #[.string t373, .string t374, .slice Ao9 t375.length co9, .slice Ao10 t378.length co10]] rfl (by (try simp only [List.map_toArray, List.map_cons, List.map_nil]); first | done | rfl | (simp only [List.length_drop, List.length_take]; rfl)) ?_; (with_reducible refine (impl_TestId.calls k t373 t374 _ _ t375 _ _ t378 t382 _ ?side1 ?side2 ?side3 ?side4 A4.out).mono ?_); (case side1 => refine (Kd.V_reads' (e := 9) (base := w.heap.size) (ok := fun k_ => (True ∧ k_ ≠ gb381)) (n := t375.length) (c := co9) ?_).2.2; exact (by (with_reducible repeat (first | apply Kd.V_alloc | apply Kd.V_drewN | apply Kd.V_drew)); exact (Kd.V_mono (Kd.V_far (p := ⟨gb381, 3, none⟩) (Kd.V_far (p := ⟨gb381, 2, none⟩) (Kd.V_far (p := ⟨gb381, 1, none⟩) (Kd.V_far (p := ⟨gb381, 0, none⟩) (Kd.V_mono HO377.out (fun k_ hk => (⟨hk, hk.2⟩ : _ ∧ k_ ≠ gb381))) (fun _ hk => hk.2) (.string t373)) (fun _ hk => hk.2) (.string t374)) (fun _ hk => hk.2) (.slice Ao9 t375.length co9)) (fun _ hk => hk.2) (.slice Ao10 t378.length co10)) (fun _ h_ => h_.1)))); (case side2 => exact (Kd.V_reads' HO377.out).2.1); (case side3 => refine (Kd.V_reads' (e := 9) (base := w.heap.size) (ok := fun k_ => (True ∧ k_ ≠ gb381)) (n := t378.length) (c := co10) ?_).2.2; exact (by (with_reducible repeat (first | apply Kd.V_alloc | apply Kd.V_drewN | apply Kd.V_drew)); exact (Kd.V_mono (Kd.V_far (p := ⟨gb381, 3, none⟩) (Kd.V_far (p := ⟨gb381, 2, none⟩) (Kd.V_far (p := ⟨gb381, 1, none⟩) (Kd.V_far (p := ⟨gb381, 0, none⟩) (Kd.V_mono HO380.out (fun k_ hk => (⟨hk, hk.2⟩ : _ ∧ k_ ≠ gb381))) (fun _ hk => hk.2) (.string t373)) (fun _ hk => hk.2) (.string t374)) (fun _ hk => hk.2) (.slice Ao9 t375.length co9)) (fun _ hk => hk.2) (.slice Ao10 t378.length co10)) (fun _ h_ => h_.1)))); (case side4 => exact (Kd.V_reads' HO380.out).2.1); rintro e w11 ⟨rfl, hb⟩; refine ⟨_, rfl, ?_⟩; have n0_ := ak (Kd.V_below (by (with_reducible repeat (first | apply Kd.V_alloc | apply Kd.V_drewN | apply Kd.V_drew)); exact (Kd.V_mono (Kd.V_far (p := ⟨gb381, 3, none⟩) (Kd.V_far (p := ⟨gb381, 2, none⟩) (Kd.V_far (p := ⟨gb381, 1, none⟩) (Kd.V_far (p := ⟨gb381, 0, none⟩) (Kd.V_mono HO377.out (fun k_ hk => (⟨hk, hk.2⟩ : _ ∧ k_ ≠ gb381))) (fun _ hk => hk.2) (.string t373)) (fun _ hk => hk.2) (.string t374)) (fun _ hk => hk.2) (.slice Ao9 t375.length co9)) (fun _ hk => hk.2) (.slice Ao10 t378.length co10)) (fun _ h_ => h_.1))) hb); have n1_ := ak (Kd.V_below (by (with_reducible repeat (first | apply Kd.V_alloc | apply Kd.V_drewN | apply Kd.V_drew)); exact (Kd.V_mono (Kd.V_far (p := ⟨gb381, 3, none⟩) (Kd.V_far (p := ⟨gb381, 2, none⟩) (Kd.V_far (p := ⟨gb381, 1, none⟩) (Kd.V_far (p := ⟨gb381, 0, none⟩) (Kd.V_mono HO380.out (fun k_ hk => (⟨hk, hk.2⟩ : _ ∧ k_ ≠ gb381))) (fun _ hk => hk.2) (.string t373)) (fun _ hk => hk.2) (.string t374)) (fun _ hk => hk.2) (.slice Ao9 t375.length co9)) (fun _ hk => hk.2) (.slice Ao10 t378.length co10)) (fun _ h_ => h_.1))) hb); have n2_ := ak (blk_below (g := gb381) (o := .cells #[.string t373, .string t374, .slice Ao9 t375.length co9, .slice Ao10 t378.length co10] 31 (0, 0)) (by (with_reducible repeat (first | apply blk_drewN | apply blk_drew | apply blk_alloc)); refine blk_put (cs := #[.string t373, .string t374, .slice Ao9 t375.length co9, .slice none 0 0]) ?_ 3 _ rfl; (with_reducible repeat (first | apply blk_drewN | apply blk_drew | apply blk_alloc)); refine blk_put (cs := #[.string t373, .string t374, .slice none 0 0, .slice none 0 0]) ?_ 2 _ rfl; (with_reducible repeat (first | apply blk_drewN | apply blk_drew | apply blk_alloc)); refine blk_put (cs := #[.string t373, .string (⟨#[]⟩ : ByteArray), .slice none 0 0, .slice none 0 0]) ?_ 1 _ rfl; (with_reducible repeat (first | apply blk_drewN | apply blk_drew | apply blk_alloc)); refine blk_put (cs := #[.string (⟨#[]⟩ : ByteArray), .string (⟨#[]⟩ : ByteArray), .slice none 0 0, .slice none 0 0]) ?_ 0 _ rfl; (with_reducible repeat (first | apply blk_drewN | apply blk_drew | apply blk_alloc)); exact BK381.out) hb); have n3_ := ak (below_step (by repeat (first | (with_reducible first | exact HB.out | apply below_alloc | apply pw_below_drewN | apply below_drew1 | refine below_set ?_ GE381.out) | exact HB.out)) hb); clear HO377; clear HO380; clear BK381; clear HB; have HO377 := n0_; have HO380 := n1_; have BK381 := n2_; have HB := n3_; clear n0_ n1_ n2_ n3_; (try clear hb); (try clear hb2); (try clear hk); (try clear hi)))
  (try simp only [Act.put, List.setIfInBounds_toArray, List.set_cons_zero, List.set_cons_succ])
  go_cut [19] (fun v19 wc => ∃ (kq : Nat) (x19_4 : Bool), v19 = .bool x19_4 ∧ Aside0 (laws_FnTestId.j0 kq t382 x19_4 t373 t374 t375 t378 = some r) ∧ Aside0 (kq ≤ k) ∧ Aside0 (Kd.V Kd.string 9 wc w.heap.size (fun k_ => k_ ≠ gb381) (.slice Ao9 t375.length co9) t375) ∧ Aside0 (Kd.V Kd.string 9 wc w.heap.size (fun k_ => k_ ≠ gb381) (.slice Ao10 t378.length co10) t378) ∧ Aside0 (wc.heap[gb381]? = some (.cells #[.string t373, .string t374, (.slice Ao9 t375.length co9), (.slice Ao10 t378.length co10)] 31 (0, 0))) ∧ Aside0 (Below w.heap.size w wc))
  case first =>
   have H := HC5.out
   clear HC5
   replace H := Option.bind_eq_some_iff.mp H
   obtain ⟨t383, A120, H⟩ := H
   replace H : (if t382.toList = t383.toList then (laws_FnTestId.j0 k t382 (t382.toList == ([] : List UInt8)) t373 t374 t375 t378) else (laws_FnTestId.j0 k t382 true t373 t374 t375 t378)) = some r := H
   have A12 := ak A120
   clear A120
   by_cases c13 : t382.toList = t383.toList
   ·rw [if_pos c13] at H
    have c13b0 : (t382.toList == t383.toList) = true := beq_iff_eq.mpr c13
    have c13b1 : (t382.toList != t383.toList) = false := bne_eq_false_iff_eq.mpr c13
    clear c13
    (first | rw [c13b0] | (simp only [i64_w, i32_w]; rw [c13b0]) | skip)
    have H' := ak H
    clear H
    have hcz14_0 : w11.cell? ⟨gb381, 0, none⟩ = some (.string t373) := (blk_cell BK381.out 0).trans rfl
    have hcz14_1 : w11.cell? ⟨gb381, 1, none⟩ = some (.string t374) := (blk_cell BK381.out 1).trans rfl
    have hcz14_2 : w11.cell? ⟨gb381, 2, none⟩ = some (.slice Ao9 t375.length co9) := (blk_cell BK381.out 2).trans rfl
    have hcz14_3 : w11.cell? ⟨gb381, 3, none⟩ = some (.slice Ao10 t378.length co10) := (blk_cell BK381.out 3).trans rfl
    have hfz14_0 := blk_frozen BK381.out 0
    have hfz14_1 := blk_frozen BK381.out 1
    have hfz14_2 := blk_frozen BK381.out 2
    have hfz14_3 := blk_frozen BK381.out 3
    go_wp2_with (first | ((with_reducible refine gate_callee (f := 15) rfl ?_); refine goesL_ (some 14) rfl rfl Try.func15 (by kernel_rfl) rfl #[.agg #[.string t373, .string t374, .slice Ao9 t375.length co9, .slice Ao10 t378.length co10]] rfl (by (try simp only [List.map_toArray, List.map_cons, List.map_nil]); first | done | rfl | (simp only [List.length_drop, List.length_take]; rfl)) ?_; (with_reducible refine (spec_TestId.calls k t373 t374 _ _ t375 _ _ t378 t383 _ ?side1 ?side2 ?side3 ?side4 A12.out).mono ?_); (case side1 => repeat (first | exact (Kd.V_reads' HO377.out).2.2 | (with_reducible refine Kd.C_alloc ?_ _) | (with_reducible refine Kd.C_drewN ?_ _) | (with_reducible refine Kd.C_drew ?_))); (case side2 => exact (Kd.V_reads' HO377.out).2.1); (case side3 => repeat (first | exact (Kd.V_reads' HO380.out).2.2 | (with_reducible refine Kd.C_alloc ?_ _) | (with_reducible refine Kd.C_drewN ?_ _) | (with_reducible refine Kd.C_drew ?_))); (case side4 => exact (Kd.V_reads' HO380.out).2.1); rintro e w15 ⟨rfl, hb⟩; refine ⟨_, rfl, ?_⟩; have n0_ := ak (Kd.V_below (by (with_reducible repeat (first | apply Kd.V_alloc | apply Kd.V_drewN | apply Kd.V_drew)); exact HO377.out) hb); have n1_ := ak (Kd.V_below (by (with_reducible repeat (first | apply Kd.V_alloc | apply Kd.V_drewN | apply Kd.V_drew)); exact HO380.out) hb); have n2_ := ak (blk_below (g := gb381) (o := .cells #[.string t373, .string t374, .slice Ao9 t375.length co9, .slice Ao10 t378.length co10] 31 (0, 0)) (bTo BK381.out) hb); have n3_ := ak (below_step (by repeat (first | (with_reducible first | exact HB.out | apply below_alloc | apply pw_below_drewN | apply below_drew1 | refine below_set ?_ GE381.out) | exact HB.out)) hb); clear HO377; clear HO380; clear BK381; clear HB; have HO377 := n0_; have HO380 := n1_; have BK381 := n2_; have HB := n3_; clear n0_ n1_ n2_ n3_; (try clear hb); (try clear hb2); (try clear hk); (try clear hi)))
    go_meet
    case rel => exact ⟨_, ((t382.toList == ([] : List UInt8))), (by first | rfl | (simp; done) | (simp [*]; done)), H', ⟨by first | omega | exact Nat.le_refl _⟩, ⟨by (with_reducible repeat (first | apply Kd.V_alloc | apply Kd.V_drewN | apply Kd.V_drew)); exact Kd.V_mono HO377.out (fun _ hk => hk.2)⟩, ⟨by (with_reducible repeat (first | apply Kd.V_alloc | apply Kd.V_drewN | apply Kd.V_drew)); exact Kd.V_mono HO380.out (fun _ hk => hk.2)⟩, ⟨by (with_reducible repeat (first | apply blk_drewN | apply blk_drew | apply blk_alloc)); exact BK381.out⟩, ⟨by repeat (first | (with_reducible first | exact HB.out | apply below_alloc | apply pw_below_drewN | apply below_drew1 | refine below_set ?_ GE381.out) | exact HB.out)⟩⟩
   ·rw [if_neg c13] at H
    have c13b0 : (t382.toList == t383.toList) = false := beq_eq_false_iff_ne.mpr c13
    have c13b1 : (t382.toList != t383.toList) = true := bne_iff_ne.mpr c13
    (first | rw [c13b0] | (simp only [i64_w, i32_w]; rw [c13b0]) | skip)
    have H' := ak H
    clear H
    have hcz16_0 : w11.cell? ⟨gb381, 0, none⟩ = some (.string t373) := (blk_cell BK381.out 0).trans rfl
    have hcz16_1 : w11.cell? ⟨gb381, 1, none⟩ = some (.string t374) := (blk_cell BK381.out 1).trans rfl
    have hcz16_2 : w11.cell? ⟨gb381, 2, none⟩ = some (.slice Ao9 t375.length co9) := (blk_cell BK381.out 2).trans rfl
    have hcz16_3 : w11.cell? ⟨gb381, 3, none⟩ = some (.slice Ao10 t378.length co10) := (blk_cell BK381.out 3).trans rfl
    have hfz16_0 := blk_frozen BK381.out 0
    have hfz16_1 := blk_frozen BK381.out 1
    have hfz16_2 := blk_frozen BK381.out 2
    have hfz16_3 := blk_frozen BK381.out 3
    go_wp2_with (first | ((with_reducible refine gate_callee (f := 15) rfl ?_); refine goesL_ (some 14) rfl rfl Try.func15 (by kernel_rfl) rfl #[.agg #[.string t373, .string t374, .slice Ao9 t375.length co9, .slice Ao10 t378.length co10]] rfl (by (try simp only [List.map_toArray, List.map_cons, List.map_nil]); first | done | rfl | (simp only [List.length_drop, List.length_take]; rfl)) ?_; (with_reducible refine (spec_TestId.calls k t373 t374 _ _ t375 _ _ t378 t383 _ ?side1 ?side2 ?side3 ?side4 A12.out).mono ?_); (case side1 => repeat (first | exact (Kd.V_reads' HO377.out).2.2 | (with_reducible refine Kd.C_alloc ?_ _) | (with_reducible refine Kd.C_drewN ?_ _) | (with_reducible refine Kd.C_drew ?_))); (case side2 => exact (Kd.V_reads' HO377.out).2.1); (case side3 => repeat (first | exact (Kd.V_reads' HO380.out).2.2 | (with_reducible refine Kd.C_alloc ?_ _) | (with_reducible refine Kd.C_drewN ?_ _) | (with_reducible refine Kd.C_drew ?_))); (case side4 => exact (Kd.V_reads' HO380.out).2.1); rintro e w17 ⟨rfl, hb⟩; refine ⟨_, rfl, ?_⟩; have n0_ := ak (Kd.V_below (by (with_reducible repeat (first | apply Kd.V_alloc | apply Kd.V_drewN | apply Kd.V_drew)); exact HO377.out) hb); have n1_ := ak (Kd.V_below (by (with_reducible repeat (first | apply Kd.V_alloc | apply Kd.V_drewN | apply Kd.V_drew)); exact HO380.out) hb); have n2_ := ak (blk_below (g := gb381) (o := .cells #[.string t373, .string t374, .slice Ao9 t375.length co9, .slice Ao10 t378.length co10] 31 (0, 0)) (bTo BK381.out) hb); have n3_ := ak (below_step (by repeat (first | (with_reducible first | exact HB.out | apply below_alloc | apply pw_below_drewN | apply below_drew1 | refine below_set ?_ GE381.out) | exact HB.out)) hb); clear HO377; clear HO380; clear BK381; clear HB; have HO377 := n0_; have HO380 := n1_; have BK381 := n2_; have HB := n3_; clear n0_ n1_ n2_ n3_; (try clear hb); (try clear hb2); (try clear hk); (try clear hi)))
    go_meet
    case rel => exact ⟨_, (true), (by first | rfl | (simp; done) | (simp [*]; done)), H', ⟨by first | omega | exact Nat.le_refl _⟩, ⟨by (with_reducible repeat (first | apply Kd.V_alloc | apply Kd.V_drewN | apply Kd.V_drew)); exact Kd.V_mono HO377.out (fun _ hk => hk.2)⟩, ⟨by (with_reducible repeat (first | apply Kd.V_alloc | apply Kd.V_drewN | apply Kd.V_drew)); exact Kd.V_mono HO380.out (fun _ hk => hk.2)⟩, ⟨by (with_reducible repeat (first | apply blk_drewN | apply blk_drew | apply blk_alloc)); exact BK381.out⟩, ⟨by repeat (first | (with_reducible first | exact HB.out | apply below_alloc | apply pw_below_drewN | apply below_drew1 | refine below_set ?_ GE381.out) | exact HB.out)⟩⟩
  case rest =>
   clear HC5
   try clear c1
   try clear c2
   try clear c2b0
   try clear c2b1
   try clear p2
   try clear c4
   try clear c13
   try clear c13b0
   try clear c13b1
   try clear c14
   try clear c15
   try clear hcz14_0
   try clear hcz14_1
   try clear hcz14_2
   try clear hcz14_3
   try clear hcz16_0
   try clear hcz16_1
   try clear hcz16_2
   try clear hcz16_3
   try clear hcz8_0
   try clear hcz8_1
   try clear hcz8_2
   try clear hcz8_3
   try clear hfz14_0
   try clear hfz14_1
   try clear hfz14_2
   try clear hfz14_3
   try clear hfz16_0
   try clear hfz16_1
   try clear hfz16_2
   try clear hfz16_3
   try clear hfz8_0
   try clear hfz8_1
   try clear hfz8_2
   try clear hfz8_3
   obtain ⟨kq, x19_4, rfl, HA, HJ4, HO_382002, HO_382003, BK381, HB⟩ := hcut
   cases kq with
   | zero => exact absurd HA.out (by simp [laws_FnTestId.j0])
   | succ kj4 =>
    have H := HA.out
    clear HA
    simp only [laws_FnTestId.j0] at H
    by_cases c18 : x19_4 = true
    ·subst c18
     have H1 : ((spec_TestId.f kj4 t373 t374 t375 t378).bind fun t384 => (some (t382.toList == t384.toList))) = some r := by rw [if_pos rfl] at H; exact H
     clear H
     have H := H1
     clear H1
     replace H := Option.bind_eq_some_iff.mp H
     obtain ⟨t384, A190, H⟩ := H
     replace H : (some (t382.toList == t384.toList)) = some r := H
     have A19 := ak A190
     clear A190
     obtain rfl := Option.some.inj H
     have hcz20_0 : wc.cell? ⟨gb381, 0, none⟩ = some (.string t373) := (blk_cell BK381.out 0).trans rfl
     have hcz20_1 : wc.cell? ⟨gb381, 1, none⟩ = some (.string t374) := (blk_cell BK381.out 1).trans rfl
     have hcz20_2 : wc.cell? ⟨gb381, 2, none⟩ = some (.slice Ao9 t375.length co9) := (blk_cell BK381.out 2).trans rfl
     have hcz20_3 : wc.cell? ⟨gb381, 3, none⟩ = some (.slice Ao10 t378.length co10) := (blk_cell BK381.out 3).trans rfl
     have hfz20_0 := blk_frozen BK381.out 0
     have hfz20_1 := blk_frozen BK381.out 1
     have hfz20_2 := blk_frozen BK381.out 2
     have hfz20_3 := blk_frozen BK381.out 3
     go_wp2_with (first | ((with_reducible refine gate_callee (f := 15) rfl ?_); refine goesL_ (some 22) rfl rfl Try.func15 (by kernel_rfl) rfl #[.agg #[.string t373, .string t374, .slice Ao9 t375.length co9, .slice Ao10 t378.length co10]] rfl (by (try simp only [List.map_toArray, List.map_cons, List.map_nil]); first | done | rfl | (simp only [List.length_drop, List.length_take]; rfl)) ?_; (with_reducible refine (spec_TestId.calls kj4 t373 t374 _ _ t375 _ _ t378 t384 _ ?side1 ?side2 ?side3 ?side4 A19.out).mono ?_); (case side1 => repeat (first | exact (Kd.V_reads' HO_382002.out).2.2 | (with_reducible refine Kd.C_alloc ?_ _) | (with_reducible refine Kd.C_drewN ?_ _) | (with_reducible refine Kd.C_drew ?_))); (case side2 => exact (Kd.V_reads' HO_382002.out).2.1); (case side3 => repeat (first | exact (Kd.V_reads' HO_382003.out).2.2 | (with_reducible refine Kd.C_alloc ?_ _) | (with_reducible refine Kd.C_drewN ?_ _) | (with_reducible refine Kd.C_drew ?_))); (case side4 => exact (Kd.V_reads' HO_382003.out).2.1); rintro e w21 ⟨rfl, hb⟩; refine ⟨_, rfl, ?_⟩; have n0_ := ak (Kd.V_below (by (with_reducible repeat (first | apply Kd.V_alloc | apply Kd.V_drewN | apply Kd.V_drew)); exact HO_382002.out) hb); have n1_ := ak (Kd.V_below (by (with_reducible repeat (first | apply Kd.V_alloc | apply Kd.V_drewN | apply Kd.V_drew)); exact HO_382003.out) hb); have n2_ := ak (blk_below (g := gb381) (o := .cells #[.string t373, .string t374, .slice Ao9 t375.length co9, .slice Ao10 t378.length co10] 31 (0, 0)) (bTo BK381.out) hb); have n3_ := ak (below_step (by repeat (first | (with_reducible first | exact HB.out | apply below_alloc | apply pw_below_drewN | apply below_drew1 | refine below_set ?_ GE381.out) | exact HB.out)) hb); clear HO_382002; clear HO_382003; clear BK381; clear HB; have HO_382002 := n0_; have HO_382003 := n1_; have BK381 := n2_; have HB := n3_; clear n0_ n1_ n2_ n3_; (try clear hb); (try clear hb2); (try clear hk); (try clear hi)))
     go_ret
     exact ⟨by first | rfl | (simp [errW_none, errW_some] <;> rfl) | (simp [*, errW_none, errW_some] <;> rfl), by repeat (first | (with_reducible first | exact HB.out | apply below_alloc | apply pw_below_drewN | apply below_drew1 | refine below_set ?_ GE381.out) | exact HB.out)⟩
    ·replace c18 := Bool.eq_false_iff.mpr c18
     subst c18
     have H1 : ((impl_FindTest.f kj4 (([(⟨t373, t374, t375, t378⟩ : S31)] : List (S31))) t382).bind fun t388 => (if t388 = 0 then ((impl_ValidTests.f kj4 (([(⟨t373, t374, t375, t378⟩ : S31)] : List (S31)))).bind fun t392 => (some t392)) else (some false))) = some r := by rw [if_neg (show ¬ (false = true) by decide)] at H; exact H
     clear H
     have H := H1
     clear H1
     obtain ⟨y385, hy385⟩ : ∃ y_ : List (S31), y_ = (([(⟨t373, t374, t375, t378⟩ : S31)] : List (S31))) := ⟨_, rfl⟩
     replace H : ((impl_FindTest.f kj4 y385 t382).bind fun t388 => (if t388 = 0 then ((impl_ValidTests.f kj4 (([(⟨t373, t374, t375, t378⟩ : S31)] : List (S31)))).bind fun t392 => (some t392)) else (some false))) = some r := by first | (rw [hy385]; with_reducible exact H) | (have H2_ := (Option.bind_some _ _).symm.trans H; rw [hy385]; with_reducible exact H2_) | (have H2_ := (Option.bind_some _ _).symm.trans H; with_reducible exact H2_) | with_reducible exact H | (rw [hy385]; exact H) | exact H
     have Ny385 := ak hy385
     clear hy385
     replace H := Option.bind_eq_some_iff.mp H
     obtain ⟨t388, A220, H⟩ := H
     replace H : (if t388 = 0 then ((impl_ValidTests.f kj4 (([(⟨t373, t374, t375, t378⟩ : S31)] : List (S31)))).bind fun t392 => (some t392)) else (some false)) = some r := H
     have A22 := ak A220
     clear A220
     by_cases c23 : t388 = 0
     ·rw [if_pos c23] at H
      have c23b0 : (t388 == 0) = true := beq_iff_eq.mpr c23
      have c23b1 : (t388 != 0) = false := bne_eq_false_iff_eq.mpr c23
      clear c23
      obtain ⟨y389, hy389⟩ : ∃ y_ : List (S31), y_ = (([(⟨t373, t374, t375, t378⟩ : S31)] : List (S31))) := ⟨_, rfl⟩
      replace H : ((impl_ValidTests.f kj4 y389).bind fun t392 => (some t392)) = some r := by first | (rw [hy389]; with_reducible exact H) | (have H2_ := (Option.bind_some _ _).symm.trans H; rw [hy389]; with_reducible exact H2_) | (have H2_ := (Option.bind_some _ _).symm.trans H; with_reducible exact H2_) | with_reducible exact H | (rw [hy389]; exact H) | exact H
      have Ny389 := ak hy389
      clear hy389
      replace H := Option.bind_eq_some_iff.mp H
      obtain ⟨t392, A240, H⟩ := H
      replace H : (some t392) = some r := H
      have A24 := ak A240
      clear A240
      obtain rfl := Option.some.inj H
      have hcz25_0 : wc.cell? ⟨gb381, 0, none⟩ = some (.string t373) := (blk_cell BK381.out 0).trans rfl
      have hcz25_1 : wc.cell? ⟨gb381, 1, none⟩ = some (.string t374) := (blk_cell BK381.out 1).trans rfl
      have hcz25_2 : wc.cell? ⟨gb381, 2, none⟩ = some (.slice Ao9 t375.length co9) := (blk_cell BK381.out 2).trans rfl
      have hcz25_3 : wc.cell? ⟨gb381, 3, none⟩ = some (.slice Ao10 t378.length co10) := (blk_cell BK381.out 3).trans rfl
      have hfz25_0 := blk_frozen BK381.out 0
      have hfz25_1 := blk_frozen BK381.out 1
      have hfz25_2 := blk_frozen BK381.out 2
      have hfz25_3 := blk_frozen BK381.out 3
      go_wp2_with (first | ((with_reducible refine gate_dst (N := 25) rfl ?_); (try (refine gate_guard (by rfl) ?_; dsimp only)); refine Kd.N_lit k31 _ 31 ?hg (N' := 25) ?hd (xs := ([(⟨t373, t374, t375, t378⟩ : S31)] : List (S31))) (inner := [.string t373, .string t374, .slice Ao9 t375.length co9, .slice Ao10 t378.length co10]) (ok := (fun k_ => k_ ≠ gb381)) (okp := (fun k_ => k_ ≠ gb381)) ?hr ?hp (fun _ hk => hk) ((show ∀ k_, wc.heap.size ≤ k_ → (fun k_ => k_ ≠ gb381) k_ from fun k_ hk => Kd.freshB (g := gb381) (o := .cells #[.string t373, .string t374, .slice Ao9 t375.length co9, .slice Ao10 t378.length co10] 31 (0, 0)) (bTo BK381.out) k_ hk) _ (Nat.le_refl _)) (Below.refl _ _) (Nat.le_refl _) (by simp) ?_; (case hd => rfl); (case hg => rfl); (case hr => first | (go_simp; done) | (go_simp; rfl)); (case hp => exact (Reps.c4 (show Kd.FK k31 _ _ (⟨t373, t374, t375, t378⟩ : S31) [.string t373, .string t374, .slice Ao9 t375.length co9, .slice Ao10 t378.length co10] from (k31_mkF _ _ (⟨t373, t374, t375, t378⟩ : S31) (Kd.V_reads' (Kd.V_mono (ok' := (fun k_ => k_ ≠ gb381)) (HO_382002.out) (fun k_ hk => hk))).2.1 (Kd.V_F (Kd.V_mono (ok' := (fun k_ => k_ ≠ gb381)) (HO_382002.out) (fun k_ hk => hk))) (Kd.V_reads' (Kd.V_mono (ok' := (fun k_ => k_ ≠ gb381)) (HO_382003.out) (fun k_ hk => hk))).2.1 (Kd.V_F (Kd.V_mono (ok' := (fun k_ => k_ ≠ gb381)) (HO_382003.out) (fun k_ hk => hk))))) (Reps.none _ _))); intro v386 w26 ho27 hb hg_ hnew_; clear hg_ hnew_; (first | rw [← Ny385.out] at ho27 | (simp only [Int.reduceToNat] at ho27; rw [← Ny385.out] at ho27)); have n0_ := ak (Kd.V_elder' (by (with_reducible repeat (first | apply Kd.V_alloc | apply Kd.V_drewN | apply Kd.V_drew)); exact HO_382002.out) (Kd.N_base ho27) hb); have n1_ := ak (Kd.V_elder' (by (with_reducible repeat (first | apply Kd.V_alloc | apply Kd.V_drewN | apply Kd.V_drew)); exact HO_382003.out) (Kd.N_base ho27) hb); have n2_ := ak (Kd.N_lower ho27 (below_size (by repeat (first | (with_reducible first | exact HB.out | apply below_alloc | apply pw_below_drewN | apply below_drew1 | refine below_set ?_ GE381.out) | exact HB.out)))); have n3_ := ak (blk_below (g := gb381) (o := .cells #[.string t373, .string t374, .slice Ao9 t375.length co9, .slice Ao10 t378.length co10] 31 (0, 0)) (bTo BK381.out) hb); have n4_ := ak (below_step (by repeat (first | (with_reducible first | exact HB.out | apply below_alloc | apply pw_below_drewN | apply below_drew1 | refine below_set ?_ GE381.out) | exact HB.out)) hb); clear HO_382002; clear HO_382003; clear BK381; clear HB; have HO_382002 := n0_; have HO_382003 := n1_; have HO387 := n2_; have BK381 := n3_; have HB := n4_; clear n0_ n1_ n2_ n3_ n4_; clear hb ho27; obtain ⟨Ao28, co28, eo28⟩ := Kd.N_slice HO387.out; subst eo28) | ((with_reducible refine gate_callee (f := 16) rfl ?_); refine goesL_ (some 27) rfl rfl Try.func16 (by kernel_rfl) rfl #[.slice Ao28 y385.length co28, .string t382] rfl (by (try simp only [List.map_toArray, List.map_cons, List.map_nil]); first | done | rfl | (simp only [List.length_drop, List.length_take]; rfl)) ?_; (with_reducible refine (impl_FindTest.calls kj4 _ _ y385 t382 t388 _ ?side1 ?side2 A22.out).mono ?_); (case side1 => repeat (first | exact (Kd.N_reads' HO387.out).2.2 | (with_reducible refine Kd.C_alloc ?_ _) | (with_reducible refine Kd.C_drewN ?_ _) | (with_reducible refine Kd.C_drew ?_))); (case side2 => exact (Kd.N_reads' HO387.out).2.1); rintro e w29 ⟨rfl, hb⟩; refine ⟨_, rfl, ?_⟩; have n0_ := ak (Kd.V_below (by (with_reducible repeat (first | apply Kd.V_alloc | apply Kd.V_drewN | apply Kd.V_drew)); exact HO_382002.out) hb); have n1_ := ak (Kd.V_below (by (with_reducible repeat (first | apply Kd.V_alloc | apply Kd.V_drewN | apply Kd.V_drew)); exact HO_382003.out) hb); have n2_ := ak (Kd.N_below (by (with_reducible repeat (first | apply Kd.N_alloc | apply Kd.N_drewN | apply Kd.N_drew)); exact HO387.out) hb); have n3_ := ak (blk_below (g := gb381) (o := .cells #[.string t373, .string t374, .slice Ao9 t375.length co9, .slice Ao10 t378.length co10] 31 (0, 0)) (bTo BK381.out) hb); have n4_ := ak (below_step (by repeat (first | (with_reducible first | exact HB.out | apply below_alloc | apply pw_below_drewN | apply below_drew1 | refine below_set ?_ GE381.out) | exact HB.out)) hb); clear HO_382002; clear HO_382003; clear HO387; clear BK381; clear HB; have HO_382002 := n0_; have HO_382003 := n1_; have HO387 := n2_; have BK381 := n3_; have HB := n4_; clear n0_ n1_ n2_ n3_ n4_; (try clear hb); (try clear hb2); (try clear hk); (try clear hi); have hcz30_0 : w29.cell? ⟨gb381, 0, none⟩ = some (.string t373) := (blk_cell BK381.out 0).trans rfl; have hcz30_1 : w29.cell? ⟨gb381, 1, none⟩ = some (.string t374) := (blk_cell BK381.out 1).trans rfl; have hcz30_2 : w29.cell? ⟨gb381, 2, none⟩ = some (.slice Ao9 t375.length co9) := (blk_cell BK381.out 2).trans rfl; have hcz30_3 : w29.cell? ⟨gb381, 3, none⟩ = some (.slice Ao10 t378.length co10) := (blk_cell BK381.out 3).trans rfl; have hfz30_0 := blk_frozen BK381.out 0; have hfz30_1 := blk_frozen BK381.out 1; have hfz30_2 := blk_frozen BK381.out 2; have hfz30_3 := blk_frozen BK381.out 3) | ((with_reducible refine gate_dst (N := 31) rfl ?_); (try (refine gate_guard (by rfl) ?_; dsimp only)); refine Kd.N_lit k31 _ 31 ?hg (N' := 31) ?hd (xs := ([(⟨t373, t374, t375, t378⟩ : S31)] : List (S31))) (inner := [.string t373, .string t374, .slice Ao9 t375.length co9, .slice Ao10 t378.length co10]) (ok := (fun k_ => some k_ ≠ (.slice Ao28 y385.length co28 : Value).ownBlock ∧ k_ ≠ gb381)) (okp := (fun k_ => some k_ ≠ (.slice Ao28 y385.length co28 : Value).ownBlock ∧ k_ ≠ gb381)) ?hr ?hp (fun _ hk => hk) ((show ∀ k_, w29.heap.size ≤ k_ → (fun k_ => some k_ ≠ (.slice Ao28 y385.length co28 : Value).ownBlock ∧ k_ ≠ gb381) k_ from fun k_ hk => ⟨Kd.fresh' (Kd.N_lt (by (with_reducible repeat (first | apply Kd.N_alloc | apply Kd.N_drewN | apply Kd.N_drew)); exact HO387.out)) k_ hk, Kd.freshB (g := gb381) (o := .cells #[.string t373, .string t374, .slice Ao9 t375.length co9, .slice Ao10 t378.length co10] 31 (0, 0)) (bTo BK381.out) k_ hk⟩) _ (Nat.le_refl _)) (Below.refl _ _) (Nat.le_refl _) (by simp) ?_; (case hd => rfl); (case hg => rfl); (case hr => first | (go_simp; done) | (go_simp; rfl)); (case hp => exact (Reps.c4 (show Kd.FK k31 _ _ (⟨t373, t374, t375, t378⟩ : S31) [.string t373, .string t374, .slice Ao9 t375.length co9, .slice Ao10 t378.length co10] from (k31_mkF _ _ (⟨t373, t374, t375, t378⟩ : S31) (Kd.V_reads' (Kd.V_mono (ok' := (fun k_ => some k_ ≠ (.slice Ao28 y385.length co28 : Value).ownBlock ∧ k_ ≠ gb381)) (HO_382002.out) (fun k_ hk => ⟨hk.2, hk.1⟩))).2.1 (Kd.V_F (Kd.V_mono (ok' := (fun k_ => some k_ ≠ (.slice Ao28 y385.length co28 : Value).ownBlock ∧ k_ ≠ gb381)) (HO_382002.out) (fun k_ hk => ⟨hk.2, hk.1⟩))) (Kd.V_reads' (Kd.V_mono (ok' := (fun k_ => some k_ ≠ (.slice Ao28 y385.length co28 : Value).ownBlock ∧ k_ ≠ gb381)) (HO_382003.out) (fun k_ hk => ⟨hk.2, hk.1⟩))).2.1 (Kd.V_F (Kd.V_mono (ok' := (fun k_ => some k_ ≠ (.slice Ao28 y385.length co28 : Value).ownBlock ∧ k_ ≠ gb381)) (HO_382003.out) (fun k_ hk => ⟨hk.2, hk.1⟩))))) (Reps.none _ _))); intro v390 w31 ho32 hb hg_ hnew_; clear hg_ hnew_; (first | rw [← Ny389.out] at ho32 | (simp only [Int.reduceToNat] at ho32; rw [← Ny389.out] at ho32)); have n0_ := ak (Kd.V_elder' (by (with_reducible repeat (first | apply Kd.V_alloc | apply Kd.V_drewN | apply Kd.V_drew)); exact HO_382002.out) (Kd.N_base ho32) hb); have n1_ := ak (Kd.V_elder' (by (with_reducible repeat (first | apply Kd.V_alloc | apply Kd.V_drewN | apply Kd.V_drew)); exact HO_382003.out) (Kd.N_base ho32) hb); have n2_ := ak (Kd.N_elder' (by (with_reducible repeat (first | apply Kd.N_alloc | apply Kd.N_drewN | apply Kd.N_drew)); exact HO387.out) (Kd.N_base ho32) hb); have n3_ := ak (Kd.N_lower ho32 (below_size (by repeat (first | (with_reducible first | exact HB.out | apply below_alloc | apply pw_below_drewN | apply below_drew1 | refine below_set ?_ GE381.out) | exact HB.out)))); have n4_ := ak (blk_below (g := gb381) (o := .cells #[.string t373, .string t374, .slice Ao9 t375.length co9, .slice Ao10 t378.length co10] 31 (0, 0)) (bTo BK381.out) hb); have n5_ := ak (below_step (by repeat (first | (with_reducible first | exact HB.out | apply below_alloc | apply pw_below_drewN | apply below_drew1 | refine below_set ?_ GE381.out) | exact HB.out)) hb); clear HO_382002; clear HO_382003; clear HO387; clear BK381; clear HB; have HO_382002 := n0_; have HO_382003 := n1_; have HO387 := n2_; have HO391 := n3_; have BK381 := n4_; have HB := n5_; clear n0_ n1_ n2_ n3_ n4_ n5_; clear hb ho32; obtain ⟨Ao33, co33, eo33⟩ := Kd.N_slice HO391.out; subst eo33) | (go_at_call 9; (with_reducible refine (impl_ValidTests.calls kj4 _ _ y389 t392 _ ?side1 ?side2 A24.out).mono ?_); (case side1 => repeat (first | exact (Kd.N_reads' HO391.out).2.2 | (with_reducible refine Kd.C_alloc ?_ _) | (with_reducible refine Kd.C_drewN ?_ _) | (with_reducible refine Kd.C_drew ?_))); (case side2 => exact (Kd.N_reads' HO391.out).2.1); rintro e w34 ⟨rfl, hb⟩; have n0_ := ak (Kd.V_below (by (with_reducible repeat (first | apply Kd.V_alloc | apply Kd.V_drewN | apply Kd.V_drew)); exact HO_382002.out) hb); have n1_ := ak (Kd.V_below (by (with_reducible repeat (first | apply Kd.V_alloc | apply Kd.V_drewN | apply Kd.V_drew)); exact HO_382003.out) hb); have n2_ := ak (Kd.N_below (by (with_reducible repeat (first | apply Kd.N_alloc | apply Kd.N_drewN | apply Kd.N_drew)); exact HO387.out) hb); have n3_ := ak (Kd.N_below (by (with_reducible repeat (first | apply Kd.N_alloc | apply Kd.N_drewN | apply Kd.N_drew)); exact HO391.out) hb); have n4_ := ak (blk_below (g := gb381) (o := .cells #[.string t373, .string t374, .slice Ao9 t375.length co9, .slice Ao10 t378.length co10] 31 (0, 0)) (bTo BK381.out) hb); have n5_ := ak (below_step (by repeat (first | (with_reducible first | exact HB.out | apply below_alloc | apply pw_below_drewN | apply below_drew1 | refine below_set ?_ GE381.out) | exact HB.out)) hb); clear HO_382002; clear HO_382003; clear HO387; clear HO391; clear BK381; clear HB; have HO_382002 := n0_; have HO_382003 := n1_; have HO387 := n2_; have HO391 := n3_; have BK381 := n4_; have HB := n5_; clear n0_ n1_ n2_ n3_ n4_ n5_; (try clear hb); (try clear hb2); (try clear hk); (try clear hi)))
      go_ret
      exact ⟨by first | rfl | (simp [errW_none, errW_some] <;> rfl) | (simp [*, errW_none, errW_some] <;> rfl), by repeat (first | (with_reducible first | exact HB.out | apply below_alloc | apply pw_below_drewN | apply below_drew1 | refine below_set ?_ GE381.out) | exact HB.out)⟩
     ·rw [if_neg c23] at H
      have c23b0 : (t388 == 0) = false := beq_eq_false_iff_ne.mpr c23
      have c23b1 : (t388 != 0) = true := bne_iff_ne.mpr c23
      obtain rfl := Option.some.inj H
      have hcz35_0 : wc.cell? ⟨gb381, 0, none⟩ = some (.string t373) := (blk_cell BK381.out 0).trans rfl
      have hcz35_1 : wc.cell? ⟨gb381, 1, none⟩ = some (.string t374) := (blk_cell BK381.out 1).trans rfl
      have hcz35_2 : wc.cell? ⟨gb381, 2, none⟩ = some (.slice Ao9 t375.length co9) := (blk_cell BK381.out 2).trans rfl
      have hcz35_3 : wc.cell? ⟨gb381, 3, none⟩ = some (.slice Ao10 t378.length co10) := (blk_cell BK381.out 3).trans rfl
      have hfz35_0 := blk_frozen BK381.out 0
      have hfz35_1 := blk_frozen BK381.out 1
      have hfz35_2 := blk_frozen BK381.out 2
      have hfz35_3 := blk_frozen BK381.out 3
      go_wp2_with (first | ((with_reducible refine gate_dst (N := 25) rfl ?_); (try (refine gate_guard (by rfl) ?_; dsimp only)); refine Kd.N_lit k31 _ 31 ?hg (N' := 25) ?hd (xs := ([(⟨t373, t374, t375, t378⟩ : S31)] : List (S31))) (inner := [.string t373, .string t374, .slice Ao9 t375.length co9, .slice Ao10 t378.length co10]) (ok := (fun k_ => k_ ≠ gb381)) (okp := (fun k_ => k_ ≠ gb381)) ?hr ?hp (fun _ hk => hk) ((show ∀ k_, wc.heap.size ≤ k_ → (fun k_ => k_ ≠ gb381) k_ from fun k_ hk => Kd.freshB (g := gb381) (o := .cells #[.string t373, .string t374, .slice Ao9 t375.length co9, .slice Ao10 t378.length co10] 31 (0, 0)) (bTo BK381.out) k_ hk) _ (Nat.le_refl _)) (Below.refl _ _) (Nat.le_refl _) (by simp) ?_; (case hd => rfl); (case hg => rfl); (case hr => first | (go_simp; done) | (go_simp; rfl)); (case hp => exact (Reps.c4 (show Kd.FK k31 _ _ (⟨t373, t374, t375, t378⟩ : S31) [.string t373, .string t374, .slice Ao9 t375.length co9, .slice Ao10 t378.length co10] from (k31_mkF _ _ (⟨t373, t374, t375, t378⟩ : S31) (Kd.V_reads' (Kd.V_mono (ok' := (fun k_ => k_ ≠ gb381)) (HO_382002.out) (fun k_ hk => hk))).2.1 (Kd.V_F (Kd.V_mono (ok' := (fun k_ => k_ ≠ gb381)) (HO_382002.out) (fun k_ hk => hk))) (Kd.V_reads' (Kd.V_mono (ok' := (fun k_ => k_ ≠ gb381)) (HO_382003.out) (fun k_ hk => hk))).2.1 (Kd.V_F (Kd.V_mono (ok' := (fun k_ => k_ ≠ gb381)) (HO_382003.out) (fun k_ hk => hk))))) (Reps.none _ _))); intro v386 w36 ho37 hb hg_ hnew_; clear hg_ hnew_; (first | rw [← Ny385.out] at ho37 | (simp only [Int.reduceToNat] at ho37; rw [← Ny385.out] at ho37)); have n0_ := ak (Kd.V_elder' (by (with_reducible repeat (first | apply Kd.V_alloc | apply Kd.V_drewN | apply Kd.V_drew)); exact HO_382002.out) (Kd.N_base ho37) hb); have n1_ := ak (Kd.V_elder' (by (with_reducible repeat (first | apply Kd.V_alloc | apply Kd.V_drewN | apply Kd.V_drew)); exact HO_382003.out) (Kd.N_base ho37) hb); have n2_ := ak (Kd.N_lower ho37 (below_size (by repeat (first | (with_reducible first | exact HB.out | apply below_alloc | apply pw_below_drewN | apply below_drew1 | refine below_set ?_ GE381.out) | exact HB.out)))); have n3_ := ak (blk_below (g := gb381) (o := .cells #[.string t373, .string t374, .slice Ao9 t375.length co9, .slice Ao10 t378.length co10] 31 (0, 0)) (bTo BK381.out) hb); have n4_ := ak (below_step (by repeat (first | (with_reducible first | exact HB.out | apply below_alloc | apply pw_below_drewN | apply below_drew1 | refine below_set ?_ GE381.out) | exact HB.out)) hb); clear HO_382002; clear HO_382003; clear BK381; clear HB; have HO_382002 := n0_; have HO_382003 := n1_; have HO387 := n2_; have BK381 := n3_; have HB := n4_; clear n0_ n1_ n2_ n3_ n4_; clear hb ho37; obtain ⟨Ao38, co38, eo38⟩ := Kd.N_slice HO387.out; subst eo38) | ((with_reducible refine gate_callee (f := 16) rfl ?_); refine goesL_ (some 27) rfl rfl Try.func16 (by kernel_rfl) rfl #[.slice Ao38 y385.length co38, .string t382] rfl (by (try simp only [List.map_toArray, List.map_cons, List.map_nil]); first | done | rfl | (simp only [List.length_drop, List.length_take]; rfl)) ?_; (with_reducible refine (impl_FindTest.calls kj4 _ _ y385 t382 t388 _ ?side1 ?side2 A22.out).mono ?_); (case side1 => repeat (first | exact (Kd.N_reads' HO387.out).2.2 | (with_reducible refine Kd.C_alloc ?_ _) | (with_reducible refine Kd.C_drewN ?_ _) | (with_reducible refine Kd.C_drew ?_))); (case side2 => exact (Kd.N_reads' HO387.out).2.1); rintro e w39 ⟨rfl, hb⟩; refine ⟨_, rfl, ?_⟩; have n0_ := ak (Kd.V_below (by (with_reducible repeat (first | apply Kd.V_alloc | apply Kd.V_drewN | apply Kd.V_drew)); exact HO_382002.out) hb); have n1_ := ak (Kd.V_below (by (with_reducible repeat (first | apply Kd.V_alloc | apply Kd.V_drewN | apply Kd.V_drew)); exact HO_382003.out) hb); have n2_ := ak (Kd.N_below (by (with_reducible repeat (first | apply Kd.N_alloc | apply Kd.N_drewN | apply Kd.N_drew)); exact HO387.out) hb); have n3_ := ak (blk_below (g := gb381) (o := .cells #[.string t373, .string t374, .slice Ao9 t375.length co9, .slice Ao10 t378.length co10] 31 (0, 0)) (bTo BK381.out) hb); have n4_ := ak (below_step (by repeat (first | (with_reducible first | exact HB.out | apply below_alloc | apply pw_below_drewN | apply below_drew1 | refine below_set ?_ GE381.out) | exact HB.out)) hb); clear HO_382002; clear HO_382003; clear HO387; clear BK381; clear HB; have HO_382002 := n0_; have HO_382003 := n1_; have HO387 := n2_; have BK381 := n3_; have HB := n4_; clear n0_ n1_ n2_ n3_ n4_; (try clear hb); (try clear hb2); (try clear hk); (try clear hi)))
      go_ret
      exact ⟨by first | rfl | (simp [errW_none, errW_some] <;> rfl) | (simp [*, errW_none, errW_some] <;> rfl), by repeat (first | (with_reducible first | exact HB.out | apply below_alloc | apply pw_below_drewN | apply below_drew1 | refine below_set ?_ GE381.out) | exact HB.out)⟩

/-- THE ONE PURE STATEMENT of laws_FnTestId: yours. -/
def laws_FnTestId.Pure : Prop := ∀ (l0 : List Int), l0.length ≤ maxLen → l0.length * 1 ≤ 140737488351232 → (∀ x ∈ l0, (Lit.int .u8 x).wf = true) → ∃ k, laws_FnTestId.f k l0 = some true
theorem laws_FnTestId.walk (P : laws_FnTestId.Pure) (a0 : Option Addr) (len0 cap0 : Nat) (z0 : List Int) (w : World) (w0 : (a0 = none ∧ len0 = 0 ∧ cap0 = 0 ∧ z0 = []) ∨ ∃ x, a0 = some x ∧ len0 ≤ cap0 ∧ cap0 ≤ maxLen ∧ z0.length = cap0 ∧ (∀ i, i < z0.length → w.cell? (x.add i) = some (.int .u8 (z0.getD i 0))) ∧ ∀ n ∈ z0, (Lit.int .u8 n).wf = true) (y0 : len0 * 1 ≤ 140737488351232) :
  Calls Try.prog 4 #[.slice a0 len0 cap0] w fun e w' => e = .returned (.bool true) ∧ Below w.heap.size w w' := by
 obtain ⟨l0, rfl, hr0, hm0, hw0, hc0⟩ := ReadsInt.ofRowC w0
 obtain ⟨k, h⟩ := P l0 hm0 y0 hw0
 refine (laws_FnTestId.calls k _ _ l0 true w (Kd.C_of_reads (d := (0 : Int)) (h1 := fun _ => rfl) hr0) hc0 h).mono ?_
 rintro e w' ⟨rfl, hd⟩
 exact ⟨rfl, hd⟩

end Go.Proofs.Ytboppbejnadpmaa.OFnTestId

-- Written by a program of this session (the kit's printing program with additions of this session's own); Lean checks it.
import Derived.Test.YtdhppadgpkgpeaaOFnExactCallsOfx0
import Derived.Test.YtdhppadgpkgpeaaOFnExactCallsOfx1
import Derived.Test.YtdhppadgpkgpeaaOFnExactCallsOfx2
import Derived.Test.YtdhppadgpkgpeaaOFnExactCallsOfx3
import Derived.Test.YtdhppadgpkgpeaaOFnExactCallsOfx4
import Derived.Test.YtdhppadgpkgpeaaOFnExactCallsOfx5
namespace Go.Proofs.Ytdhppadgpkgpeaa.OFnExactCallsOf
open Go.RowKit Go.Proofs.YtdhppadgpkgpeaaW.PrintWords Go.Proofs.YtdhppadgpkgpeaaW.PrintLast Go.Proofs.YtdhppadgpkgpeaaW.PrintMore
attribute [local go_sem] max2_int min2_int max_two min_two max_three min_three max_four min_four   -- for this text's walks alone
set_option linter.unusedVariables false
set_option linter.unusedSimpArgs false

/-! ### laws_FnExactCallsOf: function 8 -/
/-- The law, told where it answers true (else: no answer). -/
def laws_FnExactCallsOf.f (k : Nat) (l0 : List S42) (a1 : ByteArray) : Option Bool :=
  if (a1.size : Int) > 1048576 then some true else (laws_szCallS.f k l0 1048576).bind fun left => if left < 0 then some true else
  (laws_toCallS.f k l0).bind fun x => (spec_CallsOf.f k x a1).bind fun w0 => (impl_CallsOf.f k x a1).bind fun g0 =>
  (laws_eqCallS.f k g0 w0).bind fun e1 => if e1 = true then (laws_eqCallS.f k x x).bind fun e2 => if e2 = true then
  (laws_markCallS.f k x 1).bind fun mk => if mk.1 < 0 then none else (laws_markCallS.f k g0 1).bind fun mg =>
  (laws_heldCallS.f k mg.2 1).bind fun q => if q < 0 then none else if q = mg.1 then some true else none else none else none
theorem laws_FnExactCallsOf.opened (k : Nat) (l0 : List S42) (a1 : ByteArray) (r : Bool) (left : Int) (h1 : laws_szCallS.f k l0 1048576 = some left) (d1 : ¬ (a1.size : Int) > 1048576) (d2 : ¬ left < 0) (h : laws_FnExactCallsOf.f k l0 a1 = some r) :
    r = true ∧ ∃ (x w0 g0 x1 g1 : List S45) (m1 q : Int), laws_toCallS.f k l0 = some x ∧ spec_CallsOf.f k x a1 = some w0 ∧ impl_CallsOf.f k x a1 = some g0 ∧ laws_eqCallS.f k g0 w0 = some true ∧ laws_eqCallS.f k x x = some true ∧ laws_markCallS.f k x 1 = some (m1, x1) ∧ laws_markCallS.f k g0 1 = some (q, g1) ∧ laws_heldCallS.f k g1 1 = some q ∧ ¬ m1 < 0 ∧ ¬ q < 0 := by
  rw [laws_FnExactCallsOf.f, if_neg d1, h1, Option.bind_some, if_neg d2] at h
  obtain ⟨x, h2, h⟩ := Option.bind_eq_some_iff.mp h
  obtain ⟨w0, h3, h⟩ := Option.bind_eq_some_iff.mp h
  obtain ⟨g0, h4, h⟩ := Option.bind_eq_some_iff.mp h
  obtain ⟨e1, h5, h⟩ := Option.bind_eq_some_iff.mp h
  cases e1 with
  | false => rw [if_neg (show ¬ (false = true) by decide)] at h; cases h
  | true =>
  rw [if_pos rfl] at h
  obtain ⟨e2, h6, h⟩ := Option.bind_eq_some_iff.mp h
  cases e2 with
  | false => rw [if_neg (show ¬ (false = true) by decide)] at h; cases h
  | true =>
  rw [if_pos rfl] at h
  obtain ⟨⟨m1, x1⟩, h7, h⟩ := Option.bind_eq_some_iff.mp h
  by_cases d3 : m1 < 0
  · rw [if_pos d3] at h; cases h
  rw [if_neg d3] at h
  obtain ⟨⟨m2, g1⟩, h8, h⟩ := Option.bind_eq_some_iff.mp h
  obtain ⟨q, h9, h⟩ := Option.bind_eq_some_iff.mp h
  by_cases d4 : q < 0
  · rw [if_pos d4] at h; cases h
  rw [if_neg d4] at h
  by_cases d5 : q = m2
  · rw [if_pos d5] at h
    have hr := (Option.some.inj h).symm
    clear h
    subst d5
    exact ⟨hr, x, w0, g0, x1, g1, m1, q, h2, h3, h4, h5, h6, h7, h8, h9, d3, d4⟩
  · rw [if_neg d5] at h; cases h
theorem laws_FnExactCallsOf.mono : ∀ a0 a1 k, LeO (laws_FnExactCallsOf.f k a0 a1) (laws_FnExactCallsOf.f (k + 1) a0 a1) := by
  intro a0 a1 k
  unfold laws_FnExactCallsOf.f
  exact LeO.ite (LeO.refl _) (LeO.bind (laws_szCallS.mono _ _ _) (fun _ => LeO.ite (LeO.refl _) (LeO.bind (laws_toCallS.mono _ _) (fun _ => LeO.bind (spec_CallsOf.mono _ _ _) (fun _ => LeO.bind (impl_CallsOf.mono _ _ _) (fun _ => LeO.bind (laws_eqCallS.mono _ _ _) (fun _ => LeO.ite (LeO.bind (laws_eqCallS.mono _ _ _) (fun _ => LeO.ite (LeO.bind (laws_markCallS.mono _ _ _) (fun _ => LeO.ite (LeO.refl _) (LeO.bind (laws_markCallS.mono _ _ _) (fun _ => LeO.bind (laws_heldCallS.mono _ _ _) (fun _ => LeO.refl _))))) (LeO.refl _))) (LeO.refl _))))))))
set_option maxHeartbeats 8000000 in
set_option maxRecDepth 100000 in
theorem laws_FnExactCallsOf.calls (k : Nat) (A0 : Option Addr) (c0 : Nat) (l0 : List S42) (a1 : ByteArray) (r : Bool) (w : World) (hr0 : Kd.C k42 w A0 l0.length l0) (hc0 : l0.length ≤ c0) (h : laws_FnExactCallsOf.f k l0 a1 = some r) :
    Calls Try.prog 8 #[.slice A0 l0.length c0, .string a1] w fun e w' => e = .returned (.bool r) ∧ Below w.heap.size w w' := by
  have HC := Aside0.mk hr0
  have HL := Aside0.mk hc0
  have HF := Aside0.mk h
  clear hr0 hc0 h
  by_cases d1 : (a1.size : Int) > 1048576
  · have d1b : decide ((1048576 : Int) < (a1.size : Int)) = true := decide_eq_true d1
    obtain rfl : true = r := by have h := HF.out; rw [laws_FnExactCallsOf.f, if_pos d1] at h; exact Option.some.inj h
    clear d1
    go_enter Try.func8, Try.ntmps8
    go_wp2
    go_ret
    exact ⟨rfl, Below.refl _ _⟩
  have d1b : decide ((1048576 : Int) < (a1.size : Int)) = false := decide_eq_false d1
  have D1 := Aside0.mk d1
  obtain ⟨left, h1, _⟩ := Option.bind_eq_some_iff.mp (show (laws_szCallS.f k l0 1048576).bind _ = some r from by have h := HF.out; rw [laws_FnExactCallsOf.f, if_neg d1] at h; exact h)
  have H1 := Aside0.mk h1
  clear h1 d1
  by_cases d2 : left < 0
  · have d2b : decide (left < 0) = true := decide_eq_true d2
    obtain rfl : true = r := by have h := HF.out; rw [laws_FnExactCallsOf.f, if_neg D1.out, H1.out, Option.bind_some, if_pos d2] at h; exact Option.some.inj h
    clear d2
    go_enter Try.func8, Try.ntmps8
    go_wp2_with (go_at_call 9; (with_reducible refine (laws_szCallS.calls k A0 c0 l0 1048576 left _ HC.out HL.out H1.out).mono ?_); rintro e w1 ⟨rfl, hb⟩; have B1 := Aside0.mk hb; clear hb)
    go_ret
    exact ⟨rfl, B1.out⟩
  have d2b : decide (left < 0) = false := decide_eq_false d2
  obtain ⟨rfl, x, w0, g0, x1, g1, m1, q, h2, h3, h4, h5, h6, h7, h8, h9, d3, d4⟩ := laws_FnExactCallsOf.opened k l0 a1 r left H1.out D1.out d2 HF.out
  have d3b : decide (m1 < 0) = false := decide_eq_false d3
  have d4b : decide (q < 0) = false := decide_eq_false d4
  have H2 := Aside0.mk h2
  have H3 := Aside0.mk h3
  have H4 := Aside0.mk h4
  have H5 := Aside0.mk h5
  have H6 := Aside0.mk h6
  have H7 := Aside0.mk h7
  have H8 := Aside0.mk h8
  have H9 := Aside0.mk h9
  clear h2 h3 h4 h5 h6 h7 h8 h9 d3 d4 d2 HF D1
  go_enter Try.func8, Try.ntmps8
  go_wp2_with (first | (go_at_call 31; have hcl_ := laws_heldCallS.calls k A5 c5 g1 1 q w15 (Kd.C_below (Kd.S_reads' S11.out).2.2 B1115.out) (by rw [e11]; exact (Kd.S_reads' S9.out).2.1) H9.out; rw [e11] at hcl_; (with_reducible refine hcl_.mono ?_); clear hcl_; rintro e w16 ⟨rfl, hb⟩; have BF : Aside0 (Below w.heap.size w w16) := ⟨below_step (below_step B03.out (below_step B314.out B15.out)) hb⟩; clear hb) | (go_at_call 13; (with_reducible refine (laws_eqCallS.calls k A14 c14 g0 A3 c3 w0 true _ (Kd.S_reads' S14.out).2.2 (Kd.S_reads' S14.out).2.1 (Kd.C_below (Kd.S_reads' S3.out).2.2 B314.out) (Kd.S_reads' S3.out).2.1 H5.out).mono ?_); rintro e w15 ⟨rfl, hb⟩; have B15 := Aside0.mk hb; clear hb; have B1115 : Aside0 (Below w11.heap.size w11 w15) := ⟨below_step (below_step (below_step B12.out B13.out) B14.out) B15.out⟩) | (go_at_call 29; (with_reducible refine (impl_CallsOf.calls k A13 c13 x a1 g0 _ (Kd.S_reads' S13.out).2.2 (Kd.S_reads' S13.out).2.1 H4.out).mono ?_); rintro e w14 ⟨v14, rfl, hs, hb⟩; obtain ⟨A14, c14, rfl⟩ := Kd.S_slice hs; have S14 := Aside0.mk hs; have B14 := Aside0.mk hb; clear hs hb; have B314 : Aside0 (Below w3.heap.size w3 w14) := ⟨below_step (below_step B312.out B13.out) B14.out⟩) | (go_at_call 11; (with_reducible refine (laws_toCallS.calls k A0 c0 l0 x _ (Kd.C_below HC.out (below_step B03.out B312.out)) HL.out H2.out).mono ?_); rintro e w13 ⟨v13, rfl, hs, hb⟩; obtain ⟨A13, c13, rfl⟩ := Kd.S_slice hs; have S13 := Aside0.mk hs; have B13 := Aside0.mk hb; clear hs hb) | (go_at_call 31; have hcl_ := laws_heldCallS.calls k A5 c5 g1 1 q w11 (Kd.S_reads' S11.out).2.2 (by rw [e11]; exact (Kd.S_reads' S9.out).2.1) H9.out; rw [e11] at hcl_; (with_reducible refine hcl_.mono ?_); clear hcl_; rintro e w12 ⟨rfl, hb⟩; have B12 := Aside0.mk hb; clear hb; have B312 : Aside0 (Below w3.heap.size w3 w12) := ⟨below_step B311.out B12.out⟩) | (go_at_call 30; (with_reducible refine (laws_markCallS.calls k _ _ g0 1 q g1 w3 _ B310.out (Kd.S_below S9.out B10.out) H8.out).mono ?_); rintro e w11 ⟨rfl, hs, hb, hk⟩; have S11 := Aside0.mk hs; have B311 : Aside0 (Below w3.heap.size w3 w11) := ⟨hb⟩; have e11 : g1.length = g0.length := (Kd.S_reads' hs).1.symm; clear hs hb hk) | (go_at_call 13; (with_reducible refine (laws_eqCallS.calls k A5 c5 g0 A3 c3 w0 true _ (Kd.S_reads' S9.out).2.2 (Kd.S_reads' S9.out).2.1 (Kd.C_below (Kd.S_reads' S3.out).2.2 B39.out) (Kd.S_reads' S3.out).2.1 H5.out).mono ?_); rintro e w10 ⟨rfl, hb⟩; have B10 := Aside0.mk hb; clear hb; have B310 : Aside0 (Below w3.heap.size w3 w10) := ⟨below_step B39.out B10.out⟩) | (go_at_call 30; (with_reducible refine (laws_markCallS.calls k (fun k_ => k_ < w4.heap.size) _ x 1 m1 x1 w3 _ B38.out (Kd.S_below (Kd.S_mono (Kd.S_bound S4.out) (fun _ h_ => h_.2.2.1)) B48.out) H7.out).mono ?_); rintro e w9 ⟨rfl, hs, hb, hk⟩; have B39 : Aside0 (Below w3.heap.size w3 w9) := ⟨hb⟩; have S9 : Aside0 (Kd.S k45 45 w9 w3.heap.size (fun k_ => w4.heap.size ≤ k_ ∧ k_ < w9.heap.size) (.slice A5 g0.length c5) g0) := ⟨Kd.S_lower (Kd.S_mono (Kd.S_bound (Kd.S_step (Kd.S_below (Kd.S_mono (Kd.S_bound S5.out) (ok' := fun k_ => w4.heap.size ≤ k_) (fun _ h_ => h_.2.1)) B58.out) (fun k_ h_ hl_ => hk.2 k_ hl_ (by omega)))) (fun _ h_ => ⟨h_.1, h_.2.2.1⟩)) B4.out.size⟩; clear hs hb hk) | (go_at_call 13; (with_reducible refine (laws_eqCallS.calls k A4 c4 x A7 c7 x true _ (Kd.C_below (Kd.S_reads' S4.out).2.2 B47.out) (Kd.S_reads' S4.out).2.1 (Kd.S_reads' S7.out).2.2 (Kd.S_reads' S7.out).2.1 H6.out).mono ?_); rintro e w8 ⟨rfl, hb⟩; have B8 := Aside0.mk hb; clear hb; have B48 : Aside0 (Below w4.heap.size w4 w8) := ⟨below_step B47.out B8.out⟩; have B38 : Aside0 (Below w3.heap.size w3 w8) := ⟨below_step B4.out B48.out⟩; have B58 : Aside0 (Below w5.heap.size w5 w8) := ⟨below_step (below_step B6.out B7.out) B8.out⟩) | (go_at_call 11; (with_reducible refine (laws_toCallS.calls k A0 c0 l0 x _ (Kd.C_below HC.out (below_step B03.out B36.out)) HL.out H2.out).mono ?_); rintro e w7 ⟨v7, rfl, hs, hb⟩; obtain ⟨A7, c7, rfl⟩ := Kd.S_slice hs; have S7 := Aside0.mk hs; have B7 := Aside0.mk hb; clear hs hb; have B47 : Aside0 (Below w4.heap.size w4 w7) := ⟨below_step (below_step B5.out B6.out) B7.out⟩) | (go_at_call 13; (with_reducible refine (laws_eqCallS.calls k A5 c5 g0 A3 c3 w0 true _ (Kd.S_reads' S5.out).2.2 (Kd.S_reads' S5.out).2.1 (Kd.C_below (Kd.S_reads' S3.out).2.2 B35.out) (Kd.S_reads' S3.out).2.1 H5.out).mono ?_); rintro e w6 ⟨rfl, hb⟩; have B6 := Aside0.mk hb; clear hb; have B36 : Aside0 (Below w3.heap.size w3 w6) := ⟨below_step B35.out B6.out⟩) | (go_at_call 29; (with_reducible refine (impl_CallsOf.calls k A4 c4 x a1 g0 _ (Kd.S_reads' S4.out).2.2 (Kd.S_reads' S4.out).2.1 H4.out).mono ?_); rintro e w5 ⟨v5, rfl, hs, hb⟩; obtain ⟨A5, c5, rfl⟩ := Kd.S_slice hs; have S5 := Aside0.mk hs; have B5 := Aside0.mk hb; clear hs hb; have B35 : Aside0 (Below w3.heap.size w3 w5) := ⟨below_step B4.out B5.out⟩) | (go_at_call 11; (with_reducible refine (laws_toCallS.calls k A0 c0 l0 x _ (Kd.C_below HC.out B03.out) HL.out H2.out).mono ?_); rintro e w4 ⟨v4, rfl, hs, hb⟩; obtain ⟨A4, c4, rfl⟩ := Kd.S_slice hs; have S4 := Aside0.mk hs; have B4 := Aside0.mk hb; clear hs hb) | (go_at_call 28; (with_reducible refine (spec_CallsOf.calls k A2 c2 x a1 w0 _ (Kd.S_reads' S2.out).2.2 (Kd.S_reads' S2.out).2.1 H3.out).mono ?_); rintro e w3 ⟨v3, rfl, hs, hb⟩; obtain ⟨A3, c3, rfl⟩ := Kd.S_slice hs; have S3 := Aside0.mk hs; have B3 := Aside0.mk hb; clear hs hb; have B03 : Aside0 (Below w.heap.size w w3) := ⟨below_step (below_step B1.out B2.out) B3.out⟩) | (go_at_call 11; (with_reducible refine (laws_toCallS.calls k A0 c0 l0 x _ (Kd.C_below HC.out B1.out) HL.out H2.out).mono ?_); rintro e w2 ⟨v2, rfl, hs, hb⟩; obtain ⟨A2, c2, rfl⟩ := Kd.S_slice hs; have S2 := Aside0.mk hs; have B2 := Aside0.mk hb; clear hs hb) | (go_at_call 9; (with_reducible refine (laws_szCallS.calls k A0 c0 l0 1048576 left _ HC.out HL.out H1.out).mono ?_); rintro e w1 ⟨rfl, hb⟩; have B1 := Aside0.mk hb; clear hb))
  go_ret
  exact ⟨rfl, BF.out⟩

end Go.Proofs.Ytdhppadgpkgpeaa.OFnExactCallsOf

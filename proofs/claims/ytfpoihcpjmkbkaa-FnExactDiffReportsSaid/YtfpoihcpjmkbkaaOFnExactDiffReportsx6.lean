-- Written by a program of this session (the kit's printing program with additions of this session's own); Lean checks it.
import Derived.Test.YtfpoihcpjmkbkaaOFnExactDiffReportsx0
import Derived.Test.YtfpoihcpjmkbkaaOFnExactDiffReportsx1
import Derived.Test.YtfpoihcpjmkbkaaOFnExactDiffReportsx2
import Derived.Test.YtfpoihcpjmkbkaaOFnExactDiffReportsx3
import Derived.Test.YtfpoihcpjmkbkaaOFnExactDiffReportsx4
import Derived.Test.YtfpoihcpjmkbkaaOFnExactDiffReportsx5
namespace Go.Proofs.Ytfpoihcpjmkbkaa.OFnExactDiffReports
open Go.RowKit Go.Proofs.YtfpoihcpjmkbkaaW.PrintWords Go.Proofs.YtfpoihcpjmkbkaaW.PrintLast Go.Proofs.YtfpoihcpjmkbkaaW.PrintMore
attribute [local go_sem] max2_int min2_int max_two min_two max_three min_three max_four min_four   -- for this text's walks alone
set_option linter.unusedVariables false
set_option linter.unusedSimpArgs false

/-! ### laws_FnExactDiffReports: function 11 -/
mutual
def laws_FnExactDiffReports.j0 : Nat → List ByteArray → List ByteArray → List ByteArray → List ByteArray → Bool → List (S80) → List ByteArray → List (S80) → List ByteArray → List (S37) → List ByteArray → List (S37) → List ByteArray → Option (Bool)
 | 0, _, _, _, _, _, _, _, _, _, _, _, _, _ => none
 | k + 1, x6, x7, x10, x11, x54, x222000, x222001, x223000, x223001, x250000, x250001, x257000, x257001 => if x54 = true then (none) else ((laws_toReport.f k x222000 x222001).bind fun bt265 => ((laws_eqReport.f k x250000 x250001 bt265.1 bt265.2).bind fun t271 => (if t271 = true then ((laws_toReport.f k x223000 x223001).bind fun bt272 => ((laws_eqReport.f k x257000 x257001 bt272.1 bt272.2).bind fun t278 => (if t278 = true then ((laws_markReport.f k x250000 x250001 1).bind fun bt279 => ((laws_markReport.f k x257000 x257001 bt279.1).bind fun bt282 => (if bt282.1 < 0 then (laws_FnExactDiffReports.j1 k x6 x7 x10 x11 true x222000 x222001 x223000 x223001) else ((laws_eqStringS.f k x10 x6).bind fun t285 => (if t285 = true then ((laws_eqStringS.f k x11 x7).bind fun t286 => (laws_FnExactDiffReports.j1 k x6 x7 x10 x11 (!t286) x222000 x222001 x223000 x223001)) else (laws_FnExactDiffReports.j1 k x6 x7 x10 x11 true x222000 x222001 x223000 x223001)))))) else (none)))) else (none))))
def laws_FnExactDiffReports.j1 : Nat → List ByteArray → List ByteArray → List ByteArray → List ByteArray → Bool → List (S80) → List ByteArray → List (S80) → List ByteArray → Option (Bool)
 | 0, _, _, _, _, _, _, _, _, _ => none
 | k + 1, x6, x7, x10, x11, x84, x222000, x222001, x223000, x223001 => if x84 = true then (none) else ((laws_markStringS.f k x10 1).bind fun bt287 => ((laws_markStringS.f k x11 bt287.1).bind fun bt289 => ((laws_heldStringS.f k bt287.2 1).bind fun t291 => (if t291 < 0 then (none) else ((laws_heldStringS.f k bt289.2 t291).bind fun t292 => (if t292 < 0 then (none) else (if t292 = bt289.1 then ((laws_toReport.f k x222000 x222001).bind fun bt293 => ((laws_toReport.f k x223000 x223001).bind fun bt299 => ((impl_DiffReports.f k bt293.1 bt293.2 bt299.1 bt299.2).bind fun bt305 => ((laws_eqStringS.f k bt305.1 x6).bind fun t311 => (if t311 = true then ((laws_eqStringS.f k bt305.2 x7).bind fun t312 => (laws_FnExactDiffReports.j2 k bt287.2 bt289.2 bt289.1 (!t312))) else (laws_FnExactDiffReports.j2 k bt287.2 bt289.2 bt289.1 true)))))) else (none))))))))
def laws_FnExactDiffReports.j2 : Nat → List ByteArray → List ByteArray → Int → Bool → Option (Bool)
 | 0, _, _, _, _ => none
 | k + 1, x10, x11, x13, x121 => if x121 = true then (none) else ((laws_heldStringS.f k x10 1).bind fun t313 => (if t313 < 0 then (none) else ((laws_heldStringS.f k x11 t313).bind fun t314 => (if t314 < 0 then (none) else (if t314 = x13 then (some true) else (none))))))
end
def laws_FnExactDiffReports.f (k : Nat) (l0_0 : List (S80)) (l0_1 : List ByteArray) (l1_0 : List (S80)) (l1_1 : List ByteArray) : Option (Bool) := (laws_szReport.f k l0_0 l0_1 1048576).bind fun t223 => (if t223 < 0 then (some true) else ((laws_szReport.f k l1_0 l1_1 t223).bind fun t224 => (if t224 < 0 then (some true) else ((laws_toReport.f k l0_0 l0_1).bind fun bt225 => ((laws_toReport.f k l1_0 l1_1).bind fun bt231 => ((spec_DiffReports.f k bt225.1 bt225.2 bt231.1 bt231.2).bind fun bt237 => ((laws_toReport.f k l0_0 l0_1).bind fun bt243 => ((laws_toReport.f k l1_0 l1_1).bind fun bt250 => ((impl_DiffReports.f k bt243.1 bt243.2 bt250.1 bt250.2).bind fun bt257 => ((laws_eqStringS.f k bt257.1 bt237.1).bind fun t263 => (if t263 = true then ((laws_eqStringS.f k bt257.2 bt237.2).bind fun t264 => (laws_FnExactDiffReports.j0 k bt237.1 bt237.2 bt257.1 bt257.2 (!t264) l0_0 l0_1 l1_0 l1_1 bt243.1 bt243.2 bt250.1 bt250.2)) else (laws_FnExactDiffReports.j0 k bt237.1 bt237.2 bt257.1 bt257.2 true l0_0 l0_1 l1_0 l1_1 bt243.1 bt243.2 bt250.1 bt250.2))))))))))))
theorem laws_FnExactDiffReports.mono_l : ∀ k, (∀ y0 y1 y2 y3 y4 y5 y6 y7 y8 y9 y10 y11 y12, LeO (laws_FnExactDiffReports.j0 k y0 y1 y2 y3 y4 y5 y6 y7 y8 y9 y10 y11 y12) (laws_FnExactDiffReports.j0 (k + 1) y0 y1 y2 y3 y4 y5 y6 y7 y8 y9 y10 y11 y12)) ∧ (∀ y0 y1 y2 y3 y4 y5 y6 y7 y8, LeO (laws_FnExactDiffReports.j1 k y0 y1 y2 y3 y4 y5 y6 y7 y8) (laws_FnExactDiffReports.j1 (k + 1) y0 y1 y2 y3 y4 y5 y6 y7 y8)) ∧ (∀ y0 y1 y2 y3, LeO (laws_FnExactDiffReports.j2 k y0 y1 y2 y3) (laws_FnExactDiffReports.j2 (k + 1) y0 y1 y2 y3))
 | 0 => ⟨fun _ _ _ _ _ _ _ _ _ _ _ _ _ r h => by simp [laws_FnExactDiffReports.j0] at h, fun _ _ _ _ _ _ _ _ _ r h => by simp [laws_FnExactDiffReports.j1] at h, fun _ _ _ _ r h => by simp [laws_FnExactDiffReports.j2] at h⟩
 | k + 1 => by
  obtain ⟨ih0, ih1, ih2⟩ := laws_FnExactDiffReports.mono_l k
  refine ⟨?_, ?_, ?_⟩
  ·intro y0 y1 y2 y3 y4 y5 y6 y7 y8 y9 y10 y11 y12
   unfold laws_FnExactDiffReports.j0
   repeat' first
   | (with_reducible exact ih0 _ _ _ _ _ _ _ _ _ _ _ _ _)
   | (with_reducible exact ih1 _ _ _ _ _ _ _ _ _)
   | (with_reducible exact ih2 _ _ _ _)
   | (with_reducible exact impl_DiffReports.mono _ _ _ _ _)
   | (with_reducible exact laws_eqReport.mono _ _ _ _ _)
   | (with_reducible exact laws_eqStringS.mono _ _ _)
   | (with_reducible exact laws_heldStringS.mono _ _ _)
   | (with_reducible exact laws_markReport.mono _ _ _ _)
   | (with_reducible exact laws_markStringS.mono _ _ _)
   | (with_reducible exact laws_szReport.mono _ _ _ _)
   | (with_reducible exact laws_toReport.mono _ _ _)
   | (with_reducible exact spec_DiffReports.mono _ _ _ _ _)
   | (with_reducible exact LeO.refl _)
   | (with_reducible exact LeO.none _)
   | (with_reducible refine LeO.ite ?_ ?_)
   | (with_reducible refine LeO.bind ?_ (fun _ => ?_))
   | exact ih0 _ _ _ _ _ _ _ _ _ _ _ _ _
   | exact ih1 _ _ _ _ _ _ _ _ _
   | exact ih2 _ _ _ _
   | exact impl_DiffReports.mono _ _ _ _ _
   | exact laws_eqReport.mono _ _ _ _ _
   | exact laws_eqStringS.mono _ _ _
   | exact laws_heldStringS.mono _ _ _
   | exact laws_markReport.mono _ _ _ _
   | exact laws_markStringS.mono _ _ _
   | exact laws_szReport.mono _ _ _ _
   | exact laws_toReport.mono _ _ _
   | exact spec_DiffReports.mono _ _ _ _ _
   | exact LeO.none _
   | refine LeO.ite ?_ ?_
   | refine LeO.bind ?_ (fun _ => ?_)
  ·intro y0 y1 y2 y3 y4 y5 y6 y7 y8
   unfold laws_FnExactDiffReports.j1
   repeat' first
   | (with_reducible exact ih0 _ _ _ _ _ _ _ _ _ _ _ _ _)
   | (with_reducible exact ih1 _ _ _ _ _ _ _ _ _)
   | (with_reducible exact ih2 _ _ _ _)
   | (with_reducible exact impl_DiffReports.mono _ _ _ _ _)
   | (with_reducible exact laws_eqReport.mono _ _ _ _ _)
   | (with_reducible exact laws_eqStringS.mono _ _ _)
   | (with_reducible exact laws_heldStringS.mono _ _ _)
   | (with_reducible exact laws_markReport.mono _ _ _ _)
   | (with_reducible exact laws_markStringS.mono _ _ _)
   | (with_reducible exact laws_szReport.mono _ _ _ _)
   | (with_reducible exact laws_toReport.mono _ _ _)
   | (with_reducible exact spec_DiffReports.mono _ _ _ _ _)
   | (with_reducible exact LeO.refl _)
   | (with_reducible exact LeO.none _)
   | (with_reducible refine LeO.ite ?_ ?_)
   | (with_reducible refine LeO.bind ?_ (fun _ => ?_))
   | exact ih0 _ _ _ _ _ _ _ _ _ _ _ _ _
   | exact ih1 _ _ _ _ _ _ _ _ _
   | exact ih2 _ _ _ _
   | exact impl_DiffReports.mono _ _ _ _ _
   | exact laws_eqReport.mono _ _ _ _ _
   | exact laws_eqStringS.mono _ _ _
   | exact laws_heldStringS.mono _ _ _
   | exact laws_markReport.mono _ _ _ _
   | exact laws_markStringS.mono _ _ _
   | exact laws_szReport.mono _ _ _ _
   | exact laws_toReport.mono _ _ _
   | exact spec_DiffReports.mono _ _ _ _ _
   | exact LeO.none _
   | refine LeO.ite ?_ ?_
   | refine LeO.bind ?_ (fun _ => ?_)
  ·intro y0 y1 y2 y3
   unfold laws_FnExactDiffReports.j2
   repeat' first
   | (with_reducible exact ih0 _ _ _ _ _ _ _ _ _ _ _ _ _)
   | (with_reducible exact ih1 _ _ _ _ _ _ _ _ _)
   | (with_reducible exact ih2 _ _ _ _)
   | (with_reducible exact impl_DiffReports.mono _ _ _ _ _)
   | (with_reducible exact laws_eqReport.mono _ _ _ _ _)
   | (with_reducible exact laws_eqStringS.mono _ _ _)
   | (with_reducible exact laws_heldStringS.mono _ _ _)
   | (with_reducible exact laws_markReport.mono _ _ _ _)
   | (with_reducible exact laws_markStringS.mono _ _ _)
   | (with_reducible exact laws_szReport.mono _ _ _ _)
   | (with_reducible exact laws_toReport.mono _ _ _)
   | (with_reducible exact spec_DiffReports.mono _ _ _ _ _)
   | (with_reducible exact LeO.refl _)
   | (with_reducible exact LeO.none _)
   | (with_reducible refine LeO.ite ?_ ?_)
   | (with_reducible refine LeO.bind ?_ (fun _ => ?_))
   | exact ih0 _ _ _ _ _ _ _ _ _ _ _ _ _
   | exact ih1 _ _ _ _ _ _ _ _ _
   | exact ih2 _ _ _ _
   | exact impl_DiffReports.mono _ _ _ _ _
   | exact laws_eqReport.mono _ _ _ _ _
   | exact laws_eqStringS.mono _ _ _
   | exact laws_heldStringS.mono _ _ _
   | exact laws_markReport.mono _ _ _ _
   | exact laws_markStringS.mono _ _ _
   | exact laws_szReport.mono _ _ _ _
   | exact laws_toReport.mono _ _ _
   | exact spec_DiffReports.mono _ _ _ _ _
   | exact LeO.none _
   | refine LeO.ite ?_ ?_
   | refine LeO.bind ?_ (fun _ => ?_)
theorem laws_FnExactDiffReports.mono : ∀ a0 a1 a2 a3 k, LeO (laws_FnExactDiffReports.f k a0 a1 a2 a3) (laws_FnExactDiffReports.f (k + 1) a0 a1 a2 a3) := by
 intro a0 a1 a2 a3 k
 obtain ⟨ih0, ih1, ih2⟩ := laws_FnExactDiffReports.mono_l k
 unfold laws_FnExactDiffReports.f
 repeat' first
   | (with_reducible exact ih0 _ _ _ _ _ _ _ _ _ _ _ _ _)
   | (with_reducible exact ih1 _ _ _ _ _ _ _ _ _)
   | (with_reducible exact ih2 _ _ _ _)
   | (with_reducible exact impl_DiffReports.mono _ _ _ _ _)
   | (with_reducible exact laws_eqReport.mono _ _ _ _ _)
   | (with_reducible exact laws_eqStringS.mono _ _ _)
   | (with_reducible exact laws_heldStringS.mono _ _ _)
   | (with_reducible exact laws_markReport.mono _ _ _ _)
   | (with_reducible exact laws_markStringS.mono _ _ _)
   | (with_reducible exact laws_szReport.mono _ _ _ _)
   | (with_reducible exact laws_toReport.mono _ _ _)
   | (with_reducible exact spec_DiffReports.mono _ _ _ _ _)
   | (with_reducible exact LeO.refl _)
   | (with_reducible exact LeO.none _)
   | (with_reducible refine LeO.ite ?_ ?_)
   | (with_reducible refine LeO.bind ?_ (fun _ => ?_))
   | exact ih0 _ _ _ _ _ _ _ _ _ _ _ _ _
   | exact ih1 _ _ _ _ _ _ _ _ _
   | exact ih2 _ _ _ _
   | exact impl_DiffReports.mono _ _ _ _ _
   | exact laws_eqReport.mono _ _ _ _ _
   | exact laws_eqStringS.mono _ _ _
   | exact laws_heldStringS.mono _ _ _
   | exact laws_markReport.mono _ _ _ _
   | exact laws_markStringS.mono _ _ _
   | exact laws_szReport.mono _ _ _ _
   | exact laws_toReport.mono _ _ _
   | exact spec_DiffReports.mono _ _ _ _ _
   | exact LeO.none _
   | refine LeO.ite ?_ ?_
   | refine LeO.bind ?_ (fun _ => ?_)
def laws_FnExactDiffReports.T8 : Bool × List (List Nat × List Nat) := (true, [([], []), ([0], [0]), ([], []), ([2, 1], [2]), ([1, 3, 3], [1, 3]), ([4], [4]), ([5], [5]), ([5], [5]), ([6, 4, 0, 1, 2, 3, 4, 5, 6], [6]), ([7, 8, 0, 1, 2, 3, 4, 5, 6, 7, 8], [7])])
def laws_FnExactDiffReports.B8 : List Nat := [0, 1, 0, 7, 15, 31, 63, 63, 127, 511]
theorem laws_FnExactDiffReports.tab8 : rtab .any (opsOf Try.f11 8) = laws_FnExactDiffReports.T8 := by kernel_rfl
theorem laws_FnExactDiffReports.bits8 : waitsOk laws_FnExactDiffReports.T8.2 laws_FnExactDiffReports.B8 = true := by kernel_rfl
def laws_FnExactDiffReports.T35 : Bool × List (List Nat × List Nat) := (true, [([], []), ([0], [0]), ([], []), ([2, 1], [2]), ([1, 3, 3], [1, 3]), ([4], [4]), ([5], [5]), ([5], [5]), ([6, 4, 0, 1, 2, 3, 4, 5, 6], [6]), ([7, 8, 0, 1, 2, 3, 4, 5, 6, 7, 8], [7])])
def laws_FnExactDiffReports.B35 : List Nat := [0, 1, 0, 7, 15, 31, 63, 63, 127, 511]
theorem laws_FnExactDiffReports.tab35 : rtab .any (opsOf Try.f11 35) = laws_FnExactDiffReports.T35 := by kernel_rfl
theorem laws_FnExactDiffReports.bits35 : waitsOk laws_FnExactDiffReports.T35.2 laws_FnExactDiffReports.B35 = true := by kernel_rfl
set_option maxHeartbeats 8000000 in
set_option maxRecDepth 100000 in
theorem laws_FnExactDiffReports.calls (k : Nat) (A0_0 : Option Addr) (c0_0 : Nat) (l0_0 : List (S80)) (A0_1 : Option Addr) (c0_1 : Nat) (l0_1 : List ByteArray) (A1_0 : Option Addr) (c1_0 : Nat) (l1_0 : List (S80)) (A1_1 : Option Addr) (c1_1 : Nat) (l1_1 : List ByteArray) (r : Bool) (w : World) (hr0_0 : Kd.C k80 w A0_0 l0_0.length l0_0) (hc0_0 : l0_0.length ≤ c0_0) (hr0_1 : Kd.C Kd.string w A0_1 l0_1.length l0_1) (hc0_1 : l0_1.length ≤ c0_1) (hr1_0 : Kd.C k80 w A1_0 l1_0.length l1_0) (hc1_0 : l1_0.length ≤ c1_0) (hr1_1 : Kd.C Kd.string w A1_1 l1_1.length l1_1) (hc1_1 : l1_1.length ≤ c1_1) (h : laws_FnExactDiffReports.f k l0_0 l0_1 l1_0 l1_1 = some r) :
  Calls Try.prog 11 #[.agg #[.slice A0_0 l0_0.length c0_0, .slice A0_1 l0_1.length c0_1], .agg #[.slice A1_0 l1_0.length c1_0, .slice A1_1 l1_1.length c1_1]] w fun e w' => e = .returned (.bool r) ∧ Below w.heap.size w w' := by
 have hu41 := Try.underlying41
 have hu26 := Try.underlying26
 have HR0_0 := Aside0.mk hr0_0
 have HC0_0 := Aside0.mk hc0_0
 clear hr0_0 hc0_0
 have HR0_1 := Aside0.mk hr0_1
 have HC0_1 := Aside0.mk hc0_1
 clear hr0_1 hc0_1
 have HR1_0 := Aside0.mk hr1_0
 have HC1_0 := Aside0.mk hc1_0
 clear hr1_0 hc1_0
 have HR1_1 := Aside0.mk hr1_1
 have HC1_1 := Aside0.mk hc1_1
 clear hr1_1 hc1_1
 have HB := Aside0.mk (Below.refl w.heap.size w)
 have H : ((laws_szReport.f k l0_0 l0_1 1048576).bind fun t223 => (if t223 < 0 then (some true) else ((laws_szReport.f k l1_0 l1_1 t223).bind fun t224 => (if t224 < 0 then (some true) else ((laws_toReport.f k l0_0 l0_1).bind fun bt225 => ((laws_toReport.f k l1_0 l1_1).bind fun bt231 => ((spec_DiffReports.f k bt225.1 bt225.2 bt231.1 bt231.2).bind fun bt237 => ((laws_toReport.f k l0_0 l0_1).bind fun bt243 => ((laws_toReport.f k l1_0 l1_1).bind fun bt250 => ((impl_DiffReports.f k bt243.1 bt243.2 bt250.1 bt250.2).bind fun bt257 => ((laws_eqStringS.f k bt257.1 bt237.1).bind fun t263 => (if t263 = true then ((laws_eqStringS.f k bt257.2 bt237.2).bind fun t264 => (laws_FnExactDiffReports.j0 k bt237.1 bt237.2 bt257.1 bt257.2 (!t264) l0_0 l0_1 l1_0 l1_1 bt243.1 bt243.2 bt250.1 bt250.2)) else (laws_FnExactDiffReports.j0 k bt237.1 bt237.2 bt257.1 bt257.2 true l0_0 l0_1 l1_0 l1_1 bt243.1 bt243.2 bt250.1 bt250.2))))))))))))) = some r := h
 clear h
 replace H := Option.bind_eq_some_iff.mp H
 obtain ⟨t223, A30, H⟩ := H
 replace H : (if t223 < 0 then (some true) else ((laws_szReport.f k l1_0 l1_1 t223).bind fun t224 => (if t224 < 0 then (some true) else ((laws_toReport.f k l0_0 l0_1).bind fun bt225 => ((laws_toReport.f k l1_0 l1_1).bind fun bt231 => ((spec_DiffReports.f k bt225.1 bt225.2 bt231.1 bt231.2).bind fun bt237 => ((laws_toReport.f k l0_0 l0_1).bind fun bt243 => ((laws_toReport.f k l1_0 l1_1).bind fun bt250 => ((impl_DiffReports.f k bt243.1 bt243.2 bt250.1 bt250.2).bind fun bt257 => ((laws_eqStringS.f k bt257.1 bt237.1).bind fun t263 => (if t263 = true then ((laws_eqStringS.f k bt257.2 bt237.2).bind fun t264 => (laws_FnExactDiffReports.j0 k bt237.1 bt237.2 bt257.1 bt257.2 (!t264) l0_0 l0_1 l1_0 l1_1 bt243.1 bt243.2 bt250.1 bt250.2)) else (laws_FnExactDiffReports.j0 k bt237.1 bt237.2 bt257.1 bt257.2 true l0_0 l0_1 l1_0 l1_1 bt243.1 bt243.2 bt250.1 bt250.2)))))))))))) = some r := H
 have A3 := Aside0.mk A30
 clear A30
 by_cases c4 : t223 < 0
 ·rw [if_pos c4] at H
  have c4b0 : decide (t223 < 0) = true := decide_eq_true c4
  clear c4
  obtain rfl := Option.some.inj H
  go_enter Try.func11, Try.ntmps11
  go_wp2_with (first | ((with_reducible refine gate_dst (N := 2) rfl ?_); refine box_event ?hg (N := 2) ?hd (cs := #[.slice A0_0 l0_0.length c0_0, .slice A0_1 l0_1.length c0_1]) (t := 41) ?hr ?_; (case hd => rfl); (case hg => rfl); (case hr => first | (go_simp; done) | (go_simp; rfl)); intro gb221 hg w5 hbox hb; have n0_ := Aside0.mk (below_step (by repeat (first | (with_reducible first | exact HB.out | apply below_alloc | apply pw_below_drewN | apply below_drew1) | exact HB.out)) hb); have n1_ := Aside0.mk (hbox); have n2_ := Aside0.mk ((by rw [hg]; exact (below_size (by repeat (first | (with_reducible first | exact HB.out | apply below_alloc | apply pw_below_drewN | apply below_drew1) | exact HB.out))) : w.heap.size ≤ gb221)); have n3_ := Aside0.mk ((by rw [hg]; exact (below_size (by repeat (first | (with_reducible first | exact HB.out | apply below_alloc | apply pw_below_drewN | apply below_drew1) | exact HB.out))) : w.heap.size ≤ gb221)); clear HB; have HB := n0_; have BK221 := n1_; have GW221 := n2_; have GE221 := n3_; clear n0_ n1_ n2_ n3_; clear hb hbox hg) | ((with_reducible refine gate_dst (N := 3) rfl ?_); refine box_event ?hg (N := 3) ?hd (cs := #[.slice A1_0 l1_0.length c1_0, .slice A1_1 l1_1.length c1_1]) (t := 41) ?hr ?_; (case hd => rfl); (case hg => rfl); (case hr => first | (go_simp; done) | (go_simp; rfl)); intro gb222 hg w6 hbox hb; have n0_ := Aside0.mk (blk_below (g := gb221) (o := .cells #[.slice A0_0 l0_0.length c0_0, .slice A0_1 l0_1.length c0_1] 41 (0, 0)) (by (with_reducible repeat (first | apply blk_drewN | apply blk_drew | apply blk_alloc)); exact BK221.out) hb); have n1_ := Aside0.mk (below_step (by repeat (first | (with_reducible first | exact HB.out | apply below_alloc | apply pw_below_drewN | apply below_drew1 | refine below_set ?_ GE221.out) | exact HB.out)) hb); have n2_ := Aside0.mk (hbox); have n3_ := Aside0.mk ((by rw [hg]; exact (below_size (by repeat (first | (with_reducible first | exact HB.out | apply below_alloc | apply pw_below_drewN | apply below_drew1 | refine below_set ?_ GE221.out) | exact HB.out))) : w.heap.size ≤ gb222)); have n4_ := Aside0.mk ((by rw [hg]; exact (below_size (by repeat (first | (with_reducible first | exact HB.out | apply below_alloc | apply pw_below_drewN | apply below_drew1 | refine below_set ?_ GE221.out) | exact HB.out))) : w.heap.size ≤ gb222)); have n5_ := Aside0.mk ((by rw [hg]; exact Nat.ne_of_lt (blk_lt (g := gb221) (o := .cells #[.slice A0_0 l0_0.length c0_0, .slice A0_1 l0_1.length c0_1] 41 (0, 0)) (by (with_reducible repeat (first | apply blk_drewN | apply blk_drew | apply blk_alloc)); exact BK221.out)) : gb221 ≠ gb222)); have n6_ := Aside0.mk ((by rw [hg]; exact Nat.ne_of_gt (blk_lt (g := gb221) (o := .cells #[.slice A0_0 l0_0.length c0_0, .slice A0_1 l0_1.length c0_1] 41 (0, 0)) (by (with_reducible repeat (first | apply blk_drewN | apply blk_drew | apply blk_alloc)); exact BK221.out)) : gb222 ≠ gb221)); clear BK221; clear HB; have BK221 := n0_; have HB := n1_; have BK222 := n2_; have GW222 := n3_; have GE222 := n4_; have NB221_222 := n5_; have NB222_221 := n6_; clear n0_ n1_ n2_ n3_ n4_ n5_ n6_; clear hb hbox hg; have hnb7 := NB221_222.out; have hnc7 := NB222_221.out; have hcz8_0 : w6.cell? ⟨gb221, 0, none⟩ = some (.slice A0_0 l0_0.length c0_0) := (blk_cell BK221.out 0).trans rfl; have hcz8_1 : w6.cell? ⟨gb221, 1, none⟩ = some (.slice A0_1 l0_1.length c0_1) := (blk_cell BK221.out 1).trans rfl; have hfz8_0 := blk_frozen BK221.out 0; have hfz8_1 := blk_frozen BK221.out 1) | ((with_reducible refine gate_callee (f := 23) rfl ?_); refine goesL_ (some 19) rfl rfl Try.func23 (by kernel_rfl) rfl #[.agg #[.slice A0_0 l0_0.length c0_0, .slice A0_1 l0_1.length c0_1], .int .i64 1048576] rfl (by (try simp only [List.map_toArray, List.map_cons, List.map_nil]); first | done | rfl | (simp only [List.length_drop, List.length_take]; rfl)) ?_; (with_reducible refine (laws_szReport.calls k _ _ l0_0 _ _ l0_1 1048576 t223 _ ?side1 ?side2 ?side3 ?side4 A3.out).mono ?_); (case side1 => repeat (first | exact (Kd.C_below HR0_0.out HB.out) | (with_reducible refine Kd.C_alloc ?_ _) | (with_reducible refine Kd.C_drewN ?_ _) | (with_reducible refine Kd.C_drew ?_))); (case side2 => exact HC0_0.out); (case side3 => repeat (first | exact (Kd.C_below HR0_1.out HB.out) | (with_reducible refine Kd.C_alloc ?_ _) | (with_reducible refine Kd.C_drewN ?_ _) | (with_reducible refine Kd.C_drew ?_))); (case side4 => exact HC0_1.out); rintro e w9 ⟨rfl, hb⟩; refine ⟨_, rfl, ?_⟩; have n0_ := Aside0.mk (blk_below (g := gb221) (o := .cells #[.slice A0_0 l0_0.length c0_0, .slice A0_1 l0_1.length c0_1] 41 (0, 0)) (by (with_reducible repeat (first | apply blk_drewN | apply blk_drew | apply blk_alloc)); exact BK221.out) hb); have n1_ := Aside0.mk (blk_below (g := gb222) (o := .cells #[.slice A1_0 l1_0.length c1_0, .slice A1_1 l1_1.length c1_1] 41 (0, 0)) (by (with_reducible repeat (first | apply blk_drewN | apply blk_drew | apply blk_alloc)); exact BK222.out) hb); have n2_ := Aside0.mk (below_step (by repeat (first | (with_reducible first | exact HB.out | apply below_alloc | apply pw_below_drewN | apply below_drew1 | refine below_set ?_ GE221.out | refine below_set ?_ GE222.out) | exact HB.out)) hb); clear BK221; clear BK222; clear HB; have BK221 := n0_; have BK222 := n1_; have HB := n2_; clear n0_ n1_ n2_; (try clear hb); (try clear hb2); (try clear hk); (try clear hi)))
  go_ret
  exact ⟨by first | rfl | (simp [errW_none, errW_some] <;> rfl) | (simp [*, errW_none, errW_some] <;> rfl), by repeat (first | (with_reducible first | exact HB.out | apply below_alloc | apply pw_below_drewN | apply below_drew1 | refine below_set ?_ GE221.out | refine below_set ?_ GE222.out) | exact HB.out)⟩
 ·rw [if_neg c4] at H
  have c4b0 : decide (t223 < 0) = false := decide_eq_false c4
  clear c4
  replace H := Option.bind_eq_some_iff.mp H
  obtain ⟨t224, A100, H⟩ := H
  replace H : (if t224 < 0 then (some true) else ((laws_toReport.f k l0_0 l0_1).bind fun bt225 => ((laws_toReport.f k l1_0 l1_1).bind fun bt231 => ((spec_DiffReports.f k bt225.1 bt225.2 bt231.1 bt231.2).bind fun bt237 => ((laws_toReport.f k l0_0 l0_1).bind fun bt243 => ((laws_toReport.f k l1_0 l1_1).bind fun bt250 => ((impl_DiffReports.f k bt243.1 bt243.2 bt250.1 bt250.2).bind fun bt257 => ((laws_eqStringS.f k bt257.1 bt237.1).bind fun t263 => (if t263 = true then ((laws_eqStringS.f k bt257.2 bt237.2).bind fun t264 => (laws_FnExactDiffReports.j0 k bt237.1 bt237.2 bt257.1 bt257.2 (!t264) l0_0 l0_1 l1_0 l1_1 bt243.1 bt243.2 bt250.1 bt250.2)) else (laws_FnExactDiffReports.j0 k bt237.1 bt237.2 bt257.1 bt257.2 true l0_0 l0_1 l1_0 l1_1 bt243.1 bt243.2 bt250.1 bt250.2)))))))))) = some r := H
  have A10 := Aside0.mk A100
  clear A100
  by_cases c11 : t224 < 0
  ·rw [if_pos c11] at H
   have c11b0 : decide (t224 < 0) = true := decide_eq_true c11
   clear c11
   obtain rfl := Option.some.inj H
   go_enter Try.func11, Try.ntmps11
   go_wp2_with (first | ((with_reducible refine gate_dst (N := 2) rfl ?_); refine box_event ?hg (N := 2) ?hd (cs := #[.slice A0_0 l0_0.length c0_0, .slice A0_1 l0_1.length c0_1]) (t := 41) ?hr ?_; (case hd => rfl); (case hg => rfl); (case hr => first | (go_simp; done) | (go_simp; rfl)); intro gb221 hg w12 hbox hb; have n0_ := Aside0.mk (below_step (by repeat (first | (with_reducible first | exact HB.out | apply below_alloc | apply pw_below_drewN | apply below_drew1) | exact HB.out)) hb); have n1_ := Aside0.mk (hbox); have n2_ := Aside0.mk ((by rw [hg]; exact (below_size (by repeat (first | (with_reducible first | exact HB.out | apply below_alloc | apply pw_below_drewN | apply below_drew1) | exact HB.out))) : w.heap.size ≤ gb221)); have n3_ := Aside0.mk ((by rw [hg]; exact (below_size (by repeat (first | (with_reducible first | exact HB.out | apply below_alloc | apply pw_below_drewN | apply below_drew1) | exact HB.out))) : w.heap.size ≤ gb221)); clear HB; have HB := n0_; have BK221 := n1_; have GW221 := n2_; have GE221 := n3_; clear n0_ n1_ n2_ n3_; clear hb hbox hg) | ((with_reducible refine gate_dst (N := 3) rfl ?_); refine box_event ?hg (N := 3) ?hd (cs := #[.slice A1_0 l1_0.length c1_0, .slice A1_1 l1_1.length c1_1]) (t := 41) ?hr ?_; (case hd => rfl); (case hg => rfl); (case hr => first | (go_simp; done) | (go_simp; rfl)); intro gb222 hg w13 hbox hb; have n0_ := Aside0.mk (blk_below (g := gb221) (o := .cells #[.slice A0_0 l0_0.length c0_0, .slice A0_1 l0_1.length c0_1] 41 (0, 0)) (by (with_reducible repeat (first | apply blk_drewN | apply blk_drew | apply blk_alloc)); exact BK221.out) hb); have n1_ := Aside0.mk (below_step (by repeat (first | (with_reducible first | exact HB.out | apply below_alloc | apply pw_below_drewN | apply below_drew1 | refine below_set ?_ GE221.out) | exact HB.out)) hb); have n2_ := Aside0.mk (hbox); have n3_ := Aside0.mk ((by rw [hg]; exact (below_size (by repeat (first | (with_reducible first | exact HB.out | apply below_alloc | apply pw_below_drewN | apply below_drew1 | refine below_set ?_ GE221.out) | exact HB.out))) : w.heap.size ≤ gb222)); have n4_ := Aside0.mk ((by rw [hg]; exact (below_size (by repeat (first | (with_reducible first | exact HB.out | apply below_alloc | apply pw_below_drewN | apply below_drew1 | refine below_set ?_ GE221.out) | exact HB.out))) : w.heap.size ≤ gb222)); have n5_ := Aside0.mk ((by rw [hg]; exact Nat.ne_of_lt (blk_lt (g := gb221) (o := .cells #[.slice A0_0 l0_0.length c0_0, .slice A0_1 l0_1.length c0_1] 41 (0, 0)) (by (with_reducible repeat (first | apply blk_drewN | apply blk_drew | apply blk_alloc)); exact BK221.out)) : gb221 ≠ gb222)); have n6_ := Aside0.mk ((by rw [hg]; exact Nat.ne_of_gt (blk_lt (g := gb221) (o := .cells #[.slice A0_0 l0_0.length c0_0, .slice A0_1 l0_1.length c0_1] 41 (0, 0)) (by (with_reducible repeat (first | apply blk_drewN | apply blk_drew | apply blk_alloc)); exact BK221.out)) : gb222 ≠ gb221)); clear BK221; clear HB; have BK221 := n0_; have HB := n1_; have BK222 := n2_; have GW222 := n3_; have GE222 := n4_; have NB221_222 := n5_; have NB222_221 := n6_; clear n0_ n1_ n2_ n3_ n4_ n5_ n6_; clear hb hbox hg; have hnb14 := NB221_222.out; have hnc14 := NB222_221.out; have hcz15_0 : w13.cell? ⟨gb221, 0, none⟩ = some (.slice A0_0 l0_0.length c0_0) := (blk_cell BK221.out 0).trans rfl; have hcz15_1 : w13.cell? ⟨gb221, 1, none⟩ = some (.slice A0_1 l0_1.length c0_1) := (blk_cell BK221.out 1).trans rfl; have hfz15_0 := blk_frozen BK221.out 0; have hfz15_1 := blk_frozen BK221.out 1) | ((with_reducible refine gate_callee (f := 23) rfl ?_); refine goesL_ (some 19) rfl rfl Try.func23 (by kernel_rfl) rfl #[.agg #[.slice A0_0 l0_0.length c0_0, .slice A0_1 l0_1.length c0_1], .int .i64 1048576] rfl (by (try simp only [List.map_toArray, List.map_cons, List.map_nil]); first | done | rfl | (simp only [List.length_drop, List.length_take]; rfl)) ?_; (with_reducible refine (laws_szReport.calls k _ _ l0_0 _ _ l0_1 1048576 t223 _ ?side1 ?side2 ?side3 ?side4 A3.out).mono ?_); (case side1 => repeat (first | exact (Kd.C_below HR0_0.out HB.out) | (with_reducible refine Kd.C_alloc ?_ _) | (with_reducible refine Kd.C_drewN ?_ _) | (with_reducible refine Kd.C_drew ?_))); (case side2 => exact HC0_0.out); (case side3 => repeat (first | exact (Kd.C_below HR0_1.out HB.out) | (with_reducible refine Kd.C_alloc ?_ _) | (with_reducible refine Kd.C_drewN ?_ _) | (with_reducible refine Kd.C_drew ?_))); (case side4 => exact HC0_1.out); rintro e w16 ⟨rfl, hb⟩; refine ⟨_, rfl, ?_⟩; have n0_ := Aside0.mk (blk_below (g := gb221) (o := .cells #[.slice A0_0 l0_0.length c0_0, .slice A0_1 l0_1.length c0_1] 41 (0, 0)) (by (with_reducible repeat (first | apply blk_drewN | apply blk_drew | apply blk_alloc)); exact BK221.out) hb); have n1_ := Aside0.mk (blk_below (g := gb222) (o := .cells #[.slice A1_0 l1_0.length c1_0, .slice A1_1 l1_1.length c1_1] 41 (0, 0)) (by (with_reducible repeat (first | apply blk_drewN | apply blk_drew | apply blk_alloc)); exact BK222.out) hb); have n2_ := Aside0.mk (below_step (by repeat (first | (with_reducible first | exact HB.out | apply below_alloc | apply pw_below_drewN | apply below_drew1 | refine below_set ?_ GE221.out | refine below_set ?_ GE222.out) | exact HB.out)) hb); clear BK221; clear BK222; clear HB; have BK221 := n0_; have BK222 := n1_; have HB := n2_; clear n0_ n1_ n2_; (try clear hb); (try clear hb2); (try clear hk); (try clear hi); have hcz17_0 : w16.cell? ⟨gb222, 0, none⟩ = some (.slice A1_0 l1_0.length c1_0) := (blk_cell BK222.out 0).trans rfl; have hcz17_1 : w16.cell? ⟨gb222, 1, none⟩ = some (.slice A1_1 l1_1.length c1_1) := (blk_cell BK222.out 1).trans rfl; have hfz17_0 := blk_frozen BK222.out 0; have hfz17_1 := blk_frozen BK222.out 1) | ((with_reducible refine gate_callee (f := 23) rfl ?_); refine goesL_ (some 24) rfl rfl Try.func23 (by kernel_rfl) rfl #[.agg #[.slice A1_0 l1_0.length c1_0, .slice A1_1 l1_1.length c1_1], .int .i64 t223] rfl (by (try simp only [List.map_toArray, List.map_cons, List.map_nil]); first | done | rfl | (simp only [List.length_drop, List.length_take]; rfl)) ?_; (with_reducible refine (laws_szReport.calls k _ _ l1_0 _ _ l1_1 t223 t224 _ ?side1 ?side2 ?side3 ?side4 A10.out).mono ?_); (case side1 => repeat (first | exact (Kd.C_below HR1_0.out HB.out) | (with_reducible refine Kd.C_alloc ?_ _) | (with_reducible refine Kd.C_drewN ?_ _) | (with_reducible refine Kd.C_drew ?_))); (case side2 => exact HC1_0.out); (case side3 => repeat (first | exact (Kd.C_below HR1_1.out HB.out) | (with_reducible refine Kd.C_alloc ?_ _) | (with_reducible refine Kd.C_drewN ?_ _) | (with_reducible refine Kd.C_drew ?_))); (case side4 => exact HC1_1.out); rintro e w18 ⟨rfl, hb⟩; refine ⟨_, rfl, ?_⟩; have n0_ := Aside0.mk (blk_below (g := gb221) (o := .cells #[.slice A0_0 l0_0.length c0_0, .slice A0_1 l0_1.length c0_1] 41 (0, 0)) (by (with_reducible repeat (first | apply blk_drewN | apply blk_drew | apply blk_alloc)); exact BK221.out) hb); have n1_ := Aside0.mk (blk_below (g := gb222) (o := .cells #[.slice A1_0 l1_0.length c1_0, .slice A1_1 l1_1.length c1_1] 41 (0, 0)) (by (with_reducible repeat (first | apply blk_drewN | apply blk_drew | apply blk_alloc)); exact BK222.out) hb); have n2_ := Aside0.mk (below_step (by repeat (first | (with_reducible first | exact HB.out | apply below_alloc | apply pw_below_drewN | apply below_drew1 | refine below_set ?_ GE221.out | refine below_set ?_ GE222.out) | exact HB.out)) hb); clear BK221; clear BK222; clear HB; have BK221 := n0_; have BK222 := n1_; have HB := n2_; clear n0_ n1_ n2_; (try clear hb); (try clear hb2); (try clear hk); (try clear hi)))
   go_ret
   exact ⟨by first | rfl | (simp [errW_none, errW_some] <;> rfl) | (simp [*, errW_none, errW_some] <;> rfl), by repeat (first | (with_reducible first | exact HB.out | apply below_alloc | apply pw_below_drewN | apply below_drew1 | refine below_set ?_ GE221.out | refine below_set ?_ GE222.out) | exact HB.out)⟩
  ·rw [if_neg c11] at H
   have c11b0 : decide (t224 < 0) = false := decide_eq_false c11
   clear c11
   replace H := Option.bind_eq_some_iff.mp H
   obtain ⟨⟨t225, t228⟩, A190, H⟩ := H
   replace H : ((laws_toReport.f k l1_0 l1_1).bind fun bt231 => ((spec_DiffReports.f k t225 t228 bt231.1 bt231.2).bind fun bt237 => ((laws_toReport.f k l0_0 l0_1).bind fun bt243 => ((laws_toReport.f k l1_0 l1_1).bind fun bt250 => ((impl_DiffReports.f k bt243.1 bt243.2 bt250.1 bt250.2).bind fun bt257 => ((laws_eqStringS.f k bt257.1 bt237.1).bind fun t263 => (if t263 = true then ((laws_eqStringS.f k bt257.2 bt237.2).bind fun t264 => (laws_FnExactDiffReports.j0 k bt237.1 bt237.2 bt257.1 bt257.2 (!t264) l0_0 l0_1 l1_0 l1_1 bt243.1 bt243.2 bt250.1 bt250.2)) else (laws_FnExactDiffReports.j0 k bt237.1 bt237.2 bt257.1 bt257.2 true l0_0 l0_1 l1_0 l1_1 bt243.1 bt243.2 bt250.1 bt250.2)))))))) = some r := H
   have A19 := Aside0.mk A190
   clear A190
   replace H := Option.bind_eq_some_iff.mp H
   obtain ⟨⟨t231, t234⟩, A200, H⟩ := H
   replace H : ((spec_DiffReports.f k t225 t228 t231 t234).bind fun bt237 => ((laws_toReport.f k l0_0 l0_1).bind fun bt243 => ((laws_toReport.f k l1_0 l1_1).bind fun bt250 => ((impl_DiffReports.f k bt243.1 bt243.2 bt250.1 bt250.2).bind fun bt257 => ((laws_eqStringS.f k bt257.1 bt237.1).bind fun t263 => (if t263 = true then ((laws_eqStringS.f k bt257.2 bt237.2).bind fun t264 => (laws_FnExactDiffReports.j0 k bt237.1 bt237.2 bt257.1 bt257.2 (!t264) l0_0 l0_1 l1_0 l1_1 bt243.1 bt243.2 bt250.1 bt250.2)) else (laws_FnExactDiffReports.j0 k bt237.1 bt237.2 bt257.1 bt257.2 true l0_0 l0_1 l1_0 l1_1 bt243.1 bt243.2 bt250.1 bt250.2))))))) = some r := H
   have A20 := Aside0.mk A200
   clear A200
   replace H := Option.bind_eq_some_iff.mp H
   obtain ⟨⟨t237, t240⟩, A210, H⟩ := H
   replace H : ((laws_toReport.f k l0_0 l0_1).bind fun bt243 => ((laws_toReport.f k l1_0 l1_1).bind fun bt250 => ((impl_DiffReports.f k bt243.1 bt243.2 bt250.1 bt250.2).bind fun bt257 => ((laws_eqStringS.f k bt257.1 t237).bind fun t263 => (if t263 = true then ((laws_eqStringS.f k bt257.2 t240).bind fun t264 => (laws_FnExactDiffReports.j0 k t237 t240 bt257.1 bt257.2 (!t264) l0_0 l0_1 l1_0 l1_1 bt243.1 bt243.2 bt250.1 bt250.2)) else (laws_FnExactDiffReports.j0 k t237 t240 bt257.1 bt257.2 true l0_0 l0_1 l1_0 l1_1 bt243.1 bt243.2 bt250.1 bt250.2)))))) = some r := H
   have A21 := Aside0.mk A210
   clear A210
   replace H := Option.bind_eq_some_iff.mp H
   obtain ⟨⟨t243, t246⟩, A220, H⟩ := H
   replace H : ((laws_toReport.f k l1_0 l1_1).bind fun bt250 => ((impl_DiffReports.f k t243 t246 bt250.1 bt250.2).bind fun bt257 => ((laws_eqStringS.f k bt257.1 t237).bind fun t263 => (if t263 = true then ((laws_eqStringS.f k bt257.2 t240).bind fun t264 => (laws_FnExactDiffReports.j0 k t237 t240 bt257.1 bt257.2 (!t264) l0_0 l0_1 l1_0 l1_1 t243 t246 bt250.1 bt250.2)) else (laws_FnExactDiffReports.j0 k t237 t240 bt257.1 bt257.2 true l0_0 l0_1 l1_0 l1_1 t243 t246 bt250.1 bt250.2))))) = some r := H
   have A22 := Aside0.mk A220
   clear A220
   replace H := Option.bind_eq_some_iff.mp H
   obtain ⟨⟨t250, t253⟩, A230, H⟩ := H
   replace H : ((impl_DiffReports.f k t243 t246 t250 t253).bind fun bt257 => ((laws_eqStringS.f k bt257.1 t237).bind fun t263 => (if t263 = true then ((laws_eqStringS.f k bt257.2 t240).bind fun t264 => (laws_FnExactDiffReports.j0 k t237 t240 bt257.1 bt257.2 (!t264) l0_0 l0_1 l1_0 l1_1 t243 t246 t250 t253)) else (laws_FnExactDiffReports.j0 k t237 t240 bt257.1 bt257.2 true l0_0 l0_1 l1_0 l1_1 t243 t246 t250 t253)))) = some r := H
   have A23 := Aside0.mk A230
   clear A230
   replace H := Option.bind_eq_some_iff.mp H
   obtain ⟨⟨t257, t260⟩, A240, H⟩ := H
   replace H : ((laws_eqStringS.f k t257 t237).bind fun t263 => (if t263 = true then ((laws_eqStringS.f k t260 t240).bind fun t264 => (laws_FnExactDiffReports.j0 k t237 t240 t257 t260 (!t264) l0_0 l0_1 l1_0 l1_1 t243 t246 t250 t253)) else (laws_FnExactDiffReports.j0 k t237 t240 t257 t260 true l0_0 l0_1 l1_0 l1_1 t243 t246 t250 t253))) = some r := H
   have A24 := Aside0.mk A240
   clear A240
   have HC25 := Aside0.mk H
   clear H
   go_enter Try.func11, Try.ntmps11
   try go_wp2_with (first | ((with_reducible refine gate_dst (N := 2) rfl ?_); refine box_event ?hg (N := 2) ?hd (cs := #[.slice A0_0 l0_0.length c0_0, .slice A0_1 l0_1.length c0_1]) (t := 41) ?hr ?_; (case hd => rfl); (case hg => rfl); (case hr => first | (go_simp; done) | (go_simp; rfl)); intro gb221 hg w26 hbox hb; have n0_ := Aside0.mk (below_step (by repeat (first | (with_reducible first | exact HB.out | apply below_alloc | apply pw_below_drewN | apply below_drew1) | exact HB.out)) hb); have n1_ := Aside0.mk (hbox); have n2_ := Aside0.mk ((by rw [hg]; exact (below_size (by repeat (first | (with_reducible first | exact HB.out | apply below_alloc | apply pw_below_drewN | apply below_drew1) | exact HB.out))) : w.heap.size ≤ gb221)); have n3_ := Aside0.mk ((by rw [hg]; exact (below_size (by repeat (first | (with_reducible first | exact HB.out | apply below_alloc | apply pw_below_drewN | apply below_drew1) | exact HB.out))) : w.heap.size ≤ gb221)); clear HB; have HB := n0_; have BK221 := n1_; have GW221 := n2_; have GE221 := n3_; clear n0_ n1_ n2_ n3_; clear hb hbox hg) | ((with_reducible refine gate_dst (N := 3) rfl ?_); refine box_event ?hg (N := 3) ?hd (cs := #[.slice A1_0 l1_0.length c1_0, .slice A1_1 l1_1.length c1_1]) (t := 41) ?hr ?_; (case hd => rfl); (case hg => rfl); (case hr => first | (go_simp; done) | (go_simp; rfl)); intro gb222 hg w27 hbox hb; have n0_ := Aside0.mk (blk_below (g := gb221) (o := .cells #[.slice A0_0 l0_0.length c0_0, .slice A0_1 l0_1.length c0_1] 41 (0, 0)) (by (with_reducible repeat (first | apply blk_drewN | apply blk_drew | apply blk_alloc)); exact BK221.out) hb); have n1_ := Aside0.mk (below_step (by repeat (first | (with_reducible first | exact HB.out | apply below_alloc | apply pw_below_drewN | apply below_drew1 | refine below_set ?_ GE221.out) | exact HB.out)) hb); have n2_ := Aside0.mk (hbox); have n3_ := Aside0.mk ((by rw [hg]; exact (below_size (by repeat (first | (with_reducible first | exact HB.out | apply below_alloc | apply pw_below_drewN | apply below_drew1 | refine below_set ?_ GE221.out) | exact HB.out))) : w.heap.size ≤ gb222)); have n4_ := Aside0.mk ((by rw [hg]; exact (below_size (by repeat (first | (with_reducible first | exact HB.out | apply below_alloc | apply pw_below_drewN | apply below_drew1 | refine below_set ?_ GE221.out) | exact HB.out))) : w.heap.size ≤ gb222)); have n5_ := Aside0.mk ((by rw [hg]; exact Nat.ne_of_lt (blk_lt (g := gb221) (o := .cells #[.slice A0_0 l0_0.length c0_0, .slice A0_1 l0_1.length c0_1] 41 (0, 0)) (by (with_reducible repeat (first | apply blk_drewN | apply blk_drew | apply blk_alloc)); exact BK221.out)) : gb221 ≠ gb222)); have n6_ := Aside0.mk ((by rw [hg]; exact Nat.ne_of_gt (blk_lt (g := gb221) (o := .cells #[.slice A0_0 l0_0.length c0_0, .slice A0_1 l0_1.length c0_1] 41 (0, 0)) (by (with_reducible repeat (first | apply blk_drewN | apply blk_drew | apply blk_alloc)); exact BK221.out)) : gb222 ≠ gb221)); clear BK221; clear HB; have BK221 := n0_; have HB := n1_; have BK222 := n2_; have GW222 := n3_; have GE222 := n4_; have NB221_222 := n5_; have NB222_221 := n6_; clear n0_ n1_ n2_ n3_ n4_ n5_ n6_; clear hb hbox hg; have hnb28 := NB221_222.out; have hnc28 := NB222_221.out; have hcz29_0 : w27.cell? ⟨gb221, 0, none⟩ = some (.slice A0_0 l0_0.length c0_0) := (blk_cell BK221.out 0).trans rfl; have hcz29_1 : w27.cell? ⟨gb221, 1, none⟩ = some (.slice A0_1 l0_1.length c0_1) := (blk_cell BK221.out 1).trans rfl; have hfz29_0 := blk_frozen BK221.out 0; have hfz29_1 := blk_frozen BK221.out 1) | ((with_reducible refine gate_callee (f := 23) rfl ?_); refine goesL_ (some 19) rfl rfl Try.func23 (by kernel_rfl) rfl #[.agg #[.slice A0_0 l0_0.length c0_0, .slice A0_1 l0_1.length c0_1], .int .i64 1048576] rfl (by (try simp only [List.map_toArray, List.map_cons, List.map_nil]); first | done | rfl | (simp only [List.length_drop, List.length_take]; rfl)) ?_; (with_reducible refine (laws_szReport.calls k _ _ l0_0 _ _ l0_1 1048576 t223 _ ?side1 ?side2 ?side3 ?side4 A3.out).mono ?_); (case side1 => repeat (first | exact (Kd.C_below HR0_0.out HB.out) | (with_reducible refine Kd.C_alloc ?_ _) | (with_reducible refine Kd.C_drewN ?_ _) | (with_reducible refine Kd.C_drew ?_))); (case side2 => exact HC0_0.out); (case side3 => repeat (first | exact (Kd.C_below HR0_1.out HB.out) | (with_reducible refine Kd.C_alloc ?_ _) | (with_reducible refine Kd.C_drewN ?_ _) | (with_reducible refine Kd.C_drew ?_))); (case side4 => exact HC0_1.out); rintro e w30 ⟨rfl, hb⟩; refine ⟨_, rfl, ?_⟩; have n0_ := Aside0.mk (blk_below (g := gb221) (o := .cells #[.slice A0_0 l0_0.length c0_0, .slice A0_1 l0_1.length c0_1] 41 (0, 0)) (by (with_reducible repeat (first | apply blk_drewN | apply blk_drew | apply blk_alloc)); exact BK221.out) hb); have n1_ := Aside0.mk (blk_below (g := gb222) (o := .cells #[.slice A1_0 l1_0.length c1_0, .slice A1_1 l1_1.length c1_1] 41 (0, 0)) (by (with_reducible repeat (first | apply blk_drewN | apply blk_drew | apply blk_alloc)); exact BK222.out) hb); have n2_ := Aside0.mk (below_step (by repeat (first | (with_reducible first | exact HB.out | apply below_alloc | apply pw_below_drewN | apply below_drew1 | refine below_set ?_ GE221.out | refine below_set ?_ GE222.out) | exact HB.out)) hb); clear BK221; clear BK222; clear HB; have BK221 := n0_; have BK222 := n1_; have HB := n2_; clear n0_ n1_ n2_; (try clear hb); (try clear hb2); (try clear hk); (try clear hi); have hcz31_0 : w30.cell? ⟨gb222, 0, none⟩ = some (.slice A1_0 l1_0.length c1_0) := (blk_cell BK222.out 0).trans rfl; have hcz31_1 : w30.cell? ⟨gb222, 1, none⟩ = some (.slice A1_1 l1_1.length c1_1) := (blk_cell BK222.out 1).trans rfl; have hfz31_0 := blk_frozen BK222.out 0; have hfz31_1 := blk_frozen BK222.out 1) | ((with_reducible refine gate_callee (f := 23) rfl ?_); refine goesL_ (some 24) rfl rfl Try.func23 (by kernel_rfl) rfl #[.agg #[.slice A1_0 l1_0.length c1_0, .slice A1_1 l1_1.length c1_1], .int .i64 t223] rfl (by (try simp only [List.map_toArray, List.map_cons, List.map_nil]); first | done | rfl | (simp only [List.length_drop, List.length_take]; rfl)) ?_; (with_reducible refine (laws_szReport.calls k _ _ l1_0 _ _ l1_1 t223 t224 _ ?side1 ?side2 ?side3 ?side4 A10.out).mono ?_); (case side1 => repeat (first | exact (Kd.C_below HR1_0.out HB.out) | (with_reducible refine Kd.C_alloc ?_ _) | (with_reducible refine Kd.C_drewN ?_ _) | (with_reducible refine Kd.C_drew ?_))); (case side2 => exact HC1_0.out); (case side3 => repeat (first | exact (Kd.C_below HR1_1.out HB.out) | (with_reducible refine Kd.C_alloc ?_ _) | (with_reducible refine Kd.C_drewN ?_ _) | (with_reducible refine Kd.C_drew ?_))); (case side4 => exact HC1_1.out); rintro e w32 ⟨rfl, hb⟩; refine ⟨_, rfl, ?_⟩; have n0_ := Aside0.mk (blk_below (g := gb221) (o := .cells #[.slice A0_0 l0_0.length c0_0, .slice A0_1 l0_1.length c0_1] 41 (0, 0)) (by (with_reducible repeat (first | apply blk_drewN | apply blk_drew | apply blk_alloc)); exact BK221.out) hb); have n1_ := Aside0.mk (blk_below (g := gb222) (o := .cells #[.slice A1_0 l1_0.length c1_0, .slice A1_1 l1_1.length c1_1] 41 (0, 0)) (by (with_reducible repeat (first | apply blk_drewN | apply blk_drew | apply blk_alloc)); exact BK222.out) hb); have n2_ := Aside0.mk (below_step (by repeat (first | (with_reducible first | exact HB.out | apply below_alloc | apply pw_below_drewN | apply below_drew1 | refine below_set ?_ GE221.out | refine below_set ?_ GE222.out) | exact HB.out)) hb); clear BK221; clear BK222; clear HB; have BK221 := n0_; have BK222 := n1_; have HB := n2_; clear n0_ n1_ n2_; (try clear hb); (try clear hb2); (try clear hk); (try clear hi)))
   have n0_ := Aside0.mk (blk_drew BK221.out)
   have n1_ := Aside0.mk (blk_drew BK222.out)
   have n2_ := Aside0.mk (below_drew1 HB.out)
   clear BK221
   clear BK222
   clear HB
   have BK221 := n0_
   have BK222 := n1_
   have HB := n2_
   clear n0_ n1_ n2_
   refine start_ (n := 10) (S := fun w' => w'.cell? ⟨gb221, 0, none⟩ = some (.slice A0_0 l0_0.length c0_0) ∧ w'.cell? ⟨gb221, 1, none⟩ = some (.slice A0_1 l0_1.length c0_1) ∧ w'.cell? ⟨gb222, 0, none⟩ = some (.slice A1_0 l1_0.length c1_0) ∧ w'.cell? ⟨gb222, 1, none⟩ = some (.slice A1_1 l1_1.length c1_1)) (ds := []) #[false, false, false, false, false, false, false, false, false, false] (by kernel_rfl) rfl rfl ⟨(blk_cell BK221.out 0).trans rfl, (blk_cell BK221.out 1).trans rfl, (blk_cell BK222.out 0).trans rfl, (blk_cell BK222.out 1).trans rfl⟩ (fun hHeld => ?_); refine with_tabW laws_FnExactDiffReports.tab8 laws_FnExactDiffReports.bits8 (fun HT_ HW_ => ?_)
   generalize w32.drew = w33 at BK221 BK222 HB hHeld ⊢
   refine take_ (i := 0) (N := some 28) (v := ?_) (a' := ?_) #[true, false, false, false, false, false, false, false, false, false] rfl rfl (take_ofW HT_.out HW_.out (by kernel_rfl)) (fun _ _ _ h => h) (Or.inl ⟨by rfl, ?_⟩) hHeld ?_ ?_
   rotate_left
   ·rintro w' ⟨s0, s1, s2, s3⟩
    go_simp
    with_reducible rfl
   rotate_left
   ·simp only [Act.put, List.setIfInBounds_toArray, List.set_cons_zero, List.set_cons_succ, i64_w, i32_w]
    rfl
   refine take_ (i := 2) (N := some 30) (v := ?_) (a' := ?_) #[true, false, true, false, false, false, false, false, false, false] rfl rfl (take_ofW HT_.out HW_.out (by kernel_rfl)) (fun _ _ _ h => h) (Or.inl ⟨by rfl, ?_⟩) hHeld ?_ ?_
   rotate_left
   ·rintro w' ⟨s0, s1, s2, s3⟩
    go_simp
    with_reducible rfl
   rotate_left
   ·simp only [Act.put, List.setIfInBounds_toArray, List.set_cons_zero, List.set_cons_succ, i64_w, i32_w]
    rfl
   refine one_ (i := 1) (N := some 29) #[true, true, true, false, false, false, false, false, false, false] rfl rfl (one_of HT_.out (by kernel_rfl)) (by decide) (fun K hK => ?_)
   refine goes_ Try.func25 (by kernel_rfl) rfl #[.agg #[.slice A0_0 l0_0.length c0_0, .slice A0_1 l0_1.length c0_1]] (by rfl) rfl rfl (by (try simp only [List.map_toArray, List.map_cons, List.map_nil]); first | done | rfl | (simp only [List.length_drop, List.length_take]; rfl)) ?_
   with_reducible refine (laws_toReport.calls k _ _ l0_0 _ _ l0_1 t225 t228 _ ?side1 ?side2 ?side3 ?side4 A19.out).mono ?_
   (case side1 => repeat (first | exact (Kd.C_below HR0_0.out HB.out) | (with_reducible refine Kd.C_alloc ?_ _) | (with_reducible refine Kd.C_drewN ?_ _) | (with_reducible refine Kd.C_drew ?_)))
   (case side2 => exact HC0_0.out)
   (case side3 => repeat (first | exact (Kd.C_below HR0_1.out HB.out) | (with_reducible refine Kd.C_alloc ?_ _) | (with_reducible refine Kd.C_drewN ?_ _) | (with_reducible refine Kd.C_drew ?_)))
   (case side4 => exact HC0_1.out)
   rintro e w34 ⟨v226, v229, rfl, ho0, ho1, hb⟩
   refine ⟨_, rfl, ?_⟩
   have n0_ := Aside0.mk (Kd.R_lower ho0 (below_size (by repeat (first | (with_reducible first | exact HB.out | apply below_alloc | apply pw_below_drewN | apply below_drew1 | refine below_set ?_ GE221.out | refine below_set ?_ GE222.out) | exact HB.out))))
   have n1_ := Aside0.mk (Kd.R_lower ho1 (below_size (by repeat (first | (with_reducible first | exact HB.out | apply below_alloc | apply pw_below_drewN | apply below_drew1 | refine below_set ?_ GE221.out | refine below_set ?_ GE222.out) | exact HB.out))))
   have n2_ := Aside0.mk (blk_below (g := gb221) (o := .cells #[.slice A0_0 l0_0.length c0_0, .slice A0_1 l0_1.length c0_1] 41 (0, 0)) (by (with_reducible repeat (first | apply blk_drewN | apply blk_drew | apply blk_alloc)); exact BK221.out) hb)
   have n3_ := Aside0.mk (blk_below (g := gb222) (o := .cells #[.slice A1_0 l1_0.length c1_0, .slice A1_1 l1_1.length c1_1] 41 (0, 0)) (by (with_reducible repeat (first | apply blk_drewN | apply blk_drew | apply blk_alloc)); exact BK222.out) hb)
   have n4_ := Aside0.mk (below_step (by repeat (first | (with_reducible first | exact HB.out | apply below_alloc | apply pw_below_drewN | apply below_drew1 | refine below_set ?_ GE221.out | refine below_set ?_ GE222.out) | exact HB.out)) hb)
   clear BK221
   clear BK222
   clear HB
   have HO227 := n0_
   have HO230 := n1_
   have BK221 := n2_
   have BK222 := n3_
   have HB := n4_
   clear n0_ n1_ n2_ n3_ n4_
   (try clear hb)
   (try clear hb2)
   (try clear hk)
   (try clear hi)
   (try clear ho0)
   (try clear ho1)
   refine hK.out _ _ ⟨(blk_cell BK221.out 0).trans rfl, (blk_cell BK221.out 1).trans rfl, (blk_cell BK222.out 0).trans rfl, (blk_cell BK222.out 1).trans rfl⟩ (fun hHeld => ?_)
   clear hK K
   refine norm_ (a' := ?_) ?_ ?_
   rotate_left
   ·show Act.put _ (some 29) _ = _
    simp only [Act.put, List.setIfInBounds_toArray, List.set_cons_zero, List.set_cons_succ, i64_w, i32_w]
    rfl
   refine one_ (i := 3) (N := some 31) #[true, true, true, true, false, false, false, false, false, false] rfl rfl (one_of HT_.out (by kernel_rfl)) (by decide) (fun K hK => ?_)
   refine goes_ Try.func25 (by kernel_rfl) rfl #[.agg #[.slice A1_0 l1_0.length c1_0, .slice A1_1 l1_1.length c1_1]] (by rfl) rfl rfl (by (try simp only [List.map_toArray, List.map_cons, List.map_nil]); first | done | rfl | (simp only [List.length_drop, List.length_take]; rfl)) ?_
   with_reducible refine (laws_toReport.calls k _ _ l1_0 _ _ l1_1 t231 t234 _ ?side1 ?side2 ?side3 ?side4 A20.out).mono ?_
   (case side1 => repeat (first | exact (Kd.C_below HR1_0.out HB.out) | (with_reducible refine Kd.C_alloc ?_ _) | (with_reducible refine Kd.C_drewN ?_ _) | (with_reducible refine Kd.C_drew ?_)))
   (case side2 => exact HC1_0.out)
   (case side3 => repeat (first | exact (Kd.C_below HR1_1.out HB.out) | (with_reducible refine Kd.C_alloc ?_ _) | (with_reducible refine Kd.C_drewN ?_ _) | (with_reducible refine Kd.C_drew ?_)))
   (case side4 => exact HC1_1.out)
   rintro e w35 ⟨v232, v235, rfl, ho0, ho1, hb⟩
   refine ⟨_, rfl, ?_⟩
   have n0_ := Aside0.mk (Kd.R_elder' (by (with_reducible repeat (first | apply Kd.R_alloc | apply Kd.R_drewN | apply Kd.R_drew)); exact HO227.out) (Kd.R_base ho0) hb)
   have n1_ := Aside0.mk (Kd.R_elder' (by (with_reducible repeat (first | apply Kd.R_alloc | apply Kd.R_drewN | apply Kd.R_drew)); exact HO230.out) (Kd.R_base ho1) hb)
   have n2_ := Aside0.mk (Kd.R_lower (Kd.R_new' ho0 (Kd.R_lt (by (with_reducible repeat (first | apply Kd.R_alloc | apply Kd.R_drewN | apply Kd.R_drew)); exact HO227.out))) (below_size (by repeat (first | (with_reducible first | exact HB.out | apply below_alloc | apply pw_below_drewN | apply below_drew1 | refine below_set ?_ GE221.out | refine below_set ?_ GE222.out) | exact HB.out))))
   have n3_ := Aside0.mk (Kd.R_lower (Kd.R_new' ho1 (Kd.R_lt (by (with_reducible repeat (first | apply Kd.R_alloc | apply Kd.R_drewN | apply Kd.R_drew)); exact HO230.out))) (below_size (by repeat (first | (with_reducible first | exact HB.out | apply below_alloc | apply pw_below_drewN | apply below_drew1 | refine below_set ?_ GE221.out | refine below_set ?_ GE222.out) | exact HB.out))))
   have n4_ := Aside0.mk (blk_below (g := gb221) (o := .cells #[.slice A0_0 l0_0.length c0_0, .slice A0_1 l0_1.length c0_1] 41 (0, 0)) (by (with_reducible repeat (first | apply blk_drewN | apply blk_drew | apply blk_alloc)); exact BK221.out) hb)
   have n5_ := Aside0.mk (blk_below (g := gb222) (o := .cells #[.slice A1_0 l1_0.length c1_0, .slice A1_1 l1_1.length c1_1] 41 (0, 0)) (by (with_reducible repeat (first | apply blk_drewN | apply blk_drew | apply blk_alloc)); exact BK222.out) hb)
   have n6_ := Aside0.mk (below_step (by repeat (first | (with_reducible first | exact HB.out | apply below_alloc | apply pw_below_drewN | apply below_drew1 | refine below_set ?_ GE221.out | refine below_set ?_ GE222.out) | exact HB.out)) hb)
   clear HO227
   clear HO230
   clear BK221
   clear BK222
   clear HB
   have HO227 := n0_
   have HO230 := n1_
   have HO233 := n2_
   have HO236 := n3_
   have BK221 := n4_
   have BK222 := n5_
   have HB := n6_
   clear n0_ n1_ n2_ n3_ n4_ n5_ n6_
   (try clear hb)
   (try clear hb2)
   (try clear hk)
   (try clear hi)
   (try clear ho0)
   (try clear ho1)
   obtain ⟨Ao36, co36, eo36⟩ := Kd.R_slice HO227.out
   (first | subst eo36 | (injection eo36 with f1_ f2_ f3_; have f4_ := f1_.symm; have f5_ := f3_.symm; clear f1_ f2_ f3_; subst f4_; subst f5_))
   obtain ⟨Ao37, co37, eo37⟩ := Kd.R_slice HO230.out
   (first | subst eo37 | (injection eo37 with f1_ f2_ f3_; have f4_ := f1_.symm; have f5_ := f3_.symm; clear f1_ f2_ f3_; subst f4_; subst f5_))
   obtain ⟨Ao38, co38, eo38⟩ := Kd.R_slice HO233.out
   (first | subst eo38 | (injection eo38 with f1_ f2_ f3_; have f4_ := f1_.symm; have f5_ := f3_.symm; clear f1_ f2_ f3_; subst f4_; subst f5_))
   obtain ⟨Ao39, co39, eo39⟩ := Kd.R_slice HO236.out
   (first | subst eo39 | (injection eo39 with f1_ f2_ f3_; have f4_ := f1_.symm; have f5_ := f3_.symm; clear f1_ f2_ f3_; subst f4_; subst f5_))
   refine hK.out _ _ ⟨(blk_cell BK221.out 0).trans rfl, (blk_cell BK221.out 1).trans rfl, (blk_cell BK222.out 0).trans rfl, (blk_cell BK222.out 1).trans rfl⟩ (fun hHeld => ?_)
   clear hK K
   refine norm_ (a' := ?_) ?_ ?_
   rotate_left
   ·show Act.put _ (some 31) _ = _
    simp only [Act.put, List.setIfInBounds_toArray, List.set_cons_zero, List.set_cons_succ, i64_w, i32_w]
    rfl
   refine one_ (i := 4) (N := some 32) #[true, true, true, true, true, false, false, false, false, false] rfl rfl (one_of HT_.out (by kernel_rfl)) (by decide) (fun K hK => ?_)
   refine goes_ Try.func37 (by kernel_rfl) rfl #[.agg #[.slice Ao36 t225.length co36, .slice Ao37 t228.length co37], .agg #[.slice Ao38 t231.length co38, .slice Ao39 t234.length co39]] (by rfl) rfl rfl (by (try simp only [List.map_toArray, List.map_cons, List.map_nil]); first | done | rfl | (simp only [List.length_drop, List.length_take]; rfl)) ?_
   with_reducible refine (spec_DiffReports.calls k _ _ t225 _ _ t228 _ _ t231 _ _ t234 t237 t240 _ ?side1 ?side2 ?side3 ?side4 ?side5 ?side6 ?side7 ?side8 A21.out).mono ?_
   (case side1 => repeat (first | exact (Kd.R_reads' HO227.out).2.2 | (with_reducible refine Kd.C_alloc ?_ _) | (with_reducible refine Kd.C_drewN ?_ _) | (with_reducible refine Kd.C_drew ?_)))
   (case side2 => exact (Kd.R_reads' HO227.out).2.1)
   (case side3 => repeat (first | exact (Kd.R_reads' HO230.out).2.2 | (with_reducible refine Kd.C_alloc ?_ _) | (with_reducible refine Kd.C_drewN ?_ _) | (with_reducible refine Kd.C_drew ?_)))
   (case side4 => exact (Kd.R_reads' HO230.out).2.1)
   (case side5 => repeat (first | exact (Kd.R_reads' HO233.out).2.2 | (with_reducible refine Kd.C_alloc ?_ _) | (with_reducible refine Kd.C_drewN ?_ _) | (with_reducible refine Kd.C_drew ?_)))
   (case side6 => exact (Kd.R_reads' HO233.out).2.1)
   (case side7 => repeat (first | exact (Kd.R_reads' HO236.out).2.2 | (with_reducible refine Kd.C_alloc ?_ _) | (with_reducible refine Kd.C_drewN ?_ _) | (with_reducible refine Kd.C_drew ?_)))
   (case side8 => exact (Kd.R_reads' HO236.out).2.1)
   rintro e w40 ⟨v238, v241, rfl, ho0, ho1, hb⟩
   refine ⟨_, rfl, ?_⟩
   have n0_ := Aside0.mk (Kd.R_below (by (with_reducible repeat (first | apply Kd.R_alloc | apply Kd.R_drewN | apply Kd.R_drew)); exact HO227.out) hb)
   have n1_ := Aside0.mk (Kd.R_mono (Kd.R_told (Kd.R_told (Kd.R_old (by (with_reducible repeat (first | apply Kd.R_alloc | apply Kd.R_drewN | apply Kd.R_drew)); exact HO230.out) hb) (Kd.R_base ho0)) (Kd.R_base ho1)) (fun _ h_ => h_.1))
   have n2_ := Aside0.mk (Kd.R_below (by (with_reducible repeat (first | apply Kd.R_alloc | apply Kd.R_drewN | apply Kd.R_drew)); exact HO233.out) hb)
   have n3_ := Aside0.mk (Kd.R_mono (Kd.R_told (Kd.R_told (Kd.R_old (by (with_reducible repeat (first | apply Kd.R_alloc | apply Kd.R_drewN | apply Kd.R_drew)); exact HO236.out) hb) (Kd.R_base ho0)) (Kd.R_base ho1)) (fun _ h_ => h_.1))
   have n4_ := Aside0.mk (Kd.R_lower (Kd.R_new' (Kd.R_new' ho0 (Kd.R_lt (by (with_reducible repeat (first | apply Kd.R_alloc | apply Kd.R_drewN | apply Kd.R_drew)); exact HO230.out))) (Kd.R_lt (by (with_reducible repeat (first | apply Kd.R_alloc | apply Kd.R_drewN | apply Kd.R_drew)); exact HO236.out))) (below_size (by repeat (first | (with_reducible first | exact HB.out | apply below_alloc | apply pw_below_drewN | apply below_drew1 | refine below_set ?_ GE221.out | refine below_set ?_ GE222.out) | exact HB.out))))
   have n5_ := Aside0.mk (Kd.R_lower (Kd.R_new' (Kd.R_new' ho1 (Kd.R_lt (by (with_reducible repeat (first | apply Kd.R_alloc | apply Kd.R_drewN | apply Kd.R_drew)); exact HO230.out))) (Kd.R_lt (by (with_reducible repeat (first | apply Kd.R_alloc | apply Kd.R_drewN | apply Kd.R_drew)); exact HO236.out))) (below_size (by repeat (first | (with_reducible first | exact HB.out | apply below_alloc | apply pw_below_drewN | apply below_drew1 | refine below_set ?_ GE221.out | refine below_set ?_ GE222.out) | exact HB.out))))
   have n6_ := Aside0.mk (blk_below (g := gb221) (o := .cells #[.slice A0_0 l0_0.length c0_0, .slice A0_1 l0_1.length c0_1] 41 (0, 0)) (by (with_reducible repeat (first | apply blk_drewN | apply blk_drew | apply blk_alloc)); exact BK221.out) hb)
   have n7_ := Aside0.mk (blk_below (g := gb222) (o := .cells #[.slice A1_0 l1_0.length c1_0, .slice A1_1 l1_1.length c1_1] 41 (0, 0)) (by (with_reducible repeat (first | apply blk_drewN | apply blk_drew | apply blk_alloc)); exact BK222.out) hb)
   have n8_ := Aside0.mk (below_step (by repeat (first | (with_reducible first | exact HB.out | apply below_alloc | apply pw_below_drewN | apply below_drew1 | refine below_set ?_ GE221.out | refine below_set ?_ GE222.out) | exact HB.out)) hb)
   clear HO227
   clear HO230
   clear HO233
   clear HO236
   clear BK221
   clear BK222
   clear HB
   have HO227 := n0_
   have HO230 := n1_
   have HO233 := n2_
   have HO236 := n3_
   have HO239 := n4_
   have HO242 := n5_
   have BK221 := n6_
   have BK222 := n7_
   have HB := n8_
   clear n0_ n1_ n2_ n3_ n4_ n5_ n6_ n7_ n8_
   (try clear hb)
   (try clear hb2)
   (try clear hk)
   (try clear hi)
   (try clear ho0)
   (try clear ho1)
   refine hK.out _ _ ⟨(blk_cell BK221.out 0).trans rfl, (blk_cell BK221.out 1).trans rfl, (blk_cell BK222.out 0).trans rfl, (blk_cell BK222.out 1).trans rfl⟩ (fun hHeld => ?_)
   clear hK K
   refine norm_ (a' := ?_) ?_ ?_
   rotate_left
   ·show Act.put _ (some 32) _ = _
    simp only [Act.put, List.setIfInBounds_toArray, List.set_cons_zero, List.set_cons_succ, i64_w, i32_w]
    rfl
   refine pure_ (i := 5) (N := some 27) (v := ?_) (a' := ?_) #[true, true, true, true, true, true, false, false, false, false] rfl rfl (any_of HT_.out (by kernel_rfl)) (fun _ _ _ h => h) (Or.inl ⟨by rfl, ?_⟩) ?_ ?_
   rotate_left
   ·intro w'
    go_simp
    with_reducible rfl
   rotate_left
   ·simp only [Act.put, List.setIfInBounds_toArray, List.set_cons_zero, List.set_cons_succ, i64_w, i32_w]
    rfl
   refine pure_ (i := 6) (N := some 33) (v := ?_) (a' := ?_) #[true, true, true, true, true, true, true, false, false, false] rfl rfl (any_of HT_.out (by kernel_rfl)) (fun _ _ _ h => h) (Or.inl ⟨by rfl, ?_⟩) ?_ ?_
   rotate_left
   ·intro w'
    go_simp
    with_reducible rfl
   rotate_left
   ·simp only [Act.put, List.setIfInBounds_toArray, List.set_cons_zero, List.set_cons_succ, i64_w, i32_w]
    rfl
   refine pure_ (i := 7) (N := some 34) (v := ?_) (a' := ?_) #[true, true, true, true, true, true, true, true, false, false] rfl rfl (any_of HT_.out (by kernel_rfl)) (fun _ _ _ h => h) (Or.inl ⟨by rfl, ?_⟩) ?_ ?_
   rotate_left
   ·intro w'
    go_simp
    with_reducible rfl
   rotate_left
   ·simp only [Act.put, List.setIfInBounds_toArray, List.set_cons_zero, List.set_cons_succ, i64_w, i32_w]
    rfl
   refine pure_ (i := 8) (N := some 6) (v := ?_) (a' := ?_) #[true, true, true, true, true, true, true, true, true, false] rfl rfl (any_of HT_.out (by kernel_rfl)) (fun _ _ _ h => h) (Or.inl ⟨by rfl, ?_⟩) ?_ ?_
   rotate_left
   ·intro w'
    go_simp
    with_reducible rfl
   rotate_left
   ·simp only [Act.put, List.setIfInBounds_toArray, List.set_cons_zero, List.set_cons_succ, i64_w, i32_w]
    rfl
   refine pure_ (i := 9) (N := some 7) (v := ?_) (a' := ?_) #[true, true, true, true, true, true, true, true, true, true] rfl rfl (any_of HT_.out (by kernel_rfl)) (fun _ _ _ h => h) (Or.inl ⟨by rfl, ?_⟩) ?_ ?_
   rotate_left
   ·intro w'
    go_simp
    with_reducible rfl
   rotate_left
   ·simp only [Act.put, List.setIfInBounds_toArray, List.set_cons_zero, List.set_cons_succ, i64_w, i32_w]
    rfl
   refine done_ (done_of HT_.out (by kernel_rfl)) ?_
   have hcz41_0 : w40.cell? ⟨gb221, 0, none⟩ = some (.slice A0_0 l0_0.length c0_0) := (blk_cell BK221.out 0).trans rfl
   have hcz41_1 : w40.cell? ⟨gb221, 1, none⟩ = some (.slice A0_1 l0_1.length c0_1) := (blk_cell BK221.out 1).trans rfl
   have hfz41_0 := blk_frozen BK221.out 0
   have hfz41_1 := blk_frozen BK221.out 1
   go_upto_region 12 with (first | ((with_reducible refine gate_callee (f := 25) rfl ?_); refine goesL_ (some 36) rfl rfl Try.func25 (by kernel_rfl) rfl #[.agg #[.slice A0_0 l0_0.length c0_0, .slice A0_1 l0_1.length c0_1]] rfl (by (try simp only [List.map_toArray, List.map_cons, List.map_nil]); first | done | rfl | (simp only [List.length_drop, List.length_take]; rfl)) ?_; (with_reducible refine (laws_toReport.calls k _ _ l0_0 _ _ l0_1 t243 t246 _ ?side1 ?side2 ?side3 ?side4 A22.out).mono ?_); (case side1 => repeat (first | exact (Kd.C_below HR0_0.out HB.out) | (with_reducible refine Kd.C_alloc ?_ _) | (with_reducible refine Kd.C_drewN ?_ _) | (with_reducible refine Kd.C_drew ?_))); (case side2 => exact HC0_0.out); (case side3 => repeat (first | exact (Kd.C_below HR0_1.out HB.out) | (with_reducible refine Kd.C_alloc ?_ _) | (with_reducible refine Kd.C_drewN ?_ _) | (with_reducible refine Kd.C_drew ?_))); (case side4 => exact HC0_1.out); rintro e w42 ⟨v244, v247, rfl, ho0, ho1, hb⟩; refine ⟨_, rfl, ?_⟩; have n0_ := Aside0.mk (Kd.R_elder' (by (with_reducible repeat (first | apply Kd.R_alloc | apply Kd.R_drewN | apply Kd.R_drew)); exact HO227.out) (Kd.R_base ho0) hb); have n1_ := Aside0.mk (Kd.R_elder' (by (with_reducible repeat (first | apply Kd.R_alloc | apply Kd.R_drewN | apply Kd.R_drew)); exact HO230.out) (Kd.R_base ho1) hb); have n2_ := Aside0.mk (Kd.R_elder' (by (with_reducible repeat (first | apply Kd.R_alloc | apply Kd.R_drewN | apply Kd.R_drew)); exact HO233.out) (Kd.R_base ho0) hb); have n3_ := Aside0.mk (Kd.R_elder' (by (with_reducible repeat (first | apply Kd.R_alloc | apply Kd.R_drewN | apply Kd.R_drew)); exact HO236.out) (Kd.R_base ho1) hb); have n4_ := Aside0.mk (Kd.R_elder' (by (with_reducible repeat (first | apply Kd.R_alloc | apply Kd.R_drewN | apply Kd.R_drew)); exact HO239.out) (Kd.R_base ho1) hb); have n5_ := Aside0.mk (Kd.R_elder' (by (with_reducible repeat (first | apply Kd.R_alloc | apply Kd.R_drewN | apply Kd.R_drew)); exact HO242.out) (Kd.R_base ho1) hb); have n6_ := Aside0.mk (Kd.R_lower (Kd.R_new' (Kd.R_new' ho0 (Kd.R_lt (by (with_reducible repeat (first | apply Kd.R_alloc | apply Kd.R_drewN | apply Kd.R_drew)); exact HO227.out))) (Kd.R_lt (by (with_reducible repeat (first | apply Kd.R_alloc | apply Kd.R_drewN | apply Kd.R_drew)); exact HO233.out))) (below_size (by repeat (first | (with_reducible first | exact HB.out | apply below_alloc | apply pw_below_drewN | apply below_drew1 | refine below_set ?_ GE221.out | refine below_set ?_ GE222.out) | exact HB.out)))); have n7_ := Aside0.mk (Kd.R_lower (Kd.R_new' (Kd.R_new' (Kd.R_new' (Kd.R_new' ho1 (Kd.R_lt (by (with_reducible repeat (first | apply Kd.R_alloc | apply Kd.R_drewN | apply Kd.R_drew)); exact HO230.out))) (Kd.R_lt (by (with_reducible repeat (first | apply Kd.R_alloc | apply Kd.R_drewN | apply Kd.R_drew)); exact HO236.out))) (Kd.R_lt (by (with_reducible repeat (first | apply Kd.R_alloc | apply Kd.R_drewN | apply Kd.R_drew)); exact HO239.out))) (Kd.R_lt (by (with_reducible repeat (first | apply Kd.R_alloc | apply Kd.R_drewN | apply Kd.R_drew)); exact HO242.out))) (below_size (by repeat (first | (with_reducible first | exact HB.out | apply below_alloc | apply pw_below_drewN | apply below_drew1 | refine below_set ?_ GE221.out | refine below_set ?_ GE222.out) | exact HB.out)))); have n8_ := Aside0.mk (blk_below (g := gb221) (o := .cells #[.slice A0_0 l0_0.length c0_0, .slice A0_1 l0_1.length c0_1] 41 (0, 0)) (by (with_reducible repeat (first | apply blk_drewN | apply blk_drew | apply blk_alloc)); exact BK221.out) hb); have n9_ := Aside0.mk (blk_below (g := gb222) (o := .cells #[.slice A1_0 l1_0.length c1_0, .slice A1_1 l1_1.length c1_1] 41 (0, 0)) (by (with_reducible repeat (first | apply blk_drewN | apply blk_drew | apply blk_alloc)); exact BK222.out) hb); have n10_ := Aside0.mk (below_step (by repeat (first | (with_reducible first | exact HB.out | apply below_alloc | apply pw_below_drewN | apply below_drew1 | refine below_set ?_ GE221.out | refine below_set ?_ GE222.out) | exact HB.out)) hb); clear HO227; clear HO230; clear HO233; clear HO236; clear HO239; clear HO242; clear BK221; clear BK222; clear HB; have HO227 := n0_; have HO230 := n1_; have HO233 := n2_; have HO236 := n3_; have HO239 := n4_; have HO242 := n5_; have HO245 := n6_; have HO248 := n7_; have BK221 := n8_; have BK222 := n9_; have HB := n10_; clear n0_ n1_ n2_ n3_ n4_ n5_ n6_ n7_ n8_ n9_ n10_; (try clear hb); (try clear hb2); (try clear hk); (try clear hi); (try clear ho0); (try clear ho1)) | ((with_reducible refine gate_dst (N := 8) rfl ?_); refine box_event ?hg (N := 8) ?hd (cs := #[.slice none 0 0, .slice none 0 0]) (t := 26) ?hr ?_; (case hd => rfl); (case hg => rfl); (case hr => first | (go_simp; done) | (go_simp; rfl)); intro gb249 hg w43 hbox hb; have n0_ := Aside0.mk (Kd.R_below (by (with_reducible repeat (first | apply Kd.R_alloc | apply Kd.R_drewN | apply Kd.R_drew)); exact HO227.out) hb); have n1_ := Aside0.mk (Kd.R_below (by (with_reducible repeat (first | apply Kd.R_alloc | apply Kd.R_drewN | apply Kd.R_drew)); exact HO230.out) hb); have n2_ := Aside0.mk (Kd.R_below (by (with_reducible repeat (first | apply Kd.R_alloc | apply Kd.R_drewN | apply Kd.R_drew)); exact HO233.out) hb); have n3_ := Aside0.mk (Kd.R_below (by (with_reducible repeat (first | apply Kd.R_alloc | apply Kd.R_drewN | apply Kd.R_drew)); exact HO236.out) hb); have n4_ := Aside0.mk (Kd.R_below (by (with_reducible repeat (first | apply Kd.R_alloc | apply Kd.R_drewN | apply Kd.R_drew)); exact HO239.out) hb); have n5_ := Aside0.mk (Kd.R_below (by (with_reducible repeat (first | apply Kd.R_alloc | apply Kd.R_drewN | apply Kd.R_drew)); exact HO242.out) hb); have n6_ := Aside0.mk (Kd.R_below (by (with_reducible repeat (first | apply Kd.R_alloc | apply Kd.R_drewN | apply Kd.R_drew)); exact HO245.out) hb); have n7_ := Aside0.mk (Kd.R_below (by (with_reducible repeat (first | apply Kd.R_alloc | apply Kd.R_drewN | apply Kd.R_drew)); exact HO248.out) hb); have n8_ := Aside0.mk (blk_below (g := gb221) (o := .cells #[.slice A0_0 l0_0.length c0_0, .slice A0_1 l0_1.length c0_1] 41 (0, 0)) (by (with_reducible repeat (first | apply blk_drewN | apply blk_drew | apply blk_alloc)); exact BK221.out) hb); have n9_ := Aside0.mk (blk_below (g := gb222) (o := .cells #[.slice A1_0 l1_0.length c1_0, .slice A1_1 l1_1.length c1_1] 41 (0, 0)) (by (with_reducible repeat (first | apply blk_drewN | apply blk_drew | apply blk_alloc)); exact BK222.out) hb); have n10_ := Aside0.mk (below_step (by repeat (first | (with_reducible first | exact HB.out | apply below_alloc | apply pw_below_drewN | apply below_drew1 | refine below_set ?_ GE221.out | refine below_set ?_ GE222.out) | exact HB.out)) hb); have n11_ := Aside0.mk (hbox); have n12_ := Aside0.mk ((by rw [hg]; exact (below_size (by repeat (first | (with_reducible first | exact HB.out | apply below_alloc | apply pw_below_drewN | apply below_drew1 | refine below_set ?_ GE221.out | refine below_set ?_ GE222.out) | exact HB.out))) : w.heap.size ≤ gb249)); have n13_ := Aside0.mk ((by rw [hg]; exact (below_size (by repeat (first | (with_reducible first | exact HB.out | apply below_alloc | apply pw_below_drewN | apply below_drew1 | refine below_set ?_ GE221.out | refine below_set ?_ GE222.out) | exact HB.out))) : w.heap.size ≤ gb249)); have n14_ := Aside0.mk ((by rw [hg]; exact Nat.ne_of_lt (blk_lt (g := gb221) (o := .cells #[.slice A0_0 l0_0.length c0_0, .slice A0_1 l0_1.length c0_1] 41 (0, 0)) (by (with_reducible repeat (first | apply blk_drewN | apply blk_drew | apply blk_alloc)); exact BK221.out)) : gb221 ≠ gb249)); have n15_ := Aside0.mk ((by rw [hg]; exact Nat.ne_of_gt (blk_lt (g := gb221) (o := .cells #[.slice A0_0 l0_0.length c0_0, .slice A0_1 l0_1.length c0_1] 41 (0, 0)) (by (with_reducible repeat (first | apply blk_drewN | apply blk_drew | apply blk_alloc)); exact BK221.out)) : gb249 ≠ gb221)); have n16_ := Aside0.mk ((by rw [hg]; exact Nat.ne_of_lt (blk_lt (g := gb222) (o := .cells #[.slice A1_0 l1_0.length c1_0, .slice A1_1 l1_1.length c1_1] 41 (0, 0)) (by (with_reducible repeat (first | apply blk_drewN | apply blk_drew | apply blk_alloc)); exact BK222.out)) : gb222 ≠ gb249)); have n17_ := Aside0.mk ((by rw [hg]; exact Nat.ne_of_gt (blk_lt (g := gb222) (o := .cells #[.slice A1_0 l1_0.length c1_0, .slice A1_1 l1_1.length c1_1] 41 (0, 0)) (by (with_reducible repeat (first | apply blk_drewN | apply blk_drew | apply blk_alloc)); exact BK222.out)) : gb249 ≠ gb222)); clear HO227; clear HO230; clear HO233; clear HO236; clear HO239; clear HO242; clear HO245; clear HO248; clear BK221; clear BK222; clear HB; have HO227 := n0_; have HO230 := n1_; have HO233 := n2_; have HO236 := n3_; have HO239 := n4_; have HO242 := n5_; have HO245 := n6_; have HO248 := n7_; have BK221 := n8_; have BK222 := n9_; have HB := n10_; have BK249 := n11_; have GW249 := n12_; have GE249 := n13_; have NB221_249 := n14_; have NB249_221 := n15_; have NB222_249 := n16_; have NB249_222 := n17_; clear n0_ n1_ n2_ n3_ n4_ n5_ n6_ n7_ n8_ n9_ n10_ n11_ n12_ n13_ n14_ n15_ n16_ n17_; clear hb hbox hg; obtain ⟨Ao44, co44, eo44⟩ := Kd.R_slice HO245.out; subst eo44; have hnb45 := NB249_221.out; have hnc45 := NB221_249.out; have hnb46 := NB249_222.out; have hnc46 := NB222_249.out; have hcz47_0 : w43.cell? ⟨gb249, 0, none⟩ = some (.slice none 0 0) := (blk_cell BK249.out 0).trans rfl; have hcz47_1 : w43.cell? ⟨gb249, 1, none⟩ = some (.slice none 0 0) := (blk_cell BK249.out 1).trans rfl; have hfz47_0 := blk_frozen BK249.out 0; have hfz47_1 := blk_frozen BK249.out 1; obtain ⟨Ao48, co48, eo48⟩ := Kd.R_slice HO248.out; subst eo48; have hcz49_0 : w43.cell? ⟨gb222, 0, none⟩ = some (.slice A1_0 l1_0.length c1_0) := (blk_cell BK222.out 0).trans rfl; have hcz49_1 : w43.cell? ⟨gb222, 1, none⟩ = some (.slice A1_1 l1_1.length c1_1) := (blk_cell BK222.out 1).trans rfl; have hfz49_0 := blk_frozen BK222.out 0; have hfz49_1 := blk_frozen BK222.out 1) | ((with_reducible refine gate_callee (f := 25) rfl ?_); refine goesL_ (some 38) rfl rfl Try.func25 (by kernel_rfl) rfl #[.agg #[.slice A1_0 l1_0.length c1_0, .slice A1_1 l1_1.length c1_1]] rfl (by (try simp only [List.map_toArray, List.map_cons, List.map_nil]); first | done | rfl | (simp only [List.length_drop, List.length_take]; rfl)) ?_; (with_reducible refine (laws_toReport.calls k _ _ l1_0 _ _ l1_1 t250 t253 _ ?side1 ?side2 ?side3 ?side4 A23.out).mono ?_); (case side1 => exact Kd.C_below HR1_0.out (by repeat (first | (with_reducible first | exact HB.out | apply below_alloc | apply pw_below_drewN | apply below_drew1 | refine below_set ?_ GE221.out | refine below_set ?_ GE222.out | refine below_set ?_ GE249.out) | exact HB.out))); (case side2 => exact HC1_0.out); (case side3 => exact Kd.C_below HR1_1.out (by repeat (first | (with_reducible first | exact HB.out | apply below_alloc | apply pw_below_drewN | apply below_drew1 | refine below_set ?_ GE221.out | refine below_set ?_ GE222.out | refine below_set ?_ GE249.out) | exact HB.out))); (case side4 => exact HC1_1.out); rintro e w50 ⟨v251, v254, rfl, ho0, ho1, hb⟩; refine ⟨_, rfl, ?_⟩; have n0_ := Aside0.mk (Kd.R_elder' (by (with_reducible repeat (first | apply Kd.R_alloc | apply Kd.R_drewN | apply Kd.R_drew)); exact (Kd.R_mono (Kd.R_far (p := ⟨gb249, 1, none⟩) (Kd.R_far (p := ⟨gb249, 0, none⟩) (Kd.R_types HO227.out BK249.out (by decide)) (fun _ hk => hk.2) (.slice Ao44 t243.length co44)) (fun _ hk => hk.2) (.slice Ao48 t246.length co48)) (fun _ h_ => h_.1))) (Kd.R_base ho0) hb); have n1_ := Aside0.mk (Kd.R_elder' (by (with_reducible repeat (first | apply Kd.R_alloc | apply Kd.R_drewN | apply Kd.R_drew)); exact (Kd.R_mono (Kd.R_far (p := ⟨gb249, 1, none⟩) (Kd.R_far (p := ⟨gb249, 0, none⟩) (Kd.R_types HO230.out BK249.out (by decide)) (fun _ hk => hk.2) (.slice Ao44 t243.length co44)) (fun _ hk => hk.2) (.slice Ao48 t246.length co48)) (fun _ h_ => h_.1))) (Kd.R_base ho1) hb); have n2_ := Aside0.mk (Kd.R_elder' (by (with_reducible repeat (first | apply Kd.R_alloc | apply Kd.R_drewN | apply Kd.R_drew)); exact (Kd.R_mono (Kd.R_far (p := ⟨gb249, 1, none⟩) (Kd.R_far (p := ⟨gb249, 0, none⟩) (Kd.R_types HO233.out BK249.out (by decide)) (fun _ hk => hk.2) (.slice Ao44 t243.length co44)) (fun _ hk => hk.2) (.slice Ao48 t246.length co48)) (fun _ h_ => h_.1))) (Kd.R_base ho0) hb); have n3_ := Aside0.mk (Kd.R_elder' (by (with_reducible repeat (first | apply Kd.R_alloc | apply Kd.R_drewN | apply Kd.R_drew)); exact (Kd.R_mono (Kd.R_far (p := ⟨gb249, 1, none⟩) (Kd.R_far (p := ⟨gb249, 0, none⟩) (Kd.R_types HO236.out BK249.out (by decide)) (fun _ hk => hk.2) (.slice Ao44 t243.length co44)) (fun _ hk => hk.2) (.slice Ao48 t246.length co48)) (fun _ h_ => h_.1))) (Kd.R_base ho1) hb); have n4_ := Aside0.mk (Kd.R_elder' (by (with_reducible repeat (first | apply Kd.R_alloc | apply Kd.R_drewN | apply Kd.R_drew)); exact (Kd.R_mono (Kd.R_far (p := ⟨gb249, 1, none⟩) (Kd.R_far (p := ⟨gb249, 0, none⟩) (Kd.R_types HO239.out BK249.out (by decide)) (fun _ hk => hk.2) (.slice Ao44 t243.length co44)) (fun _ hk => hk.2) (.slice Ao48 t246.length co48)) (fun _ h_ => h_.1))) (Kd.R_base ho1) hb); have n5_ := Aside0.mk (Kd.R_elder' (by (with_reducible repeat (first | apply Kd.R_alloc | apply Kd.R_drewN | apply Kd.R_drew)); exact (Kd.R_mono (Kd.R_far (p := ⟨gb249, 1, none⟩) (Kd.R_far (p := ⟨gb249, 0, none⟩) (Kd.R_types HO242.out BK249.out (by decide)) (fun _ hk => hk.2) (.slice Ao44 t243.length co44)) (fun _ hk => hk.2) (.slice Ao48 t246.length co48)) (fun _ h_ => h_.1))) (Kd.R_base ho1) hb); have n6_ := Aside0.mk (Kd.R_elder' (by (with_reducible repeat (first | apply Kd.R_alloc | apply Kd.R_drewN | apply Kd.R_drew)); exact (Kd.R_mono (Kd.R_far (p := ⟨gb249, 1, none⟩) (Kd.R_far (p := ⟨gb249, 0, none⟩) (Kd.R_types HO245.out BK249.out (by decide)) (fun _ hk => hk.2) (.slice Ao44 t243.length co44)) (fun _ hk => hk.2) (.slice Ao48 t246.length co48)) (fun _ h_ => h_.1))) (Kd.R_base ho0) hb); have n7_ := Aside0.mk (Kd.R_elder' (by (with_reducible repeat (first | apply Kd.R_alloc | apply Kd.R_drewN | apply Kd.R_drew)); exact (Kd.R_mono (Kd.R_far (p := ⟨gb249, 1, none⟩) (Kd.R_far (p := ⟨gb249, 0, none⟩) (Kd.R_types HO248.out BK249.out (by decide)) (fun _ hk => hk.2) (.slice Ao44 t243.length co44)) (fun _ hk => hk.2) (.slice Ao48 t246.length co48)) (fun _ h_ => h_.1))) (Kd.R_base ho1) hb); have n8_ := Aside0.mk (Kd.R_lower (Kd.R_new' (Kd.R_new' (Kd.R_new' ho0 (Kd.R_lt (by (with_reducible repeat (first | apply Kd.R_alloc | apply Kd.R_drewN | apply Kd.R_drew)); exact (Kd.R_mono (Kd.R_far (p := ⟨gb249, 1, none⟩) (Kd.R_far (p := ⟨gb249, 0, none⟩) (Kd.R_types HO227.out BK249.out (by decide)) (fun _ hk => hk.2) (.slice Ao44 t243.length co44)) (fun _ hk => hk.2) (.slice Ao48 t246.length co48)) (fun _ h_ => h_.1))))) (Kd.R_lt (by (with_reducible repeat (first | apply Kd.R_alloc | apply Kd.R_drewN | apply Kd.R_drew)); exact (Kd.R_mono (Kd.R_far (p := ⟨gb249, 1, none⟩) (Kd.R_far (p := ⟨gb249, 0, none⟩) (Kd.R_types HO233.out BK249.out (by decide)) (fun _ hk => hk.2) (.slice Ao44 t243.length co44)) (fun _ hk => hk.2) (.slice Ao48 t246.length co48)) (fun _ h_ => h_.1))))) (Kd.R_lt (by (with_reducible repeat (first | apply Kd.R_alloc | apply Kd.R_drewN | apply Kd.R_drew)); exact (Kd.R_mono (Kd.R_far (p := ⟨gb249, 1, none⟩) (Kd.R_far (p := ⟨gb249, 0, none⟩) (Kd.R_types HO245.out BK249.out (by decide)) (fun _ hk => hk.2) (.slice Ao44 t243.length co44)) (fun _ hk => hk.2) (.slice Ao48 t246.length co48)) (fun _ h_ => h_.1))))) (below_size (by repeat (first | (with_reducible first | exact HB.out | apply below_alloc | apply pw_below_drewN | apply below_drew1 | refine below_set ?_ GE221.out | refine below_set ?_ GE222.out | refine below_set ?_ GE249.out) | exact HB.out)))); have n9_ := Aside0.mk (Kd.R_lower (Kd.R_new' (Kd.R_new' (Kd.R_new' (Kd.R_new' (Kd.R_new' ho1 (Kd.R_lt (by (with_reducible repeat (first | apply Kd.R_alloc | apply Kd.R_drewN | apply Kd.R_drew)); exact (Kd.R_mono (Kd.R_far (p := ⟨gb249, 1, none⟩) (Kd.R_far (p := ⟨gb249, 0, none⟩) (Kd.R_types HO230.out BK249.out (by decide)) (fun _ hk => hk.2) (.slice Ao44 t243.length co44)) (fun _ hk => hk.2) (.slice Ao48 t246.length co48)) (fun _ h_ => h_.1))))) (Kd.R_lt (by (with_reducible repeat (first | apply Kd.R_alloc | apply Kd.R_drewN | apply Kd.R_drew)); exact (Kd.R_mono (Kd.R_far (p := ⟨gb249, 1, none⟩) (Kd.R_far (p := ⟨gb249, 0, none⟩) (Kd.R_types HO236.out BK249.out (by decide)) (fun _ hk => hk.2) (.slice Ao44 t243.length co44)) (fun _ hk => hk.2) (.slice Ao48 t246.length co48)) (fun _ h_ => h_.1))))) (Kd.R_lt (by (with_reducible repeat (first | apply Kd.R_alloc | apply Kd.R_drewN | apply Kd.R_drew)); exact (Kd.R_mono (Kd.R_far (p := ⟨gb249, 1, none⟩) (Kd.R_far (p := ⟨gb249, 0, none⟩) (Kd.R_types HO239.out BK249.out (by decide)) (fun _ hk => hk.2) (.slice Ao44 t243.length co44)) (fun _ hk => hk.2) (.slice Ao48 t246.length co48)) (fun _ h_ => h_.1))))) (Kd.R_lt (by (with_reducible repeat (first | apply Kd.R_alloc | apply Kd.R_drewN | apply Kd.R_drew)); exact (Kd.R_mono (Kd.R_far (p := ⟨gb249, 1, none⟩) (Kd.R_far (p := ⟨gb249, 0, none⟩) (Kd.R_types HO242.out BK249.out (by decide)) (fun _ hk => hk.2) (.slice Ao44 t243.length co44)) (fun _ hk => hk.2) (.slice Ao48 t246.length co48)) (fun _ h_ => h_.1))))) (Kd.R_lt (by (with_reducible repeat (first | apply Kd.R_alloc | apply Kd.R_drewN | apply Kd.R_drew)); exact (Kd.R_mono (Kd.R_far (p := ⟨gb249, 1, none⟩) (Kd.R_far (p := ⟨gb249, 0, none⟩) (Kd.R_types HO248.out BK249.out (by decide)) (fun _ hk => hk.2) (.slice Ao44 t243.length co44)) (fun _ hk => hk.2) (.slice Ao48 t246.length co48)) (fun _ h_ => h_.1))))) (below_size (by repeat (first | (with_reducible first | exact HB.out | apply below_alloc | apply pw_below_drewN | apply below_drew1 | refine below_set ?_ GE221.out | refine below_set ?_ GE222.out | refine below_set ?_ GE249.out) | exact HB.out)))); have n10_ := Aside0.mk (blk_below (g := gb221) (o := .cells #[.slice A0_0 l0_0.length c0_0, .slice A0_1 l0_1.length c0_1] 41 (0, 0)) (by (with_reducible repeat (first | apply blk_drewN | apply blk_drew | apply blk_alloc)); refine blk_far ?_ NB221_249.out _; (with_reducible repeat (first | apply blk_drewN | apply blk_drew | apply blk_alloc)); refine blk_far ?_ NB221_249.out _; (with_reducible repeat (first | apply blk_drewN | apply blk_drew | apply blk_alloc)); exact BK221.out) hb); have n11_ := Aside0.mk (blk_below (g := gb222) (o := .cells #[.slice A1_0 l1_0.length c1_0, .slice A1_1 l1_1.length c1_1] 41 (0, 0)) (by (with_reducible repeat (first | apply blk_drewN | apply blk_drew | apply blk_alloc)); refine blk_far ?_ NB222_249.out _; (with_reducible repeat (first | apply blk_drewN | apply blk_drew | apply blk_alloc)); refine blk_far ?_ NB222_249.out _; (with_reducible repeat (first | apply blk_drewN | apply blk_drew | apply blk_alloc)); exact BK222.out) hb); have n12_ := Aside0.mk (blk_below (g := gb249) (o := .cells #[.slice Ao44 t243.length co44, .slice Ao48 t246.length co48] 26 (0, 0)) (by (with_reducible repeat (first | apply blk_drewN | apply blk_drew | apply blk_alloc)); refine blk_put (cs := #[.slice Ao44 t243.length co44, .slice none 0 0]) ?_ 1 _ rfl; (with_reducible repeat (first | apply blk_drewN | apply blk_drew | apply blk_alloc)); refine blk_put (cs := #[.slice none 0 0, .slice none 0 0]) ?_ 0 _ rfl; (with_reducible repeat (first | apply blk_drewN | apply blk_drew | apply blk_alloc)); exact BK249.out) hb); have n13_ := Aside0.mk (below_step (by repeat (first | (with_reducible first | exact HB.out | apply below_alloc | apply pw_below_drewN | apply below_drew1 | refine below_set ?_ GE221.out | refine below_set ?_ GE222.out | refine below_set ?_ GE249.out) | exact HB.out)) hb); clear HO227; clear HO230; clear HO233; clear HO236; clear HO239; clear HO242; clear HO245; clear HO248; clear BK221; clear BK222; clear BK249; clear HB; have HO227 := n0_; have HO230 := n1_; have HO233 := n2_; have HO236 := n3_; have HO239 := n4_; have HO242 := n5_; have HO245 := n6_; have HO248 := n7_; have HO252 := n8_; have HO255 := n9_; have BK221 := n10_; have BK222 := n11_; have BK249 := n12_; have HB := n13_; clear n0_ n1_ n2_ n3_ n4_ n5_ n6_ n7_ n8_ n9_ n10_ n11_ n12_ n13_; (try clear hb); (try clear hb2); (try clear hk); (try clear hi); (try clear ho0); (try clear ho1)) | ((with_reducible refine gate_dst (N := 9) rfl ?_); refine box_event ?hg (N := 9) ?hd (cs := #[.slice none 0 0, .slice none 0 0]) (t := 26) ?hr ?_; (case hd => rfl); (case hg => rfl); (case hr => first | (go_simp; done) | (go_simp; rfl)); intro gb256 hg w51 hbox hb; have n0_ := Aside0.mk (Kd.R_below (by (with_reducible repeat (first | apply Kd.R_alloc | apply Kd.R_drewN | apply Kd.R_drew)); exact HO227.out) hb); have n1_ := Aside0.mk (Kd.R_below (by (with_reducible repeat (first | apply Kd.R_alloc | apply Kd.R_drewN | apply Kd.R_drew)); exact HO230.out) hb); have n2_ := Aside0.mk (Kd.R_below (by (with_reducible repeat (first | apply Kd.R_alloc | apply Kd.R_drewN | apply Kd.R_drew)); exact HO233.out) hb); have n3_ := Aside0.mk (Kd.R_below (by (with_reducible repeat (first | apply Kd.R_alloc | apply Kd.R_drewN | apply Kd.R_drew)); exact HO236.out) hb); have n4_ := Aside0.mk (Kd.R_below (by (with_reducible repeat (first | apply Kd.R_alloc | apply Kd.R_drewN | apply Kd.R_drew)); exact HO239.out) hb); have n5_ := Aside0.mk (Kd.R_below (by (with_reducible repeat (first | apply Kd.R_alloc | apply Kd.R_drewN | apply Kd.R_drew)); exact HO242.out) hb); have n6_ := Aside0.mk (Kd.R_below (by (with_reducible repeat (first | apply Kd.R_alloc | apply Kd.R_drewN | apply Kd.R_drew)); exact HO245.out) hb); have n7_ := Aside0.mk (Kd.R_below (by (with_reducible repeat (first | apply Kd.R_alloc | apply Kd.R_drewN | apply Kd.R_drew)); exact HO248.out) hb); have n8_ := Aside0.mk (Kd.R_below (by (with_reducible repeat (first | apply Kd.R_alloc | apply Kd.R_drewN | apply Kd.R_drew)); exact HO252.out) hb); have n9_ := Aside0.mk (Kd.R_below (by (with_reducible repeat (first | apply Kd.R_alloc | apply Kd.R_drewN | apply Kd.R_drew)); exact HO255.out) hb); have n10_ := Aside0.mk (blk_below (g := gb221) (o := .cells #[.slice A0_0 l0_0.length c0_0, .slice A0_1 l0_1.length c0_1] 41 (0, 0)) (by (with_reducible repeat (first | apply blk_drewN | apply blk_drew | apply blk_alloc)); exact BK221.out) hb); have n11_ := Aside0.mk (blk_below (g := gb222) (o := .cells #[.slice A1_0 l1_0.length c1_0, .slice A1_1 l1_1.length c1_1] 41 (0, 0)) (by (with_reducible repeat (first | apply blk_drewN | apply blk_drew | apply blk_alloc)); exact BK222.out) hb); have n12_ := Aside0.mk (blk_below (g := gb249) (o := .cells #[.slice Ao44 t243.length co44, .slice Ao48 t246.length co48] 26 (0, 0)) (by (with_reducible repeat (first | apply blk_drewN | apply blk_drew | apply blk_alloc)); exact BK249.out) hb); have n13_ := Aside0.mk (below_step (by repeat (first | (with_reducible first | exact HB.out | apply below_alloc | apply pw_below_drewN | apply below_drew1 | refine below_set ?_ GE221.out | refine below_set ?_ GE222.out | refine below_set ?_ GE249.out) | exact HB.out)) hb); have n14_ := Aside0.mk (hbox); have n15_ := Aside0.mk ((by rw [hg]; exact (below_size (by repeat (first | (with_reducible first | exact HB.out | apply below_alloc | apply pw_below_drewN | apply below_drew1 | refine below_set ?_ GE221.out | refine below_set ?_ GE222.out | refine below_set ?_ GE249.out) | exact HB.out))) : w.heap.size ≤ gb256)); have n16_ := Aside0.mk ((by rw [hg]; exact (below_size (by repeat (first | (with_reducible first | exact HB.out | apply below_alloc | apply pw_below_drewN | apply below_drew1 | refine below_set ?_ GE221.out | refine below_set ?_ GE222.out | refine below_set ?_ GE249.out) | exact HB.out))) : w.heap.size ≤ gb256)); have n17_ := Aside0.mk ((by rw [hg]; exact Nat.ne_of_lt (blk_lt (g := gb221) (o := .cells #[.slice A0_0 l0_0.length c0_0, .slice A0_1 l0_1.length c0_1] 41 (0, 0)) (by (with_reducible repeat (first | apply blk_drewN | apply blk_drew | apply blk_alloc)); exact BK221.out)) : gb221 ≠ gb256)); have n18_ := Aside0.mk ((by rw [hg]; exact Nat.ne_of_gt (blk_lt (g := gb221) (o := .cells #[.slice A0_0 l0_0.length c0_0, .slice A0_1 l0_1.length c0_1] 41 (0, 0)) (by (with_reducible repeat (first | apply blk_drewN | apply blk_drew | apply blk_alloc)); exact BK221.out)) : gb256 ≠ gb221)); have n19_ := Aside0.mk ((by rw [hg]; exact Nat.ne_of_lt (blk_lt (g := gb222) (o := .cells #[.slice A1_0 l1_0.length c1_0, .slice A1_1 l1_1.length c1_1] 41 (0, 0)) (by (with_reducible repeat (first | apply blk_drewN | apply blk_drew | apply blk_alloc)); exact BK222.out)) : gb222 ≠ gb256)); have n20_ := Aside0.mk ((by rw [hg]; exact Nat.ne_of_gt (blk_lt (g := gb222) (o := .cells #[.slice A1_0 l1_0.length c1_0, .slice A1_1 l1_1.length c1_1] 41 (0, 0)) (by (with_reducible repeat (first | apply blk_drewN | apply blk_drew | apply blk_alloc)); exact BK222.out)) : gb256 ≠ gb222)); have n21_ := Aside0.mk ((by rw [hg]; exact Nat.ne_of_lt (blk_lt (g := gb249) (o := .cells #[.slice Ao44 t243.length co44, .slice Ao48 t246.length co48] 26 (0, 0)) (by (with_reducible repeat (first | apply blk_drewN | apply blk_drew | apply blk_alloc)); exact BK249.out)) : gb249 ≠ gb256)); have n22_ := Aside0.mk ((by rw [hg]; exact Nat.ne_of_gt (blk_lt (g := gb249) (o := .cells #[.slice Ao44 t243.length co44, .slice Ao48 t246.length co48] 26 (0, 0)) (by (with_reducible repeat (first | apply blk_drewN | apply blk_drew | apply blk_alloc)); exact BK249.out)) : gb256 ≠ gb249)); clear HO227; clear HO230; clear HO233; clear HO236; clear HO239; clear HO242; clear HO245; clear HO248; clear HO252; clear HO255; clear BK221; clear BK222; clear BK249; clear HB; have HO227 := n0_; have HO230 := n1_; have HO233 := n2_; have HO236 := n3_; have HO239 := n4_; have HO242 := n5_; have HO245 := n6_; have HO248 := n7_; have HO252 := n8_; have HO255 := n9_; have BK221 := n10_; have BK222 := n11_; have BK249 := n12_; have HB := n13_; have BK256 := n14_; have GW256 := n15_; have GE256 := n16_; have NB221_256 := n17_; have NB256_221 := n18_; have NB222_256 := n19_; have NB256_222 := n20_; have NB249_256 := n21_; have NB256_249 := n22_; clear n0_ n1_ n2_ n3_ n4_ n5_ n6_ n7_ n8_ n9_ n10_ n11_ n12_ n13_ n14_ n15_ n16_ n17_ n18_ n19_ n20_ n21_ n22_; clear hb hbox hg; obtain ⟨Ao52, co52, eo52⟩ := Kd.R_slice HO252.out; subst eo52; have hnb53 := NB256_221.out; have hnc53 := NB221_256.out; have hnb54 := NB256_222.out; have hnc54 := NB222_256.out; have hnb55 := NB256_249.out; have hnc55 := NB249_256.out; have hcz56_0 : w51.cell? ⟨gb256, 0, none⟩ = some (.slice none 0 0) := (blk_cell BK256.out 0).trans rfl; have hcz56_1 : w51.cell? ⟨gb256, 1, none⟩ = some (.slice none 0 0) := (blk_cell BK256.out 1).trans rfl; have hfz56_0 := blk_frozen BK256.out 0; have hfz56_1 := blk_frozen BK256.out 1; obtain ⟨Ao57, co57, eo57⟩ := Kd.R_slice HO255.out; subst eo57; have hcz58_0 : w51.cell? ⟨gb249, 0, none⟩ = some (.slice Ao44 t243.length co44) := (blk_cell BK249.out 0).trans rfl; have hcz58_1 : w51.cell? ⟨gb249, 1, none⟩ = some (.slice Ao48 t246.length co48) := (blk_cell BK249.out 1).trans rfl; have hfz58_0 := blk_frozen BK249.out 0; have hfz58_1 := blk_frozen BK249.out 1) | ((with_reducible refine gate_callee (f := 36) rfl ?_); refine goesL_ (some 42) rfl rfl Try.func36 (by kernel_rfl) rfl #[.agg #[.slice Ao44 t243.length co44, .slice Ao48 t246.length co48], .agg #[.slice Ao52 t250.length co52, .slice Ao57 t253.length co57]] rfl (by (try simp only [List.map_toArray, List.map_cons, List.map_nil]); first | done | rfl | (simp only [List.length_drop, List.length_take]; rfl)) ?_; (with_reducible refine (impl_DiffReports.calls k _ _ t243 _ _ t246 _ _ t250 _ _ t253 t257 t260 _ ?side1 ?side2 ?side3 ?side4 ?side5 ?side6 ?side7 ?side8 A24.out).mono ?_); (case side1 => refine (Kd.R_reads' (e := 37) (base := w.heap.size) (ok := fun k_ => (((True ∧ some k_ ≠ (.slice Ao36 t225.length co36 : Value).ownBlock) ∧ some k_ ≠ (.slice Ao38 t231.length co38 : Value).ownBlock) ∧ some k_ ≠ (.slice Ao52 t250.length co52 : Value).ownBlock)) (n := t243.length) (c := co44) ?_).2.2; exact (by (with_reducible repeat (first | apply Kd.R_alloc | apply Kd.R_drewN | apply Kd.R_drew)); exact (Kd.R_mono (Kd.R_far (p := ⟨gb256, 1, none⟩) (Kd.R_far (p := ⟨gb256, 0, none⟩) (Kd.R_types HO245.out BK256.out (by decide)) (fun _ hk => hk.2) (.slice Ao52 t250.length co52)) (fun _ hk => hk.2) (.slice Ao57 t253.length co57)) (fun _ h_ => h_.1)))); (case side2 => exact (Kd.R_reads' HO245.out).2.1); (case side3 => refine (Kd.R_reads' (e := 9) (base := w.heap.size) (ok := fun k_ => (((((True ∧ some k_ ≠ (.slice Ao37 t228.length co37 : Value).ownBlock) ∧ some k_ ≠ (.slice Ao39 t234.length co39 : Value).ownBlock) ∧ some k_ ≠ (v238 : Value).ownBlock) ∧ some k_ ≠ (v241 : Value).ownBlock) ∧ some k_ ≠ (.slice Ao57 t253.length co57 : Value).ownBlock)) (n := t246.length) (c := co48) ?_).2.2; exact (by (with_reducible repeat (first | apply Kd.R_alloc | apply Kd.R_drewN | apply Kd.R_drew)); exact (Kd.R_mono (Kd.R_far (p := ⟨gb256, 1, none⟩) (Kd.R_far (p := ⟨gb256, 0, none⟩) (Kd.R_types HO248.out BK256.out (by decide)) (fun _ hk => hk.2) (.slice Ao52 t250.length co52)) (fun _ hk => hk.2) (.slice Ao57 t253.length co57)) (fun _ h_ => h_.1)))); (case side4 => exact (Kd.R_reads' HO248.out).2.1); (case side5 => refine (Kd.R_reads' (e := 37) (base := w.heap.size) (ok := fun k_ => (((True ∧ some k_ ≠ (.slice Ao36 t225.length co36 : Value).ownBlock) ∧ some k_ ≠ (.slice Ao38 t231.length co38 : Value).ownBlock) ∧ some k_ ≠ (.slice Ao44 t243.length co44 : Value).ownBlock)) (n := t250.length) (c := co52) ?_).2.2; exact (by (with_reducible repeat (first | apply Kd.R_alloc | apply Kd.R_drewN | apply Kd.R_drew)); exact (Kd.R_mono (Kd.R_far (p := ⟨gb256, 1, none⟩) (Kd.R_far (p := ⟨gb256, 0, none⟩) (Kd.R_types HO252.out BK256.out (by decide)) (fun _ hk => hk.2) (.slice Ao52 t250.length co52)) (fun _ hk => hk.2) (.slice Ao57 t253.length co57)) (fun _ h_ => h_.1)))); (case side6 => exact (Kd.R_reads' HO252.out).2.1); (case side7 => refine (Kd.R_reads' (e := 9) (base := w.heap.size) (ok := fun k_ => (((((True ∧ some k_ ≠ (.slice Ao37 t228.length co37 : Value).ownBlock) ∧ some k_ ≠ (.slice Ao39 t234.length co39 : Value).ownBlock) ∧ some k_ ≠ (v238 : Value).ownBlock) ∧ some k_ ≠ (v241 : Value).ownBlock) ∧ some k_ ≠ (.slice Ao48 t246.length co48 : Value).ownBlock)) (n := t253.length) (c := co57) ?_).2.2; exact (by (with_reducible repeat (first | apply Kd.R_alloc | apply Kd.R_drewN | apply Kd.R_drew)); exact (Kd.R_mono (Kd.R_far (p := ⟨gb256, 1, none⟩) (Kd.R_far (p := ⟨gb256, 0, none⟩) (Kd.R_types HO255.out BK256.out (by decide)) (fun _ hk => hk.2) (.slice Ao52 t250.length co52)) (fun _ hk => hk.2) (.slice Ao57 t253.length co57)) (fun _ h_ => h_.1)))); (case side8 => exact (Kd.R_reads' HO255.out).2.1); rintro e w59 ⟨v258, v261, rfl, ho0, ho1, hb⟩; refine ⟨_, rfl, ?_⟩; have n0_ := Aside0.mk (Kd.R_below (by (with_reducible repeat (first | apply Kd.R_alloc | apply Kd.R_drewN | apply Kd.R_drew)); exact (Kd.R_mono (Kd.R_far (p := ⟨gb256, 1, none⟩) (Kd.R_far (p := ⟨gb256, 0, none⟩) (Kd.R_types HO227.out BK256.out (by decide)) (fun _ hk => hk.2) (.slice Ao52 t250.length co52)) (fun _ hk => hk.2) (.slice Ao57 t253.length co57)) (fun _ h_ => h_.1))) hb); have n1_ := Aside0.mk (Kd.R_mono (Kd.R_told (Kd.R_told (Kd.R_old (by (with_reducible repeat (first | apply Kd.R_alloc | apply Kd.R_drewN | apply Kd.R_drew)); exact (Kd.R_mono (Kd.R_far (p := ⟨gb256, 1, none⟩) (Kd.R_far (p := ⟨gb256, 0, none⟩) (Kd.R_types HO230.out BK256.out (by decide)) (fun _ hk => hk.2) (.slice Ao52 t250.length co52)) (fun _ hk => hk.2) (.slice Ao57 t253.length co57)) (fun _ h_ => h_.1))) hb) (Kd.R_base ho0)) (Kd.R_base ho1)) (fun _ h_ => h_.1)); have n2_ := Aside0.mk (Kd.R_below (by (with_reducible repeat (first | apply Kd.R_alloc | apply Kd.R_drewN | apply Kd.R_drew)); exact (Kd.R_mono (Kd.R_far (p := ⟨gb256, 1, none⟩) (Kd.R_far (p := ⟨gb256, 0, none⟩) (Kd.R_types HO233.out BK256.out (by decide)) (fun _ hk => hk.2) (.slice Ao52 t250.length co52)) (fun _ hk => hk.2) (.slice Ao57 t253.length co57)) (fun _ h_ => h_.1))) hb); have n3_ := Aside0.mk (Kd.R_mono (Kd.R_told (Kd.R_told (Kd.R_old (by (with_reducible repeat (first | apply Kd.R_alloc | apply Kd.R_drewN | apply Kd.R_drew)); exact (Kd.R_mono (Kd.R_far (p := ⟨gb256, 1, none⟩) (Kd.R_far (p := ⟨gb256, 0, none⟩) (Kd.R_types HO236.out BK256.out (by decide)) (fun _ hk => hk.2) (.slice Ao52 t250.length co52)) (fun _ hk => hk.2) (.slice Ao57 t253.length co57)) (fun _ h_ => h_.1))) hb) (Kd.R_base ho0)) (Kd.R_base ho1)) (fun _ h_ => h_.1)); have n4_ := Aside0.mk (Kd.R_mono (Kd.R_told (Kd.R_told (Kd.R_old (by (with_reducible repeat (first | apply Kd.R_alloc | apply Kd.R_drewN | apply Kd.R_drew)); exact (Kd.R_mono (Kd.R_far (p := ⟨gb256, 1, none⟩) (Kd.R_far (p := ⟨gb256, 0, none⟩) (Kd.R_types HO239.out BK256.out (by decide)) (fun _ hk => hk.2) (.slice Ao52 t250.length co52)) (fun _ hk => hk.2) (.slice Ao57 t253.length co57)) (fun _ h_ => h_.1))) hb) (Kd.R_base ho0)) (Kd.R_base ho1)) (fun _ h_ => h_.1)); have n5_ := Aside0.mk (Kd.R_mono (Kd.R_told (Kd.R_told (Kd.R_old (by (with_reducible repeat (first | apply Kd.R_alloc | apply Kd.R_drewN | apply Kd.R_drew)); exact (Kd.R_mono (Kd.R_far (p := ⟨gb256, 1, none⟩) (Kd.R_far (p := ⟨gb256, 0, none⟩) (Kd.R_types HO242.out BK256.out (by decide)) (fun _ hk => hk.2) (.slice Ao52 t250.length co52)) (fun _ hk => hk.2) (.slice Ao57 t253.length co57)) (fun _ h_ => h_.1))) hb) (Kd.R_base ho0)) (Kd.R_base ho1)) (fun _ h_ => h_.1)); have n6_ := Aside0.mk (Kd.R_below (by (with_reducible repeat (first | apply Kd.R_alloc | apply Kd.R_drewN | apply Kd.R_drew)); exact (Kd.R_mono (Kd.R_far (p := ⟨gb256, 1, none⟩) (Kd.R_far (p := ⟨gb256, 0, none⟩) (Kd.R_types HO245.out BK256.out (by decide)) (fun _ hk => hk.2) (.slice Ao52 t250.length co52)) (fun _ hk => hk.2) (.slice Ao57 t253.length co57)) (fun _ h_ => h_.1))) hb); have n7_ := Aside0.mk (Kd.R_mono (Kd.R_told (Kd.R_told (Kd.R_old (by (with_reducible repeat (first | apply Kd.R_alloc | apply Kd.R_drewN | apply Kd.R_drew)); exact (Kd.R_mono (Kd.R_far (p := ⟨gb256, 1, none⟩) (Kd.R_far (p := ⟨gb256, 0, none⟩) (Kd.R_types HO248.out BK256.out (by decide)) (fun _ hk => hk.2) (.slice Ao52 t250.length co52)) (fun _ hk => hk.2) (.slice Ao57 t253.length co57)) (fun _ h_ => h_.1))) hb) (Kd.R_base ho0)) (Kd.R_base ho1)) (fun _ h_ => h_.1)); have n8_ := Aside0.mk (Kd.R_below (by (with_reducible repeat (first | apply Kd.R_alloc | apply Kd.R_drewN | apply Kd.R_drew)); exact (Kd.R_mono (Kd.R_far (p := ⟨gb256, 1, none⟩) (Kd.R_far (p := ⟨gb256, 0, none⟩) (Kd.R_types HO252.out BK256.out (by decide)) (fun _ hk => hk.2) (.slice Ao52 t250.length co52)) (fun _ hk => hk.2) (.slice Ao57 t253.length co57)) (fun _ h_ => h_.1))) hb); have n9_ := Aside0.mk (Kd.R_mono (Kd.R_told (Kd.R_told (Kd.R_old (by (with_reducible repeat (first | apply Kd.R_alloc | apply Kd.R_drewN | apply Kd.R_drew)); exact (Kd.R_mono (Kd.R_far (p := ⟨gb256, 1, none⟩) (Kd.R_far (p := ⟨gb256, 0, none⟩) (Kd.R_types HO255.out BK256.out (by decide)) (fun _ hk => hk.2) (.slice Ao52 t250.length co52)) (fun _ hk => hk.2) (.slice Ao57 t253.length co57)) (fun _ h_ => h_.1))) hb) (Kd.R_base ho0)) (Kd.R_base ho1)) (fun _ h_ => h_.1)); have n10_ := Aside0.mk (Kd.R_lower (Kd.R_new' (Kd.R_new' (Kd.R_new' (Kd.R_new' (Kd.R_new' (Kd.R_new' ho0 (Kd.R_lt (by (with_reducible repeat (first | apply Kd.R_alloc | apply Kd.R_drewN | apply Kd.R_drew)); exact (Kd.R_mono (Kd.R_far (p := ⟨gb256, 1, none⟩) (Kd.R_far (p := ⟨gb256, 0, none⟩) (Kd.R_types HO230.out BK256.out (by decide)) (fun _ hk => hk.2) (.slice Ao52 t250.length co52)) (fun _ hk => hk.2) (.slice Ao57 t253.length co57)) (fun _ h_ => h_.1))))) (Kd.R_lt (by (with_reducible repeat (first | apply Kd.R_alloc | apply Kd.R_drewN | apply Kd.R_drew)); exact (Kd.R_mono (Kd.R_far (p := ⟨gb256, 1, none⟩) (Kd.R_far (p := ⟨gb256, 0, none⟩) (Kd.R_types HO236.out BK256.out (by decide)) (fun _ hk => hk.2) (.slice Ao52 t250.length co52)) (fun _ hk => hk.2) (.slice Ao57 t253.length co57)) (fun _ h_ => h_.1))))) (Kd.R_lt (by (with_reducible repeat (first | apply Kd.R_alloc | apply Kd.R_drewN | apply Kd.R_drew)); exact (Kd.R_mono (Kd.R_far (p := ⟨gb256, 1, none⟩) (Kd.R_far (p := ⟨gb256, 0, none⟩) (Kd.R_types HO239.out BK256.out (by decide)) (fun _ hk => hk.2) (.slice Ao52 t250.length co52)) (fun _ hk => hk.2) (.slice Ao57 t253.length co57)) (fun _ h_ => h_.1))))) (Kd.R_lt (by (with_reducible repeat (first | apply Kd.R_alloc | apply Kd.R_drewN | apply Kd.R_drew)); exact (Kd.R_mono (Kd.R_far (p := ⟨gb256, 1, none⟩) (Kd.R_far (p := ⟨gb256, 0, none⟩) (Kd.R_types HO242.out BK256.out (by decide)) (fun _ hk => hk.2) (.slice Ao52 t250.length co52)) (fun _ hk => hk.2) (.slice Ao57 t253.length co57)) (fun _ h_ => h_.1))))) (Kd.R_lt (by (with_reducible repeat (first | apply Kd.R_alloc | apply Kd.R_drewN | apply Kd.R_drew)); exact (Kd.R_mono (Kd.R_far (p := ⟨gb256, 1, none⟩) (Kd.R_far (p := ⟨gb256, 0, none⟩) (Kd.R_types HO248.out BK256.out (by decide)) (fun _ hk => hk.2) (.slice Ao52 t250.length co52)) (fun _ hk => hk.2) (.slice Ao57 t253.length co57)) (fun _ h_ => h_.1))))) (Kd.R_lt (by (with_reducible repeat (first | apply Kd.R_alloc | apply Kd.R_drewN | apply Kd.R_drew)); exact (Kd.R_mono (Kd.R_far (p := ⟨gb256, 1, none⟩) (Kd.R_far (p := ⟨gb256, 0, none⟩) (Kd.R_types HO255.out BK256.out (by decide)) (fun _ hk => hk.2) (.slice Ao52 t250.length co52)) (fun _ hk => hk.2) (.slice Ao57 t253.length co57)) (fun _ h_ => h_.1))))) (below_size (by repeat (first | (with_reducible first | exact HB.out | apply below_alloc | apply pw_below_drewN | apply below_drew1 | refine below_set ?_ GE221.out | refine below_set ?_ GE222.out | refine below_set ?_ GE249.out | refine below_set ?_ GE256.out) | exact HB.out)))); have n11_ := Aside0.mk (Kd.R_lower (Kd.R_new' (Kd.R_new' (Kd.R_new' (Kd.R_new' (Kd.R_new' (Kd.R_new' ho1 (Kd.R_lt (by (with_reducible repeat (first | apply Kd.R_alloc | apply Kd.R_drewN | apply Kd.R_drew)); exact (Kd.R_mono (Kd.R_far (p := ⟨gb256, 1, none⟩) (Kd.R_far (p := ⟨gb256, 0, none⟩) (Kd.R_types HO230.out BK256.out (by decide)) (fun _ hk => hk.2) (.slice Ao52 t250.length co52)) (fun _ hk => hk.2) (.slice Ao57 t253.length co57)) (fun _ h_ => h_.1))))) (Kd.R_lt (by (with_reducible repeat (first | apply Kd.R_alloc | apply Kd.R_drewN | apply Kd.R_drew)); exact (Kd.R_mono (Kd.R_far (p := ⟨gb256, 1, none⟩) (Kd.R_far (p := ⟨gb256, 0, none⟩) (Kd.R_types HO236.out BK256.out (by decide)) (fun _ hk => hk.2) (.slice Ao52 t250.length co52)) (fun _ hk => hk.2) (.slice Ao57 t253.length co57)) (fun _ h_ => h_.1))))) (Kd.R_lt (by (with_reducible repeat (first | apply Kd.R_alloc | apply Kd.R_drewN | apply Kd.R_drew)); exact (Kd.R_mono (Kd.R_far (p := ⟨gb256, 1, none⟩) (Kd.R_far (p := ⟨gb256, 0, none⟩) (Kd.R_types HO239.out BK256.out (by decide)) (fun _ hk => hk.2) (.slice Ao52 t250.length co52)) (fun _ hk => hk.2) (.slice Ao57 t253.length co57)) (fun _ h_ => h_.1))))) (Kd.R_lt (by (with_reducible repeat (first | apply Kd.R_alloc | apply Kd.R_drewN | apply Kd.R_drew)); exact (Kd.R_mono (Kd.R_far (p := ⟨gb256, 1, none⟩) (Kd.R_far (p := ⟨gb256, 0, none⟩) (Kd.R_types HO242.out BK256.out (by decide)) (fun _ hk => hk.2) (.slice Ao52 t250.length co52)) (fun _ hk => hk.2) (.slice Ao57 t253.length co57)) (fun _ h_ => h_.1))))) (Kd.R_lt (by (with_reducible repeat (first | apply Kd.R_alloc | apply Kd.R_drewN | apply Kd.R_drew)); exact (Kd.R_mono (Kd.R_far (p := ⟨gb256, 1, none⟩) (Kd.R_far (p := ⟨gb256, 0, none⟩) (Kd.R_types HO248.out BK256.out (by decide)) (fun _ hk => hk.2) (.slice Ao52 t250.length co52)) (fun _ hk => hk.2) (.slice Ao57 t253.length co57)) (fun _ h_ => h_.1))))) (Kd.R_lt (by (with_reducible repeat (first | apply Kd.R_alloc | apply Kd.R_drewN | apply Kd.R_drew)); exact (Kd.R_mono (Kd.R_far (p := ⟨gb256, 1, none⟩) (Kd.R_far (p := ⟨gb256, 0, none⟩) (Kd.R_types HO255.out BK256.out (by decide)) (fun _ hk => hk.2) (.slice Ao52 t250.length co52)) (fun _ hk => hk.2) (.slice Ao57 t253.length co57)) (fun _ h_ => h_.1))))) (below_size (by repeat (first | (with_reducible first | exact HB.out | apply below_alloc | apply pw_below_drewN | apply below_drew1 | refine below_set ?_ GE221.out | refine below_set ?_ GE222.out | refine below_set ?_ GE249.out | refine below_set ?_ GE256.out) | exact HB.out)))); have n12_ := Aside0.mk (blk_below (g := gb221) (o := .cells #[.slice A0_0 l0_0.length c0_0, .slice A0_1 l0_1.length c0_1] 41 (0, 0)) (by (with_reducible repeat (first | apply blk_drewN | apply blk_drew | apply blk_alloc)); refine blk_far ?_ NB221_256.out _; (with_reducible repeat (first | apply blk_drewN | apply blk_drew | apply blk_alloc)); refine blk_far ?_ NB221_256.out _; (with_reducible repeat (first | apply blk_drewN | apply blk_drew | apply blk_alloc)); exact BK221.out) hb); have n13_ := Aside0.mk (blk_below (g := gb222) (o := .cells #[.slice A1_0 l1_0.length c1_0, .slice A1_1 l1_1.length c1_1] 41 (0, 0)) (by (with_reducible repeat (first | apply blk_drewN | apply blk_drew | apply blk_alloc)); refine blk_far ?_ NB222_256.out _; (with_reducible repeat (first | apply blk_drewN | apply blk_drew | apply blk_alloc)); refine blk_far ?_ NB222_256.out _; (with_reducible repeat (first | apply blk_drewN | apply blk_drew | apply blk_alloc)); exact BK222.out) hb); have n14_ := Aside0.mk (blk_below (g := gb249) (o := .cells #[.slice Ao44 t243.length co44, .slice Ao48 t246.length co48] 26 (0, 0)) (by (with_reducible repeat (first | apply blk_drewN | apply blk_drew | apply blk_alloc)); refine blk_far ?_ NB249_256.out _; (with_reducible repeat (first | apply blk_drewN | apply blk_drew | apply blk_alloc)); refine blk_far ?_ NB249_256.out _; (with_reducible repeat (first | apply blk_drewN | apply blk_drew | apply blk_alloc)); exact BK249.out) hb); have n15_ := Aside0.mk (blk_below (g := gb256) (o := .cells #[.slice Ao52 t250.length co52, .slice Ao57 t253.length co57] 26 (0, 0)) (by (with_reducible repeat (first | apply blk_drewN | apply blk_drew | apply blk_alloc)); refine blk_put (cs := #[.slice Ao52 t250.length co52, .slice none 0 0]) ?_ 1 _ rfl; (with_reducible repeat (first | apply blk_drewN | apply blk_drew | apply blk_alloc)); refine blk_put (cs := #[.slice none 0 0, .slice none 0 0]) ?_ 0 _ rfl; (with_reducible repeat (first | apply blk_drewN | apply blk_drew | apply blk_alloc)); exact BK256.out) hb); have n16_ := Aside0.mk (below_step (by repeat (first | (with_reducible first | exact HB.out | apply below_alloc | apply pw_below_drewN | apply below_drew1 | refine below_set ?_ GE221.out | refine below_set ?_ GE222.out | refine below_set ?_ GE249.out | refine below_set ?_ GE256.out) | exact HB.out)) hb); clear HO227; clear HO230; clear HO233; clear HO236; clear HO239; clear HO242; clear HO245; clear HO248; clear HO252; clear HO255; clear BK221; clear BK222; clear BK249; clear BK256; clear HB; have HO227 := n0_; have HO230 := n1_; have HO233 := n2_; have HO236 := n3_; have HO239 := n4_; have HO242 := n5_; have HO245 := n6_; have HO248 := n7_; have HO252 := n8_; have HO255 := n9_; have HO259 := n10_; have HO262 := n11_; have BK221 := n12_; have BK222 := n13_; have BK249 := n14_; have BK256 := n15_; have HB := n16_; clear n0_ n1_ n2_ n3_ n4_ n5_ n6_ n7_ n8_ n9_ n10_ n11_ n12_ n13_ n14_ n15_ n16_; (try clear hb); (try clear hb2); (try clear hk); (try clear hi); (try clear ho0); (try clear ho1)))
   (try simp only [Act.put, List.setIfInBounds_toArray, List.set_cons_zero, List.set_cons_succ])
   go_cut [54] (fun v54 wc => ∃ (kq : Nat) (x54_24 : Bool), v54 = .bool x54_24 ∧ Aside0 (laws_FnExactDiffReports.j0 kq t237 t240 t257 t260 x54_24 l0_0 l0_1 l1_0 l1_1 t243 t246 t250 t253 = some r) ∧ Aside0 (kq ≤ k) ∧ Aside0 (Kd.R Kd.string 9 wc w.heap.size (fun k_ => some k_ ≠ (v241 : Value).ownBlock ∧ some k_ ≠ (v258 : Value).ownBlock ∧ some k_ ≠ (v261 : Value).ownBlock ∧ some k_ ≠ ((.slice Ao48 t246.length co48) : Value).ownBlock ∧ some k_ ≠ ((.slice Ao57 t253.length co57) : Value).ownBlock) v238 t237) ∧ Aside0 (Kd.R Kd.string 9 wc w.heap.size (fun k_ => some k_ ≠ (v238 : Value).ownBlock ∧ some k_ ≠ (v258 : Value).ownBlock ∧ some k_ ≠ (v261 : Value).ownBlock ∧ some k_ ≠ ((.slice Ao48 t246.length co48) : Value).ownBlock ∧ some k_ ≠ ((.slice Ao57 t253.length co57) : Value).ownBlock) v241 t240) ∧ Aside0 (Kd.R Kd.string 9 wc w.heap.size (fun k_ => some k_ ≠ (v238 : Value).ownBlock ∧ some k_ ≠ (v241 : Value).ownBlock ∧ some k_ ≠ (v261 : Value).ownBlock ∧ some k_ ≠ ((.slice Ao48 t246.length co48) : Value).ownBlock ∧ some k_ ≠ ((.slice Ao57 t253.length co57) : Value).ownBlock) v258 t257) ∧ Aside0 (Kd.R Kd.string 9 wc w.heap.size (fun k_ => some k_ ≠ (v238 : Value).ownBlock ∧ some k_ ≠ (v241 : Value).ownBlock ∧ some k_ ≠ (v258 : Value).ownBlock ∧ some k_ ≠ ((.slice Ao48 t246.length co48) : Value).ownBlock ∧ some k_ ≠ ((.slice Ao57 t253.length co57) : Value).ownBlock) v261 t260) ∧ Aside0 (Kd.R k37 37 wc w.heap.size (fun k_ => some k_ ≠ ((.slice Ao52 t250.length co52) : Value).ownBlock) (.slice Ao44 t243.length co44) t243) ∧ Aside0 (Kd.R Kd.string 9 wc w.heap.size (fun k_ => some k_ ≠ (v238 : Value).ownBlock ∧ some k_ ≠ (v241 : Value).ownBlock ∧ some k_ ≠ (v258 : Value).ownBlock ∧ some k_ ≠ (v261 : Value).ownBlock ∧ some k_ ≠ ((.slice Ao57 t253.length co57) : Value).ownBlock) (.slice Ao48 t246.length co48) t246) ∧ Aside0 (Kd.R k37 37 wc w.heap.size (fun k_ => some k_ ≠ ((.slice Ao44 t243.length co44) : Value).ownBlock) (.slice Ao52 t250.length co52) t250) ∧ Aside0 (Kd.R Kd.string 9 wc w.heap.size (fun k_ => some k_ ≠ (v238 : Value).ownBlock ∧ some k_ ≠ (v241 : Value).ownBlock ∧ some k_ ≠ (v258 : Value).ownBlock ∧ some k_ ≠ (v261 : Value).ownBlock ∧ some k_ ≠ ((.slice Ao48 t246.length co48) : Value).ownBlock) (.slice Ao57 t253.length co57) t253) ∧ Aside0 (wc.heap[gb221]? = some (.cells #[(.slice A0_0 l0_0.length c0_0), (.slice A0_1 l0_1.length c0_1)] 41 (0, 0))) ∧ Aside0 (wc.heap[gb222]? = some (.cells #[(.slice A1_0 l1_0.length c1_0), (.slice A1_1 l1_1.length c1_1)] 41 (0, 0))) ∧ Aside0 (wc.heap[gb249]? = some (.cells #[(.slice Ao44 t243.length co44), (.slice Ao48 t246.length co48)] 26 (0, 0))) ∧ Aside0 (wc.heap[gb256]? = some (.cells #[(.slice Ao52 t250.length co52), (.slice Ao57 t253.length co57)] 26 (0, 0))) ∧ Aside0 (Below w.heap.size w wc))
   case first =>
    have H := HC25.out
    clear HC25
    replace H := Option.bind_eq_some_iff.mp H
    obtain ⟨t263, A600, H⟩ := H
    replace H : (if t263 = true then ((laws_eqStringS.f k t260 t240).bind fun t264 => (laws_FnExactDiffReports.j0 k t237 t240 t257 t260 (!t264) l0_0 l0_1 l1_0 l1_1 t243 t246 t250 t253)) else (laws_FnExactDiffReports.j0 k t237 t240 t257 t260 true l0_0 l0_1 l1_0 l1_1 t243 t246 t250 t253)) = some r := H
    have A60 := Aside0.mk A600
    clear A600
    by_cases c61 : t263 = true
    ·subst c61
     have H1 : ((laws_eqStringS.f k t260 t240).bind fun t264 => (laws_FnExactDiffReports.j0 k t237 t240 t257 t260 (!t264) l0_0 l0_1 l1_0 l1_1 t243 t246 t250 t253)) = some r := by rw [if_pos rfl] at H; exact H
     clear H
     have H := H1
     clear H1
     replace H := Option.bind_eq_some_iff.mp H
     obtain ⟨t264, A620, H⟩ := H
     replace H : (laws_FnExactDiffReports.j0 k t237 t240 t257 t260 (!t264) l0_0 l0_1 l1_0 l1_1 t243 t246 t250 t253) = some r := H
     have A62 := Aside0.mk A620
     clear A620
     have H' := Aside0.mk H
     clear H
     obtain ⟨Ao63, co63, eo63⟩ := Kd.R_slice HO259.out
     subst eo63
     obtain ⟨Ao64, co64, eo64⟩ := Kd.R_slice HO239.out
     subst eo64
     go_wp2_with (first | ((with_reducible refine gate_callee (f := 30) rfl ?_); refine goesL_ (some 47) rfl rfl Try.func30 (by kernel_rfl) rfl #[.slice Ao63 t257.length co63, .slice Ao64 t237.length co64] rfl (by (try simp only [List.map_toArray, List.map_cons, List.map_nil]); first | done | rfl | (simp only [List.length_drop, List.length_take]; rfl)) ?_; (with_reducible refine (laws_eqStringS.calls k _ _ t257 _ _ t237 true _ ?side1 ?side2 ?side3 ?side4 A60.out).mono ?_); (case side1 => repeat (first | exact (Kd.R_reads' HO259.out).2.2 | (with_reducible refine Kd.C_alloc ?_ _) | (with_reducible refine Kd.C_drewN ?_ _) | (with_reducible refine Kd.C_drew ?_))); (case side2 => exact (Kd.R_reads' HO259.out).2.1); (case side3 => repeat (first | exact (Kd.R_reads' HO239.out).2.2 | (with_reducible refine Kd.C_alloc ?_ _) | (with_reducible refine Kd.C_drewN ?_ _) | (with_reducible refine Kd.C_drew ?_))); (case side4 => exact (Kd.R_reads' HO239.out).2.1); rintro e w' ⟨rfl, ⟨nd, rfl⟩⟩; refine ⟨_, rfl, ?_⟩; obtain ⟨Ao65, co65, eo65⟩ := Kd.R_slice HO262.out; subst eo65; obtain ⟨Ao66, co66, eo66⟩ := Kd.R_slice HO242.out; subst eo66) | (go_at_call 30; (with_reducible refine (laws_eqStringS.calls k _ _ t260 _ _ t240 t264 _ ?side1 ?side2 ?side3 ?side4 A62.out).mono ?_); (case side1 => repeat (first | exact (Kd.R_reads' HO262.out).2.2 | (with_reducible refine Kd.C_alloc ?_ _) | (with_reducible refine Kd.C_drewN ?_ _) | (with_reducible refine Kd.C_drew ?_))); (case side2 => exact (Kd.R_reads' HO262.out).2.1); (case side3 => repeat (first | exact (Kd.R_reads' HO242.out).2.2 | (with_reducible refine Kd.C_alloc ?_ _) | (with_reducible refine Kd.C_drewN ?_ _) | (with_reducible refine Kd.C_drew ?_))); (case side4 => exact (Kd.R_reads' HO242.out).2.1); rintro e w' ⟨rfl, ⟨nd, rfl⟩⟩))
     go_meet
     case rel => exact ⟨_, (!t264), (by first | rfl | (simp; done) | (simp [*]; done)), H', ⟨by first | omega | exact Nat.le_refl _⟩, ⟨by (with_reducible repeat (first | apply Kd.R_alloc | apply Kd.R_drewN | apply Kd.R_drew)); exact Kd.R_mono HO239.out (fun _ hk => ⟨(gives hk), ⟨(gives hk), ⟨hk.2, ⟨(gives hk), (gives hk)⟩⟩⟩⟩)⟩, ⟨by (with_reducible repeat (first | apply Kd.R_alloc | apply Kd.R_drewN | apply Kd.R_drew)); exact Kd.R_mono HO242.out (fun _ hk => ⟨(gives hk), ⟨(gives hk), ⟨hk.2, ⟨(gives hk), (gives hk)⟩⟩⟩⟩)⟩, ⟨by (with_reducible repeat (first | apply Kd.R_alloc | apply Kd.R_drewN | apply Kd.R_drew)); exact Kd.R_mono HO259.out (fun _ hk => ⟨(gives hk), ⟨(gives hk), ⟨(gives hk), ⟨(gives hk), hk.2⟩⟩⟩⟩)⟩, ⟨by (with_reducible repeat (first | apply Kd.R_alloc | apply Kd.R_drewN | apply Kd.R_drew)); exact Kd.R_mono HO262.out (fun _ hk => ⟨(gives hk), ⟨(gives hk), ⟨(gives hk), ⟨(gives hk), hk.2⟩⟩⟩⟩)⟩, ⟨by (with_reducible repeat (first | apply Kd.R_alloc | apply Kd.R_drewN | apply Kd.R_drew)); exact Kd.R_mono HO245.out (fun _ hk => hk.2)⟩, ⟨by (with_reducible repeat (first | apply Kd.R_alloc | apply Kd.R_drewN | apply Kd.R_drew)); exact Kd.R_mono HO248.out (fun _ hk => ⟨(gives hk), ⟨(gives hk), ⟨(gives hk), ⟨hk.2, (gives hk)⟩⟩⟩⟩)⟩, ⟨by (with_reducible repeat (first | apply Kd.R_alloc | apply Kd.R_drewN | apply Kd.R_drew)); exact Kd.R_mono HO252.out (fun _ hk => hk.2)⟩, ⟨by (with_reducible repeat (first | apply Kd.R_alloc | apply Kd.R_drewN | apply Kd.R_drew)); exact Kd.R_mono HO255.out (fun _ hk => ⟨(gives hk), ⟨(gives hk), ⟨(gives hk), ⟨hk.2, (gives hk)⟩⟩⟩⟩)⟩, ⟨by (with_reducible repeat (first | apply blk_drewN | apply blk_drew | apply blk_alloc)); exact BK221.out⟩, ⟨by (with_reducible repeat (first | apply blk_drewN | apply blk_drew | apply blk_alloc)); exact BK222.out⟩, ⟨by (with_reducible repeat (first | apply blk_drewN | apply blk_drew | apply blk_alloc)); exact BK249.out⟩, ⟨by (with_reducible repeat (first | apply blk_drewN | apply blk_drew | apply blk_alloc)); exact BK256.out⟩, ⟨by repeat (first | (with_reducible first | exact HB.out | apply below_alloc | apply pw_below_drewN | apply below_drew1 | refine below_set ?_ GE221.out | refine below_set ?_ GE222.out | refine below_set ?_ GE249.out | refine below_set ?_ GE256.out) | exact HB.out)⟩⟩
    ·replace c61 := Bool.eq_false_iff.mpr c61
     subst c61
     have H1 : (laws_FnExactDiffReports.j0 k t237 t240 t257 t260 true l0_0 l0_1 l1_0 l1_1 t243 t246 t250 t253) = some r := by rw [if_neg (show ¬ (false = true) by decide)] at H; exact H
     clear H
     have H := H1
     clear H1
     have H' := Aside0.mk H
     clear H
     obtain ⟨Ao67, co67, eo67⟩ := Kd.R_slice HO259.out
     subst eo67
     obtain ⟨Ao68, co68, eo68⟩ := Kd.R_slice HO239.out
     subst eo68
     go_wp2_with (first | ((with_reducible refine gate_callee (f := 30) rfl ?_); refine goesL_ (some 47) rfl rfl Try.func30 (by kernel_rfl) rfl #[.slice Ao67 t257.length co67, .slice Ao68 t237.length co68] rfl (by (try simp only [List.map_toArray, List.map_cons, List.map_nil]); first | done | rfl | (simp only [List.length_drop, List.length_take]; rfl)) ?_; (with_reducible refine (laws_eqStringS.calls k _ _ t257 _ _ t237 false _ ?side1 ?side2 ?side3 ?side4 A60.out).mono ?_); (case side1 => repeat (first | exact (Kd.R_reads' HO259.out).2.2 | (with_reducible refine Kd.C_alloc ?_ _) | (with_reducible refine Kd.C_drewN ?_ _) | (with_reducible refine Kd.C_drew ?_))); (case side2 => exact (Kd.R_reads' HO259.out).2.1); (case side3 => repeat (first | exact (Kd.R_reads' HO239.out).2.2 | (with_reducible refine Kd.C_alloc ?_ _) | (with_reducible refine Kd.C_drewN ?_ _) | (with_reducible refine Kd.C_drew ?_))); (case side4 => exact (Kd.R_reads' HO239.out).2.1); rintro e w' ⟨rfl, ⟨nd, rfl⟩⟩; refine ⟨_, rfl, ?_⟩))
     go_meet
     case rel => exact ⟨_, (true), (by first | rfl | (simp; done) | (simp [*]; done)), H', ⟨by first | omega | exact Nat.le_refl _⟩, ⟨by (with_reducible repeat (first | apply Kd.R_alloc | apply Kd.R_drewN | apply Kd.R_drew)); exact Kd.R_mono HO239.out (fun _ hk => ⟨(gives hk), ⟨(gives hk), ⟨hk.2, ⟨(gives hk), (gives hk)⟩⟩⟩⟩)⟩, ⟨by (with_reducible repeat (first | apply Kd.R_alloc | apply Kd.R_drewN | apply Kd.R_drew)); exact Kd.R_mono HO242.out (fun _ hk => ⟨(gives hk), ⟨(gives hk), ⟨hk.2, ⟨(gives hk), (gives hk)⟩⟩⟩⟩)⟩, ⟨by (with_reducible repeat (first | apply Kd.R_alloc | apply Kd.R_drewN | apply Kd.R_drew)); exact Kd.R_mono HO259.out (fun _ hk => ⟨(gives hk), ⟨(gives hk), ⟨(gives hk), ⟨(gives hk), hk.2⟩⟩⟩⟩)⟩, ⟨by (with_reducible repeat (first | apply Kd.R_alloc | apply Kd.R_drewN | apply Kd.R_drew)); exact Kd.R_mono HO262.out (fun _ hk => ⟨(gives hk), ⟨(gives hk), ⟨(gives hk), ⟨(gives hk), hk.2⟩⟩⟩⟩)⟩, ⟨by (with_reducible repeat (first | apply Kd.R_alloc | apply Kd.R_drewN | apply Kd.R_drew)); exact Kd.R_mono HO245.out (fun _ hk => hk.2)⟩, ⟨by (with_reducible repeat (first | apply Kd.R_alloc | apply Kd.R_drewN | apply Kd.R_drew)); exact Kd.R_mono HO248.out (fun _ hk => ⟨(gives hk), ⟨(gives hk), ⟨(gives hk), ⟨hk.2, (gives hk)⟩⟩⟩⟩)⟩, ⟨by (with_reducible repeat (first | apply Kd.R_alloc | apply Kd.R_drewN | apply Kd.R_drew)); exact Kd.R_mono HO252.out (fun _ hk => hk.2)⟩, ⟨by (with_reducible repeat (first | apply Kd.R_alloc | apply Kd.R_drewN | apply Kd.R_drew)); exact Kd.R_mono HO255.out (fun _ hk => ⟨(gives hk), ⟨(gives hk), ⟨(gives hk), ⟨hk.2, (gives hk)⟩⟩⟩⟩)⟩, ⟨by (with_reducible repeat (first | apply blk_drewN | apply blk_drew | apply blk_alloc)); exact BK221.out⟩, ⟨by (with_reducible repeat (first | apply blk_drewN | apply blk_drew | apply blk_alloc)); exact BK222.out⟩, ⟨by (with_reducible repeat (first | apply blk_drewN | apply blk_drew | apply blk_alloc)); exact BK249.out⟩, ⟨by (with_reducible repeat (first | apply blk_drewN | apply blk_drew | apply blk_alloc)); exact BK256.out⟩, ⟨by repeat (first | (with_reducible first | exact HB.out | apply below_alloc | apply pw_below_drewN | apply below_drew1 | refine below_set ?_ GE221.out | refine below_set ?_ GE222.out | refine below_set ?_ GE249.out | refine below_set ?_ GE256.out) | exact HB.out)⟩⟩
   case rest =>
    clear HC25
    try clear c1
    try clear c2
    try clear p2
    try clear c3
    try clear c4
    try clear c4b0
    try clear c5
    try clear c6
    try clear c7
    try clear c11
    try clear c11b0
    try clear c14
    try clear c23
    try clear c25
    try clear c28
    try clear c30
    try clear c36
    try clear c37
    try clear c45
    try clear c46
    try clear c53
    try clear c54
    try clear c55
    try clear c61
    try clear hcz15_0
    try clear hcz15_1
    try clear hcz17_0
    try clear hcz17_1
    try clear hcz29_0
    try clear hcz29_1
    try clear hcz31_0
    try clear hcz31_1
    try clear hcz41_0
    try clear hcz41_1
    try clear hcz47_0
    try clear hcz47_1
    try clear hcz49_0
    try clear hcz49_1
    try clear hcz56_0
    try clear hcz56_1
    try clear hcz58_0
    try clear hcz58_1
    try clear hcz8_0
    try clear hcz8_1
    try clear hfz15_0
    try clear hfz15_1
    try clear hfz17_0
    try clear hfz17_1
    try clear hfz29_0
    try clear hfz29_1
    try clear hfz31_0
    try clear hfz31_1
    try clear hfz41_0
    try clear hfz41_1
    try clear hfz47_0
    try clear hfz47_1
    try clear hfz49_0
    try clear hfz49_1
    try clear hfz56_0
    try clear hfz56_1
    try clear hfz58_0
    try clear hfz58_1
    try clear hfz8_0
    try clear hfz8_1
    obtain ⟨kq, x54_24, rfl, HA, HJ24, HO_6, HO_7, HO_10, HO_11, HO_250000, HO_250001, HO_257000, HO_257001, BK221, BK222, BK249, BK256, HB⟩ := hcut
    cases kq with
    | zero => exact absurd HA.out (by simp [laws_FnExactDiffReports.j0])
    | succ kj24 =>
     have H := HA.out
     clear HA
     simp only [laws_FnExactDiffReports.j0] at H
     by_cases c69 : x54_24 = true
     ·subst c69
      have H1 : (none) = some r := by rw [if_pos rfl] at H; exact H
      clear H
      have H := H1
      clear H1
      exact absurd H (by simp)
     ·replace c69 := Bool.eq_false_iff.mpr c69
      subst c69
      have H1 : ((laws_toReport.f kj24 l0_0 l0_1).bind fun bt265 => ((laws_eqReport.f kj24 t243 t246 bt265.1 bt265.2).bind fun t271 => (if t271 = true then ((laws_toReport.f kj24 l1_0 l1_1).bind fun bt272 => ((laws_eqReport.f kj24 t250 t253 bt272.1 bt272.2).bind fun t278 => (if t278 = true then ((laws_markReport.f kj24 t243 t246 1).bind fun bt279 => ((laws_markReport.f kj24 t250 t253 bt279.1).bind fun bt282 => (if bt282.1 < 0 then (laws_FnExactDiffReports.j1 kj24 t237 t240 t257 t260 true l0_0 l0_1 l1_0 l1_1) else ((laws_eqStringS.f kj24 t257 t237).bind fun t285 => (if t285 = true then ((laws_eqStringS.f kj24 t260 t240).bind fun t286 => (laws_FnExactDiffReports.j1 kj24 t237 t240 t257 t260 (!t286) l0_0 l0_1 l1_0 l1_1)) else (laws_FnExactDiffReports.j1 kj24 t237 t240 t257 t260 true l0_0 l0_1 l1_0 l1_1)))))) else (none)))) else (none)))) = some r := by rw [if_neg (show ¬ (false = true) by decide)] at H; exact H
      clear H
      have H := H1
      clear H1
      replace H := Option.bind_eq_some_iff.mp H
      obtain ⟨⟨t265, t268⟩, A700, H⟩ := H
      replace H : ((laws_eqReport.f kj24 t243 t246 t265 t268).bind fun t271 => (if t271 = true then ((laws_toReport.f kj24 l1_0 l1_1).bind fun bt272 => ((laws_eqReport.f kj24 t250 t253 bt272.1 bt272.2).bind fun t278 => (if t278 = true then ((laws_markReport.f kj24 t243 t246 1).bind fun bt279 => ((laws_markReport.f kj24 t250 t253 bt279.1).bind fun bt282 => (if bt282.1 < 0 then (laws_FnExactDiffReports.j1 kj24 t237 t240 t257 t260 true l0_0 l0_1 l1_0 l1_1) else ((laws_eqStringS.f kj24 t257 t237).bind fun t285 => (if t285 = true then ((laws_eqStringS.f kj24 t260 t240).bind fun t286 => (laws_FnExactDiffReports.j1 kj24 t237 t240 t257 t260 (!t286) l0_0 l0_1 l1_0 l1_1)) else (laws_FnExactDiffReports.j1 kj24 t237 t240 t257 t260 true l0_0 l0_1 l1_0 l1_1)))))) else (none)))) else (none))) = some r := H
      have A70 := Aside0.mk A700
      clear A700
      replace H := Option.bind_eq_some_iff.mp H
      obtain ⟨t271, A710, H⟩ := H
      replace H : (if t271 = true then ((laws_toReport.f kj24 l1_0 l1_1).bind fun bt272 => ((laws_eqReport.f kj24 t250 t253 bt272.1 bt272.2).bind fun t278 => (if t278 = true then ((laws_markReport.f kj24 t243 t246 1).bind fun bt279 => ((laws_markReport.f kj24 t250 t253 bt279.1).bind fun bt282 => (if bt282.1 < 0 then (laws_FnExactDiffReports.j1 kj24 t237 t240 t257 t260 true l0_0 l0_1 l1_0 l1_1) else ((laws_eqStringS.f kj24 t257 t237).bind fun t285 => (if t285 = true then ((laws_eqStringS.f kj24 t260 t240).bind fun t286 => (laws_FnExactDiffReports.j1 kj24 t237 t240 t257 t260 (!t286) l0_0 l0_1 l1_0 l1_1)) else (laws_FnExactDiffReports.j1 kj24 t237 t240 t257 t260 true l0_0 l0_1 l1_0 l1_1)))))) else (none)))) else (none)) = some r := H
      have A71 := Aside0.mk A710
      clear A710
      by_cases c72 : t271 = true
      ·subst c72
       have H1 : ((laws_toReport.f kj24 l1_0 l1_1).bind fun bt272 => ((laws_eqReport.f kj24 t250 t253 bt272.1 bt272.2).bind fun t278 => (if t278 = true then ((laws_markReport.f kj24 t243 t246 1).bind fun bt279 => ((laws_markReport.f kj24 t250 t253 bt279.1).bind fun bt282 => (if bt282.1 < 0 then (laws_FnExactDiffReports.j1 kj24 t237 t240 t257 t260 true l0_0 l0_1 l1_0 l1_1) else ((laws_eqStringS.f kj24 t257 t237).bind fun t285 => (if t285 = true then ((laws_eqStringS.f kj24 t260 t240).bind fun t286 => (laws_FnExactDiffReports.j1 kj24 t237 t240 t257 t260 (!t286) l0_0 l0_1 l1_0 l1_1)) else (laws_FnExactDiffReports.j1 kj24 t237 t240 t257 t260 true l0_0 l0_1 l1_0 l1_1)))))) else (none)))) = some r := by rw [if_pos rfl] at H; exact H
       clear H
       have H := H1
       clear H1
       replace H := Option.bind_eq_some_iff.mp H
       obtain ⟨⟨t272, t275⟩, A730, H⟩ := H
       replace H : ((laws_eqReport.f kj24 t250 t253 t272 t275).bind fun t278 => (if t278 = true then ((laws_markReport.f kj24 t243 t246 1).bind fun bt279 => ((laws_markReport.f kj24 t250 t253 bt279.1).bind fun bt282 => (if bt282.1 < 0 then (laws_FnExactDiffReports.j1 kj24 t237 t240 t257 t260 true l0_0 l0_1 l1_0 l1_1) else ((laws_eqStringS.f kj24 t257 t237).bind fun t285 => (if t285 = true then ((laws_eqStringS.f kj24 t260 t240).bind fun t286 => (laws_FnExactDiffReports.j1 kj24 t237 t240 t257 t260 (!t286) l0_0 l0_1 l1_0 l1_1)) else (laws_FnExactDiffReports.j1 kj24 t237 t240 t257 t260 true l0_0 l0_1 l1_0 l1_1)))))) else (none))) = some r := H
       have A73 := Aside0.mk A730
       clear A730
       replace H := Option.bind_eq_some_iff.mp H
       obtain ⟨t278, A740, H⟩ := H
       replace H : (if t278 = true then ((laws_markReport.f kj24 t243 t246 1).bind fun bt279 => ((laws_markReport.f kj24 t250 t253 bt279.1).bind fun bt282 => (if bt282.1 < 0 then (laws_FnExactDiffReports.j1 kj24 t237 t240 t257 t260 true l0_0 l0_1 l1_0 l1_1) else ((laws_eqStringS.f kj24 t257 t237).bind fun t285 => (if t285 = true then ((laws_eqStringS.f kj24 t260 t240).bind fun t286 => (laws_FnExactDiffReports.j1 kj24 t237 t240 t257 t260 (!t286) l0_0 l0_1 l1_0 l1_1)) else (laws_FnExactDiffReports.j1 kj24 t237 t240 t257 t260 true l0_0 l0_1 l1_0 l1_1)))))) else (none)) = some r := H
       have A74 := Aside0.mk A740
       clear A740
       by_cases c75 : t278 = true
       ·subst c75
        have H1 : ((laws_markReport.f kj24 t243 t246 1).bind fun bt279 => ((laws_markReport.f kj24 t250 t253 bt279.1).bind fun bt282 => (if bt282.1 < 0 then (laws_FnExactDiffReports.j1 kj24 t237 t240 t257 t260 true l0_0 l0_1 l1_0 l1_1) else ((laws_eqStringS.f kj24 t257 t237).bind fun t285 => (if t285 = true then ((laws_eqStringS.f kj24 t260 t240).bind fun t286 => (laws_FnExactDiffReports.j1 kj24 t237 t240 t257 t260 (!t286) l0_0 l0_1 l1_0 l1_1)) else (laws_FnExactDiffReports.j1 kj24 t237 t240 t257 t260 true l0_0 l0_1 l1_0 l1_1)))))) = some r := by rw [if_pos rfl] at H; exact H
        clear H
        have H := H1
        clear H1
        replace H := Option.bind_eq_some_iff.mp H
        obtain ⟨⟨t279, t280, t281⟩, A760, H⟩ := H
        replace H : ((laws_markReport.f kj24 t250 t253 t279).bind fun bt282 => (if bt282.1 < 0 then (laws_FnExactDiffReports.j1 kj24 t237 t240 t257 t260 true l0_0 l0_1 l1_0 l1_1) else ((laws_eqStringS.f kj24 t257 t237).bind fun t285 => (if t285 = true then ((laws_eqStringS.f kj24 t260 t240).bind fun t286 => (laws_FnExactDiffReports.j1 kj24 t237 t240 t257 t260 (!t286) l0_0 l0_1 l1_0 l1_1)) else (laws_FnExactDiffReports.j1 kj24 t237 t240 t257 t260 true l0_0 l0_1 l1_0 l1_1))))) = some r := H
        have A76 := Aside0.mk A760
        clear A760
        replace H := Option.bind_eq_some_iff.mp H
        obtain ⟨⟨t282, t283, t284⟩, A770, H⟩ := H
        replace H : (if t282 < 0 then (laws_FnExactDiffReports.j1 kj24 t237 t240 t257 t260 true l0_0 l0_1 l1_0 l1_1) else ((laws_eqStringS.f kj24 t257 t237).bind fun t285 => (if t285 = true then ((laws_eqStringS.f kj24 t260 t240).bind fun t286 => (laws_FnExactDiffReports.j1 kj24 t237 t240 t257 t260 (!t286) l0_0 l0_1 l1_0 l1_1)) else (laws_FnExactDiffReports.j1 kj24 t237 t240 t257 t260 true l0_0 l0_1 l1_0 l1_1)))) = some r := H
        have A77 := Aside0.mk A770
        clear A770
        have HC78 := Aside0.mk H
        clear H
        try go_wp2
        have n0_ := Aside0.mk (Kd.R_drew HO_6.out)
        have n1_ := Aside0.mk (Kd.R_drew HO_7.out)
        have n2_ := Aside0.mk (Kd.R_drew HO_10.out)
        have n3_ := Aside0.mk (Kd.R_drew HO_11.out)
        have n4_ := Aside0.mk (Kd.R_drew HO_250000.out)
        have n5_ := Aside0.mk (Kd.R_drew HO_250001.out)
        have n6_ := Aside0.mk (Kd.R_drew HO_257000.out)
        have n7_ := Aside0.mk (Kd.R_drew HO_257001.out)
        have n8_ := Aside0.mk (blk_drew BK221.out)
        have n9_ := Aside0.mk (blk_drew BK222.out)
        have n10_ := Aside0.mk (blk_drew BK249.out)
        have n11_ := Aside0.mk (blk_drew BK256.out)
        have n12_ := Aside0.mk (below_drew1 HB.out)
        clear HO_6
        clear HO_7
        clear HO_10
        clear HO_11
        clear HO_250000
        clear HO_250001
        clear HO_257000
        clear HO_257001
        clear BK221
        clear BK222
        clear BK249
        clear BK256
        clear HB
        have HO_6 := n0_
        have HO_7 := n1_
        have HO_10 := n2_
        have HO_11 := n3_
        have HO_250000 := n4_
        have HO_250001 := n5_
        have HO_257000 := n6_
        have HO_257001 := n7_
        have BK221 := n8_
        have BK222 := n9_
        have BK249 := n10_
        have BK256 := n11_
        have HB := n12_
        clear n0_ n1_ n2_ n3_ n4_ n5_ n6_ n7_ n8_ n9_ n10_ n11_ n12_
        refine start_ (n := 5) (S := fun w' => w'.cell? ⟨gb249, 0, none⟩ = some (.slice Ao44 t243.length co44) ∧ w'.cell? ⟨gb249, 1, none⟩ = some (.slice Ao48 t246.length co48) ∧ w'.cell? ⟨gb221, 0, none⟩ = some (.slice A0_0 l0_0.length c0_0) ∧ w'.cell? ⟨gb221, 1, none⟩ = some (.slice A0_1 l0_1.length c0_1)) (ds := []) #[false, false, false, false, false] (by kernel_rfl) rfl rfl ⟨(blk_cell BK249.out 0).trans rfl, (blk_cell BK249.out 1).trans rfl, (blk_cell BK221.out 0).trans rfl, (blk_cell BK221.out 1).trans rfl⟩ (fun hHeld => ?_)
        generalize wc.drew = w79 at HO_6 HO_7 HO_10 HO_11 HO_250000 HO_250001 HO_257000 HO_257001 BK221 BK222 BK249 BK256 HB hHeld ⊢
        refine take_ (i := 0) (N := some 55) (v := ?_) (a' := ?_) #[true, false, false, false, false] rfl rfl (by kernel_rfl) (fun _ _ _ h => h) (Or.inl ⟨by rfl, ?_⟩) hHeld ?_ ?_
        rotate_left
        ·rintro w' ⟨s0, s1, s2, s3⟩
         go_simp
         with_reducible rfl
        rotate_left
        ·simp only [Act.put, List.setIfInBounds_toArray, List.set_cons_zero, List.set_cons_succ, i64_w, i32_w]
         rfl
        refine take_ (i := 1) (N := some 56) (v := ?_) (a' := ?_) #[true, true, false, false, false] rfl rfl (by kernel_rfl) (fun _ _ _ h => h) (Or.inl ⟨by rfl, ?_⟩) hHeld ?_ ?_
        rotate_left
        ·rintro w' ⟨s0, s1, s2, s3⟩
         go_simp
         with_reducible rfl
        rotate_left
        ·simp only [Act.put, List.setIfInBounds_toArray, List.set_cons_zero, List.set_cons_succ, i64_w, i32_w]
         rfl
        refine one_ (i := 2) (N := some 57) #[true, true, true, false, false] rfl rfl (by kernel_rfl) (by decide) (fun K hK => ?_)
        refine goes_ Try.func25 (by kernel_rfl) rfl #[.agg #[.slice A0_0 l0_0.length c0_0, .slice A0_1 l0_1.length c0_1]] (by rfl) rfl rfl (by (try simp only [List.map_toArray, List.map_cons, List.map_nil]); first | done | rfl | (simp only [List.length_drop, List.length_take]; rfl)) ?_
        with_reducible refine (laws_toReport.calls kj24 _ _ l0_0 _ _ l0_1 t265 t268 _ ?side1 ?side2 ?side3 ?side4 A70.out).mono ?_
        (case side1 => repeat (first | exact (Kd.C_below HR0_0.out HB.out) | (with_reducible refine Kd.C_alloc ?_ _) | (with_reducible refine Kd.C_drewN ?_ _) | (with_reducible refine Kd.C_drew ?_)))
        (case side2 => exact HC0_0.out)
        (case side3 => repeat (first | exact (Kd.C_below HR0_1.out HB.out) | (with_reducible refine Kd.C_alloc ?_ _) | (with_reducible refine Kd.C_drewN ?_ _) | (with_reducible refine Kd.C_drew ?_)))
        (case side4 => exact HC0_1.out)
        rintro e w80 ⟨v266, v269, rfl, ho0, ho1, hb⟩
        refine ⟨_, rfl, ?_⟩
        have n0_ := Aside0.mk (Kd.R_elder' (by (with_reducible repeat (first | apply Kd.R_alloc | apply Kd.R_drewN | apply Kd.R_drew)); exact HO_6.out) (Kd.R_base ho1) hb)
        have n1_ := Aside0.mk (Kd.R_elder' (by (with_reducible repeat (first | apply Kd.R_alloc | apply Kd.R_drewN | apply Kd.R_drew)); exact HO_7.out) (Kd.R_base ho1) hb)
        have n2_ := Aside0.mk (Kd.R_elder' (by (with_reducible repeat (first | apply Kd.R_alloc | apply Kd.R_drewN | apply Kd.R_drew)); exact HO_10.out) (Kd.R_base ho1) hb)
        have n3_ := Aside0.mk (Kd.R_elder' (by (with_reducible repeat (first | apply Kd.R_alloc | apply Kd.R_drewN | apply Kd.R_drew)); exact HO_11.out) (Kd.R_base ho1) hb)
        have n4_ := Aside0.mk (Kd.R_elder' (by (with_reducible repeat (first | apply Kd.R_alloc | apply Kd.R_drewN | apply Kd.R_drew)); exact HO_250000.out) (Kd.R_base ho0) hb)
        have n5_ := Aside0.mk (Kd.R_elder' (by (with_reducible repeat (first | apply Kd.R_alloc | apply Kd.R_drewN | apply Kd.R_drew)); exact HO_250001.out) (Kd.R_base ho1) hb)
        have n6_ := Aside0.mk (Kd.R_elder' (by (with_reducible repeat (first | apply Kd.R_alloc | apply Kd.R_drewN | apply Kd.R_drew)); exact HO_257000.out) (Kd.R_base ho0) hb)
        have n7_ := Aside0.mk (Kd.R_elder' (by (with_reducible repeat (first | apply Kd.R_alloc | apply Kd.R_drewN | apply Kd.R_drew)); exact HO_257001.out) (Kd.R_base ho1) hb)
        have n8_ := Aside0.mk (Kd.R_lower (Kd.R_new' (Kd.R_new' ho0 (Kd.R_lt (by (with_reducible repeat (first | apply Kd.R_alloc | apply Kd.R_drewN | apply Kd.R_drew)); exact HO_250000.out))) (Kd.R_lt (by (with_reducible repeat (first | apply Kd.R_alloc | apply Kd.R_drewN | apply Kd.R_drew)); exact HO_257000.out))) (below_size (by repeat (first | (with_reducible first | exact HB.out | apply below_alloc | apply pw_below_drewN | apply below_drew1 | refine below_set ?_ GE221.out | refine below_set ?_ GE222.out | refine below_set ?_ GE249.out | refine below_set ?_ GE256.out) | exact HB.out))))
        have n9_ := Aside0.mk (Kd.R_lower (Kd.R_new' (Kd.R_new' (Kd.R_new' (Kd.R_new' (Kd.R_new' (Kd.R_new' ho1 (Kd.R_lt (by (with_reducible repeat (first | apply Kd.R_alloc | apply Kd.R_drewN | apply Kd.R_drew)); exact HO_6.out))) (Kd.R_lt (by (with_reducible repeat (first | apply Kd.R_alloc | apply Kd.R_drewN | apply Kd.R_drew)); exact HO_7.out))) (Kd.R_lt (by (with_reducible repeat (first | apply Kd.R_alloc | apply Kd.R_drewN | apply Kd.R_drew)); exact HO_10.out))) (Kd.R_lt (by (with_reducible repeat (first | apply Kd.R_alloc | apply Kd.R_drewN | apply Kd.R_drew)); exact HO_11.out))) (Kd.R_lt (by (with_reducible repeat (first | apply Kd.R_alloc | apply Kd.R_drewN | apply Kd.R_drew)); exact HO_250001.out))) (Kd.R_lt (by (with_reducible repeat (first | apply Kd.R_alloc | apply Kd.R_drewN | apply Kd.R_drew)); exact HO_257001.out))) (below_size (by repeat (first | (with_reducible first | exact HB.out | apply below_alloc | apply pw_below_drewN | apply below_drew1 | refine below_set ?_ GE221.out | refine below_set ?_ GE222.out | refine below_set ?_ GE249.out | refine below_set ?_ GE256.out) | exact HB.out))))
        have n10_ := Aside0.mk (blk_below (g := gb221) (o := .cells #[.slice A0_0 l0_0.length c0_0, .slice A0_1 l0_1.length c0_1] 41 (0, 0)) (by (with_reducible repeat (first | apply blk_drewN | apply blk_drew | apply blk_alloc)); exact BK221.out) hb)
        have n11_ := Aside0.mk (blk_below (g := gb222) (o := .cells #[.slice A1_0 l1_0.length c1_0, .slice A1_1 l1_1.length c1_1] 41 (0, 0)) (by (with_reducible repeat (first | apply blk_drewN | apply blk_drew | apply blk_alloc)); exact BK222.out) hb)
        have n12_ := Aside0.mk (blk_below (g := gb249) (o := .cells #[.slice Ao44 t243.length co44, .slice Ao48 t246.length co48] 26 (0, 0)) (by (with_reducible repeat (first | apply blk_drewN | apply blk_drew | apply blk_alloc)); exact BK249.out) hb)
        have n13_ := Aside0.mk (blk_below (g := gb256) (o := .cells #[.slice Ao52 t250.length co52, .slice Ao57 t253.length co57] 26 (0, 0)) (by (with_reducible repeat (first | apply blk_drewN | apply blk_drew | apply blk_alloc)); exact BK256.out) hb)
        have n14_ := Aside0.mk (below_step (by repeat (first | (with_reducible first | exact HB.out | apply below_alloc | apply pw_below_drewN | apply below_drew1 | refine below_set ?_ GE221.out | refine below_set ?_ GE222.out | refine below_set ?_ GE249.out | refine below_set ?_ GE256.out) | exact HB.out)) hb)
        clear HO_6
        clear HO_7
        clear HO_10
        clear HO_11
        clear HO_250000
        clear HO_250001
        clear HO_257000
        clear HO_257001
        clear BK221
        clear BK222
        clear BK249
        clear BK256
        clear HB
        have HO_6 := n0_
        have HO_7 := n1_
        have HO_10 := n2_
        have HO_11 := n3_
        have HO_250000 := n4_
        have HO_250001 := n5_
        have HO_257000 := n6_
        have HO_257001 := n7_
        have HO267 := n8_
        have HO270 := n9_
        have BK221 := n10_
        have BK222 := n11_
        have BK249 := n12_
        have BK256 := n13_
        have HB := n14_
        clear n0_ n1_ n2_ n3_ n4_ n5_ n6_ n7_ n8_ n9_ n10_ n11_ n12_ n13_ n14_
        (try clear hb)
        (try clear hb2)
        (try clear hk)
        (try clear hi)
        (try clear ho0)
        (try clear ho1)
        obtain ⟨Ao81, co81, eo81⟩ := Kd.R_slice HO267.out
        (first | subst eo81 | (injection eo81 with f1_ f2_ f3_; have f4_ := f1_.symm; have f5_ := f3_.symm; clear f1_ f2_ f3_; subst f4_; subst f5_))
        obtain ⟨Ao82, co82, eo82⟩ := Kd.R_slice HO270.out
        (first | subst eo82 | (injection eo82 with f1_ f2_ f3_; have f4_ := f1_.symm; have f5_ := f3_.symm; clear f1_ f2_ f3_; subst f4_; subst f5_))
        refine hK.out _ _ ⟨(blk_cell BK249.out 0).trans rfl, (blk_cell BK249.out 1).trans rfl, (blk_cell BK221.out 0).trans rfl, (blk_cell BK221.out 1).trans rfl⟩ (fun hHeld => ?_)
        clear hK K
        refine norm_ (a' := ?_) ?_ ?_
        rotate_left
        ·show Act.put _ (some 57) _ = _
         simp only [Act.put, List.setIfInBounds_toArray, List.set_cons_zero, List.set_cons_succ, i64_w, i32_w]
         rfl
        refine one_ (i := 3) (N := some 58) #[true, true, true, true, false] rfl rfl (by kernel_rfl) (by decide) (fun K hK => ?_)
        refine goes_ Try.func26 (by kernel_rfl) rfl #[.agg #[.slice Ao44 t243.length co44, .slice Ao48 t246.length co48], .agg #[.slice Ao81 t265.length co81, .slice Ao82 t268.length co82]] (by rfl) rfl rfl (by (try simp only [List.map_toArray, List.map_cons, List.map_nil]); first | done | rfl | (simp only [List.length_drop, List.length_take]; rfl)) ?_
        with_reducible refine (laws_eqReport.calls kj24 _ _ t243 _ _ t246 _ _ t265 _ _ t268 true _ ?side1 ?side2 ?side3 ?side4 ?side5 ?side6 ?side7 ?side8 A71.out).mono ?_
        (case side1 => repeat (first | exact (Kd.R_reads' HO_250000.out).2.2 | (with_reducible refine Kd.C_alloc ?_ _) | (with_reducible refine Kd.C_drewN ?_ _) | (with_reducible refine Kd.C_drew ?_)))
        (case side2 => exact (Kd.R_reads' HO_250000.out).2.1)
        (case side3 => repeat (first | exact (Kd.R_reads' HO_250001.out).2.2 | (with_reducible refine Kd.C_alloc ?_ _) | (with_reducible refine Kd.C_drewN ?_ _) | (with_reducible refine Kd.C_drew ?_)))
        (case side4 => exact (Kd.R_reads' HO_250001.out).2.1)
        (case side5 => repeat (first | exact (Kd.R_reads' HO267.out).2.2 | (with_reducible refine Kd.C_alloc ?_ _) | (with_reducible refine Kd.C_drewN ?_ _) | (with_reducible refine Kd.C_drew ?_)))
        (case side6 => exact (Kd.R_reads' HO267.out).2.1)
        (case side7 => repeat (first | exact (Kd.R_reads' HO270.out).2.2 | (with_reducible refine Kd.C_alloc ?_ _) | (with_reducible refine Kd.C_drewN ?_ _) | (with_reducible refine Kd.C_drew ?_)))
        (case side8 => exact (Kd.R_reads' HO270.out).2.1)
        rintro e w83 ⟨rfl, hb⟩
        refine ⟨_, rfl, ?_⟩
        have n0_ := Aside0.mk (Kd.R_below (by (with_reducible repeat (first | apply Kd.R_alloc | apply Kd.R_drewN | apply Kd.R_drew)); exact HO_6.out) hb)
        have n1_ := Aside0.mk (Kd.R_below (by (with_reducible repeat (first | apply Kd.R_alloc | apply Kd.R_drewN | apply Kd.R_drew)); exact HO_7.out) hb)
        have n2_ := Aside0.mk (Kd.R_below (by (with_reducible repeat (first | apply Kd.R_alloc | apply Kd.R_drewN | apply Kd.R_drew)); exact HO_10.out) hb)
        have n3_ := Aside0.mk (Kd.R_below (by (with_reducible repeat (first | apply Kd.R_alloc | apply Kd.R_drewN | apply Kd.R_drew)); exact HO_11.out) hb)
        have n4_ := Aside0.mk (Kd.R_below (by (with_reducible repeat (first | apply Kd.R_alloc | apply Kd.R_drewN | apply Kd.R_drew)); exact HO_250000.out) hb)
        have n5_ := Aside0.mk (Kd.R_below (by (with_reducible repeat (first | apply Kd.R_alloc | apply Kd.R_drewN | apply Kd.R_drew)); exact HO_250001.out) hb)
        have n6_ := Aside0.mk (Kd.R_below (by (with_reducible repeat (first | apply Kd.R_alloc | apply Kd.R_drewN | apply Kd.R_drew)); exact HO_257000.out) hb)
        have n7_ := Aside0.mk (Kd.R_below (by (with_reducible repeat (first | apply Kd.R_alloc | apply Kd.R_drewN | apply Kd.R_drew)); exact HO_257001.out) hb)
        have n8_ := Aside0.mk (Kd.R_below (by (with_reducible repeat (first | apply Kd.R_alloc | apply Kd.R_drewN | apply Kd.R_drew)); exact HO267.out) hb)
        have n9_ := Aside0.mk (Kd.R_below (by (with_reducible repeat (first | apply Kd.R_alloc | apply Kd.R_drewN | apply Kd.R_drew)); exact HO270.out) hb)
        have n10_ := Aside0.mk (blk_below (g := gb221) (o := .cells #[.slice A0_0 l0_0.length c0_0, .slice A0_1 l0_1.length c0_1] 41 (0, 0)) (by (with_reducible repeat (first | apply blk_drewN | apply blk_drew | apply blk_alloc)); exact BK221.out) hb)
        have n11_ := Aside0.mk (blk_below (g := gb222) (o := .cells #[.slice A1_0 l1_0.length c1_0, .slice A1_1 l1_1.length c1_1] 41 (0, 0)) (by (with_reducible repeat (first | apply blk_drewN | apply blk_drew | apply blk_alloc)); exact BK222.out) hb)
        have n12_ := Aside0.mk (blk_below (g := gb249) (o := .cells #[.slice Ao44 t243.length co44, .slice Ao48 t246.length co48] 26 (0, 0)) (by (with_reducible repeat (first | apply blk_drewN | apply blk_drew | apply blk_alloc)); exact BK249.out) hb)
        have n13_ := Aside0.mk (blk_below (g := gb256) (o := .cells #[.slice Ao52 t250.length co52, .slice Ao57 t253.length co57] 26 (0, 0)) (by (with_reducible repeat (first | apply blk_drewN | apply blk_drew | apply blk_alloc)); exact BK256.out) hb)
        have n14_ := Aside0.mk (below_step (by repeat (first | (with_reducible first | exact HB.out | apply below_alloc | apply pw_below_drewN | apply below_drew1 | refine below_set ?_ GE221.out | refine below_set ?_ GE222.out | refine below_set ?_ GE249.out | refine below_set ?_ GE256.out) | exact HB.out)) hb)
        clear HO_6
        clear HO_7
        clear HO_10
        clear HO_11
        clear HO_250000
        clear HO_250001
        clear HO_257000
        clear HO_257001
        clear HO267
        clear HO270
        clear BK221
        clear BK222
        clear BK249
        clear BK256
        clear HB
        have HO_6 := n0_
        have HO_7 := n1_
        have HO_10 := n2_
        have HO_11 := n3_
        have HO_250000 := n4_
        have HO_250001 := n5_
        have HO_257000 := n6_
        have HO_257001 := n7_
        have HO267 := n8_
        have HO270 := n9_
        have BK221 := n10_
        have BK222 := n11_
        have BK249 := n12_
        have BK256 := n13_
        have HB := n14_
        clear n0_ n1_ n2_ n3_ n4_ n5_ n6_ n7_ n8_ n9_ n10_ n11_ n12_ n13_ n14_
        (try clear hb)
        (try clear hb2)
        (try clear hk)
        (try clear hi)
        refine hK.out _ _ ⟨(blk_cell BK249.out 0).trans rfl, (blk_cell BK249.out 1).trans rfl, (blk_cell BK221.out 0).trans rfl, (blk_cell BK221.out 1).trans rfl⟩ (fun hHeld => ?_)
        clear hK K
        refine norm_ (a' := ?_) ?_ ?_
        rotate_left
        ·show Act.put _ (some 58) _ = _
         simp only [Act.put, List.setIfInBounds_toArray, List.set_cons_zero, List.set_cons_succ, i64_w, i32_w]
         rfl
        refine pure_ (i := 4) (N := some 59) (v := ?_) (a' := ?_) #[true, true, true, true, true] rfl rfl (by kernel_rfl) (fun _ _ _ h => h) (Or.inl ⟨by rfl, ?_⟩) ?_ ?_
        rotate_left
        ·intro w'
         go_simp
         with_reducible rfl
        rotate_left
        ·simp only [Act.put, List.setIfInBounds_toArray, List.set_cons_zero, List.set_cons_succ, i64_w, i32_w]
         rfl
        refine done_ (by kernel_rfl) ?_
        try go_wp2
        have n0_ := Aside0.mk (Kd.R_drew HO_6.out)
        have n1_ := Aside0.mk (Kd.R_drew HO_7.out)
        have n2_ := Aside0.mk (Kd.R_drew HO_10.out)
        have n3_ := Aside0.mk (Kd.R_drew HO_11.out)
        have n4_ := Aside0.mk (Kd.R_drew HO_250000.out)
        have n5_ := Aside0.mk (Kd.R_drew HO_250001.out)
        have n6_ := Aside0.mk (Kd.R_drew HO_257000.out)
        have n7_ := Aside0.mk (Kd.R_drew HO_257001.out)
        have n8_ := Aside0.mk (Kd.R_drew HO267.out)
        have n9_ := Aside0.mk (Kd.R_drew HO270.out)
        have n10_ := Aside0.mk (blk_drew BK221.out)
        have n11_ := Aside0.mk (blk_drew BK222.out)
        have n12_ := Aside0.mk (blk_drew BK249.out)
        have n13_ := Aside0.mk (blk_drew BK256.out)
        have n14_ := Aside0.mk (below_drew1 HB.out)
        clear HO_6
        clear HO_7
        clear HO_10
        clear HO_11
        clear HO_250000
        clear HO_250001
        clear HO_257000
        clear HO_257001
        clear HO267
        clear HO270
        clear BK221
        clear BK222
        clear BK249
        clear BK256
        clear HB
        have HO_6 := n0_
        have HO_7 := n1_
        have HO_10 := n2_
        have HO_11 := n3_
        have HO_250000 := n4_
        have HO_250001 := n5_
        have HO_257000 := n6_
        have HO_257001 := n7_
        have HO267 := n8_
        have HO270 := n9_
        have BK221 := n10_
        have BK222 := n11_
        have BK249 := n12_
        have BK256 := n13_
        have HB := n14_
        clear n0_ n1_ n2_ n3_ n4_ n5_ n6_ n7_ n8_ n9_ n10_ n11_ n12_ n13_ n14_
        refine start_ (n := 5) (S := fun w' => w'.cell? ⟨gb256, 0, none⟩ = some (.slice Ao52 t250.length co52) ∧ w'.cell? ⟨gb256, 1, none⟩ = some (.slice Ao57 t253.length co57) ∧ w'.cell? ⟨gb222, 0, none⟩ = some (.slice A1_0 l1_0.length c1_0) ∧ w'.cell? ⟨gb222, 1, none⟩ = some (.slice A1_1 l1_1.length c1_1)) (ds := []) #[false, false, false, false, false] (by kernel_rfl) rfl rfl ⟨(blk_cell BK256.out 0).trans rfl, (blk_cell BK256.out 1).trans rfl, (blk_cell BK222.out 0).trans rfl, (blk_cell BK222.out 1).trans rfl⟩ (fun hHeld => ?_)
        generalize w83.drew = w84 at HO_6 HO_7 HO_10 HO_11 HO_250000 HO_250001 HO_257000 HO_257001 HO267 HO270 BK221 BK222 BK249 BK256 HB hHeld ⊢
        refine take_ (i := 0) (N := some 60) (v := ?_) (a' := ?_) #[true, false, false, false, false] rfl rfl (by kernel_rfl) (fun _ _ _ h => h) (Or.inl ⟨by rfl, ?_⟩) hHeld ?_ ?_
        rotate_left
        ·rintro w' ⟨s0, s1, s2, s3⟩
         go_simp
         with_reducible rfl
        rotate_left
        ·simp only [Act.put, List.setIfInBounds_toArray, List.set_cons_zero, List.set_cons_succ, i64_w, i32_w]
         rfl
        refine take_ (i := 1) (N := some 61) (v := ?_) (a' := ?_) #[true, true, false, false, false] rfl rfl (by kernel_rfl) (fun _ _ _ h => h) (Or.inl ⟨by rfl, ?_⟩) hHeld ?_ ?_
        rotate_left
        ·rintro w' ⟨s0, s1, s2, s3⟩
         go_simp
         with_reducible rfl
        rotate_left
        ·simp only [Act.put, List.setIfInBounds_toArray, List.set_cons_zero, List.set_cons_succ, i64_w, i32_w]
         rfl
        refine one_ (i := 2) (N := some 62) #[true, true, true, false, false] rfl rfl (by kernel_rfl) (by decide) (fun K hK => ?_)
        refine goes_ Try.func25 (by kernel_rfl) rfl #[.agg #[.slice A1_0 l1_0.length c1_0, .slice A1_1 l1_1.length c1_1]] (by rfl) rfl rfl (by (try simp only [List.map_toArray, List.map_cons, List.map_nil]); first | done | rfl | (simp only [List.length_drop, List.length_take]; rfl)) ?_
        with_reducible refine (laws_toReport.calls kj24 _ _ l1_0 _ _ l1_1 t272 t275 _ ?side1 ?side2 ?side3 ?side4 A73.out).mono ?_
        (case side1 => repeat (first | exact (Kd.C_below HR1_0.out HB.out) | (with_reducible refine Kd.C_alloc ?_ _) | (with_reducible refine Kd.C_drewN ?_ _) | (with_reducible refine Kd.C_drew ?_)))
        (case side2 => exact HC1_0.out)
        (case side3 => repeat (first | exact (Kd.C_below HR1_1.out HB.out) | (with_reducible refine Kd.C_alloc ?_ _) | (with_reducible refine Kd.C_drewN ?_ _) | (with_reducible refine Kd.C_drew ?_)))
        (case side4 => exact HC1_1.out)
        rintro e w85 ⟨v273, v276, rfl, ho0, ho1, hb⟩
        refine ⟨_, rfl, ?_⟩
        have n0_ := Aside0.mk (Kd.R_elder' (by (with_reducible repeat (first | apply Kd.R_alloc | apply Kd.R_drewN | apply Kd.R_drew)); exact HO_6.out) (Kd.R_base ho1) hb)
        have n1_ := Aside0.mk (Kd.R_elder' (by (with_reducible repeat (first | apply Kd.R_alloc | apply Kd.R_drewN | apply Kd.R_drew)); exact HO_7.out) (Kd.R_base ho1) hb)
        have n2_ := Aside0.mk (Kd.R_elder' (by (with_reducible repeat (first | apply Kd.R_alloc | apply Kd.R_drewN | apply Kd.R_drew)); exact HO_10.out) (Kd.R_base ho1) hb)
        have n3_ := Aside0.mk (Kd.R_elder' (by (with_reducible repeat (first | apply Kd.R_alloc | apply Kd.R_drewN | apply Kd.R_drew)); exact HO_11.out) (Kd.R_base ho1) hb)
        have n4_ := Aside0.mk (Kd.R_elder' (by (with_reducible repeat (first | apply Kd.R_alloc | apply Kd.R_drewN | apply Kd.R_drew)); exact HO_250000.out) (Kd.R_base ho0) hb)
        have n5_ := Aside0.mk (Kd.R_elder' (by (with_reducible repeat (first | apply Kd.R_alloc | apply Kd.R_drewN | apply Kd.R_drew)); exact HO_250001.out) (Kd.R_base ho1) hb)
        have n6_ := Aside0.mk (Kd.R_elder' (by (with_reducible repeat (first | apply Kd.R_alloc | apply Kd.R_drewN | apply Kd.R_drew)); exact HO_257000.out) (Kd.R_base ho0) hb)
        have n7_ := Aside0.mk (Kd.R_elder' (by (with_reducible repeat (first | apply Kd.R_alloc | apply Kd.R_drewN | apply Kd.R_drew)); exact HO_257001.out) (Kd.R_base ho1) hb)
        have n8_ := Aside0.mk (Kd.R_elder' (by (with_reducible repeat (first | apply Kd.R_alloc | apply Kd.R_drewN | apply Kd.R_drew)); exact HO267.out) (Kd.R_base ho0) hb)
        have n9_ := Aside0.mk (Kd.R_elder' (by (with_reducible repeat (first | apply Kd.R_alloc | apply Kd.R_drewN | apply Kd.R_drew)); exact HO270.out) (Kd.R_base ho1) hb)
        have n10_ := Aside0.mk (Kd.R_lower (Kd.R_new' (Kd.R_new' (Kd.R_new' ho0 (Kd.R_lt (by (with_reducible repeat (first | apply Kd.R_alloc | apply Kd.R_drewN | apply Kd.R_drew)); exact HO_250000.out))) (Kd.R_lt (by (with_reducible repeat (first | apply Kd.R_alloc | apply Kd.R_drewN | apply Kd.R_drew)); exact HO_257000.out))) (Kd.R_lt (by (with_reducible repeat (first | apply Kd.R_alloc | apply Kd.R_drewN | apply Kd.R_drew)); exact HO267.out))) (below_size (by repeat (first | (with_reducible first | exact HB.out | apply below_alloc | apply pw_below_drewN | apply below_drew1 | refine below_set ?_ GE221.out | refine below_set ?_ GE222.out | refine below_set ?_ GE249.out | refine below_set ?_ GE256.out) | exact HB.out))))
        have n11_ := Aside0.mk (Kd.R_lower (Kd.R_new' (Kd.R_new' (Kd.R_new' (Kd.R_new' (Kd.R_new' (Kd.R_new' (Kd.R_new' ho1 (Kd.R_lt (by (with_reducible repeat (first | apply Kd.R_alloc | apply Kd.R_drewN | apply Kd.R_drew)); exact HO_6.out))) (Kd.R_lt (by (with_reducible repeat (first | apply Kd.R_alloc | apply Kd.R_drewN | apply Kd.R_drew)); exact HO_7.out))) (Kd.R_lt (by (with_reducible repeat (first | apply Kd.R_alloc | apply Kd.R_drewN | apply Kd.R_drew)); exact HO_10.out))) (Kd.R_lt (by (with_reducible repeat (first | apply Kd.R_alloc | apply Kd.R_drewN | apply Kd.R_drew)); exact HO_11.out))) (Kd.R_lt (by (with_reducible repeat (first | apply Kd.R_alloc | apply Kd.R_drewN | apply Kd.R_drew)); exact HO_250001.out))) (Kd.R_lt (by (with_reducible repeat (first | apply Kd.R_alloc | apply Kd.R_drewN | apply Kd.R_drew)); exact HO_257001.out))) (Kd.R_lt (by (with_reducible repeat (first | apply Kd.R_alloc | apply Kd.R_drewN | apply Kd.R_drew)); exact HO270.out))) (below_size (by repeat (first | (with_reducible first | exact HB.out | apply below_alloc | apply pw_below_drewN | apply below_drew1 | refine below_set ?_ GE221.out | refine below_set ?_ GE222.out | refine below_set ?_ GE249.out | refine below_set ?_ GE256.out) | exact HB.out))))
        have n12_ := Aside0.mk (blk_below (g := gb221) (o := .cells #[.slice A0_0 l0_0.length c0_0, .slice A0_1 l0_1.length c0_1] 41 (0, 0)) (by (with_reducible repeat (first | apply blk_drewN | apply blk_drew | apply blk_alloc)); exact BK221.out) hb)
        have n13_ := Aside0.mk (blk_below (g := gb222) (o := .cells #[.slice A1_0 l1_0.length c1_0, .slice A1_1 l1_1.length c1_1] 41 (0, 0)) (by (with_reducible repeat (first | apply blk_drewN | apply blk_drew | apply blk_alloc)); exact BK222.out) hb)
        have n14_ := Aside0.mk (blk_below (g := gb249) (o := .cells #[.slice Ao44 t243.length co44, .slice Ao48 t246.length co48] 26 (0, 0)) (by (with_reducible repeat (first | apply blk_drewN | apply blk_drew | apply blk_alloc)); exact BK249.out) hb)
        have n15_ := Aside0.mk (blk_below (g := gb256) (o := .cells #[.slice Ao52 t250.length co52, .slice Ao57 t253.length co57] 26 (0, 0)) (by (with_reducible repeat (first | apply blk_drewN | apply blk_drew | apply blk_alloc)); exact BK256.out) hb)
        have n16_ := Aside0.mk (below_step (by repeat (first | (with_reducible first | exact HB.out | apply below_alloc | apply pw_below_drewN | apply below_drew1 | refine below_set ?_ GE221.out | refine below_set ?_ GE222.out | refine below_set ?_ GE249.out | refine below_set ?_ GE256.out) | exact HB.out)) hb)
        clear HO_6
        clear HO_7
        clear HO_10
        clear HO_11
        clear HO_250000
        clear HO_250001
        clear HO_257000
        clear HO_257001
        clear HO267
        clear HO270
        clear BK221
        clear BK222
        clear BK249
        clear BK256
        clear HB
        have HO_6 := n0_
        have HO_7 := n1_
        have HO_10 := n2_
        have HO_11 := n3_
        have HO_250000 := n4_
        have HO_250001 := n5_
        have HO_257000 := n6_
        have HO_257001 := n7_
        have HO267 := n8_
        have HO270 := n9_
        have HO274 := n10_
        have HO277 := n11_
        have BK221 := n12_
        have BK222 := n13_
        have BK249 := n14_
        have BK256 := n15_
        have HB := n16_
        clear n0_ n1_ n2_ n3_ n4_ n5_ n6_ n7_ n8_ n9_ n10_ n11_ n12_ n13_ n14_ n15_ n16_
        (try clear hb)
        (try clear hb2)
        (try clear hk)
        (try clear hi)
        (try clear ho0)
        (try clear ho1)
        obtain ⟨Ao86, co86, eo86⟩ := Kd.R_slice HO274.out
        (first | subst eo86 | (injection eo86 with f1_ f2_ f3_; have f4_ := f1_.symm; have f5_ := f3_.symm; clear f1_ f2_ f3_; subst f4_; subst f5_))
        obtain ⟨Ao87, co87, eo87⟩ := Kd.R_slice HO277.out
        (first | subst eo87 | (injection eo87 with f1_ f2_ f3_; have f4_ := f1_.symm; have f5_ := f3_.symm; clear f1_ f2_ f3_; subst f4_; subst f5_))
        refine hK.out _ _ ⟨(blk_cell BK256.out 0).trans rfl, (blk_cell BK256.out 1).trans rfl, (blk_cell BK222.out 0).trans rfl, (blk_cell BK222.out 1).trans rfl⟩ (fun hHeld => ?_)
        clear hK K
        refine norm_ (a' := ?_) ?_ ?_
        rotate_left
        ·show Act.put _ (some 62) _ = _
         simp only [Act.put, List.setIfInBounds_toArray, List.set_cons_zero, List.set_cons_succ, i64_w, i32_w]
         rfl
        refine one_ (i := 3) (N := some 63) #[true, true, true, true, false] rfl rfl (by kernel_rfl) (by decide) (fun K hK => ?_)
        refine goes_ Try.func26 (by kernel_rfl) rfl #[.agg #[.slice Ao52 t250.length co52, .slice Ao57 t253.length co57], .agg #[.slice Ao86 t272.length co86, .slice Ao87 t275.length co87]] (by rfl) rfl rfl (by (try simp only [List.map_toArray, List.map_cons, List.map_nil]); first | done | rfl | (simp only [List.length_drop, List.length_take]; rfl)) ?_
        with_reducible refine (laws_eqReport.calls kj24 _ _ t250 _ _ t253 _ _ t272 _ _ t275 true _ ?side1 ?side2 ?side3 ?side4 ?side5 ?side6 ?side7 ?side8 A74.out).mono ?_
        (case side1 => repeat (first | exact (Kd.R_reads' HO_257000.out).2.2 | (with_reducible refine Kd.C_alloc ?_ _) | (with_reducible refine Kd.C_drewN ?_ _) | (with_reducible refine Kd.C_drew ?_)))
        (case side2 => exact (Kd.R_reads' HO_257000.out).2.1)
        (case side3 => repeat (first | exact (Kd.R_reads' HO_257001.out).2.2 | (with_reducible refine Kd.C_alloc ?_ _) | (with_reducible refine Kd.C_drewN ?_ _) | (with_reducible refine Kd.C_drew ?_)))
        (case side4 => exact (Kd.R_reads' HO_257001.out).2.1)
        (case side5 => repeat (first | exact (Kd.R_reads' HO274.out).2.2 | (with_reducible refine Kd.C_alloc ?_ _) | (with_reducible refine Kd.C_drewN ?_ _) | (with_reducible refine Kd.C_drew ?_)))
        (case side6 => exact (Kd.R_reads' HO274.out).2.1)
        (case side7 => repeat (first | exact (Kd.R_reads' HO277.out).2.2 | (with_reducible refine Kd.C_alloc ?_ _) | (with_reducible refine Kd.C_drewN ?_ _) | (with_reducible refine Kd.C_drew ?_)))
        (case side8 => exact (Kd.R_reads' HO277.out).2.1)
        rintro e w88 ⟨rfl, hb⟩
        refine ⟨_, rfl, ?_⟩
        have n0_ := Aside0.mk (Kd.R_below (by (with_reducible repeat (first | apply Kd.R_alloc | apply Kd.R_drewN | apply Kd.R_drew)); exact HO_6.out) hb)
        have n1_ := Aside0.mk (Kd.R_below (by (with_reducible repeat (first | apply Kd.R_alloc | apply Kd.R_drewN | apply Kd.R_drew)); exact HO_7.out) hb)
        have n2_ := Aside0.mk (Kd.R_below (by (with_reducible repeat (first | apply Kd.R_alloc | apply Kd.R_drewN | apply Kd.R_drew)); exact HO_10.out) hb)
        have n3_ := Aside0.mk (Kd.R_below (by (with_reducible repeat (first | apply Kd.R_alloc | apply Kd.R_drewN | apply Kd.R_drew)); exact HO_11.out) hb)
        have n4_ := Aside0.mk (Kd.R_below (by (with_reducible repeat (first | apply Kd.R_alloc | apply Kd.R_drewN | apply Kd.R_drew)); exact HO_250000.out) hb)
        have n5_ := Aside0.mk (Kd.R_below (by (with_reducible repeat (first | apply Kd.R_alloc | apply Kd.R_drewN | apply Kd.R_drew)); exact HO_250001.out) hb)
        have n6_ := Aside0.mk (Kd.R_below (by (with_reducible repeat (first | apply Kd.R_alloc | apply Kd.R_drewN | apply Kd.R_drew)); exact HO_257000.out) hb)
        have n7_ := Aside0.mk (Kd.R_below (by (with_reducible repeat (first | apply Kd.R_alloc | apply Kd.R_drewN | apply Kd.R_drew)); exact HO_257001.out) hb)
        have n8_ := Aside0.mk (Kd.R_below (by (with_reducible repeat (first | apply Kd.R_alloc | apply Kd.R_drewN | apply Kd.R_drew)); exact HO267.out) hb)
        have n9_ := Aside0.mk (Kd.R_below (by (with_reducible repeat (first | apply Kd.R_alloc | apply Kd.R_drewN | apply Kd.R_drew)); exact HO270.out) hb)
        have n10_ := Aside0.mk (Kd.R_below (by (with_reducible repeat (first | apply Kd.R_alloc | apply Kd.R_drewN | apply Kd.R_drew)); exact HO274.out) hb)
        have n11_ := Aside0.mk (Kd.R_below (by (with_reducible repeat (first | apply Kd.R_alloc | apply Kd.R_drewN | apply Kd.R_drew)); exact HO277.out) hb)
        have n12_ := Aside0.mk (blk_below (g := gb221) (o := .cells #[.slice A0_0 l0_0.length c0_0, .slice A0_1 l0_1.length c0_1] 41 (0, 0)) (by (with_reducible repeat (first | apply blk_drewN | apply blk_drew | apply blk_alloc)); exact BK221.out) hb)
        have n13_ := Aside0.mk (blk_below (g := gb222) (o := .cells #[.slice A1_0 l1_0.length c1_0, .slice A1_1 l1_1.length c1_1] 41 (0, 0)) (by (with_reducible repeat (first | apply blk_drewN | apply blk_drew | apply blk_alloc)); exact BK222.out) hb)
        have n14_ := Aside0.mk (blk_below (g := gb249) (o := .cells #[.slice Ao44 t243.length co44, .slice Ao48 t246.length co48] 26 (0, 0)) (by (with_reducible repeat (first | apply blk_drewN | apply blk_drew | apply blk_alloc)); exact BK249.out) hb)
        have n15_ := Aside0.mk (blk_below (g := gb256) (o := .cells #[.slice Ao52 t250.length co52, .slice Ao57 t253.length co57] 26 (0, 0)) (by (with_reducible repeat (first | apply blk_drewN | apply blk_drew | apply blk_alloc)); exact BK256.out) hb)
        have n16_ := Aside0.mk (below_step (by repeat (first | (with_reducible first | exact HB.out | apply below_alloc | apply pw_below_drewN | apply below_drew1 | refine below_set ?_ GE221.out | refine below_set ?_ GE222.out | refine below_set ?_ GE249.out | refine below_set ?_ GE256.out) | exact HB.out)) hb)
        clear HO_6
        clear HO_7
        clear HO_10
        clear HO_11
        clear HO_250000
        clear HO_250001
        clear HO_257000
        clear HO_257001
        clear HO267
        clear HO270
        clear HO274
        clear HO277
        clear BK221
        clear BK222
        clear BK249
        clear BK256
        clear HB
        have HO_6 := n0_
        have HO_7 := n1_
        have HO_10 := n2_
        have HO_11 := n3_
        have HO_250000 := n4_
        have HO_250001 := n5_
        have HO_257000 := n6_
        have HO_257001 := n7_
        have HO267 := n8_
        have HO270 := n9_
        have HO274 := n10_
        have HO277 := n11_
        have BK221 := n12_
        have BK222 := n13_
        have BK249 := n14_
        have BK256 := n15_
        have HB := n16_
        clear n0_ n1_ n2_ n3_ n4_ n5_ n6_ n7_ n8_ n9_ n10_ n11_ n12_ n13_ n14_ n15_ n16_
        (try clear hb)
        (try clear hb2)
        (try clear hk)
        (try clear hi)
        refine hK.out _ _ ⟨(blk_cell BK256.out 0).trans rfl, (blk_cell BK256.out 1).trans rfl, (blk_cell BK222.out 0).trans rfl, (blk_cell BK222.out 1).trans rfl⟩ (fun hHeld => ?_)
        clear hK K
        refine norm_ (a' := ?_) ?_ ?_
        rotate_left
        ·show Act.put _ (some 63) _ = _
         simp only [Act.put, List.setIfInBounds_toArray, List.set_cons_zero, List.set_cons_succ, i64_w, i32_w]
         rfl
        refine pure_ (i := 4) (N := some 64) (v := ?_) (a' := ?_) #[true, true, true, true, true] rfl rfl (by kernel_rfl) (fun _ _ _ h => h) (Or.inl ⟨by rfl, ?_⟩) ?_ ?_
        rotate_left
        ·intro w'
         go_simp
         with_reducible rfl
        rotate_left
        ·simp only [Act.put, List.setIfInBounds_toArray, List.set_cons_zero, List.set_cons_succ, i64_w, i32_w]
         rfl
        refine done_ (by kernel_rfl) ?_
        have hnb89 := NB249_221.out
        have hnc89 := NB221_249.out
        have hnb90 := NB249_222.out
        have hnc90 := NB222_249.out
        have hnb91 := NB249_256.out
        have hnc91 := NB256_249.out
        have hcz92_0 : w88.cell? ⟨gb249, 0, none⟩ = some (.slice Ao44 t243.length co44) := (blk_cell BK249.out 0).trans rfl
        have hcz92_1 : w88.cell? ⟨gb249, 1, none⟩ = some (.slice Ao48 t246.length co48) := (blk_cell BK249.out 1).trans rfl
        have hfz92_0 := blk_frozen BK249.out 0
        have hfz92_1 := blk_frozen BK249.out 1
        go_upto_region 21 with (first | ((with_reducible refine gate_callee (f := 31) rfl ?_); refine goesL_ (some 67) rfl rfl Try.func31 (by kernel_rfl) rfl #[.agg #[.slice Ao44 t243.length co44, .slice Ao48 t246.length co48], .int .i64 1] rfl (by (try simp only [List.map_toArray, List.map_cons, List.map_nil]); first | done | rfl | (simp only [List.length_drop, List.length_take]; rfl)) ?_; (with_reducible refine (laws_markReport.calls kj24 (fun k_ => some k_ = (.slice Ao44 t243.length co44 : Value).ownBlock) (.slice Ao44 t243.length co44) t243 (fun k_ => some k_ = (.slice Ao48 t246.length co48 : Value).ownBlock) (.slice Ao48 t246.length co48) t246 1 t279 t280 t281 w _ ?side1 ?side2 ?side3 A76.out).mono ?_); (case side1 => repeat (first | (with_reducible first | exact HB.out | apply below_alloc | apply pw_below_drewN | apply below_drew1 | refine below_set ?_ GE221.out | refine below_set ?_ GE222.out | refine below_set ?_ GE249.out | refine below_set ?_ GE256.out) | exact HB.out)); (case side2 => exact Kd.R_tight rfl HO_250000.out); (case side3 => exact Kd.R_tight rfl HO_250001.out); rintro e w93 ⟨rfl, hy0, hy1, hb, hkp⟩; refine ⟨_, rfl, ?_⟩; have n0_ := Aside0.mk (Kd.R_mono (ok' := fun k_ => some k_ ≠ (v241 : Value).ownBlock ∧ some k_ ≠ (v258 : Value).ownBlock ∧ some k_ ≠ (v261 : Value).ownBlock ∧ some k_ ≠ (.slice Ao48 t246.length co48 : Value).ownBlock ∧ some k_ ≠ (.slice Ao57 t253.length co57 : Value).ownBlock ∧ some k_ ≠ (.slice Ao82 t268.length co82 : Value).ownBlock ∧ some k_ ≠ (.slice Ao87 t275.length co87 : Value).ownBlock) (Kd.R_keptB ((Kd.R_apart' HO_6.out (Kd.R_typed HO_250000.out) (by decide))) hkp (fun k_ hk_ hs_ => Or.elim hs_ (fun e_ => (hk_.2) e_) (fun e_ => refute hk_ e_))) (fun k_ hk_ => ⟨(gives hk_), (gives hk_), (gives hk_), (gives hk_), (gives hk_), (gives hk_), (gives hk_)⟩)); have n1_ := Aside0.mk (Kd.R_mono (ok' := fun k_ => some k_ ≠ (v238 : Value).ownBlock ∧ some k_ ≠ (v258 : Value).ownBlock ∧ some k_ ≠ (v261 : Value).ownBlock ∧ some k_ ≠ (.slice Ao48 t246.length co48 : Value).ownBlock ∧ some k_ ≠ (.slice Ao57 t253.length co57 : Value).ownBlock ∧ some k_ ≠ (.slice Ao82 t268.length co82 : Value).ownBlock ∧ some k_ ≠ (.slice Ao87 t275.length co87 : Value).ownBlock) (Kd.R_keptB ((Kd.R_apart' HO_7.out (Kd.R_typed HO_250000.out) (by decide))) hkp (fun k_ hk_ hs_ => Or.elim hs_ (fun e_ => (hk_.2) e_) (fun e_ => refute hk_ e_))) (fun k_ hk_ => ⟨(gives hk_), (gives hk_), (gives hk_), (gives hk_), (gives hk_), (gives hk_), (gives hk_)⟩)); have n2_ := Aside0.mk (Kd.R_mono (ok' := fun k_ => some k_ ≠ (v238 : Value).ownBlock ∧ some k_ ≠ (v241 : Value).ownBlock ∧ some k_ ≠ (v261 : Value).ownBlock ∧ some k_ ≠ (.slice Ao48 t246.length co48 : Value).ownBlock ∧ some k_ ≠ (.slice Ao57 t253.length co57 : Value).ownBlock ∧ some k_ ≠ (.slice Ao82 t268.length co82 : Value).ownBlock ∧ some k_ ≠ (.slice Ao87 t275.length co87 : Value).ownBlock) (Kd.R_keptB ((Kd.R_apart' HO_10.out (Kd.R_typed HO_250000.out) (by decide))) hkp (fun k_ hk_ hs_ => Or.elim hs_ (fun e_ => (hk_.2) e_) (fun e_ => refute hk_ e_))) (fun k_ hk_ => ⟨(gives hk_), (gives hk_), (gives hk_), (gives hk_), (gives hk_), (gives hk_), (gives hk_)⟩)); have n3_ := Aside0.mk (Kd.R_mono (ok' := fun k_ => some k_ ≠ (v238 : Value).ownBlock ∧ some k_ ≠ (v241 : Value).ownBlock ∧ some k_ ≠ (v258 : Value).ownBlock ∧ some k_ ≠ (.slice Ao48 t246.length co48 : Value).ownBlock ∧ some k_ ≠ (.slice Ao57 t253.length co57 : Value).ownBlock ∧ some k_ ≠ (.slice Ao82 t268.length co82 : Value).ownBlock ∧ some k_ ≠ (.slice Ao87 t275.length co87 : Value).ownBlock) (Kd.R_keptB ((Kd.R_apart' HO_11.out (Kd.R_typed HO_250000.out) (by decide))) hkp (fun k_ hk_ hs_ => Or.elim hs_ (fun e_ => (hk_.2) e_) (fun e_ => refute hk_ e_))) (fun k_ hk_ => ⟨(gives hk_), (gives hk_), (gives hk_), (gives hk_), (gives hk_), (gives hk_), (gives hk_)⟩)); have n4_ := Aside0.mk (Kd.R_reok rfl hy0 (fun k_ e_ => HO_250000.out.1 k_ e_)); have n5_ := Aside0.mk (Kd.R_reok rfl hy1 (fun k_ e_ => HO_250001.out.1 k_ e_)); have n6_ := Aside0.mk (Kd.R_mono (ok' := fun k_ => some k_ ≠ (.slice Ao44 t243.length co44 : Value).ownBlock ∧ some k_ ≠ (.slice Ao81 t265.length co81 : Value).ownBlock ∧ some k_ ≠ (.slice Ao86 t272.length co86 : Value).ownBlock) (Kd.R_keptB ((Kd.R_apart' HO_257000.out (Kd.R_typed HO_250001.out) (by decide))) hkp (fun k_ hk_ hs_ => Or.elim hs_ (fun e_ => refute hk_ e_) (fun e_ => (hk_.2) e_))) (fun k_ hk_ => ⟨(gives hk_), (gives hk_), (gives hk_)⟩)); have n7_ := Aside0.mk (Kd.R_mono (ok' := fun k_ => some k_ ≠ (v238 : Value).ownBlock ∧ some k_ ≠ (v241 : Value).ownBlock ∧ some k_ ≠ (v258 : Value).ownBlock ∧ some k_ ≠ (v261 : Value).ownBlock ∧ some k_ ≠ (.slice Ao48 t246.length co48 : Value).ownBlock ∧ some k_ ≠ (.slice Ao82 t268.length co82 : Value).ownBlock ∧ some k_ ≠ (.slice Ao87 t275.length co87 : Value).ownBlock) (Kd.R_keptB ((Kd.R_apart' HO_257001.out (Kd.R_typed HO_250000.out) (by decide))) hkp (fun k_ hk_ hs_ => Or.elim hs_ (fun e_ => (hk_.2) e_) (fun e_ => refute hk_ e_))) (fun k_ hk_ => ⟨(gives hk_), (gives hk_), (gives hk_), (gives hk_), (gives hk_), (gives hk_), (gives hk_)⟩)); have n8_ := Aside0.mk (blk_kept (by (with_reducible repeat (first | apply blk_drewN | apply blk_drew | apply blk_alloc)); exact BK221.out) hkp (fun hs_ => Or.elim hs_ (fun e_ => (fun e_ => (Kd.R_ne HO_250000.out BK221.out (by decide)) e_) e_) (fun e_ => (fun e_ => (Kd.R_ne HO_250001.out BK221.out (by decide)) e_) e_))); have n9_ := Aside0.mk (blk_kept (by (with_reducible repeat (first | apply blk_drewN | apply blk_drew | apply blk_alloc)); exact BK222.out) hkp (fun hs_ => Or.elim hs_ (fun e_ => (fun e_ => (Kd.R_ne HO_250000.out BK222.out (by decide)) e_) e_) (fun e_ => (fun e_ => (Kd.R_ne HO_250001.out BK222.out (by decide)) e_) e_))); have n10_ := Aside0.mk (blk_kept (by (with_reducible repeat (first | apply blk_drewN | apply blk_drew | apply blk_alloc)); exact BK249.out) hkp (fun hs_ => Or.elim hs_ (fun e_ => (fun e_ => (Kd.R_ne HO_250000.out BK249.out (by decide)) e_) e_) (fun e_ => (fun e_ => (Kd.R_ne HO_250001.out BK249.out (by decide)) e_) e_))); have n11_ := Aside0.mk (blk_kept (by (with_reducible repeat (first | apply blk_drewN | apply blk_drew | apply blk_alloc)); exact BK256.out) hkp (fun hs_ => Or.elim hs_ (fun e_ => (fun e_ => (Kd.R_ne HO_250000.out BK256.out (by decide)) e_) e_) (fun e_ => (fun e_ => (Kd.R_ne HO_250001.out BK256.out (by decide)) e_) e_))); have n12_ := Aside0.mk (Kd.R_mono (ok' := fun k_ => some k_ ≠ (.slice Ao44 t243.length co44 : Value).ownBlock ∧ some k_ ≠ (.slice Ao52 t250.length co52 : Value).ownBlock ∧ some k_ ≠ (.slice Ao86 t272.length co86 : Value).ownBlock) (Kd.R_keptB ((Kd.R_apart' HO267.out (Kd.R_typed HO_250001.out) (by decide))) hkp (fun k_ hk_ hs_ => Or.elim hs_ (fun e_ => refute hk_ e_) (fun e_ => (hk_.2) e_))) (fun k_ hk_ => ⟨(gives hk_), (gives hk_), (gives hk_)⟩)); have n13_ := Aside0.mk (Kd.R_mono (ok' := fun k_ => some k_ ≠ (v238 : Value).ownBlock ∧ some k_ ≠ (v241 : Value).ownBlock ∧ some k_ ≠ (v258 : Value).ownBlock ∧ some k_ ≠ (v261 : Value).ownBlock ∧ some k_ ≠ (.slice Ao48 t246.length co48 : Value).ownBlock ∧ some k_ ≠ (.slice Ao57 t253.length co57 : Value).ownBlock ∧ some k_ ≠ (.slice Ao87 t275.length co87 : Value).ownBlock) (Kd.R_keptB ((Kd.R_apart' HO270.out (Kd.R_typed HO_250000.out) (by decide))) hkp (fun k_ hk_ hs_ => Or.elim hs_ (fun e_ => (hk_.2) e_) (fun e_ => refute hk_ e_))) (fun k_ hk_ => ⟨(gives hk_), (gives hk_), (gives hk_), (gives hk_), (gives hk_), (gives hk_), (gives hk_)⟩)); have n14_ := Aside0.mk (Kd.R_mono (ok' := fun k_ => some k_ ≠ (.slice Ao44 t243.length co44 : Value).ownBlock ∧ some k_ ≠ (.slice Ao52 t250.length co52 : Value).ownBlock ∧ some k_ ≠ (.slice Ao81 t265.length co81 : Value).ownBlock) (Kd.R_keptB ((Kd.R_apart' HO274.out (Kd.R_typed HO_250001.out) (by decide))) hkp (fun k_ hk_ hs_ => Or.elim hs_ (fun e_ => refute hk_ e_) (fun e_ => (hk_.2) e_))) (fun k_ hk_ => ⟨(gives hk_), (gives hk_), (gives hk_)⟩)); have n15_ := Aside0.mk (Kd.R_mono (ok' := fun k_ => some k_ ≠ (v238 : Value).ownBlock ∧ some k_ ≠ (v241 : Value).ownBlock ∧ some k_ ≠ (v258 : Value).ownBlock ∧ some k_ ≠ (v261 : Value).ownBlock ∧ some k_ ≠ (.slice Ao48 t246.length co48 : Value).ownBlock ∧ some k_ ≠ (.slice Ao57 t253.length co57 : Value).ownBlock ∧ some k_ ≠ (.slice Ao82 t268.length co82 : Value).ownBlock) (Kd.R_keptB ((Kd.R_apart' HO277.out (Kd.R_typed HO_250000.out) (by decide))) hkp (fun k_ hk_ hs_ => Or.elim hs_ (fun e_ => (hk_.2) e_) (fun e_ => refute hk_ e_))) (fun k_ hk_ => ⟨(gives hk_), (gives hk_), (gives hk_), (gives hk_), (gives hk_), (gives hk_), (gives hk_)⟩)); have n16_ := Aside0.mk (hb); clear HO_6; clear HO_7; clear HO_10; clear HO_11; clear HO_250000; clear HO_250001; clear HO_257000; clear HO_257001; clear BK221; clear BK222; clear BK249; clear BK256; clear HO267; clear HO270; clear HO274; clear HO277; clear HB; have HO_6 := n0_; have HO_7 := n1_; have HO_10 := n2_; have HO_11 := n3_; have HO_250000 := n4_; have HO_250001 := n5_; have HO_257000 := n6_; have HO_257001 := n7_; have BK221 := n8_; have BK222 := n9_; have BK249 := n10_; have BK256 := n11_; have HO267 := n12_; have HO270 := n13_; have HO274 := n14_; have HO277 := n15_; have HB := n16_; clear n0_ n1_ n2_ n3_ n4_ n5_ n6_ n7_ n8_ n9_ n10_ n11_ n12_ n13_ n14_ n15_ n16_; (try clear hb); (try clear hkp); (try clear hy0); (try clear hy1); have hnb94 := NB256_221.out; have hnc94 := NB221_256.out; have hnb95 := NB256_222.out; have hnc95 := NB222_256.out; have hcz96_0 : w93.cell? ⟨gb256, 0, none⟩ = some (.slice Ao52 t250.length co52) := (blk_cell BK256.out 0).trans rfl; have hcz96_1 : w93.cell? ⟨gb256, 1, none⟩ = some (.slice Ao57 t253.length co57) := (blk_cell BK256.out 1).trans rfl; have hfz96_0 := blk_frozen BK256.out 0; have hfz96_1 := blk_frozen BK256.out 1) | ((with_reducible refine gate_callee (f := 31) rfl ?_); refine goesL_ (some 70) rfl rfl Try.func31 (by kernel_rfl) rfl #[.agg #[.slice Ao52 t250.length co52, .slice Ao57 t253.length co57], .int .i64 t279] rfl (by (try simp only [List.map_toArray, List.map_cons, List.map_nil]); first | done | rfl | (simp only [List.length_drop, List.length_take]; rfl)) ?_; (with_reducible refine (laws_markReport.calls kj24 (fun k_ => some k_ = (.slice Ao52 t250.length co52 : Value).ownBlock) (.slice Ao52 t250.length co52) t250 (fun k_ => some k_ = (.slice Ao57 t253.length co57 : Value).ownBlock) (.slice Ao57 t253.length co57) t253 t279 t282 t283 t284 w _ ?side1 ?side2 ?side3 A77.out).mono ?_); (case side1 => repeat (first | (with_reducible first | exact HB.out | apply below_alloc | apply pw_below_drewN | apply below_drew1 | refine below_set ?_ GE221.out | refine below_set ?_ GE222.out | refine below_set ?_ GE249.out | refine below_set ?_ GE256.out) | exact HB.out)); (case side2 => exact Kd.R_tight rfl HO_257000.out); (case side3 => exact Kd.R_tight rfl HO_257001.out); rintro e w97 ⟨rfl, hy0, hy1, hb, hkp⟩; refine ⟨_, rfl, ?_⟩; have n0_ := Aside0.mk (Kd.R_mono (ok' := fun k_ => some k_ ≠ (v241 : Value).ownBlock ∧ some k_ ≠ (v258 : Value).ownBlock ∧ some k_ ≠ (v261 : Value).ownBlock ∧ some k_ ≠ (.slice Ao48 t246.length co48 : Value).ownBlock ∧ some k_ ≠ (.slice Ao57 t253.length co57 : Value).ownBlock ∧ some k_ ≠ (.slice Ao82 t268.length co82 : Value).ownBlock ∧ some k_ ≠ (.slice Ao87 t275.length co87 : Value).ownBlock) (Kd.R_keptB ((Kd.R_apart' HO_6.out (Kd.R_typed HO_257000.out) (by decide))) hkp (fun k_ hk_ hs_ => Or.elim hs_ (fun e_ => (hk_.2) e_) (fun e_ => refute hk_ e_))) (fun k_ hk_ => ⟨(gives hk_), (gives hk_), (gives hk_), (gives hk_), (gives hk_), (gives hk_), (gives hk_)⟩)); have n1_ := Aside0.mk (Kd.R_mono (ok' := fun k_ => some k_ ≠ (v238 : Value).ownBlock ∧ some k_ ≠ (v258 : Value).ownBlock ∧ some k_ ≠ (v261 : Value).ownBlock ∧ some k_ ≠ (.slice Ao48 t246.length co48 : Value).ownBlock ∧ some k_ ≠ (.slice Ao57 t253.length co57 : Value).ownBlock ∧ some k_ ≠ (.slice Ao82 t268.length co82 : Value).ownBlock ∧ some k_ ≠ (.slice Ao87 t275.length co87 : Value).ownBlock) (Kd.R_keptB ((Kd.R_apart' HO_7.out (Kd.R_typed HO_257000.out) (by decide))) hkp (fun k_ hk_ hs_ => Or.elim hs_ (fun e_ => (hk_.2) e_) (fun e_ => refute hk_ e_))) (fun k_ hk_ => ⟨(gives hk_), (gives hk_), (gives hk_), (gives hk_), (gives hk_), (gives hk_), (gives hk_)⟩)); have n2_ := Aside0.mk (Kd.R_mono (ok' := fun k_ => some k_ ≠ (v238 : Value).ownBlock ∧ some k_ ≠ (v241 : Value).ownBlock ∧ some k_ ≠ (v261 : Value).ownBlock ∧ some k_ ≠ (.slice Ao48 t246.length co48 : Value).ownBlock ∧ some k_ ≠ (.slice Ao57 t253.length co57 : Value).ownBlock ∧ some k_ ≠ (.slice Ao82 t268.length co82 : Value).ownBlock ∧ some k_ ≠ (.slice Ao87 t275.length co87 : Value).ownBlock) (Kd.R_keptB ((Kd.R_apart' HO_10.out (Kd.R_typed HO_257000.out) (by decide))) hkp (fun k_ hk_ hs_ => Or.elim hs_ (fun e_ => (hk_.2) e_) (fun e_ => refute hk_ e_))) (fun k_ hk_ => ⟨(gives hk_), (gives hk_), (gives hk_), (gives hk_), (gives hk_), (gives hk_), (gives hk_)⟩)); have n3_ := Aside0.mk (Kd.R_mono (ok' := fun k_ => some k_ ≠ (v238 : Value).ownBlock ∧ some k_ ≠ (v241 : Value).ownBlock ∧ some k_ ≠ (v258 : Value).ownBlock ∧ some k_ ≠ (.slice Ao48 t246.length co48 : Value).ownBlock ∧ some k_ ≠ (.slice Ao57 t253.length co57 : Value).ownBlock ∧ some k_ ≠ (.slice Ao82 t268.length co82 : Value).ownBlock ∧ some k_ ≠ (.slice Ao87 t275.length co87 : Value).ownBlock) (Kd.R_keptB ((Kd.R_apart' HO_11.out (Kd.R_typed HO_257000.out) (by decide))) hkp (fun k_ hk_ hs_ => Or.elim hs_ (fun e_ => (hk_.2) e_) (fun e_ => refute hk_ e_))) (fun k_ hk_ => ⟨(gives hk_), (gives hk_), (gives hk_), (gives hk_), (gives hk_), (gives hk_), (gives hk_)⟩)); have n4_ := Aside0.mk (Kd.R_mono (ok' := fun k_ => some k_ ≠ (.slice Ao52 t250.length co52 : Value).ownBlock ∧ some k_ ≠ (.slice Ao81 t265.length co81 : Value).ownBlock ∧ some k_ ≠ (.slice Ao86 t272.length co86 : Value).ownBlock) (Kd.R_keptB ((Kd.R_apart' HO_250000.out (Kd.R_typed HO_257001.out) (by decide))) hkp (fun k_ hk_ hs_ => Or.elim hs_ (fun e_ => refute hk_ e_) (fun e_ => (hk_.2) e_))) (fun k_ hk_ => ⟨(gives hk_), (gives hk_), (gives hk_)⟩)); have n5_ := Aside0.mk (Kd.R_mono (ok' := fun k_ => some k_ ≠ (v238 : Value).ownBlock ∧ some k_ ≠ (v241 : Value).ownBlock ∧ some k_ ≠ (v258 : Value).ownBlock ∧ some k_ ≠ (v261 : Value).ownBlock ∧ some k_ ≠ (.slice Ao57 t253.length co57 : Value).ownBlock ∧ some k_ ≠ (.slice Ao82 t268.length co82 : Value).ownBlock ∧ some k_ ≠ (.slice Ao87 t275.length co87 : Value).ownBlock) (Kd.R_keptB ((Kd.R_apart' HO_250001.out (Kd.R_typed HO_257000.out) (by decide))) hkp (fun k_ hk_ hs_ => Or.elim hs_ (fun e_ => (hk_.2) e_) (fun e_ => refute hk_ e_))) (fun k_ hk_ => ⟨(gives hk_), (gives hk_), (gives hk_), (gives hk_), (gives hk_), (gives hk_), (gives hk_)⟩)); have n6_ := Aside0.mk (Kd.R_reok rfl hy0 (fun k_ e_ => HO_257000.out.1 k_ e_)); have n7_ := Aside0.mk (Kd.R_reok rfl hy1 (fun k_ e_ => HO_257001.out.1 k_ e_)); have n8_ := Aside0.mk (blk_kept (by (with_reducible repeat (first | apply blk_drewN | apply blk_drew | apply blk_alloc)); exact BK221.out) hkp (fun hs_ => Or.elim hs_ (fun e_ => (fun e_ => (Kd.R_ne HO_257000.out BK221.out (by decide)) e_) e_) (fun e_ => (fun e_ => (Kd.R_ne HO_257001.out BK221.out (by decide)) e_) e_))); have n9_ := Aside0.mk (blk_kept (by (with_reducible repeat (first | apply blk_drewN | apply blk_drew | apply blk_alloc)); exact BK222.out) hkp (fun hs_ => Or.elim hs_ (fun e_ => (fun e_ => (Kd.R_ne HO_257000.out BK222.out (by decide)) e_) e_) (fun e_ => (fun e_ => (Kd.R_ne HO_257001.out BK222.out (by decide)) e_) e_))); have n10_ := Aside0.mk (blk_kept (by (with_reducible repeat (first | apply blk_drewN | apply blk_drew | apply blk_alloc)); exact BK249.out) hkp (fun hs_ => Or.elim hs_ (fun e_ => (fun e_ => (Kd.R_ne HO_257000.out BK249.out (by decide)) e_) e_) (fun e_ => (fun e_ => (Kd.R_ne HO_257001.out BK249.out (by decide)) e_) e_))); have n11_ := Aside0.mk (blk_kept (by (with_reducible repeat (first | apply blk_drewN | apply blk_drew | apply blk_alloc)); exact BK256.out) hkp (fun hs_ => Or.elim hs_ (fun e_ => (fun e_ => (Kd.R_ne HO_257000.out BK256.out (by decide)) e_) e_) (fun e_ => (fun e_ => (Kd.R_ne HO_257001.out BK256.out (by decide)) e_) e_))); have n12_ := Aside0.mk (Kd.R_mono (ok' := fun k_ => some k_ ≠ (.slice Ao44 t243.length co44 : Value).ownBlock ∧ some k_ ≠ (.slice Ao52 t250.length co52 : Value).ownBlock ∧ some k_ ≠ (.slice Ao86 t272.length co86 : Value).ownBlock) (Kd.R_keptB ((Kd.R_apart' HO267.out (Kd.R_typed HO_257001.out) (by decide))) hkp (fun k_ hk_ hs_ => Or.elim hs_ (fun e_ => refute hk_ e_) (fun e_ => (hk_.2) e_))) (fun k_ hk_ => ⟨(gives hk_), (gives hk_), (gives hk_)⟩)); have n13_ := Aside0.mk (Kd.R_mono (ok' := fun k_ => some k_ ≠ (v238 : Value).ownBlock ∧ some k_ ≠ (v241 : Value).ownBlock ∧ some k_ ≠ (v258 : Value).ownBlock ∧ some k_ ≠ (v261 : Value).ownBlock ∧ some k_ ≠ (.slice Ao48 t246.length co48 : Value).ownBlock ∧ some k_ ≠ (.slice Ao57 t253.length co57 : Value).ownBlock ∧ some k_ ≠ (.slice Ao87 t275.length co87 : Value).ownBlock) (Kd.R_keptB ((Kd.R_apart' HO270.out (Kd.R_typed HO_257000.out) (by decide))) hkp (fun k_ hk_ hs_ => Or.elim hs_ (fun e_ => (hk_.2) e_) (fun e_ => refute hk_ e_))) (fun k_ hk_ => ⟨(gives hk_), (gives hk_), (gives hk_), (gives hk_), (gives hk_), (gives hk_), (gives hk_)⟩)); have n14_ := Aside0.mk (Kd.R_mono (ok' := fun k_ => some k_ ≠ (.slice Ao44 t243.length co44 : Value).ownBlock ∧ some k_ ≠ (.slice Ao52 t250.length co52 : Value).ownBlock ∧ some k_ ≠ (.slice Ao81 t265.length co81 : Value).ownBlock) (Kd.R_keptB ((Kd.R_apart' HO274.out (Kd.R_typed HO_257001.out) (by decide))) hkp (fun k_ hk_ hs_ => Or.elim hs_ (fun e_ => refute hk_ e_) (fun e_ => (hk_.2) e_))) (fun k_ hk_ => ⟨(gives hk_), (gives hk_), (gives hk_)⟩)); have n15_ := Aside0.mk (Kd.R_mono (ok' := fun k_ => some k_ ≠ (v238 : Value).ownBlock ∧ some k_ ≠ (v241 : Value).ownBlock ∧ some k_ ≠ (v258 : Value).ownBlock ∧ some k_ ≠ (v261 : Value).ownBlock ∧ some k_ ≠ (.slice Ao48 t246.length co48 : Value).ownBlock ∧ some k_ ≠ (.slice Ao57 t253.length co57 : Value).ownBlock ∧ some k_ ≠ (.slice Ao82 t268.length co82 : Value).ownBlock) (Kd.R_keptB ((Kd.R_apart' HO277.out (Kd.R_typed HO_257000.out) (by decide))) hkp (fun k_ hk_ hs_ => Or.elim hs_ (fun e_ => (hk_.2) e_) (fun e_ => refute hk_ e_))) (fun k_ hk_ => ⟨(gives hk_), (gives hk_), (gives hk_), (gives hk_), (gives hk_), (gives hk_), (gives hk_)⟩)); have n16_ := Aside0.mk (hb); clear HO_6; clear HO_7; clear HO_10; clear HO_11; clear HO_250000; clear HO_250001; clear HO_257000; clear HO_257001; clear BK221; clear BK222; clear BK249; clear BK256; clear HO267; clear HO270; clear HO274; clear HO277; clear HB; have HO_6 := n0_; have HO_7 := n1_; have HO_10 := n2_; have HO_11 := n3_; have HO_250000 := n4_; have HO_250001 := n5_; have HO_257000 := n6_; have HO_257001 := n7_; have BK221 := n8_; have BK222 := n9_; have BK249 := n10_; have BK256 := n11_; have HO267 := n12_; have HO270 := n13_; have HO274 := n14_; have HO277 := n15_; have HB := n16_; clear n0_ n1_ n2_ n3_ n4_ n5_ n6_ n7_ n8_ n9_ n10_ n11_ n12_ n13_ n14_ n15_ n16_; (try clear hb); (try clear hkp); (try clear hy0); (try clear hy1)))
        (try simp only [Act.put, List.setIfInBounds_toArray, List.set_cons_zero, List.set_cons_succ])
        go_cut [84] (fun v84 wc => ∃ (kq : Nat) (x84_77 : Bool), v84 = .bool x84_77 ∧ Aside0 (laws_FnExactDiffReports.j1 kq t237 t240 t257 t260 x84_77 l0_0 l0_1 l1_0 l1_1 = some r) ∧ Aside0 (kq ≤ kj24) ∧ Aside0 (Kd.R Kd.string 9 wc w.heap.size (fun k_ => some k_ ≠ (v241 : Value).ownBlock ∧ some k_ ≠ (v258 : Value).ownBlock ∧ some k_ ≠ (v261 : Value).ownBlock ∧ some k_ ≠ ((.slice Ao48 t246.length co48) : Value).ownBlock ∧ some k_ ≠ ((.slice Ao57 t253.length co57) : Value).ownBlock) v238 t237) ∧ Aside0 (Kd.R Kd.string 9 wc w.heap.size (fun k_ => some k_ ≠ (v238 : Value).ownBlock ∧ some k_ ≠ (v258 : Value).ownBlock ∧ some k_ ≠ (v261 : Value).ownBlock ∧ some k_ ≠ ((.slice Ao48 t246.length co48) : Value).ownBlock ∧ some k_ ≠ ((.slice Ao57 t253.length co57) : Value).ownBlock) v241 t240) ∧ Aside0 (Kd.R Kd.string 9 wc w.heap.size (fun k_ => some k_ ≠ (v238 : Value).ownBlock ∧ some k_ ≠ (v241 : Value).ownBlock ∧ some k_ ≠ (v261 : Value).ownBlock ∧ some k_ ≠ ((.slice Ao48 t246.length co48) : Value).ownBlock ∧ some k_ ≠ ((.slice Ao57 t253.length co57) : Value).ownBlock) v258 t257) ∧ Aside0 (Kd.R Kd.string 9 wc w.heap.size (fun k_ => some k_ ≠ (v238 : Value).ownBlock ∧ some k_ ≠ (v241 : Value).ownBlock ∧ some k_ ≠ (v258 : Value).ownBlock ∧ some k_ ≠ ((.slice Ao48 t246.length co48) : Value).ownBlock ∧ some k_ ≠ ((.slice Ao57 t253.length co57) : Value).ownBlock) v261 t260) ∧ Aside0 (Kd.R k37 37 wc w.heap.size (fun k_ => some k_ ≠ ((.slice Ao52 t250.length co52) : Value).ownBlock) (.slice Ao44 t243.length co44) t280) ∧ Aside0 (Kd.R Kd.string 9 wc w.heap.size (fun k_ => some k_ ≠ (v238 : Value).ownBlock ∧ some k_ ≠ (v241 : Value).ownBlock ∧ some k_ ≠ (v258 : Value).ownBlock ∧ some k_ ≠ (v261 : Value).ownBlock ∧ some k_ ≠ ((.slice Ao57 t253.length co57) : Value).ownBlock) (.slice Ao48 t246.length co48) t281) ∧ Aside0 (Kd.R k37 37 wc w.heap.size (fun k_ => some k_ ≠ ((.slice Ao44 t243.length co44) : Value).ownBlock) (.slice Ao52 t250.length co52) t283) ∧ Aside0 (Kd.R Kd.string 9 wc w.heap.size (fun k_ => some k_ ≠ (v238 : Value).ownBlock ∧ some k_ ≠ (v241 : Value).ownBlock ∧ some k_ ≠ (v258 : Value).ownBlock ∧ some k_ ≠ (v261 : Value).ownBlock ∧ some k_ ≠ ((.slice Ao48 t246.length co48) : Value).ownBlock) (.slice Ao57 t253.length co57) t284) ∧ Aside0 (wc.heap[gb221]? = some (.cells #[(.slice A0_0 l0_0.length c0_0), (.slice A0_1 l0_1.length c0_1)] 41 (0, 0))) ∧ Aside0 (wc.heap[gb222]? = some (.cells #[(.slice A1_0 l1_0.length c1_0), (.slice A1_1 l1_1.length c1_1)] 41 (0, 0))) ∧ Aside0 (wc.heap[gb249]? = some (.cells #[(.slice Ao44 t243.length co44), (.slice Ao48 t246.length co48)] 26 (0, 0))) ∧ Aside0 (wc.heap[gb256]? = some (.cells #[(.slice Ao52 t250.length co52), (.slice Ao57 t253.length co57)] 26 (0, 0))) ∧ Aside0 (Below w.heap.size w wc))
        case first =>
         have H := HC78.out
         clear HC78
         by_cases c98 : t282 < 0
         ·rw [if_pos c98] at H
          have c98b0 : decide (t282 < 0) = true := decide_eq_true c98
          clear c98
          (first | rw [c98b0] | (simp only [i64_w, i32_w]; rw [c98b0]) | skip)
          have H' := Aside0.mk H
          clear H
          go_wp2
          go_meet
          case rel => exact ⟨_, (true), (by first | rfl | (simp; done) | (simp [*]; done)), H', ⟨by have := HJ24.out; first | omega | exact Nat.le_refl _⟩, ⟨by (with_reducible repeat (first | apply Kd.R_alloc | apply Kd.R_drewN | apply Kd.R_drew)); exact Kd.R_mono HO_6.out (fun _ hk => ⟨hk.1, ⟨(gives hk), ⟨(gives hk), ⟨(gives hk), (gives hk)⟩⟩⟩⟩)⟩, ⟨by (with_reducible repeat (first | apply Kd.R_alloc | apply Kd.R_drewN | apply Kd.R_drew)); exact Kd.R_mono HO_7.out (fun _ hk => ⟨hk.1, ⟨(gives hk), ⟨(gives hk), ⟨(gives hk), (gives hk)⟩⟩⟩⟩)⟩, ⟨by (with_reducible repeat (first | apply Kd.R_alloc | apply Kd.R_drewN | apply Kd.R_drew)); exact Kd.R_mono HO_10.out (fun _ hk => ⟨hk.1, ⟨(gives hk), ⟨(gives hk), ⟨(gives hk), (gives hk)⟩⟩⟩⟩)⟩, ⟨by (with_reducible repeat (first | apply Kd.R_alloc | apply Kd.R_drewN | apply Kd.R_drew)); exact Kd.R_mono HO_11.out (fun _ hk => ⟨hk.1, ⟨(gives hk), ⟨(gives hk), ⟨(gives hk), (gives hk)⟩⟩⟩⟩)⟩, ⟨by (with_reducible repeat (first | apply Kd.R_alloc | apply Kd.R_drewN | apply Kd.R_drew)); exact Kd.R_mono HO_250000.out (fun _ hk => hk.1)⟩, ⟨by (with_reducible repeat (first | apply Kd.R_alloc | apply Kd.R_drewN | apply Kd.R_drew)); exact Kd.R_mono HO_250001.out (fun _ hk => ⟨hk.1, ⟨(gives hk), ⟨(gives hk), ⟨(gives hk), (gives hk)⟩⟩⟩⟩)⟩, ⟨by (with_reducible repeat (first | apply Kd.R_alloc | apply Kd.R_drewN | apply Kd.R_drew)); exact Kd.R_mono HO_257000.out (fun _ hk => hk.1)⟩, ⟨by (with_reducible repeat (first | apply Kd.R_alloc | apply Kd.R_drewN | apply Kd.R_drew)); exact Kd.R_mono HO_257001.out (fun _ hk => ⟨hk.1, ⟨(gives hk), ⟨(gives hk), ⟨(gives hk), (gives hk)⟩⟩⟩⟩)⟩, ⟨by (with_reducible repeat (first | apply blk_drewN | apply blk_drew | apply blk_alloc)); exact BK221.out⟩, ⟨by (with_reducible repeat (first | apply blk_drewN | apply blk_drew | apply blk_alloc)); exact BK222.out⟩, ⟨by (with_reducible repeat (first | apply blk_drewN | apply blk_drew | apply blk_alloc)); exact BK249.out⟩, ⟨by (with_reducible repeat (first | apply blk_drewN | apply blk_drew | apply blk_alloc)); exact BK256.out⟩, ⟨by repeat (first | (with_reducible first | exact HB.out | apply below_alloc | apply pw_below_drewN | apply below_drew1 | refine below_set ?_ GE221.out | refine below_set ?_ GE222.out | refine below_set ?_ GE249.out | refine below_set ?_ GE256.out) | exact HB.out)⟩⟩
         ·rw [if_neg c98] at H
          have c98b0 : decide (t282 < 0) = false := decide_eq_false c98
          clear c98
          (first | rw [c98b0] | (simp only [i64_w, i32_w]; rw [c98b0]) | skip)
          replace H := Option.bind_eq_some_iff.mp H
          obtain ⟨t285, A990, H⟩ := H
          replace H : (if t285 = true then ((laws_eqStringS.f kj24 t260 t240).bind fun t286 => (laws_FnExactDiffReports.j1 kj24 t237 t240 t257 t260 (!t286) l0_0 l0_1 l1_0 l1_1)) else (laws_FnExactDiffReports.j1 kj24 t237 t240 t257 t260 true l0_0 l0_1 l1_0 l1_1)) = some r := H
          have A99 := Aside0.mk A990
          clear A990
          by_cases c100 : t285 = true
          ·subst c100
           have H1 : ((laws_eqStringS.f kj24 t260 t240).bind fun t286 => (laws_FnExactDiffReports.j1 kj24 t237 t240 t257 t260 (!t286) l0_0 l0_1 l1_0 l1_1)) = some r := by rw [if_pos rfl] at H; exact H
           clear H
           have H := H1
           clear H1
           replace H := Option.bind_eq_some_iff.mp H
           obtain ⟨t286, A1010, H⟩ := H
           replace H : (laws_FnExactDiffReports.j1 kj24 t237 t240 t257 t260 (!t286) l0_0 l0_1 l1_0 l1_1) = some r := H
           have A101 := Aside0.mk A1010
           clear A1010
           have H' := Aside0.mk H
           clear H
           obtain ⟨Ao102, co102, eo102⟩ := Kd.R_slice HO_10.out
           subst eo102
           obtain ⟨Ao103, co103, eo103⟩ := Kd.R_slice HO_6.out
           subst eo103
           go_wp2_with (first | (go_at_call 30; (with_reducible refine (laws_eqStringS.calls kj24 _ _ t257 _ _ t237 true _ ?side1 ?side2 ?side3 ?side4 A99.out).mono ?_); (case side1 => repeat (first | exact (Kd.R_reads' HO_10.out).2.2 | (with_reducible refine Kd.C_alloc ?_ _) | (with_reducible refine Kd.C_drewN ?_ _) | (with_reducible refine Kd.C_drew ?_))); (case side2 => exact (Kd.R_reads' HO_10.out).2.1); (case side3 => repeat (first | exact (Kd.R_reads' HO_6.out).2.2 | (with_reducible refine Kd.C_alloc ?_ _) | (with_reducible refine Kd.C_drewN ?_ _) | (with_reducible refine Kd.C_drew ?_))); (case side4 => exact (Kd.R_reads' HO_6.out).2.1); rintro e w' ⟨rfl, ⟨nd, rfl⟩⟩; obtain ⟨Ao104, co104, eo104⟩ := Kd.R_slice HO_11.out; subst eo104; obtain ⟨Ao105, co105, eo105⟩ := Kd.R_slice HO_7.out; subst eo105) | (go_at_call 30; (with_reducible refine (laws_eqStringS.calls kj24 _ _ t260 _ _ t240 t286 _ ?side1 ?side2 ?side3 ?side4 A101.out).mono ?_); (case side1 => repeat (first | exact (Kd.R_reads' HO_11.out).2.2 | (with_reducible refine Kd.C_alloc ?_ _) | (with_reducible refine Kd.C_drewN ?_ _) | (with_reducible refine Kd.C_drew ?_))); (case side2 => exact (Kd.R_reads' HO_11.out).2.1); (case side3 => repeat (first | exact (Kd.R_reads' HO_7.out).2.2 | (with_reducible refine Kd.C_alloc ?_ _) | (with_reducible refine Kd.C_drewN ?_ _) | (with_reducible refine Kd.C_drew ?_))); (case side4 => exact (Kd.R_reads' HO_7.out).2.1); rintro e w' ⟨rfl, ⟨nd, rfl⟩⟩))
           go_meet
           case rel => exact ⟨_, (!t286), (by first | rfl | (simp; done) | (simp [*]; done)), H', ⟨by have := HJ24.out; first | omega | exact Nat.le_refl _⟩, ⟨by (with_reducible repeat (first | apply Kd.R_alloc | apply Kd.R_drewN | apply Kd.R_drew)); exact Kd.R_mono HO_6.out (fun _ hk => ⟨hk.1, ⟨(gives hk), ⟨(gives hk), ⟨(gives hk), (gives hk)⟩⟩⟩⟩)⟩, ⟨by (with_reducible repeat (first | apply Kd.R_alloc | apply Kd.R_drewN | apply Kd.R_drew)); exact Kd.R_mono HO_7.out (fun _ hk => ⟨hk.1, ⟨(gives hk), ⟨(gives hk), ⟨(gives hk), (gives hk)⟩⟩⟩⟩)⟩, ⟨by (with_reducible repeat (first | apply Kd.R_alloc | apply Kd.R_drewN | apply Kd.R_drew)); exact Kd.R_mono HO_10.out (fun _ hk => ⟨hk.1, ⟨(gives hk), ⟨(gives hk), ⟨(gives hk), (gives hk)⟩⟩⟩⟩)⟩, ⟨by (with_reducible repeat (first | apply Kd.R_alloc | apply Kd.R_drewN | apply Kd.R_drew)); exact Kd.R_mono HO_11.out (fun _ hk => ⟨hk.1, ⟨(gives hk), ⟨(gives hk), ⟨(gives hk), (gives hk)⟩⟩⟩⟩)⟩, ⟨by (with_reducible repeat (first | apply Kd.R_alloc | apply Kd.R_drewN | apply Kd.R_drew)); exact Kd.R_mono HO_250000.out (fun _ hk => hk.1)⟩, ⟨by (with_reducible repeat (first | apply Kd.R_alloc | apply Kd.R_drewN | apply Kd.R_drew)); exact Kd.R_mono HO_250001.out (fun _ hk => ⟨hk.1, ⟨(gives hk), ⟨(gives hk), ⟨(gives hk), (gives hk)⟩⟩⟩⟩)⟩, ⟨by (with_reducible repeat (first | apply Kd.R_alloc | apply Kd.R_drewN | apply Kd.R_drew)); exact Kd.R_mono HO_257000.out (fun _ hk => hk.1)⟩, ⟨by (with_reducible repeat (first | apply Kd.R_alloc | apply Kd.R_drewN | apply Kd.R_drew)); exact Kd.R_mono HO_257001.out (fun _ hk => ⟨hk.1, ⟨(gives hk), ⟨(gives hk), ⟨(gives hk), (gives hk)⟩⟩⟩⟩)⟩, ⟨by (with_reducible repeat (first | apply blk_drewN | apply blk_drew | apply blk_alloc)); exact BK221.out⟩, ⟨by (with_reducible repeat (first | apply blk_drewN | apply blk_drew | apply blk_alloc)); exact BK222.out⟩, ⟨by (with_reducible repeat (first | apply blk_drewN | apply blk_drew | apply blk_alloc)); exact BK249.out⟩, ⟨by (with_reducible repeat (first | apply blk_drewN | apply blk_drew | apply blk_alloc)); exact BK256.out⟩, ⟨by repeat (first | (with_reducible first | exact HB.out | apply below_alloc | apply pw_below_drewN | apply below_drew1 | refine below_set ?_ GE221.out | refine below_set ?_ GE222.out | refine below_set ?_ GE249.out | refine below_set ?_ GE256.out) | exact HB.out)⟩⟩
          ·replace c100 := Bool.eq_false_iff.mpr c100
           subst c100
           have H1 : (laws_FnExactDiffReports.j1 kj24 t237 t240 t257 t260 true l0_0 l0_1 l1_0 l1_1) = some r := by rw [if_neg (show ¬ (false = true) by decide)] at H; exact H
           clear H
           have H := H1
           clear H1
           have H' := Aside0.mk H
           clear H
           obtain ⟨Ao106, co106, eo106⟩ := Kd.R_slice HO_10.out
           subst eo106
           obtain ⟨Ao107, co107, eo107⟩ := Kd.R_slice HO_6.out
           subst eo107
           go_wp2_with (first | (go_at_call 30; (with_reducible refine (laws_eqStringS.calls kj24 _ _ t257 _ _ t237 false _ ?side1 ?side2 ?side3 ?side4 A99.out).mono ?_); (case side1 => repeat (first | exact (Kd.R_reads' HO_10.out).2.2 | (with_reducible refine Kd.C_alloc ?_ _) | (with_reducible refine Kd.C_drewN ?_ _) | (with_reducible refine Kd.C_drew ?_))); (case side2 => exact (Kd.R_reads' HO_10.out).2.1); (case side3 => repeat (first | exact (Kd.R_reads' HO_6.out).2.2 | (with_reducible refine Kd.C_alloc ?_ _) | (with_reducible refine Kd.C_drewN ?_ _) | (with_reducible refine Kd.C_drew ?_))); (case side4 => exact (Kd.R_reads' HO_6.out).2.1); rintro e w' ⟨rfl, ⟨nd, rfl⟩⟩))
           go_meet
           case rel => exact ⟨_, (true), (by first | rfl | (simp; done) | (simp [*]; done)), H', ⟨by have := HJ24.out; first | omega | exact Nat.le_refl _⟩, ⟨by (with_reducible repeat (first | apply Kd.R_alloc | apply Kd.R_drewN | apply Kd.R_drew)); exact Kd.R_mono HO_6.out (fun _ hk => ⟨hk.1, ⟨(gives hk), ⟨(gives hk), ⟨(gives hk), (gives hk)⟩⟩⟩⟩)⟩, ⟨by (with_reducible repeat (first | apply Kd.R_alloc | apply Kd.R_drewN | apply Kd.R_drew)); exact Kd.R_mono HO_7.out (fun _ hk => ⟨hk.1, ⟨(gives hk), ⟨(gives hk), ⟨(gives hk), (gives hk)⟩⟩⟩⟩)⟩, ⟨by (with_reducible repeat (first | apply Kd.R_alloc | apply Kd.R_drewN | apply Kd.R_drew)); exact Kd.R_mono HO_10.out (fun _ hk => ⟨hk.1, ⟨(gives hk), ⟨(gives hk), ⟨(gives hk), (gives hk)⟩⟩⟩⟩)⟩, ⟨by (with_reducible repeat (first | apply Kd.R_alloc | apply Kd.R_drewN | apply Kd.R_drew)); exact Kd.R_mono HO_11.out (fun _ hk => ⟨hk.1, ⟨(gives hk), ⟨(gives hk), ⟨(gives hk), (gives hk)⟩⟩⟩⟩)⟩, ⟨by (with_reducible repeat (first | apply Kd.R_alloc | apply Kd.R_drewN | apply Kd.R_drew)); exact Kd.R_mono HO_250000.out (fun _ hk => hk.1)⟩, ⟨by (with_reducible repeat (first | apply Kd.R_alloc | apply Kd.R_drewN | apply Kd.R_drew)); exact Kd.R_mono HO_250001.out (fun _ hk => ⟨hk.1, ⟨(gives hk), ⟨(gives hk), ⟨(gives hk), (gives hk)⟩⟩⟩⟩)⟩, ⟨by (with_reducible repeat (first | apply Kd.R_alloc | apply Kd.R_drewN | apply Kd.R_drew)); exact Kd.R_mono HO_257000.out (fun _ hk => hk.1)⟩, ⟨by (with_reducible repeat (first | apply Kd.R_alloc | apply Kd.R_drewN | apply Kd.R_drew)); exact Kd.R_mono HO_257001.out (fun _ hk => ⟨hk.1, ⟨(gives hk), ⟨(gives hk), ⟨(gives hk), (gives hk)⟩⟩⟩⟩)⟩, ⟨by (with_reducible repeat (first | apply blk_drewN | apply blk_drew | apply blk_alloc)); exact BK221.out⟩, ⟨by (with_reducible repeat (first | apply blk_drewN | apply blk_drew | apply blk_alloc)); exact BK222.out⟩, ⟨by (with_reducible repeat (first | apply blk_drewN | apply blk_drew | apply blk_alloc)); exact BK249.out⟩, ⟨by (with_reducible repeat (first | apply blk_drewN | apply blk_drew | apply blk_alloc)); exact BK256.out⟩, ⟨by repeat (first | (with_reducible first | exact HB.out | apply below_alloc | apply pw_below_drewN | apply below_drew1 | refine below_set ?_ GE221.out | refine below_set ?_ GE222.out | refine below_set ?_ GE249.out | refine below_set ?_ GE256.out) | exact HB.out)⟩⟩
        case rest =>
         clear HC78
         try clear c1
         try clear c2
         try clear p2
         try clear c3
         try clear c6
         try clear c7
         try clear c8
         try clear c9
         try clear c10
         try clear c25
         try clear c26
         try clear c31
         try clear c69
         try clear c72
         try clear c75
         try clear c89
         try clear c90
         try clear c91
         try clear c94
         try clear c95
         try clear c98
         try clear c98b0
         try clear c100
         try clear hcz47_0
         try clear hcz47_1
         try clear hcz49_0
         try clear hcz49_1
         try clear hcz56_0
         try clear hcz56_1
         try clear hcz58_0
         try clear hcz58_1
         try clear hcz8_0
         try clear hcz8_1
         try clear hcz92_0
         try clear hcz92_1
         try clear hcz96_0
         try clear hcz96_1
         try clear hfz15_0
         try clear hfz15_1
         try clear hfz17_0
         try clear hfz17_1
         try clear hfz29_0
         try clear hfz29_1
         try clear hfz31_0
         try clear hfz31_1
         try clear hfz41_0
         try clear hfz41_1
         try clear hfz47_0
         try clear hfz47_1
         try clear hfz49_0
         try clear hfz49_1
         try clear hfz56_0
         try clear hfz56_1
         try clear hfz58_0
         try clear hfz58_1
         try clear hfz8_0
         try clear hfz8_1
         try clear hfz92_0
         try clear hfz92_1
         try clear hfz96_0
         try clear hfz96_1
         obtain ⟨kq, x84_77, rfl, HA, HJ77, HO_6, HO_7, HO_10, HO_11, HO_250000, HO_250001, HO_257000, HO_257001, BK221, BK222, BK249, BK256, HB⟩ := hcut
         have hl250000_77 := (Kd.R_reads' HO_250000.out).1
         rw [hl250000_77] at HO_250000
         (try simp only [hl250000_77])
         (try simp only [hl250000_77] at BK221)
         (try simp only [hl250000_77] at BK222)
         (try simp only [hl250000_77] at BK249)
         (try simp only [hl250000_77] at BK256)
         (try simp only [hl250000_77] at HO_6)
         (try simp only [hl250000_77] at HO_7)
         (try simp only [hl250000_77] at HO_10)
         (try simp only [hl250000_77] at HO_11)
         (try simp only [hl250000_77] at HO_250001)
         (try simp only [hl250000_77] at HO_257000)
         (try simp only [hl250000_77] at HO_257001)
         have hl250001_77 := (Kd.R_reads' HO_250001.out).1
         rw [hl250001_77] at HO_250001
         (try simp only [hl250001_77])
         (try simp only [hl250001_77] at BK221)
         (try simp only [hl250001_77] at BK222)
         (try simp only [hl250001_77] at BK249)
         (try simp only [hl250001_77] at BK256)
         (try simp only [hl250001_77] at HO_6)
         (try simp only [hl250001_77] at HO_7)
         (try simp only [hl250001_77] at HO_10)
         (try simp only [hl250001_77] at HO_11)
         (try simp only [hl250001_77] at HO_250000)
         (try simp only [hl250001_77] at HO_257000)
         (try simp only [hl250001_77] at HO_257001)
         have hl257000_77 := (Kd.R_reads' HO_257000.out).1
         rw [hl257000_77] at HO_257000
         (try simp only [hl257000_77])
         (try simp only [hl257000_77] at BK221)
         (try simp only [hl257000_77] at BK222)
         (try simp only [hl257000_77] at BK249)
         (try simp only [hl257000_77] at BK256)
         (try simp only [hl257000_77] at HO_6)
         (try simp only [hl257000_77] at HO_7)
         (try simp only [hl257000_77] at HO_10)
         (try simp only [hl257000_77] at HO_11)
         (try simp only [hl257000_77] at HO_250000)
         (try simp only [hl257000_77] at HO_250001)
         (try simp only [hl257000_77] at HO_257001)
         have hl257001_77 := (Kd.R_reads' HO_257001.out).1
         rw [hl257001_77] at HO_257001
         (try simp only [hl257001_77])
         (try simp only [hl257001_77] at BK221)
         (try simp only [hl257001_77] at BK222)
         (try simp only [hl257001_77] at BK249)
         (try simp only [hl257001_77] at BK256)
         (try simp only [hl257001_77] at HO_6)
         (try simp only [hl257001_77] at HO_7)
         (try simp only [hl257001_77] at HO_10)
         (try simp only [hl257001_77] at HO_11)
         (try simp only [hl257001_77] at HO_250000)
         (try simp only [hl257001_77] at HO_250001)
         (try simp only [hl257001_77] at HO_257000)
         cases kq with
         | zero => exact absurd HA.out (by simp [laws_FnExactDiffReports.j1])
         | succ kj77 =>
          have H := HA.out
          clear HA
          simp only [laws_FnExactDiffReports.j1] at H
          by_cases c108 : x84_77 = true
          ·subst c108
           have H1 : (none) = some r := by rw [if_pos rfl] at H; exact H
           clear H
           have H := H1
           clear H1
           exact absurd H (by simp)
          ·replace c108 := Bool.eq_false_iff.mpr c108
           subst c108
           have H1 : ((laws_markStringS.f kj77 t257 1).bind fun bt287 => ((laws_markStringS.f kj77 t260 bt287.1).bind fun bt289 => ((laws_heldStringS.f kj77 bt287.2 1).bind fun t291 => (if t291 < 0 then (none) else ((laws_heldStringS.f kj77 bt289.2 t291).bind fun t292 => (if t292 < 0 then (none) else (if t292 = bt289.1 then ((laws_toReport.f kj77 l0_0 l0_1).bind fun bt293 => ((laws_toReport.f kj77 l1_0 l1_1).bind fun bt299 => ((impl_DiffReports.f kj77 bt293.1 bt293.2 bt299.1 bt299.2).bind fun bt305 => ((laws_eqStringS.f kj77 bt305.1 t237).bind fun t311 => (if t311 = true then ((laws_eqStringS.f kj77 bt305.2 t240).bind fun t312 => (laws_FnExactDiffReports.j2 kj77 bt287.2 bt289.2 bt289.1 (!t312))) else (laws_FnExactDiffReports.j2 kj77 bt287.2 bt289.2 bt289.1 true)))))) else (none)))))))) = some r := by rw [if_neg (show ¬ (false = true) by decide)] at H; exact H
           clear H
           have H := H1
           clear H1
           replace H := Option.bind_eq_some_iff.mp H
           obtain ⟨⟨t287, t288⟩, A1090, H⟩ := H
           replace H : ((laws_markStringS.f kj77 t260 t287).bind fun bt289 => ((laws_heldStringS.f kj77 t288 1).bind fun t291 => (if t291 < 0 then (none) else ((laws_heldStringS.f kj77 bt289.2 t291).bind fun t292 => (if t292 < 0 then (none) else (if t292 = bt289.1 then ((laws_toReport.f kj77 l0_0 l0_1).bind fun bt293 => ((laws_toReport.f kj77 l1_0 l1_1).bind fun bt299 => ((impl_DiffReports.f kj77 bt293.1 bt293.2 bt299.1 bt299.2).bind fun bt305 => ((laws_eqStringS.f kj77 bt305.1 t237).bind fun t311 => (if t311 = true then ((laws_eqStringS.f kj77 bt305.2 t240).bind fun t312 => (laws_FnExactDiffReports.j2 kj77 t288 bt289.2 bt289.1 (!t312))) else (laws_FnExactDiffReports.j2 kj77 t288 bt289.2 bt289.1 true)))))) else (none))))))) = some r := H
           have A109 := Aside0.mk A1090
           clear A1090
           replace H := Option.bind_eq_some_iff.mp H
           obtain ⟨⟨t289, t290⟩, A1100, H⟩ := H
           replace H : ((laws_heldStringS.f kj77 t288 1).bind fun t291 => (if t291 < 0 then (none) else ((laws_heldStringS.f kj77 t290 t291).bind fun t292 => (if t292 < 0 then (none) else (if t292 = t289 then ((laws_toReport.f kj77 l0_0 l0_1).bind fun bt293 => ((laws_toReport.f kj77 l1_0 l1_1).bind fun bt299 => ((impl_DiffReports.f kj77 bt293.1 bt293.2 bt299.1 bt299.2).bind fun bt305 => ((laws_eqStringS.f kj77 bt305.1 t237).bind fun t311 => (if t311 = true then ((laws_eqStringS.f kj77 bt305.2 t240).bind fun t312 => (laws_FnExactDiffReports.j2 kj77 t288 t290 t289 (!t312))) else (laws_FnExactDiffReports.j2 kj77 t288 t290 t289 true)))))) else (none)))))) = some r := H
           have A110 := Aside0.mk A1100
           clear A1100
           replace H := Option.bind_eq_some_iff.mp H
           obtain ⟨t291, A1110, H⟩ := H
           replace H : (if t291 < 0 then (none) else ((laws_heldStringS.f kj77 t290 t291).bind fun t292 => (if t292 < 0 then (none) else (if t292 = t289 then ((laws_toReport.f kj77 l0_0 l0_1).bind fun bt293 => ((laws_toReport.f kj77 l1_0 l1_1).bind fun bt299 => ((impl_DiffReports.f kj77 bt293.1 bt293.2 bt299.1 bt299.2).bind fun bt305 => ((laws_eqStringS.f kj77 bt305.1 t237).bind fun t311 => (if t311 = true then ((laws_eqStringS.f kj77 bt305.2 t240).bind fun t312 => (laws_FnExactDiffReports.j2 kj77 t288 t290 t289 (!t312))) else (laws_FnExactDiffReports.j2 kj77 t288 t290 t289 true)))))) else (none))))) = some r := H
           have A111 := Aside0.mk A1110
           clear A1110
           by_cases c112 : t291 < 0
           ·rw [if_pos c112] at H
            exact absurd H (by simp)
           ·rw [if_neg c112] at H
            have c112b0 : decide (t291 < 0) = false := decide_eq_false c112
            clear c112
            replace H := Option.bind_eq_some_iff.mp H
            obtain ⟨t292, A1130, H⟩ := H
            replace H : (if t292 < 0 then (none) else (if t292 = t289 then ((laws_toReport.f kj77 l0_0 l0_1).bind fun bt293 => ((laws_toReport.f kj77 l1_0 l1_1).bind fun bt299 => ((impl_DiffReports.f kj77 bt293.1 bt293.2 bt299.1 bt299.2).bind fun bt305 => ((laws_eqStringS.f kj77 bt305.1 t237).bind fun t311 => (if t311 = true then ((laws_eqStringS.f kj77 bt305.2 t240).bind fun t312 => (laws_FnExactDiffReports.j2 kj77 t288 t290 t289 (!t312))) else (laws_FnExactDiffReports.j2 kj77 t288 t290 t289 true)))))) else (none))) = some r := H
            have A113 := Aside0.mk A1130
            clear A1130
            by_cases c114 : t292 < 0
            ·rw [if_pos c114] at H
             exact absurd H (by simp)
            ·rw [if_neg c114] at H
             have c114b0 : decide (t292 < 0) = false := decide_eq_false c114
             clear c114
             by_cases c115 : t292 = t289
             ·rw [if_pos c115] at H
              have c115b0 : (t292 == t289) = true := beq_iff_eq.mpr c115
              have c115b1 : (t292 != t289) = false := bne_eq_false_iff_eq.mpr c115
              clear c115
              replace H := Option.bind_eq_some_iff.mp H
              obtain ⟨⟨t293, t296⟩, A1160, H⟩ := H
              replace H : ((laws_toReport.f kj77 l1_0 l1_1).bind fun bt299 => ((impl_DiffReports.f kj77 t293 t296 bt299.1 bt299.2).bind fun bt305 => ((laws_eqStringS.f kj77 bt305.1 t237).bind fun t311 => (if t311 = true then ((laws_eqStringS.f kj77 bt305.2 t240).bind fun t312 => (laws_FnExactDiffReports.j2 kj77 t288 t290 t289 (!t312))) else (laws_FnExactDiffReports.j2 kj77 t288 t290 t289 true))))) = some r := H
              have A116 := Aside0.mk A1160
              clear A1160
              replace H := Option.bind_eq_some_iff.mp H
              obtain ⟨⟨t299, t302⟩, A1170, H⟩ := H
              replace H : ((impl_DiffReports.f kj77 t293 t296 t299 t302).bind fun bt305 => ((laws_eqStringS.f kj77 bt305.1 t237).bind fun t311 => (if t311 = true then ((laws_eqStringS.f kj77 bt305.2 t240).bind fun t312 => (laws_FnExactDiffReports.j2 kj77 t288 t290 t289 (!t312))) else (laws_FnExactDiffReports.j2 kj77 t288 t290 t289 true)))) = some r := H
              have A117 := Aside0.mk A1170
              clear A1170
              replace H := Option.bind_eq_some_iff.mp H
              obtain ⟨⟨t305, t308⟩, A1180, H⟩ := H
              replace H : ((laws_eqStringS.f kj77 t305 t237).bind fun t311 => (if t311 = true then ((laws_eqStringS.f kj77 t308 t240).bind fun t312 => (laws_FnExactDiffReports.j2 kj77 t288 t290 t289 (!t312))) else (laws_FnExactDiffReports.j2 kj77 t288 t290 t289 true))) = some r := H
              have A118 := Aside0.mk A1180
              clear A1180
              have HC119 := Aside0.mk H
              clear H
              obtain ⟨Ao120, co120, eo120⟩ := Kd.R_slice HO_10.out
              subst eo120
              try go_wp2_with (first | ((with_reducible refine gate_callee (f := 32) rfl ?_); refine goesL_ (some 87) rfl rfl Try.func32 (by kernel_rfl) rfl #[.slice Ao120 t257.length co120, .int .i64 1] rfl (by (try simp only [List.map_toArray, List.map_cons, List.map_nil]); first | done | rfl | (simp only [List.length_drop, List.length_take]; rfl)) ?_; (with_reducible refine (laws_markStringS.calls kj77 (fun k_ => some k_ = (.slice Ao120 t257.length co120 : Value).ownBlock) (.slice Ao120 t257.length co120) t257 1 t287 t288 w _ ?side1 ?side2 A109.out).mono ?_); (case side1 => repeat (first | (with_reducible first | exact HB.out | apply below_alloc | apply pw_below_drewN | apply below_drew1 | refine below_set ?_ GE221.out | refine below_set ?_ GE222.out | refine below_set ?_ GE249.out | refine below_set ?_ GE256.out) | exact HB.out)); (case side2 => exact Kd.R_tight rfl HO_10.out); rintro e w121 ⟨rfl, hy0, hb, hkp⟩; refine ⟨_, rfl, ?_⟩; have n0_ := Aside0.mk (Kd.R_mono (ok' := fun k_ => some k_ ≠ (v241 : Value).ownBlock ∧ some k_ ≠ (.slice Ao120 t257.length co120 : Value).ownBlock ∧ some k_ ≠ (v261 : Value).ownBlock ∧ some k_ ≠ (.slice Ao48 t281.length co48 : Value).ownBlock ∧ some k_ ≠ (.slice Ao57 t284.length co57 : Value).ownBlock) (Kd.R_keptB (HO_6.out) hkp (fun k_ hk_ hs_ => refute hk_ hs_)) (fun k_ hk_ => ⟨(gives hk_), (gives hk_), (gives hk_), (gives hk_), (gives hk_)⟩)); have n1_ := Aside0.mk (Kd.R_mono (ok' := fun k_ => some k_ ≠ (v238 : Value).ownBlock ∧ some k_ ≠ (.slice Ao120 t257.length co120 : Value).ownBlock ∧ some k_ ≠ (v261 : Value).ownBlock ∧ some k_ ≠ (.slice Ao48 t281.length co48 : Value).ownBlock ∧ some k_ ≠ (.slice Ao57 t284.length co57 : Value).ownBlock) (Kd.R_keptB (HO_7.out) hkp (fun k_ hk_ hs_ => refute hk_ hs_)) (fun k_ hk_ => ⟨(gives hk_), (gives hk_), (gives hk_), (gives hk_), (gives hk_)⟩)); have n2_ := Aside0.mk (Kd.R_reok rfl hy0 (fun k_ e_ => HO_10.out.1 k_ e_)); have n3_ := Aside0.mk (Kd.R_mono (ok' := fun k_ => some k_ ≠ (v238 : Value).ownBlock ∧ some k_ ≠ (v241 : Value).ownBlock ∧ some k_ ≠ (.slice Ao120 t257.length co120 : Value).ownBlock ∧ some k_ ≠ (.slice Ao48 t281.length co48 : Value).ownBlock ∧ some k_ ≠ (.slice Ao57 t284.length co57 : Value).ownBlock) (Kd.R_keptB (HO_11.out) hkp (fun k_ hk_ hs_ => refute hk_ hs_)) (fun k_ hk_ => ⟨(gives hk_), (gives hk_), (gives hk_), (gives hk_), (gives hk_)⟩)); have n4_ := Aside0.mk (Kd.R_mono (ok' := fun k_ => some k_ ≠ (.slice Ao52 t283.length co52 : Value).ownBlock) (Kd.R_keptB ((Kd.R_apart' HO_250000.out (Kd.R_typed HO_10.out) (by decide))) hkp (fun k_ hk_ hs_ => (hk_.2) hs_)) (fun k_ hk_ => (gives hk_))); have n5_ := Aside0.mk (Kd.R_mono (ok' := fun k_ => some k_ ≠ (v238 : Value).ownBlock ∧ some k_ ≠ (v241 : Value).ownBlock ∧ some k_ ≠ (.slice Ao120 t257.length co120 : Value).ownBlock ∧ some k_ ≠ (v261 : Value).ownBlock ∧ some k_ ≠ (.slice Ao57 t284.length co57 : Value).ownBlock) (Kd.R_keptB (HO_250001.out) hkp (fun k_ hk_ hs_ => refute hk_ hs_)) (fun k_ hk_ => ⟨(gives hk_), (gives hk_), (gives hk_), (gives hk_), (gives hk_)⟩)); have n6_ := Aside0.mk (Kd.R_mono (ok' := fun k_ => some k_ ≠ (.slice Ao44 t280.length co44 : Value).ownBlock) (Kd.R_keptB ((Kd.R_apart' HO_257000.out (Kd.R_typed HO_10.out) (by decide))) hkp (fun k_ hk_ hs_ => (hk_.2) hs_)) (fun k_ hk_ => (gives hk_))); have n7_ := Aside0.mk (Kd.R_mono (ok' := fun k_ => some k_ ≠ (v238 : Value).ownBlock ∧ some k_ ≠ (v241 : Value).ownBlock ∧ some k_ ≠ (.slice Ao120 t257.length co120 : Value).ownBlock ∧ some k_ ≠ (v261 : Value).ownBlock ∧ some k_ ≠ (.slice Ao48 t281.length co48 : Value).ownBlock) (Kd.R_keptB (HO_257001.out) hkp (fun k_ hk_ hs_ => refute hk_ hs_)) (fun k_ hk_ => ⟨(gives hk_), (gives hk_), (gives hk_), (gives hk_), (gives hk_)⟩)); have n8_ := Aside0.mk (blk_kept (by (with_reducible repeat (first | apply blk_drewN | apply blk_drew | apply blk_alloc)); exact BK221.out) hkp (fun hs_ => (fun e_ => (Kd.R_ne HO_10.out BK221.out (by decide)) e_) hs_)); have n9_ := Aside0.mk (blk_kept (by (with_reducible repeat (first | apply blk_drewN | apply blk_drew | apply blk_alloc)); exact BK222.out) hkp (fun hs_ => (fun e_ => (Kd.R_ne HO_10.out BK222.out (by decide)) e_) hs_)); have n10_ := Aside0.mk (blk_kept (by (with_reducible repeat (first | apply blk_drewN | apply blk_drew | apply blk_alloc)); exact BK249.out) hkp (fun hs_ => (fun e_ => (Kd.R_ne HO_10.out BK249.out (by decide)) e_) hs_)); have n11_ := Aside0.mk (blk_kept (by (with_reducible repeat (first | apply blk_drewN | apply blk_drew | apply blk_alloc)); exact BK256.out) hkp (fun hs_ => (fun e_ => (Kd.R_ne HO_10.out BK256.out (by decide)) e_) hs_)); have n12_ := Aside0.mk (hb); clear HO_6; clear HO_7; clear HO_10; clear HO_11; clear HO_250000; clear HO_250001; clear HO_257000; clear HO_257001; clear BK221; clear BK222; clear BK249; clear BK256; clear HB; have HO_6 := n0_; have HO_7 := n1_; have HO_10 := n2_; have HO_11 := n3_; have HO_250000 := n4_; have HO_250001 := n5_; have HO_257000 := n6_; have HO_257001 := n7_; have BK221 := n8_; have BK222 := n9_; have BK249 := n10_; have BK256 := n11_; have HB := n12_; clear n0_ n1_ n2_ n3_ n4_ n5_ n6_ n7_ n8_ n9_ n10_ n11_ n12_; (try clear hb); (try clear hkp); (try clear hy0); obtain ⟨Ao122, co122, eo122⟩ := Kd.R_slice HO_11.out; subst eo122) | ((with_reducible refine gate_callee (f := 32) rfl ?_); refine goesL_ (some 90) rfl rfl Try.func32 (by kernel_rfl) rfl #[.slice Ao122 t260.length co122, .int .i64 t287] rfl (by (try simp only [List.map_toArray, List.map_cons, List.map_nil]); first | done | rfl | (simp only [List.length_drop, List.length_take]; rfl)) ?_; (with_reducible refine (laws_markStringS.calls kj77 (fun k_ => some k_ = (.slice Ao122 t260.length co122 : Value).ownBlock) (.slice Ao122 t260.length co122) t260 t287 t289 t290 w _ ?side1 ?side2 A110.out).mono ?_); (case side1 => repeat (first | (with_reducible first | exact HB.out | apply below_alloc | apply pw_below_drewN | apply below_drew1 | refine below_set ?_ GE221.out | refine below_set ?_ GE222.out | refine below_set ?_ GE249.out | refine below_set ?_ GE256.out) | exact HB.out)); (case side2 => exact Kd.R_tight rfl HO_11.out); rintro e w123 ⟨rfl, hy0, hb, hkp⟩; refine ⟨_, rfl, ?_⟩; have n0_ := Aside0.mk (Kd.R_mono (ok' := fun k_ => some k_ ≠ (v241 : Value).ownBlock ∧ some k_ ≠ (.slice Ao120 t257.length co120 : Value).ownBlock ∧ some k_ ≠ (.slice Ao122 t260.length co122 : Value).ownBlock ∧ some k_ ≠ (.slice Ao48 t281.length co48 : Value).ownBlock ∧ some k_ ≠ (.slice Ao57 t284.length co57 : Value).ownBlock) (Kd.R_keptB (HO_6.out) hkp (fun k_ hk_ hs_ => refute hk_ hs_)) (fun k_ hk_ => ⟨(gives hk_), (gives hk_), (gives hk_), (gives hk_), (gives hk_)⟩)); have n1_ := Aside0.mk (Kd.R_mono (ok' := fun k_ => some k_ ≠ (v238 : Value).ownBlock ∧ some k_ ≠ (.slice Ao120 t257.length co120 : Value).ownBlock ∧ some k_ ≠ (.slice Ao122 t260.length co122 : Value).ownBlock ∧ some k_ ≠ (.slice Ao48 t281.length co48 : Value).ownBlock ∧ some k_ ≠ (.slice Ao57 t284.length co57 : Value).ownBlock) (Kd.R_keptB (HO_7.out) hkp (fun k_ hk_ hs_ => refute hk_ hs_)) (fun k_ hk_ => ⟨(gives hk_), (gives hk_), (gives hk_), (gives hk_), (gives hk_)⟩)); have n2_ := Aside0.mk (Kd.R_mono (ok' := fun k_ => some k_ ≠ (v238 : Value).ownBlock ∧ some k_ ≠ (v241 : Value).ownBlock ∧ some k_ ≠ (.slice Ao122 t260.length co122 : Value).ownBlock ∧ some k_ ≠ (.slice Ao48 t281.length co48 : Value).ownBlock ∧ some k_ ≠ (.slice Ao57 t284.length co57 : Value).ownBlock) (Kd.R_keptB (HO_10.out) hkp (fun k_ hk_ hs_ => refute hk_ hs_)) (fun k_ hk_ => ⟨(gives hk_), (gives hk_), (gives hk_), (gives hk_), (gives hk_)⟩)); have n3_ := Aside0.mk (Kd.R_reok rfl hy0 (fun k_ e_ => HO_11.out.1 k_ e_)); have n4_ := Aside0.mk (Kd.R_mono (ok' := fun k_ => some k_ ≠ (.slice Ao52 t283.length co52 : Value).ownBlock) (Kd.R_keptB ((Kd.R_apart' HO_250000.out (Kd.R_typed HO_11.out) (by decide))) hkp (fun k_ hk_ hs_ => (hk_.2) hs_)) (fun k_ hk_ => (gives hk_))); have n5_ := Aside0.mk (Kd.R_mono (ok' := fun k_ => some k_ ≠ (v238 : Value).ownBlock ∧ some k_ ≠ (v241 : Value).ownBlock ∧ some k_ ≠ (.slice Ao120 t257.length co120 : Value).ownBlock ∧ some k_ ≠ (.slice Ao122 t260.length co122 : Value).ownBlock ∧ some k_ ≠ (.slice Ao57 t284.length co57 : Value).ownBlock) (Kd.R_keptB (HO_250001.out) hkp (fun k_ hk_ hs_ => refute hk_ hs_)) (fun k_ hk_ => ⟨(gives hk_), (gives hk_), (gives hk_), (gives hk_), (gives hk_)⟩)); have n6_ := Aside0.mk (Kd.R_mono (ok' := fun k_ => some k_ ≠ (.slice Ao44 t280.length co44 : Value).ownBlock) (Kd.R_keptB ((Kd.R_apart' HO_257000.out (Kd.R_typed HO_11.out) (by decide))) hkp (fun k_ hk_ hs_ => (hk_.2) hs_)) (fun k_ hk_ => (gives hk_))); have n7_ := Aside0.mk (Kd.R_mono (ok' := fun k_ => some k_ ≠ (v238 : Value).ownBlock ∧ some k_ ≠ (v241 : Value).ownBlock ∧ some k_ ≠ (.slice Ao120 t257.length co120 : Value).ownBlock ∧ some k_ ≠ (.slice Ao122 t260.length co122 : Value).ownBlock ∧ some k_ ≠ (.slice Ao48 t281.length co48 : Value).ownBlock) (Kd.R_keptB (HO_257001.out) hkp (fun k_ hk_ hs_ => refute hk_ hs_)) (fun k_ hk_ => ⟨(gives hk_), (gives hk_), (gives hk_), (gives hk_), (gives hk_)⟩)); have n8_ := Aside0.mk (blk_kept (by (with_reducible repeat (first | apply blk_drewN | apply blk_drew | apply blk_alloc)); exact BK221.out) hkp (fun hs_ => (fun e_ => (Kd.R_ne HO_11.out BK221.out (by decide)) e_) hs_)); have n9_ := Aside0.mk (blk_kept (by (with_reducible repeat (first | apply blk_drewN | apply blk_drew | apply blk_alloc)); exact BK222.out) hkp (fun hs_ => (fun e_ => (Kd.R_ne HO_11.out BK222.out (by decide)) e_) hs_)); have n10_ := Aside0.mk (blk_kept (by (with_reducible repeat (first | apply blk_drewN | apply blk_drew | apply blk_alloc)); exact BK249.out) hkp (fun hs_ => (fun e_ => (Kd.R_ne HO_11.out BK249.out (by decide)) e_) hs_)); have n11_ := Aside0.mk (blk_kept (by (with_reducible repeat (first | apply blk_drewN | apply blk_drew | apply blk_alloc)); exact BK256.out) hkp (fun hs_ => (fun e_ => (Kd.R_ne HO_11.out BK256.out (by decide)) e_) hs_)); have n12_ := Aside0.mk (hb); clear HO_6; clear HO_7; clear HO_10; clear HO_11; clear HO_250000; clear HO_250001; clear HO_257000; clear HO_257001; clear BK221; clear BK222; clear BK249; clear BK256; clear HB; have HO_6 := n0_; have HO_7 := n1_; have HO_10 := n2_; have HO_11 := n3_; have HO_250000 := n4_; have HO_250001 := n5_; have HO_257000 := n6_; have HO_257001 := n7_; have BK221 := n8_; have BK222 := n9_; have BK249 := n10_; have BK256 := n11_; have HB := n12_; clear n0_ n1_ n2_ n3_ n4_ n5_ n6_ n7_ n8_ n9_ n10_ n11_ n12_; (try clear hb); (try clear hkp); (try clear hy0)) | ((with_reducible refine gate_callee (f := 33) rfl ?_); refine goesL_ (some 93) rfl rfl Try.func33 (by kernel_rfl) rfl #[.slice Ao120 t288.length co120, .int .i64 1] rfl (by (try simp only [List.map_toArray, List.map_cons, List.map_nil]); first | done | (rw [show t288.length = t257.length from (Kd.R_reads' HO_10.out).1.symm] <;> rfl) | rfl | (simp only [List.length_drop, List.length_take]; rfl)) ?_; (with_reducible refine (laws_heldStringS.calls kj77 _ _ t288 1 t291 _ ?side1 ?side2 A111.out).mono ?_); (case side1 => repeat (first | exact (Kd.R_reads' HO_10.out).2.2 | (with_reducible refine Kd.C_alloc ?_ _) | (with_reducible refine Kd.C_drewN ?_ _) | (with_reducible refine Kd.C_drew ?_))); (case side2 => rw [show t288.length = t257.length from (Kd.R_reads' HO_10.out).1.symm]; exact (Kd.R_reads' HO_10.out).2.1); rintro e w124 ⟨rfl, hb⟩; refine ⟨_, rfl, ?_⟩; have n0_ := Aside0.mk (Kd.R_below (by (with_reducible repeat (first | apply Kd.R_alloc | apply Kd.R_drewN | apply Kd.R_drew)); exact HO_6.out) hb); have n1_ := Aside0.mk (Kd.R_below (by (with_reducible repeat (first | apply Kd.R_alloc | apply Kd.R_drewN | apply Kd.R_drew)); exact HO_7.out) hb); have n2_ := Aside0.mk (Kd.R_below (by (with_reducible repeat (first | apply Kd.R_alloc | apply Kd.R_drewN | apply Kd.R_drew)); exact HO_10.out) hb); have n3_ := Aside0.mk (Kd.R_below (by (with_reducible repeat (first | apply Kd.R_alloc | apply Kd.R_drewN | apply Kd.R_drew)); exact HO_11.out) hb); have n4_ := Aside0.mk (Kd.R_below (by (with_reducible repeat (first | apply Kd.R_alloc | apply Kd.R_drewN | apply Kd.R_drew)); exact HO_250000.out) hb); have n5_ := Aside0.mk (Kd.R_below (by (with_reducible repeat (first | apply Kd.R_alloc | apply Kd.R_drewN | apply Kd.R_drew)); exact HO_250001.out) hb); have n6_ := Aside0.mk (Kd.R_below (by (with_reducible repeat (first | apply Kd.R_alloc | apply Kd.R_drewN | apply Kd.R_drew)); exact HO_257000.out) hb); have n7_ := Aside0.mk (Kd.R_below (by (with_reducible repeat (first | apply Kd.R_alloc | apply Kd.R_drewN | apply Kd.R_drew)); exact HO_257001.out) hb); have n8_ := Aside0.mk (blk_below (g := gb221) (o := .cells #[.slice A0_0 l0_0.length c0_0, .slice A0_1 l0_1.length c0_1] 41 (0, 0)) (by (with_reducible repeat (first | apply blk_drewN | apply blk_drew | apply blk_alloc)); exact BK221.out) hb); have n9_ := Aside0.mk (blk_below (g := gb222) (o := .cells #[.slice A1_0 l1_0.length c1_0, .slice A1_1 l1_1.length c1_1] 41 (0, 0)) (by (with_reducible repeat (first | apply blk_drewN | apply blk_drew | apply blk_alloc)); exact BK222.out) hb); have n10_ := Aside0.mk (blk_below (g := gb249) (o := .cells #[.slice Ao44 t280.length co44, .slice Ao48 t281.length co48] 26 (0, 0)) (by (with_reducible repeat (first | apply blk_drewN | apply blk_drew | apply blk_alloc)); exact BK249.out) hb); have n11_ := Aside0.mk (blk_below (g := gb256) (o := .cells #[.slice Ao52 t283.length co52, .slice Ao57 t284.length co57] 26 (0, 0)) (by (with_reducible repeat (first | apply blk_drewN | apply blk_drew | apply blk_alloc)); exact BK256.out) hb); have n12_ := Aside0.mk (below_step (by repeat (first | (with_reducible first | exact HB.out | apply below_alloc | apply pw_below_drewN | apply below_drew1 | refine below_set ?_ GE221.out | refine below_set ?_ GE222.out | refine below_set ?_ GE249.out | refine below_set ?_ GE256.out) | exact HB.out)) hb); clear HO_6; clear HO_7; clear HO_10; clear HO_11; clear HO_250000; clear HO_250001; clear HO_257000; clear HO_257001; clear BK221; clear BK222; clear BK249; clear BK256; clear HB; have HO_6 := n0_; have HO_7 := n1_; have HO_10 := n2_; have HO_11 := n3_; have HO_250000 := n4_; have HO_250001 := n5_; have HO_257000 := n6_; have HO_257001 := n7_; have BK221 := n8_; have BK222 := n9_; have BK249 := n10_; have BK256 := n11_; have HB := n12_; clear n0_ n1_ n2_ n3_ n4_ n5_ n6_ n7_ n8_ n9_ n10_ n11_ n12_; (try clear hb); (try clear hb2); (try clear hk); (try clear hi)) | ((with_reducible refine gate_callee (f := 33) rfl ?_); refine goesL_ (some 98) rfl rfl Try.func33 (by kernel_rfl) rfl #[.slice Ao122 t290.length co122, .int .i64 t291] rfl (by (try simp only [List.map_toArray, List.map_cons, List.map_nil]); first | done | (rw [show t290.length = t260.length from (Kd.R_reads' HO_11.out).1.symm] <;> rfl) | rfl | (simp only [List.length_drop, List.length_take]; rfl)) ?_; (with_reducible refine (laws_heldStringS.calls kj77 _ _ t290 t291 t292 _ ?side1 ?side2 A113.out).mono ?_); (case side1 => repeat (first | exact (Kd.R_reads' HO_11.out).2.2 | (with_reducible refine Kd.C_alloc ?_ _) | (with_reducible refine Kd.C_drewN ?_ _) | (with_reducible refine Kd.C_drew ?_))); (case side2 => rw [show t290.length = t260.length from (Kd.R_reads' HO_11.out).1.symm]; exact (Kd.R_reads' HO_11.out).2.1); rintro e w125 ⟨rfl, hb⟩; refine ⟨_, rfl, ?_⟩; have n0_ := Aside0.mk (Kd.R_below (by (with_reducible repeat (first | apply Kd.R_alloc | apply Kd.R_drewN | apply Kd.R_drew)); exact HO_6.out) hb); have n1_ := Aside0.mk (Kd.R_below (by (with_reducible repeat (first | apply Kd.R_alloc | apply Kd.R_drewN | apply Kd.R_drew)); exact HO_7.out) hb); have n2_ := Aside0.mk (Kd.R_below (by (with_reducible repeat (first | apply Kd.R_alloc | apply Kd.R_drewN | apply Kd.R_drew)); exact HO_10.out) hb); have n3_ := Aside0.mk (Kd.R_below (by (with_reducible repeat (first | apply Kd.R_alloc | apply Kd.R_drewN | apply Kd.R_drew)); exact HO_11.out) hb); have n4_ := Aside0.mk (Kd.R_below (by (with_reducible repeat (first | apply Kd.R_alloc | apply Kd.R_drewN | apply Kd.R_drew)); exact HO_250000.out) hb); have n5_ := Aside0.mk (Kd.R_below (by (with_reducible repeat (first | apply Kd.R_alloc | apply Kd.R_drewN | apply Kd.R_drew)); exact HO_250001.out) hb); have n6_ := Aside0.mk (Kd.R_below (by (with_reducible repeat (first | apply Kd.R_alloc | apply Kd.R_drewN | apply Kd.R_drew)); exact HO_257000.out) hb); have n7_ := Aside0.mk (Kd.R_below (by (with_reducible repeat (first | apply Kd.R_alloc | apply Kd.R_drewN | apply Kd.R_drew)); exact HO_257001.out) hb); have n8_ := Aside0.mk (blk_below (g := gb221) (o := .cells #[.slice A0_0 l0_0.length c0_0, .slice A0_1 l0_1.length c0_1] 41 (0, 0)) (by (with_reducible repeat (first | apply blk_drewN | apply blk_drew | apply blk_alloc)); exact BK221.out) hb); have n9_ := Aside0.mk (blk_below (g := gb222) (o := .cells #[.slice A1_0 l1_0.length c1_0, .slice A1_1 l1_1.length c1_1] 41 (0, 0)) (by (with_reducible repeat (first | apply blk_drewN | apply blk_drew | apply blk_alloc)); exact BK222.out) hb); have n10_ := Aside0.mk (blk_below (g := gb249) (o := .cells #[.slice Ao44 t280.length co44, .slice Ao48 t281.length co48] 26 (0, 0)) (by (with_reducible repeat (first | apply blk_drewN | apply blk_drew | apply blk_alloc)); exact BK249.out) hb); have n11_ := Aside0.mk (blk_below (g := gb256) (o := .cells #[.slice Ao52 t283.length co52, .slice Ao57 t284.length co57] 26 (0, 0)) (by (with_reducible repeat (first | apply blk_drewN | apply blk_drew | apply blk_alloc)); exact BK256.out) hb); have n12_ := Aside0.mk (below_step (by repeat (first | (with_reducible first | exact HB.out | apply below_alloc | apply pw_below_drewN | apply below_drew1 | refine below_set ?_ GE221.out | refine below_set ?_ GE222.out | refine below_set ?_ GE249.out | refine below_set ?_ GE256.out) | exact HB.out)) hb); clear HO_6; clear HO_7; clear HO_10; clear HO_11; clear HO_250000; clear HO_250001; clear HO_257000; clear HO_257001; clear BK221; clear BK222; clear BK249; clear BK256; clear HB; have HO_6 := n0_; have HO_7 := n1_; have HO_10 := n2_; have HO_11 := n3_; have HO_250000 := n4_; have HO_250001 := n5_; have HO_257000 := n6_; have HO_257001 := n7_; have BK221 := n8_; have BK222 := n9_; have BK249 := n10_; have BK256 := n11_; have HB := n12_; clear n0_ n1_ n2_ n3_ n4_ n5_ n6_ n7_ n8_ n9_ n10_ n11_ n12_; (try clear hb); (try clear hb2); (try clear hk); (try clear hi)))
              have n0_ := Aside0.mk (Kd.R_drew HO_6.out)
              have n1_ := Aside0.mk (Kd.R_drew HO_7.out)
              have n2_ := Aside0.mk (Kd.R_drew HO_10.out)
              have n3_ := Aside0.mk (Kd.R_drew HO_11.out)
              have n4_ := Aside0.mk (Kd.R_drew HO_250000.out)
              have n5_ := Aside0.mk (Kd.R_drew HO_250001.out)
              have n6_ := Aside0.mk (Kd.R_drew HO_257000.out)
              have n7_ := Aside0.mk (Kd.R_drew HO_257001.out)
              have n8_ := Aside0.mk (blk_drew BK221.out)
              have n9_ := Aside0.mk (blk_drew BK222.out)
              have n10_ := Aside0.mk (blk_drew BK249.out)
              have n11_ := Aside0.mk (blk_drew BK256.out)
              have n12_ := Aside0.mk (below_drew1 HB.out)
              clear HO_6
              clear HO_7
              clear HO_10
              clear HO_11
              clear HO_250000
              clear HO_250001
              clear HO_257000
              clear HO_257001
              clear BK221
              clear BK222
              clear BK249
              clear BK256
              clear HB
              have HO_6 := n0_
              have HO_7 := n1_
              have HO_10 := n2_
              have HO_11 := n3_
              have HO_250000 := n4_
              have HO_250001 := n5_
              have HO_257000 := n6_
              have HO_257001 := n7_
              have BK221 := n8_
              have BK222 := n9_
              have BK249 := n10_
              have BK256 := n11_
              have HB := n12_
              clear n0_ n1_ n2_ n3_ n4_ n5_ n6_ n7_ n8_ n9_ n10_ n11_ n12_
              refine start_ (n := 10) (S := fun w' => w'.cell? ⟨gb221, 0, none⟩ = some (.slice A0_0 l0_0.length c0_0) ∧ w'.cell? ⟨gb221, 1, none⟩ = some (.slice A0_1 l0_1.length c0_1) ∧ w'.cell? ⟨gb222, 0, none⟩ = some (.slice A1_0 l1_0.length c1_0) ∧ w'.cell? ⟨gb222, 1, none⟩ = some (.slice A1_1 l1_1.length c1_1)) (ds := []) #[false, false, false, false, false, false, false, false, false, false] (by kernel_rfl) rfl rfl ⟨(blk_cell BK221.out 0).trans rfl, (blk_cell BK221.out 1).trans rfl, (blk_cell BK222.out 0).trans rfl, (blk_cell BK222.out 1).trans rfl⟩ (fun hHeld => ?_); refine with_tabW laws_FnExactDiffReports.tab35 laws_FnExactDiffReports.bits35 (fun HT_ HW_ => ?_)
              generalize w125.drew = w126 at HO_6 HO_7 HO_10 HO_11 HO_250000 HO_250001 HO_257000 HO_257001 BK221 BK222 BK249 BK256 HB hHeld ⊢
              refine take_ (i := 0) (N := some 105) (v := ?_) (a' := ?_) #[true, false, false, false, false, false, false, false, false, false] rfl rfl (take_ofW HT_.out HW_.out (by kernel_rfl)) (fun _ _ _ h => h) (Or.inl ⟨by rfl, ?_⟩) hHeld ?_ ?_
              rotate_left
              ·rintro w' ⟨s0, s1, s2, s3⟩
               go_simp
               with_reducible rfl
              rotate_left
              ·simp only [Act.put, List.setIfInBounds_toArray, List.set_cons_zero, List.set_cons_succ, i64_w, i32_w]
               rfl
              refine take_ (i := 2) (N := some 107) (v := ?_) (a' := ?_) #[true, false, true, false, false, false, false, false, false, false] rfl rfl (take_ofW HT_.out HW_.out (by kernel_rfl)) (fun _ _ _ h => h) (Or.inl ⟨by rfl, ?_⟩) hHeld ?_ ?_
              rotate_left
              ·rintro w' ⟨s0, s1, s2, s3⟩
               go_simp
               with_reducible rfl
              rotate_left
              ·simp only [Act.put, List.setIfInBounds_toArray, List.set_cons_zero, List.set_cons_succ, i64_w, i32_w]
               rfl
              refine one_ (i := 1) (N := some 106) #[true, true, true, false, false, false, false, false, false, false] rfl rfl (one_of HT_.out (by kernel_rfl)) (by decide) (fun K hK => ?_)
              refine goes_ Try.func25 (by kernel_rfl) rfl #[.agg #[.slice A0_0 l0_0.length c0_0, .slice A0_1 l0_1.length c0_1]] (by rfl) rfl rfl (by (try simp only [List.map_toArray, List.map_cons, List.map_nil]); first | done | rfl | (simp only [List.length_drop, List.length_take]; rfl)) ?_
              with_reducible refine (laws_toReport.calls kj77 _ _ l0_0 _ _ l0_1 t293 t296 _ ?side1 ?side2 ?side3 ?side4 A116.out).mono ?_
              (case side1 => repeat (first | exact (Kd.C_below HR0_0.out HB.out) | (with_reducible refine Kd.C_alloc ?_ _) | (with_reducible refine Kd.C_drewN ?_ _) | (with_reducible refine Kd.C_drew ?_)))
              (case side2 => exact HC0_0.out)
              (case side3 => repeat (first | exact (Kd.C_below HR0_1.out HB.out) | (with_reducible refine Kd.C_alloc ?_ _) | (with_reducible refine Kd.C_drewN ?_ _) | (with_reducible refine Kd.C_drew ?_)))
              (case side4 => exact HC0_1.out)
              rintro e w127 ⟨v294, v297, rfl, ho0, ho1, hb⟩
              refine ⟨_, rfl, ?_⟩
              have n0_ := Aside0.mk (Kd.R_elder' (by (with_reducible repeat (first | apply Kd.R_alloc | apply Kd.R_drewN | apply Kd.R_drew)); exact HO_6.out) (Kd.R_base ho1) hb)
              have n1_ := Aside0.mk (Kd.R_elder' (by (with_reducible repeat (first | apply Kd.R_alloc | apply Kd.R_drewN | apply Kd.R_drew)); exact HO_7.out) (Kd.R_base ho1) hb)
              have n2_ := Aside0.mk (Kd.R_elder' (by (with_reducible repeat (first | apply Kd.R_alloc | apply Kd.R_drewN | apply Kd.R_drew)); exact HO_10.out) (Kd.R_base ho1) hb)
              have n3_ := Aside0.mk (Kd.R_elder' (by (with_reducible repeat (first | apply Kd.R_alloc | apply Kd.R_drewN | apply Kd.R_drew)); exact HO_11.out) (Kd.R_base ho1) hb)
              have n4_ := Aside0.mk (Kd.R_elder' (by (with_reducible repeat (first | apply Kd.R_alloc | apply Kd.R_drewN | apply Kd.R_drew)); exact HO_250000.out) (Kd.R_base ho0) hb)
              have n5_ := Aside0.mk (Kd.R_elder' (by (with_reducible repeat (first | apply Kd.R_alloc | apply Kd.R_drewN | apply Kd.R_drew)); exact HO_250001.out) (Kd.R_base ho1) hb)
              have n6_ := Aside0.mk (Kd.R_elder' (by (with_reducible repeat (first | apply Kd.R_alloc | apply Kd.R_drewN | apply Kd.R_drew)); exact HO_257000.out) (Kd.R_base ho0) hb)
              have n7_ := Aside0.mk (Kd.R_elder' (by (with_reducible repeat (first | apply Kd.R_alloc | apply Kd.R_drewN | apply Kd.R_drew)); exact HO_257001.out) (Kd.R_base ho1) hb)
              have n8_ := Aside0.mk (Kd.R_lower (Kd.R_new' (Kd.R_new' ho0 (Kd.R_lt (by (with_reducible repeat (first | apply Kd.R_alloc | apply Kd.R_drewN | apply Kd.R_drew)); exact HO_250000.out))) (Kd.R_lt (by (with_reducible repeat (first | apply Kd.R_alloc | apply Kd.R_drewN | apply Kd.R_drew)); exact HO_257000.out))) (below_size (by repeat (first | (with_reducible first | exact HB.out | apply below_alloc | apply pw_below_drewN | apply below_drew1 | refine below_set ?_ GE221.out | refine below_set ?_ GE222.out | refine below_set ?_ GE249.out | refine below_set ?_ GE256.out) | exact HB.out))))
              have n9_ := Aside0.mk (Kd.R_lower (Kd.R_new' (Kd.R_new' (Kd.R_new' (Kd.R_new' (Kd.R_new' (Kd.R_new' ho1 (Kd.R_lt (by (with_reducible repeat (first | apply Kd.R_alloc | apply Kd.R_drewN | apply Kd.R_drew)); exact HO_6.out))) (Kd.R_lt (by (with_reducible repeat (first | apply Kd.R_alloc | apply Kd.R_drewN | apply Kd.R_drew)); exact HO_7.out))) (Kd.R_lt (by (with_reducible repeat (first | apply Kd.R_alloc | apply Kd.R_drewN | apply Kd.R_drew)); exact HO_10.out))) (Kd.R_lt (by (with_reducible repeat (first | apply Kd.R_alloc | apply Kd.R_drewN | apply Kd.R_drew)); exact HO_11.out))) (Kd.R_lt (by (with_reducible repeat (first | apply Kd.R_alloc | apply Kd.R_drewN | apply Kd.R_drew)); exact HO_250001.out))) (Kd.R_lt (by (with_reducible repeat (first | apply Kd.R_alloc | apply Kd.R_drewN | apply Kd.R_drew)); exact HO_257001.out))) (below_size (by repeat (first | (with_reducible first | exact HB.out | apply below_alloc | apply pw_below_drewN | apply below_drew1 | refine below_set ?_ GE221.out | refine below_set ?_ GE222.out | refine below_set ?_ GE249.out | refine below_set ?_ GE256.out) | exact HB.out))))
              have n10_ := Aside0.mk (blk_below (g := gb221) (o := .cells #[.slice A0_0 l0_0.length c0_0, .slice A0_1 l0_1.length c0_1] 41 (0, 0)) (by (with_reducible repeat (first | apply blk_drewN | apply blk_drew | apply blk_alloc)); exact BK221.out) hb)
              have n11_ := Aside0.mk (blk_below (g := gb222) (o := .cells #[.slice A1_0 l1_0.length c1_0, .slice A1_1 l1_1.length c1_1] 41 (0, 0)) (by (with_reducible repeat (first | apply blk_drewN | apply blk_drew | apply blk_alloc)); exact BK222.out) hb)
              have n12_ := Aside0.mk (blk_below (g := gb249) (o := .cells #[.slice Ao44 t280.length co44, .slice Ao48 t281.length co48] 26 (0, 0)) (by (with_reducible repeat (first | apply blk_drewN | apply blk_drew | apply blk_alloc)); exact BK249.out) hb)
              have n13_ := Aside0.mk (blk_below (g := gb256) (o := .cells #[.slice Ao52 t283.length co52, .slice Ao57 t284.length co57] 26 (0, 0)) (by (with_reducible repeat (first | apply blk_drewN | apply blk_drew | apply blk_alloc)); exact BK256.out) hb)
              have n14_ := Aside0.mk (below_step (by repeat (first | (with_reducible first | exact HB.out | apply below_alloc | apply pw_below_drewN | apply below_drew1 | refine below_set ?_ GE221.out | refine below_set ?_ GE222.out | refine below_set ?_ GE249.out | refine below_set ?_ GE256.out) | exact HB.out)) hb)
              clear HO_6
              clear HO_7
              clear HO_10
              clear HO_11
              clear HO_250000
              clear HO_250001
              clear HO_257000
              clear HO_257001
              clear BK221
              clear BK222
              clear BK249
              clear BK256
              clear HB
              have HO_6 := n0_
              have HO_7 := n1_
              have HO_10 := n2_
              have HO_11 := n3_
              have HO_250000 := n4_
              have HO_250001 := n5_
              have HO_257000 := n6_
              have HO_257001 := n7_
              have HO295 := n8_
              have HO298 := n9_
              have BK221 := n10_
              have BK222 := n11_
              have BK249 := n12_
              have BK256 := n13_
              have HB := n14_
              clear n0_ n1_ n2_ n3_ n4_ n5_ n6_ n7_ n8_ n9_ n10_ n11_ n12_ n13_ n14_
              (try clear hb)
              (try clear hb2)
              (try clear hk)
              (try clear hi)
              (try clear ho0)
              (try clear ho1)
              refine hK.out _ _ ⟨(blk_cell BK221.out 0).trans rfl, (blk_cell BK221.out 1).trans rfl, (blk_cell BK222.out 0).trans rfl, (blk_cell BK222.out 1).trans rfl⟩ (fun hHeld => ?_)
              clear hK K
              refine norm_ (a' := ?_) ?_ ?_
              rotate_left
              ·show Act.put _ (some 106) _ = _
               simp only [Act.put, List.setIfInBounds_toArray, List.set_cons_zero, List.set_cons_succ, i64_w, i32_w]
               rfl
              refine one_ (i := 3) (N := some 108) #[true, true, true, true, false, false, false, false, false, false] rfl rfl (one_of HT_.out (by kernel_rfl)) (by decide) (fun K hK => ?_)
              refine goes_ Try.func25 (by kernel_rfl) rfl #[.agg #[.slice A1_0 l1_0.length c1_0, .slice A1_1 l1_1.length c1_1]] (by rfl) rfl rfl (by (try simp only [List.map_toArray, List.map_cons, List.map_nil]); first | done | rfl | (simp only [List.length_drop, List.length_take]; rfl)) ?_
              with_reducible refine (laws_toReport.calls kj77 _ _ l1_0 _ _ l1_1 t299 t302 _ ?side1 ?side2 ?side3 ?side4 A117.out).mono ?_
              (case side1 => repeat (first | exact (Kd.C_below HR1_0.out HB.out) | (with_reducible refine Kd.C_alloc ?_ _) | (with_reducible refine Kd.C_drewN ?_ _) | (with_reducible refine Kd.C_drew ?_)))
              (case side2 => exact HC1_0.out)
              (case side3 => repeat (first | exact (Kd.C_below HR1_1.out HB.out) | (with_reducible refine Kd.C_alloc ?_ _) | (with_reducible refine Kd.C_drewN ?_ _) | (with_reducible refine Kd.C_drew ?_)))
              (case side4 => exact HC1_1.out)
              rintro e w128 ⟨v300, v303, rfl, ho0, ho1, hb⟩
              refine ⟨_, rfl, ?_⟩
              have n0_ := Aside0.mk (Kd.R_elder' (by (with_reducible repeat (first | apply Kd.R_alloc | apply Kd.R_drewN | apply Kd.R_drew)); exact HO_6.out) (Kd.R_base ho1) hb)
              have n1_ := Aside0.mk (Kd.R_elder' (by (with_reducible repeat (first | apply Kd.R_alloc | apply Kd.R_drewN | apply Kd.R_drew)); exact HO_7.out) (Kd.R_base ho1) hb)
              have n2_ := Aside0.mk (Kd.R_elder' (by (with_reducible repeat (first | apply Kd.R_alloc | apply Kd.R_drewN | apply Kd.R_drew)); exact HO_10.out) (Kd.R_base ho1) hb)
              have n3_ := Aside0.mk (Kd.R_elder' (by (with_reducible repeat (first | apply Kd.R_alloc | apply Kd.R_drewN | apply Kd.R_drew)); exact HO_11.out) (Kd.R_base ho1) hb)
              have n4_ := Aside0.mk (Kd.R_elder' (by (with_reducible repeat (first | apply Kd.R_alloc | apply Kd.R_drewN | apply Kd.R_drew)); exact HO_250000.out) (Kd.R_base ho0) hb)
              have n5_ := Aside0.mk (Kd.R_elder' (by (with_reducible repeat (first | apply Kd.R_alloc | apply Kd.R_drewN | apply Kd.R_drew)); exact HO_250001.out) (Kd.R_base ho1) hb)
              have n6_ := Aside0.mk (Kd.R_elder' (by (with_reducible repeat (first | apply Kd.R_alloc | apply Kd.R_drewN | apply Kd.R_drew)); exact HO_257000.out) (Kd.R_base ho0) hb)
              have n7_ := Aside0.mk (Kd.R_elder' (by (with_reducible repeat (first | apply Kd.R_alloc | apply Kd.R_drewN | apply Kd.R_drew)); exact HO_257001.out) (Kd.R_base ho1) hb)
              have n8_ := Aside0.mk (Kd.R_elder' (by (with_reducible repeat (first | apply Kd.R_alloc | apply Kd.R_drewN | apply Kd.R_drew)); exact HO295.out) (Kd.R_base ho0) hb)
              have n9_ := Aside0.mk (Kd.R_elder' (by (with_reducible repeat (first | apply Kd.R_alloc | apply Kd.R_drewN | apply Kd.R_drew)); exact HO298.out) (Kd.R_base ho1) hb)
              have n10_ := Aside0.mk (Kd.R_lower (Kd.R_new' (Kd.R_new' (Kd.R_new' ho0 (Kd.R_lt (by (with_reducible repeat (first | apply Kd.R_alloc | apply Kd.R_drewN | apply Kd.R_drew)); exact HO_250000.out))) (Kd.R_lt (by (with_reducible repeat (first | apply Kd.R_alloc | apply Kd.R_drewN | apply Kd.R_drew)); exact HO_257000.out))) (Kd.R_lt (by (with_reducible repeat (first | apply Kd.R_alloc | apply Kd.R_drewN | apply Kd.R_drew)); exact HO295.out))) (below_size (by repeat (first | (with_reducible first | exact HB.out | apply below_alloc | apply pw_below_drewN | apply below_drew1 | refine below_set ?_ GE221.out | refine below_set ?_ GE222.out | refine below_set ?_ GE249.out | refine below_set ?_ GE256.out) | exact HB.out))))
              have n11_ := Aside0.mk (Kd.R_lower (Kd.R_new' (Kd.R_new' (Kd.R_new' (Kd.R_new' (Kd.R_new' (Kd.R_new' (Kd.R_new' ho1 (Kd.R_lt (by (with_reducible repeat (first | apply Kd.R_alloc | apply Kd.R_drewN | apply Kd.R_drew)); exact HO_6.out))) (Kd.R_lt (by (with_reducible repeat (first | apply Kd.R_alloc | apply Kd.R_drewN | apply Kd.R_drew)); exact HO_7.out))) (Kd.R_lt (by (with_reducible repeat (first | apply Kd.R_alloc | apply Kd.R_drewN | apply Kd.R_drew)); exact HO_10.out))) (Kd.R_lt (by (with_reducible repeat (first | apply Kd.R_alloc | apply Kd.R_drewN | apply Kd.R_drew)); exact HO_11.out))) (Kd.R_lt (by (with_reducible repeat (first | apply Kd.R_alloc | apply Kd.R_drewN | apply Kd.R_drew)); exact HO_250001.out))) (Kd.R_lt (by (with_reducible repeat (first | apply Kd.R_alloc | apply Kd.R_drewN | apply Kd.R_drew)); exact HO_257001.out))) (Kd.R_lt (by (with_reducible repeat (first | apply Kd.R_alloc | apply Kd.R_drewN | apply Kd.R_drew)); exact HO298.out))) (below_size (by repeat (first | (with_reducible first | exact HB.out | apply below_alloc | apply pw_below_drewN | apply below_drew1 | refine below_set ?_ GE221.out | refine below_set ?_ GE222.out | refine below_set ?_ GE249.out | refine below_set ?_ GE256.out) | exact HB.out))))
              have n12_ := Aside0.mk (blk_below (g := gb221) (o := .cells #[.slice A0_0 l0_0.length c0_0, .slice A0_1 l0_1.length c0_1] 41 (0, 0)) (by (with_reducible repeat (first | apply blk_drewN | apply blk_drew | apply blk_alloc)); exact BK221.out) hb)
              have n13_ := Aside0.mk (blk_below (g := gb222) (o := .cells #[.slice A1_0 l1_0.length c1_0, .slice A1_1 l1_1.length c1_1] 41 (0, 0)) (by (with_reducible repeat (first | apply blk_drewN | apply blk_drew | apply blk_alloc)); exact BK222.out) hb)
              have n14_ := Aside0.mk (blk_below (g := gb249) (o := .cells #[.slice Ao44 t280.length co44, .slice Ao48 t281.length co48] 26 (0, 0)) (by (with_reducible repeat (first | apply blk_drewN | apply blk_drew | apply blk_alloc)); exact BK249.out) hb)
              have n15_ := Aside0.mk (blk_below (g := gb256) (o := .cells #[.slice Ao52 t283.length co52, .slice Ao57 t284.length co57] 26 (0, 0)) (by (with_reducible repeat (first | apply blk_drewN | apply blk_drew | apply blk_alloc)); exact BK256.out) hb)
              have n16_ := Aside0.mk (below_step (by repeat (first | (with_reducible first | exact HB.out | apply below_alloc | apply pw_below_drewN | apply below_drew1 | refine below_set ?_ GE221.out | refine below_set ?_ GE222.out | refine below_set ?_ GE249.out | refine below_set ?_ GE256.out) | exact HB.out)) hb)
              clear HO_6
              clear HO_7
              clear HO_10
              clear HO_11
              clear HO_250000
              clear HO_250001
              clear HO_257000
              clear HO_257001
              clear HO295
              clear HO298
              clear BK221
              clear BK222
              clear BK249
              clear BK256
              clear HB
              have HO_6 := n0_
              have HO_7 := n1_
              have HO_10 := n2_
              have HO_11 := n3_
              have HO_250000 := n4_
              have HO_250001 := n5_
              have HO_257000 := n6_
              have HO_257001 := n7_
              have HO295 := n8_
              have HO298 := n9_
              have HO301 := n10_
              have HO304 := n11_
              have BK221 := n12_
              have BK222 := n13_
              have BK249 := n14_
              have BK256 := n15_
              have HB := n16_
              clear n0_ n1_ n2_ n3_ n4_ n5_ n6_ n7_ n8_ n9_ n10_ n11_ n12_ n13_ n14_ n15_ n16_
              (try clear hb)
              (try clear hb2)
              (try clear hk)
              (try clear hi)
              (try clear ho0)
              (try clear ho1)
              obtain ⟨Ao129, co129, eo129⟩ := Kd.R_slice HO295.out
              (first | subst eo129 | (injection eo129 with f1_ f2_ f3_; have f4_ := f1_.symm; have f5_ := f3_.symm; clear f1_ f2_ f3_; subst f4_; subst f5_))
              obtain ⟨Ao130, co130, eo130⟩ := Kd.R_slice HO298.out
              (first | subst eo130 | (injection eo130 with f1_ f2_ f3_; have f4_ := f1_.symm; have f5_ := f3_.symm; clear f1_ f2_ f3_; subst f4_; subst f5_))
              obtain ⟨Ao131, co131, eo131⟩ := Kd.R_slice HO301.out
              (first | subst eo131 | (injection eo131 with f1_ f2_ f3_; have f4_ := f1_.symm; have f5_ := f3_.symm; clear f1_ f2_ f3_; subst f4_; subst f5_))
              obtain ⟨Ao132, co132, eo132⟩ := Kd.R_slice HO304.out
              (first | subst eo132 | (injection eo132 with f1_ f2_ f3_; have f4_ := f1_.symm; have f5_ := f3_.symm; clear f1_ f2_ f3_; subst f4_; subst f5_))
              refine hK.out _ _ ⟨(blk_cell BK221.out 0).trans rfl, (blk_cell BK221.out 1).trans rfl, (blk_cell BK222.out 0).trans rfl, (blk_cell BK222.out 1).trans rfl⟩ (fun hHeld => ?_)
              clear hK K
              refine norm_ (a' := ?_) ?_ ?_
              rotate_left
              ·show Act.put _ (some 108) _ = _
               simp only [Act.put, List.setIfInBounds_toArray, List.set_cons_zero, List.set_cons_succ, i64_w, i32_w]
               rfl
              refine one_ (i := 4) (N := some 109) #[true, true, true, true, true, false, false, false, false, false] rfl rfl (one_of HT_.out (by kernel_rfl)) (by decide) (fun K hK => ?_)
              refine goes_ Try.func36 (by kernel_rfl) rfl #[.agg #[.slice Ao129 t293.length co129, .slice Ao130 t296.length co130], .agg #[.slice Ao131 t299.length co131, .slice Ao132 t302.length co132]] (by rfl) rfl rfl (by (try simp only [List.map_toArray, List.map_cons, List.map_nil]); first | done | rfl | (simp only [List.length_drop, List.length_take]; rfl)) ?_
              with_reducible refine (impl_DiffReports.calls kj77 _ _ t293 _ _ t296 _ _ t299 _ _ t302 t305 t308 _ ?side1 ?side2 ?side3 ?side4 ?side5 ?side6 ?side7 ?side8 A118.out).mono ?_
              (case side1 => repeat (first | exact (Kd.R_reads' HO295.out).2.2 | (with_reducible refine Kd.C_alloc ?_ _) | (with_reducible refine Kd.C_drewN ?_ _) | (with_reducible refine Kd.C_drew ?_)))
              (case side2 => exact (Kd.R_reads' HO295.out).2.1)
              (case side3 => repeat (first | exact (Kd.R_reads' HO298.out).2.2 | (with_reducible refine Kd.C_alloc ?_ _) | (with_reducible refine Kd.C_drewN ?_ _) | (with_reducible refine Kd.C_drew ?_)))
              (case side4 => exact (Kd.R_reads' HO298.out).2.1)
              (case side5 => repeat (first | exact (Kd.R_reads' HO301.out).2.2 | (with_reducible refine Kd.C_alloc ?_ _) | (with_reducible refine Kd.C_drewN ?_ _) | (with_reducible refine Kd.C_drew ?_)))
              (case side6 => exact (Kd.R_reads' HO301.out).2.1)
              (case side7 => repeat (first | exact (Kd.R_reads' HO304.out).2.2 | (with_reducible refine Kd.C_alloc ?_ _) | (with_reducible refine Kd.C_drewN ?_ _) | (with_reducible refine Kd.C_drew ?_)))
              (case side8 => exact (Kd.R_reads' HO304.out).2.1)
              rintro e w133 ⟨v306, v309, rfl, ho0, ho1, hb⟩
              refine ⟨_, rfl, ?_⟩
              have n0_ := Aside0.mk (Kd.R_mono (Kd.R_told (Kd.R_told (Kd.R_old (by (with_reducible repeat (first | apply Kd.R_alloc | apply Kd.R_drewN | apply Kd.R_drew)); exact HO_6.out) hb) (Kd.R_base ho0)) (Kd.R_base ho1)) (fun _ h_ => h_.1))
              have n1_ := Aside0.mk (Kd.R_mono (Kd.R_told (Kd.R_told (Kd.R_old (by (with_reducible repeat (first | apply Kd.R_alloc | apply Kd.R_drewN | apply Kd.R_drew)); exact HO_7.out) hb) (Kd.R_base ho0)) (Kd.R_base ho1)) (fun _ h_ => h_.1))
              have n2_ := Aside0.mk (Kd.R_mono (Kd.R_told (Kd.R_told (Kd.R_old (by (with_reducible repeat (first | apply Kd.R_alloc | apply Kd.R_drewN | apply Kd.R_drew)); exact HO_10.out) hb) (Kd.R_base ho0)) (Kd.R_base ho1)) (fun _ h_ => h_.1))
              have n3_ := Aside0.mk (Kd.R_mono (Kd.R_told (Kd.R_told (Kd.R_old (by (with_reducible repeat (first | apply Kd.R_alloc | apply Kd.R_drewN | apply Kd.R_drew)); exact HO_11.out) hb) (Kd.R_base ho0)) (Kd.R_base ho1)) (fun _ h_ => h_.1))
              have n4_ := Aside0.mk (Kd.R_below (by (with_reducible repeat (first | apply Kd.R_alloc | apply Kd.R_drewN | apply Kd.R_drew)); exact HO_250000.out) hb)
              have n5_ := Aside0.mk (Kd.R_mono (Kd.R_told (Kd.R_told (Kd.R_old (by (with_reducible repeat (first | apply Kd.R_alloc | apply Kd.R_drewN | apply Kd.R_drew)); exact HO_250001.out) hb) (Kd.R_base ho0)) (Kd.R_base ho1)) (fun _ h_ => h_.1))
              have n6_ := Aside0.mk (Kd.R_below (by (with_reducible repeat (first | apply Kd.R_alloc | apply Kd.R_drewN | apply Kd.R_drew)); exact HO_257000.out) hb)
              have n7_ := Aside0.mk (Kd.R_mono (Kd.R_told (Kd.R_told (Kd.R_old (by (with_reducible repeat (first | apply Kd.R_alloc | apply Kd.R_drewN | apply Kd.R_drew)); exact HO_257001.out) hb) (Kd.R_base ho0)) (Kd.R_base ho1)) (fun _ h_ => h_.1))
              have n8_ := Aside0.mk (Kd.R_below (by (with_reducible repeat (first | apply Kd.R_alloc | apply Kd.R_drewN | apply Kd.R_drew)); exact HO295.out) hb)
              have n9_ := Aside0.mk (Kd.R_mono (Kd.R_told (Kd.R_told (Kd.R_old (by (with_reducible repeat (first | apply Kd.R_alloc | apply Kd.R_drewN | apply Kd.R_drew)); exact HO298.out) hb) (Kd.R_base ho0)) (Kd.R_base ho1)) (fun _ h_ => h_.1))
              have n10_ := Aside0.mk (Kd.R_below (by (with_reducible repeat (first | apply Kd.R_alloc | apply Kd.R_drewN | apply Kd.R_drew)); exact HO301.out) hb)
              have n11_ := Aside0.mk (Kd.R_mono (Kd.R_told (Kd.R_told (Kd.R_old (by (with_reducible repeat (first | apply Kd.R_alloc | apply Kd.R_drewN | apply Kd.R_drew)); exact HO304.out) hb) (Kd.R_base ho0)) (Kd.R_base ho1)) (fun _ h_ => h_.1))
              have n12_ := Aside0.mk (Kd.R_lower (Kd.R_new' (Kd.R_new' (Kd.R_new' (Kd.R_new' (Kd.R_new' (Kd.R_new' (Kd.R_new' (Kd.R_new' ho0 (Kd.R_lt (by (with_reducible repeat (first | apply Kd.R_alloc | apply Kd.R_drewN | apply Kd.R_drew)); exact HO_6.out))) (Kd.R_lt (by (with_reducible repeat (first | apply Kd.R_alloc | apply Kd.R_drewN | apply Kd.R_drew)); exact HO_7.out))) (Kd.R_lt (by (with_reducible repeat (first | apply Kd.R_alloc | apply Kd.R_drewN | apply Kd.R_drew)); exact HO_10.out))) (Kd.R_lt (by (with_reducible repeat (first | apply Kd.R_alloc | apply Kd.R_drewN | apply Kd.R_drew)); exact HO_11.out))) (Kd.R_lt (by (with_reducible repeat (first | apply Kd.R_alloc | apply Kd.R_drewN | apply Kd.R_drew)); exact HO_250001.out))) (Kd.R_lt (by (with_reducible repeat (first | apply Kd.R_alloc | apply Kd.R_drewN | apply Kd.R_drew)); exact HO_257001.out))) (Kd.R_lt (by (with_reducible repeat (first | apply Kd.R_alloc | apply Kd.R_drewN | apply Kd.R_drew)); exact HO298.out))) (Kd.R_lt (by (with_reducible repeat (first | apply Kd.R_alloc | apply Kd.R_drewN | apply Kd.R_drew)); exact HO304.out))) (below_size (by repeat (first | (with_reducible first | exact HB.out | apply below_alloc | apply pw_below_drewN | apply below_drew1 | refine below_set ?_ GE221.out | refine below_set ?_ GE222.out | refine below_set ?_ GE249.out | refine below_set ?_ GE256.out) | exact HB.out))))
              have n13_ := Aside0.mk (Kd.R_lower (Kd.R_new' (Kd.R_new' (Kd.R_new' (Kd.R_new' (Kd.R_new' (Kd.R_new' (Kd.R_new' (Kd.R_new' ho1 (Kd.R_lt (by (with_reducible repeat (first | apply Kd.R_alloc | apply Kd.R_drewN | apply Kd.R_drew)); exact HO_6.out))) (Kd.R_lt (by (with_reducible repeat (first | apply Kd.R_alloc | apply Kd.R_drewN | apply Kd.R_drew)); exact HO_7.out))) (Kd.R_lt (by (with_reducible repeat (first | apply Kd.R_alloc | apply Kd.R_drewN | apply Kd.R_drew)); exact HO_10.out))) (Kd.R_lt (by (with_reducible repeat (first | apply Kd.R_alloc | apply Kd.R_drewN | apply Kd.R_drew)); exact HO_11.out))) (Kd.R_lt (by (with_reducible repeat (first | apply Kd.R_alloc | apply Kd.R_drewN | apply Kd.R_drew)); exact HO_250001.out))) (Kd.R_lt (by (with_reducible repeat (first | apply Kd.R_alloc | apply Kd.R_drewN | apply Kd.R_drew)); exact HO_257001.out))) (Kd.R_lt (by (with_reducible repeat (first | apply Kd.R_alloc | apply Kd.R_drewN | apply Kd.R_drew)); exact HO298.out))) (Kd.R_lt (by (with_reducible repeat (first | apply Kd.R_alloc | apply Kd.R_drewN | apply Kd.R_drew)); exact HO304.out))) (below_size (by repeat (first | (with_reducible first | exact HB.out | apply below_alloc | apply pw_below_drewN | apply below_drew1 | refine below_set ?_ GE221.out | refine below_set ?_ GE222.out | refine below_set ?_ GE249.out | refine below_set ?_ GE256.out) | exact HB.out))))
              have n14_ := Aside0.mk (blk_below (g := gb221) (o := .cells #[.slice A0_0 l0_0.length c0_0, .slice A0_1 l0_1.length c0_1] 41 (0, 0)) (by (with_reducible repeat (first | apply blk_drewN | apply blk_drew | apply blk_alloc)); exact BK221.out) hb)
              have n15_ := Aside0.mk (blk_below (g := gb222) (o := .cells #[.slice A1_0 l1_0.length c1_0, .slice A1_1 l1_1.length c1_1] 41 (0, 0)) (by (with_reducible repeat (first | apply blk_drewN | apply blk_drew | apply blk_alloc)); exact BK222.out) hb)
              have n16_ := Aside0.mk (blk_below (g := gb249) (o := .cells #[.slice Ao44 t280.length co44, .slice Ao48 t281.length co48] 26 (0, 0)) (by (with_reducible repeat (first | apply blk_drewN | apply blk_drew | apply blk_alloc)); exact BK249.out) hb)
              have n17_ := Aside0.mk (blk_below (g := gb256) (o := .cells #[.slice Ao52 t283.length co52, .slice Ao57 t284.length co57] 26 (0, 0)) (by (with_reducible repeat (first | apply blk_drewN | apply blk_drew | apply blk_alloc)); exact BK256.out) hb)
              have n18_ := Aside0.mk (below_step (by repeat (first | (with_reducible first | exact HB.out | apply below_alloc | apply pw_below_drewN | apply below_drew1 | refine below_set ?_ GE221.out | refine below_set ?_ GE222.out | refine below_set ?_ GE249.out | refine below_set ?_ GE256.out) | exact HB.out)) hb)
              clear HO_6
              clear HO_7
              clear HO_10
              clear HO_11
              clear HO_250000
              clear HO_250001
              clear HO_257000
              clear HO_257001
              clear HO295
              clear HO298
              clear HO301
              clear HO304
              clear BK221
              clear BK222
              clear BK249
              clear BK256
              clear HB
              have HO_6 := n0_
              have HO_7 := n1_
              have HO_10 := n2_
              have HO_11 := n3_
              have HO_250000 := n4_
              have HO_250001 := n5_
              have HO_257000 := n6_
              have HO_257001 := n7_
              have HO295 := n8_
              have HO298 := n9_
              have HO301 := n10_
              have HO304 := n11_
              have HO307 := n12_
              have HO310 := n13_
              have BK221 := n14_
              have BK222 := n15_
              have BK249 := n16_
              have BK256 := n17_
              have HB := n18_
              clear n0_ n1_ n2_ n3_ n4_ n5_ n6_ n7_ n8_ n9_ n10_ n11_ n12_ n13_ n14_ n15_ n16_ n17_ n18_
              (try clear hb)
              (try clear hb2)
              (try clear hk)
              (try clear hi)
              (try clear ho0)
              (try clear ho1)
              refine hK.out _ _ ⟨(blk_cell BK221.out 0).trans rfl, (blk_cell BK221.out 1).trans rfl, (blk_cell BK222.out 0).trans rfl, (blk_cell BK222.out 1).trans rfl⟩ (fun hHeld => ?_)
              clear hK K
              refine norm_ (a' := ?_) ?_ ?_
              rotate_left
              ·show Act.put _ (some 109) _ = _
               simp only [Act.put, List.setIfInBounds_toArray, List.set_cons_zero, List.set_cons_succ, i64_w, i32_w]
               rfl
              refine pure_ (i := 5) (N := some 104) (v := ?_) (a' := ?_) #[true, true, true, true, true, true, false, false, false, false] rfl rfl (any_of HT_.out (by kernel_rfl)) (fun _ _ _ h => h) (Or.inl ⟨by rfl, ?_⟩) ?_ ?_
              rotate_left
              ·intro w'
               go_simp
               with_reducible rfl
              rotate_left
              ·simp only [Act.put, List.setIfInBounds_toArray, List.set_cons_zero, List.set_cons_succ, i64_w, i32_w]
               rfl
              refine pure_ (i := 6) (N := some 110) (v := ?_) (a' := ?_) #[true, true, true, true, true, true, true, false, false, false] rfl rfl (any_of HT_.out (by kernel_rfl)) (fun _ _ _ h => h) (Or.inl ⟨by rfl, ?_⟩) ?_ ?_
              rotate_left
              ·intro w'
               go_simp
               with_reducible rfl
              rotate_left
              ·simp only [Act.put, List.setIfInBounds_toArray, List.set_cons_zero, List.set_cons_succ, i64_w, i32_w]
               rfl
              refine pure_ (i := 7) (N := some 111) (v := ?_) (a' := ?_) #[true, true, true, true, true, true, true, true, false, false] rfl rfl (any_of HT_.out (by kernel_rfl)) (fun _ _ _ h => h) (Or.inl ⟨by rfl, ?_⟩) ?_ ?_
              rotate_left
              ·intro w'
               go_simp
               with_reducible rfl
              rotate_left
              ·simp only [Act.put, List.setIfInBounds_toArray, List.set_cons_zero, List.set_cons_succ, i64_w, i32_w]
               rfl
              refine pure_ (i := 8) (N := some 15) (v := ?_) (a' := ?_) #[true, true, true, true, true, true, true, true, true, false] rfl rfl (any_of HT_.out (by kernel_rfl)) (fun _ _ _ h => h) (Or.inl ⟨by rfl, ?_⟩) ?_ ?_
              rotate_left
              ·intro w'
               go_simp
               with_reducible rfl
              rotate_left
              ·simp only [Act.put, List.setIfInBounds_toArray, List.set_cons_zero, List.set_cons_succ, i64_w, i32_w]
               rfl
              refine pure_ (i := 9) (N := some 16) (v := ?_) (a' := ?_) #[true, true, true, true, true, true, true, true, true, true] rfl rfl (any_of HT_.out (by kernel_rfl)) (fun _ _ _ h => h) (Or.inl ⟨by rfl, ?_⟩) ?_ ?_
              rotate_left
              ·intro w'
               go_simp
               with_reducible rfl
              rotate_left
              ·simp only [Act.put, List.setIfInBounds_toArray, List.set_cons_zero, List.set_cons_succ, i64_w, i32_w]
               rfl
              refine done_ (done_of HT_.out (by kernel_rfl)) ?_
              go_upto_region 36 with (fail)
              go_cut [121] (fun v121 wc => ∃ (kq : Nat) (x121_118 : Bool), v121 = .bool x121_118 ∧ Aside0 (laws_FnExactDiffReports.j2 kq t288 t290 t289 x121_118 = some r) ∧ Aside0 (kq ≤ kj77) ∧ Aside0 (Kd.R Kd.string 9 wc w.heap.size (fun k_ => some k_ ≠ ((.slice Ao122 t260.length co122) : Value).ownBlock ∧ some k_ ≠ ((.slice Ao48 t281.length co48) : Value).ownBlock ∧ some k_ ≠ ((.slice Ao57 t284.length co57) : Value).ownBlock) (.slice Ao120 t257.length co120) t288) ∧ Aside0 (Kd.R Kd.string 9 wc w.heap.size (fun k_ => some k_ ≠ ((.slice Ao120 t257.length co120) : Value).ownBlock ∧ some k_ ≠ ((.slice Ao48 t281.length co48) : Value).ownBlock ∧ some k_ ≠ ((.slice Ao57 t284.length co57) : Value).ownBlock) (.slice Ao122 t260.length co122) t290) ∧ Aside0 (Kd.R k37 37 wc w.heap.size (fun k_ => some k_ ≠ ((.slice Ao52 t283.length co52) : Value).ownBlock) (.slice Ao44 t280.length co44) t280) ∧ Aside0 (Kd.R Kd.string 9 wc w.heap.size (fun k_ => some k_ ≠ ((.slice Ao120 t257.length co120) : Value).ownBlock ∧ some k_ ≠ ((.slice Ao122 t260.length co122) : Value).ownBlock ∧ some k_ ≠ ((.slice Ao57 t284.length co57) : Value).ownBlock) (.slice Ao48 t281.length co48) t281) ∧ Aside0 (Kd.R k37 37 wc w.heap.size (fun k_ => some k_ ≠ ((.slice Ao44 t280.length co44) : Value).ownBlock) (.slice Ao52 t283.length co52) t283) ∧ Aside0 (Kd.R Kd.string 9 wc w.heap.size (fun k_ => some k_ ≠ ((.slice Ao120 t257.length co120) : Value).ownBlock ∧ some k_ ≠ ((.slice Ao122 t260.length co122) : Value).ownBlock ∧ some k_ ≠ ((.slice Ao48 t281.length co48) : Value).ownBlock) (.slice Ao57 t284.length co57) t284) ∧ Aside0 (wc.heap[gb221]? = some (.cells #[(.slice A0_0 l0_0.length c0_0), (.slice A0_1 l0_1.length c0_1)] 41 (0, 0))) ∧ Aside0 (wc.heap[gb222]? = some (.cells #[(.slice A1_0 l1_0.length c1_0), (.slice A1_1 l1_1.length c1_1)] 41 (0, 0))) ∧ Aside0 (wc.heap[gb249]? = some (.cells #[(.slice Ao44 t280.length co44), (.slice Ao48 t281.length co48)] 26 (0, 0))) ∧ Aside0 (wc.heap[gb256]? = some (.cells #[(.slice Ao52 t283.length co52), (.slice Ao57 t284.length co57)] 26 (0, 0))) ∧ Aside0 (Below w.heap.size w wc))
              case first =>
               have H := HC119.out
               clear HC119
               replace H := Option.bind_eq_some_iff.mp H
               obtain ⟨t311, A1340, H⟩ := H
               replace H : (if t311 = true then ((laws_eqStringS.f kj77 t308 t240).bind fun t312 => (laws_FnExactDiffReports.j2 kj77 t288 t290 t289 (!t312))) else (laws_FnExactDiffReports.j2 kj77 t288 t290 t289 true)) = some r := H
               have A134 := Aside0.mk A1340
               clear A1340
               by_cases c135 : t311 = true
               ·subst c135
                have H1 : ((laws_eqStringS.f kj77 t308 t240).bind fun t312 => (laws_FnExactDiffReports.j2 kj77 t288 t290 t289 (!t312))) = some r := by rw [if_pos rfl] at H; exact H
                clear H
                have H := H1
                clear H1
                replace H := Option.bind_eq_some_iff.mp H
                obtain ⟨t312, A1360, H⟩ := H
                replace H : (laws_FnExactDiffReports.j2 kj77 t288 t290 t289 (!t312)) = some r := H
                have A136 := Aside0.mk A1360
                clear A1360
                have H' := Aside0.mk H
                clear H
                obtain ⟨Ao137, co137, eo137⟩ := Kd.R_slice HO307.out
                subst eo137
                obtain ⟨Ao138, co138, eo138⟩ := Kd.R_slice HO_6.out
                subst eo138
                go_wp2_with (first | ((with_reducible refine gate_callee (f := 30) rfl ?_); refine goesL_ (some 114) rfl rfl Try.func30 (by kernel_rfl) rfl #[.slice Ao137 t305.length co137, .slice Ao138 t237.length co138] rfl (by (try simp only [List.map_toArray, List.map_cons, List.map_nil]); first | done | rfl | (simp only [List.length_drop, List.length_take]; rfl)) ?_; (with_reducible refine (laws_eqStringS.calls kj77 _ _ t305 _ _ t237 true _ ?side1 ?side2 ?side3 ?side4 A134.out).mono ?_); (case side1 => repeat (first | exact (Kd.R_reads' HO307.out).2.2 | (with_reducible refine Kd.C_alloc ?_ _) | (with_reducible refine Kd.C_drewN ?_ _) | (with_reducible refine Kd.C_drew ?_))); (case side2 => exact (Kd.R_reads' HO307.out).2.1); (case side3 => repeat (first | exact (Kd.R_reads' HO_6.out).2.2 | (with_reducible refine Kd.C_alloc ?_ _) | (with_reducible refine Kd.C_drewN ?_ _) | (with_reducible refine Kd.C_drew ?_))); (case side4 => exact (Kd.R_reads' HO_6.out).2.1); rintro e w' ⟨rfl, ⟨nd, rfl⟩⟩; refine ⟨_, rfl, ?_⟩; obtain ⟨Ao139, co139, eo139⟩ := Kd.R_slice HO310.out; subst eo139; obtain ⟨Ao140, co140, eo140⟩ := Kd.R_slice HO_7.out; subst eo140) | (go_at_call 30; (with_reducible refine (laws_eqStringS.calls kj77 _ _ t308 _ _ t240 t312 _ ?side1 ?side2 ?side3 ?side4 A136.out).mono ?_); (case side1 => repeat (first | exact (Kd.R_reads' HO310.out).2.2 | (with_reducible refine Kd.C_alloc ?_ _) | (with_reducible refine Kd.C_drewN ?_ _) | (with_reducible refine Kd.C_drew ?_))); (case side2 => exact (Kd.R_reads' HO310.out).2.1); (case side3 => repeat (first | exact (Kd.R_reads' HO_7.out).2.2 | (with_reducible refine Kd.C_alloc ?_ _) | (with_reducible refine Kd.C_drewN ?_ _) | (with_reducible refine Kd.C_drew ?_))); (case side4 => exact (Kd.R_reads' HO_7.out).2.1); rintro e w' ⟨rfl, ⟨nd, rfl⟩⟩))
                go_meet
                case rel => exact ⟨_, (!t312), (by first | rfl | (simp; done) | (simp [*]; done)), H', ⟨by have := HJ24.out; have := HJ77.out; first | omega | exact Nat.le_refl _⟩, ⟨by (try simp only [hl250000_77]); (try simp only [hl250001_77]); (try simp only [hl257000_77]); (try simp only [hl257001_77]); (with_reducible repeat (first | apply Kd.R_alloc | apply Kd.R_drewN | apply Kd.R_drew)); exact Kd.R_mono HO_10.out (fun _ hk => ⟨(gives hk), ⟨(gives hk), (gives hk)⟩⟩)⟩, ⟨by (try simp only [hl250000_77]); (try simp only [hl250001_77]); (try simp only [hl257000_77]); (try simp only [hl257001_77]); (with_reducible repeat (first | apply Kd.R_alloc | apply Kd.R_drewN | apply Kd.R_drew)); exact Kd.R_mono HO_11.out (fun _ hk => ⟨(gives hk), ⟨(gives hk), (gives hk)⟩⟩)⟩, ⟨by (try simp only [hl250000_77]); (try simp only [hl250001_77]); (try simp only [hl257000_77]); (try simp only [hl257001_77]); (with_reducible repeat (first | apply Kd.R_alloc | apply Kd.R_drewN | apply Kd.R_drew)); exact Kd.R_mono HO_250000.out (fun _ hk => (gives hk))⟩, ⟨by (try simp only [hl250000_77]); (try simp only [hl250001_77]); (try simp only [hl257000_77]); (try simp only [hl257001_77]); (with_reducible repeat (first | apply Kd.R_alloc | apply Kd.R_drewN | apply Kd.R_drew)); exact Kd.R_mono HO_250001.out (fun _ hk => ⟨(gives hk), ⟨(gives hk), (gives hk)⟩⟩)⟩, ⟨by (try simp only [hl250000_77]); (try simp only [hl250001_77]); (try simp only [hl257000_77]); (try simp only [hl257001_77]); (with_reducible repeat (first | apply Kd.R_alloc | apply Kd.R_drewN | apply Kd.R_drew)); exact Kd.R_mono HO_257000.out (fun _ hk => (gives hk))⟩, ⟨by (try simp only [hl250000_77]); (try simp only [hl250001_77]); (try simp only [hl257000_77]); (try simp only [hl257001_77]); (with_reducible repeat (first | apply Kd.R_alloc | apply Kd.R_drewN | apply Kd.R_drew)); exact Kd.R_mono HO_257001.out (fun _ hk => ⟨(gives hk), ⟨(gives hk), (gives hk)⟩⟩)⟩, ⟨by (try simp only [hl250000_77]); (try simp only [hl250001_77]); (try simp only [hl257000_77]); (try simp only [hl257001_77]); (with_reducible repeat (first | apply blk_drewN | apply blk_drew | apply blk_alloc)); exact BK221.out⟩, ⟨by (try simp only [hl250000_77]); (try simp only [hl250001_77]); (try simp only [hl257000_77]); (try simp only [hl257001_77]); (with_reducible repeat (first | apply blk_drewN | apply blk_drew | apply blk_alloc)); exact BK222.out⟩, ⟨by (try simp only [hl250000_77]); (try simp only [hl250001_77]); (try simp only [hl257000_77]); (try simp only [hl257001_77]); (with_reducible repeat (first | apply blk_drewN | apply blk_drew | apply blk_alloc)); exact BK249.out⟩, ⟨by (try simp only [hl250000_77]); (try simp only [hl250001_77]); (try simp only [hl257000_77]); (try simp only [hl257001_77]); (with_reducible repeat (first | apply blk_drewN | apply blk_drew | apply blk_alloc)); exact BK256.out⟩, ⟨by repeat (first | (with_reducible first | exact HB.out | apply below_alloc | apply pw_below_drewN | apply below_drew1 | refine below_set ?_ GE221.out | refine below_set ?_ GE222.out | refine below_set ?_ GE249.out | refine below_set ?_ GE256.out) | exact HB.out)⟩⟩
               ·replace c135 := Bool.eq_false_iff.mpr c135
                subst c135
                have H1 : (laws_FnExactDiffReports.j2 kj77 t288 t290 t289 true) = some r := by rw [if_neg (show ¬ (false = true) by decide)] at H; exact H
                clear H
                have H := H1
                clear H1
                have H' := Aside0.mk H
                clear H
                obtain ⟨Ao141, co141, eo141⟩ := Kd.R_slice HO307.out
                subst eo141
                obtain ⟨Ao142, co142, eo142⟩ := Kd.R_slice HO_6.out
                subst eo142
                go_wp2_with (first | ((with_reducible refine gate_callee (f := 30) rfl ?_); refine goesL_ (some 114) rfl rfl Try.func30 (by kernel_rfl) rfl #[.slice Ao141 t305.length co141, .slice Ao142 t237.length co142] rfl (by (try simp only [List.map_toArray, List.map_cons, List.map_nil]); first | done | rfl | (simp only [List.length_drop, List.length_take]; rfl)) ?_; (with_reducible refine (laws_eqStringS.calls kj77 _ _ t305 _ _ t237 false _ ?side1 ?side2 ?side3 ?side4 A134.out).mono ?_); (case side1 => repeat (first | exact (Kd.R_reads' HO307.out).2.2 | (with_reducible refine Kd.C_alloc ?_ _) | (with_reducible refine Kd.C_drewN ?_ _) | (with_reducible refine Kd.C_drew ?_))); (case side2 => exact (Kd.R_reads' HO307.out).2.1); (case side3 => repeat (first | exact (Kd.R_reads' HO_6.out).2.2 | (with_reducible refine Kd.C_alloc ?_ _) | (with_reducible refine Kd.C_drewN ?_ _) | (with_reducible refine Kd.C_drew ?_))); (case side4 => exact (Kd.R_reads' HO_6.out).2.1); rintro e w' ⟨rfl, ⟨nd, rfl⟩⟩; refine ⟨_, rfl, ?_⟩))
                go_meet
                case rel => exact ⟨_, (true), (by first | rfl | (simp; done) | (simp [*]; done)), H', ⟨by have := HJ24.out; have := HJ77.out; first | omega | exact Nat.le_refl _⟩, ⟨by (try simp only [hl250000_77]); (try simp only [hl250001_77]); (try simp only [hl257000_77]); (try simp only [hl257001_77]); (with_reducible repeat (first | apply Kd.R_alloc | apply Kd.R_drewN | apply Kd.R_drew)); exact Kd.R_mono HO_10.out (fun _ hk => ⟨(gives hk), ⟨(gives hk), (gives hk)⟩⟩)⟩, ⟨by (try simp only [hl250000_77]); (try simp only [hl250001_77]); (try simp only [hl257000_77]); (try simp only [hl257001_77]); (with_reducible repeat (first | apply Kd.R_alloc | apply Kd.R_drewN | apply Kd.R_drew)); exact Kd.R_mono HO_11.out (fun _ hk => ⟨(gives hk), ⟨(gives hk), (gives hk)⟩⟩)⟩, ⟨by (try simp only [hl250000_77]); (try simp only [hl250001_77]); (try simp only [hl257000_77]); (try simp only [hl257001_77]); (with_reducible repeat (first | apply Kd.R_alloc | apply Kd.R_drewN | apply Kd.R_drew)); exact Kd.R_mono HO_250000.out (fun _ hk => (gives hk))⟩, ⟨by (try simp only [hl250000_77]); (try simp only [hl250001_77]); (try simp only [hl257000_77]); (try simp only [hl257001_77]); (with_reducible repeat (first | apply Kd.R_alloc | apply Kd.R_drewN | apply Kd.R_drew)); exact Kd.R_mono HO_250001.out (fun _ hk => ⟨(gives hk), ⟨(gives hk), (gives hk)⟩⟩)⟩, ⟨by (try simp only [hl250000_77]); (try simp only [hl250001_77]); (try simp only [hl257000_77]); (try simp only [hl257001_77]); (with_reducible repeat (first | apply Kd.R_alloc | apply Kd.R_drewN | apply Kd.R_drew)); exact Kd.R_mono HO_257000.out (fun _ hk => (gives hk))⟩, ⟨by (try simp only [hl250000_77]); (try simp only [hl250001_77]); (try simp only [hl257000_77]); (try simp only [hl257001_77]); (with_reducible repeat (first | apply Kd.R_alloc | apply Kd.R_drewN | apply Kd.R_drew)); exact Kd.R_mono HO_257001.out (fun _ hk => ⟨(gives hk), ⟨(gives hk), (gives hk)⟩⟩)⟩, ⟨by (try simp only [hl250000_77]); (try simp only [hl250001_77]); (try simp only [hl257000_77]); (try simp only [hl257001_77]); (with_reducible repeat (first | apply blk_drewN | apply blk_drew | apply blk_alloc)); exact BK221.out⟩, ⟨by (try simp only [hl250000_77]); (try simp only [hl250001_77]); (try simp only [hl257000_77]); (try simp only [hl257001_77]); (with_reducible repeat (first | apply blk_drewN | apply blk_drew | apply blk_alloc)); exact BK222.out⟩, ⟨by (try simp only [hl250000_77]); (try simp only [hl250001_77]); (try simp only [hl257000_77]); (try simp only [hl257001_77]); (with_reducible repeat (first | apply blk_drewN | apply blk_drew | apply blk_alloc)); exact BK249.out⟩, ⟨by (try simp only [hl250000_77]); (try simp only [hl250001_77]); (try simp only [hl257000_77]); (try simp only [hl257001_77]); (with_reducible repeat (first | apply blk_drewN | apply blk_drew | apply blk_alloc)); exact BK256.out⟩, ⟨by repeat (first | (with_reducible first | exact HB.out | apply below_alloc | apply pw_below_drewN | apply below_drew1 | refine below_set ?_ GE221.out | refine below_set ?_ GE222.out | refine below_set ?_ GE249.out | refine below_set ?_ GE256.out) | exact HB.out)⟩⟩
              case rest =>
               clear HC119
               try clear c1
               try clear c2
               try clear p2
               try clear c3
               try clear c6
               try clear c7
               try clear c8
               try clear c9
               try clear c10
               try clear c11
               try clear c13
               try clear c25
               try clear c26
               try clear c30
               try clear c31
               try clear c32
               try clear c33
               try clear c36
               try clear c69
               try clear c72
               try clear c75
               try clear c89
               try clear c90
               try clear c91
               try clear c94
               try clear c95
               try clear c98
               try clear c98b0
               try clear c100
               try clear c108
               try clear c112
               try clear c112b0
               try clear c114
               try clear c114b0
               try clear c115
               try clear c115b0
               try clear c115b1
               try clear c135
               try clear hcz47_0
               try clear hcz47_1
               try clear hcz49_0
               try clear hcz49_1
               try clear hcz56_0
               try clear hcz56_1
               try clear hcz58_0
               try clear hcz58_1
               try clear hcz8_0
               try clear hcz8_1
               try clear hcz92_0
               try clear hcz92_1
               try clear hcz96_0
               try clear hcz96_1
               try clear hfz15_0
               try clear hfz15_1
               try clear hfz17_0
               try clear hfz17_1
               try clear hfz29_0
               try clear hfz29_1
               try clear hfz31_0
               try clear hfz31_1
               try clear hfz41_0
               try clear hfz41_1
               try clear hfz47_0
               try clear hfz47_1
               try clear hfz49_0
               try clear hfz49_1
               try clear hfz56_0
               try clear hfz56_1
               try clear hfz58_0
               try clear hfz58_1
               try clear hfz8_0
               try clear hfz8_1
               try clear hfz92_0
               try clear hfz92_1
               try clear hfz96_0
               try clear hfz96_1
               try clear p2
               obtain ⟨kq, x121_118, rfl, HA, HJ118, HO_10, HO_11, HO_250000, HO_250001, HO_257000, HO_257001, BK221, BK222, BK249, BK256, HB⟩ := hcut
               have hl10_118 := (Kd.R_reads' HO_10.out).1
               rw [hl10_118] at HO_10
               (try simp only [hl10_118])
               (try simp only [hl10_118] at BK221)
               (try simp only [hl10_118] at BK222)
               (try simp only [hl10_118] at BK249)
               (try simp only [hl10_118] at BK256)
               (try simp only [hl10_118] at HO_11)
               (try simp only [hl10_118] at HO_250000)
               (try simp only [hl10_118] at HO_250001)
               (try simp only [hl10_118] at HO_257000)
               (try simp only [hl10_118] at HO_257001)
               have hl11_118 := (Kd.R_reads' HO_11.out).1
               rw [hl11_118] at HO_11
               (try simp only [hl11_118])
               (try simp only [hl11_118] at BK221)
               (try simp only [hl11_118] at BK222)
               (try simp only [hl11_118] at BK249)
               (try simp only [hl11_118] at BK256)
               (try simp only [hl11_118] at HO_10)
               (try simp only [hl11_118] at HO_250000)
               (try simp only [hl11_118] at HO_250001)
               (try simp only [hl11_118] at HO_257000)
               (try simp only [hl11_118] at HO_257001)
               cases kq with
               | zero => exact absurd HA.out (by simp [laws_FnExactDiffReports.j2])
               | succ kj118 =>
                have H := HA.out
                clear HA
                simp only [laws_FnExactDiffReports.j2] at H
                by_cases c143 : x121_118 = true
                ·subst c143
                 have H1 : (none) = some r := by rw [if_pos rfl] at H; exact H
                 clear H
                 have H := H1
                 clear H1
                 exact absurd H (by simp)
                ·replace c143 := Bool.eq_false_iff.mpr c143
                 subst c143
                 have H1 : ((laws_heldStringS.f kj118 t288 1).bind fun t313 => (if t313 < 0 then (none) else ((laws_heldStringS.f kj118 t290 t313).bind fun t314 => (if t314 < 0 then (none) else (if t314 = t289 then (some true) else (none)))))) = some r := by rw [if_neg (show ¬ (false = true) by decide)] at H; exact H
                 clear H
                 have H := H1
                 clear H1
                 replace H := Option.bind_eq_some_iff.mp H
                 obtain ⟨t313, A1440, H⟩ := H
                 replace H : (if t313 < 0 then (none) else ((laws_heldStringS.f kj118 t290 t313).bind fun t314 => (if t314 < 0 then (none) else (if t314 = t289 then (some true) else (none))))) = some r := H
                 have A144 := Aside0.mk A1440
                 clear A1440
                 by_cases c145 : t313 < 0
                 ·rw [if_pos c145] at H
                  exact absurd H (by simp)
                 ·rw [if_neg c145] at H
                  have c145b0 : decide (t313 < 0) = false := decide_eq_false c145
                  clear c145
                  replace H := Option.bind_eq_some_iff.mp H
                  obtain ⟨t314, A1460, H⟩ := H
                  replace H : (if t314 < 0 then (none) else (if t314 = t289 then (some true) else (none))) = some r := H
                  have A146 := Aside0.mk A1460
                  clear A1460
                  by_cases c147 : t314 < 0
                  ·rw [if_pos c147] at H
                   exact absurd H (by simp)
                  ·rw [if_neg c147] at H
                   have c147b0 : decide (t314 < 0) = false := decide_eq_false c147
                   clear c147
                   by_cases c148 : t314 = t289
                   ·rw [if_pos c148] at H
                    have c148b0 : (t314 == t289) = true := beq_iff_eq.mpr c148
                    have c148b1 : (t314 != t289) = false := bne_eq_false_iff_eq.mpr c148
                    clear c148
                    obtain rfl := Option.some.inj H
                    go_wp2_with (first | ((with_reducible refine gate_callee (f := 33) rfl ?_); refine goesL_ (some 124) rfl rfl Try.func33 (by kernel_rfl) rfl #[.slice Ao120 t288.length co120, .int .i64 1] rfl (by (try simp only [List.map_toArray, List.map_cons, List.map_nil]); first | done | rfl | (simp only [List.length_drop, List.length_take]; rfl)) ?_; (with_reducible refine (laws_heldStringS.calls kj118 _ _ t288 1 t313 _ ?side1 ?side2 A144.out).mono ?_); (case side1 => repeat (first | exact (Kd.R_reads' HO_10.out).2.2 | (with_reducible refine Kd.C_alloc ?_ _) | (with_reducible refine Kd.C_drewN ?_ _) | (with_reducible refine Kd.C_drew ?_))); (case side2 => exact (Kd.R_reads' HO_10.out).2.1); rintro e w149 ⟨rfl, hb⟩; refine ⟨_, rfl, ?_⟩; have n0_ := Aside0.mk (Kd.R_below (by (with_reducible repeat (first | apply Kd.R_alloc | apply Kd.R_drewN | apply Kd.R_drew)); exact HO_10.out) hb); have n1_ := Aside0.mk (Kd.R_below (by (with_reducible repeat (first | apply Kd.R_alloc | apply Kd.R_drewN | apply Kd.R_drew)); exact HO_11.out) hb); have n2_ := Aside0.mk (Kd.R_below (by (with_reducible repeat (first | apply Kd.R_alloc | apply Kd.R_drewN | apply Kd.R_drew)); exact HO_250000.out) hb); have n3_ := Aside0.mk (Kd.R_below (by (with_reducible repeat (first | apply Kd.R_alloc | apply Kd.R_drewN | apply Kd.R_drew)); exact HO_250001.out) hb); have n4_ := Aside0.mk (Kd.R_below (by (with_reducible repeat (first | apply Kd.R_alloc | apply Kd.R_drewN | apply Kd.R_drew)); exact HO_257000.out) hb); have n5_ := Aside0.mk (Kd.R_below (by (with_reducible repeat (first | apply Kd.R_alloc | apply Kd.R_drewN | apply Kd.R_drew)); exact HO_257001.out) hb); have n6_ := Aside0.mk (blk_below (g := gb221) (o := .cells #[.slice A0_0 l0_0.length c0_0, .slice A0_1 l0_1.length c0_1] 41 (0, 0)) (by (with_reducible repeat (first | apply blk_drewN | apply blk_drew | apply blk_alloc)); exact BK221.out) hb); have n7_ := Aside0.mk (blk_below (g := gb222) (o := .cells #[.slice A1_0 l1_0.length c1_0, .slice A1_1 l1_1.length c1_1] 41 (0, 0)) (by (with_reducible repeat (first | apply blk_drewN | apply blk_drew | apply blk_alloc)); exact BK222.out) hb); have n8_ := Aside0.mk (blk_below (g := gb249) (o := .cells #[.slice Ao44 t280.length co44, .slice Ao48 t281.length co48] 26 (0, 0)) (by (with_reducible repeat (first | apply blk_drewN | apply blk_drew | apply blk_alloc)); exact BK249.out) hb); have n9_ := Aside0.mk (blk_below (g := gb256) (o := .cells #[.slice Ao52 t283.length co52, .slice Ao57 t284.length co57] 26 (0, 0)) (by (with_reducible repeat (first | apply blk_drewN | apply blk_drew | apply blk_alloc)); exact BK256.out) hb); have n10_ := Aside0.mk (below_step (by repeat (first | (with_reducible first | exact HB.out | apply below_alloc | apply pw_below_drewN | apply below_drew1 | refine below_set ?_ GE221.out | refine below_set ?_ GE222.out | refine below_set ?_ GE249.out | refine below_set ?_ GE256.out) | exact HB.out)) hb); clear HO_10; clear HO_11; clear HO_250000; clear HO_250001; clear HO_257000; clear HO_257001; clear BK221; clear BK222; clear BK249; clear BK256; clear HB; have HO_10 := n0_; have HO_11 := n1_; have HO_250000 := n2_; have HO_250001 := n3_; have HO_257000 := n4_; have HO_257001 := n5_; have BK221 := n6_; have BK222 := n7_; have BK249 := n8_; have BK256 := n9_; have HB := n10_; clear n0_ n1_ n2_ n3_ n4_ n5_ n6_ n7_ n8_ n9_ n10_; (try clear hb); (try clear hb2); (try clear hk); (try clear hi)) | ((with_reducible refine gate_callee (f := 33) rfl ?_); refine goesL_ (some 129) rfl rfl Try.func33 (by kernel_rfl) rfl #[.slice Ao122 t290.length co122, .int .i64 t313] rfl (by (try simp only [List.map_toArray, List.map_cons, List.map_nil]); first | done | rfl | (simp only [List.length_drop, List.length_take]; rfl)) ?_; (with_reducible refine (laws_heldStringS.calls kj118 _ _ t290 t313 t314 _ ?side1 ?side2 A146.out).mono ?_); (case side1 => repeat (first | exact (Kd.R_reads' HO_11.out).2.2 | (with_reducible refine Kd.C_alloc ?_ _) | (with_reducible refine Kd.C_drewN ?_ _) | (with_reducible refine Kd.C_drew ?_))); (case side2 => exact (Kd.R_reads' HO_11.out).2.1); rintro e w150 ⟨rfl, hb⟩; refine ⟨_, rfl, ?_⟩; have n0_ := Aside0.mk (Kd.R_below (by (with_reducible repeat (first | apply Kd.R_alloc | apply Kd.R_drewN | apply Kd.R_drew)); exact HO_10.out) hb); have n1_ := Aside0.mk (Kd.R_below (by (with_reducible repeat (first | apply Kd.R_alloc | apply Kd.R_drewN | apply Kd.R_drew)); exact HO_11.out) hb); have n2_ := Aside0.mk (Kd.R_below (by (with_reducible repeat (first | apply Kd.R_alloc | apply Kd.R_drewN | apply Kd.R_drew)); exact HO_250000.out) hb); have n3_ := Aside0.mk (Kd.R_below (by (with_reducible repeat (first | apply Kd.R_alloc | apply Kd.R_drewN | apply Kd.R_drew)); exact HO_250001.out) hb); have n4_ := Aside0.mk (Kd.R_below (by (with_reducible repeat (first | apply Kd.R_alloc | apply Kd.R_drewN | apply Kd.R_drew)); exact HO_257000.out) hb); have n5_ := Aside0.mk (Kd.R_below (by (with_reducible repeat (first | apply Kd.R_alloc | apply Kd.R_drewN | apply Kd.R_drew)); exact HO_257001.out) hb); have n6_ := Aside0.mk (blk_below (g := gb221) (o := .cells #[.slice A0_0 l0_0.length c0_0, .slice A0_1 l0_1.length c0_1] 41 (0, 0)) (by (with_reducible repeat (first | apply blk_drewN | apply blk_drew | apply blk_alloc)); exact BK221.out) hb); have n7_ := Aside0.mk (blk_below (g := gb222) (o := .cells #[.slice A1_0 l1_0.length c1_0, .slice A1_1 l1_1.length c1_1] 41 (0, 0)) (by (with_reducible repeat (first | apply blk_drewN | apply blk_drew | apply blk_alloc)); exact BK222.out) hb); have n8_ := Aside0.mk (blk_below (g := gb249) (o := .cells #[.slice Ao44 t280.length co44, .slice Ao48 t281.length co48] 26 (0, 0)) (by (with_reducible repeat (first | apply blk_drewN | apply blk_drew | apply blk_alloc)); exact BK249.out) hb); have n9_ := Aside0.mk (blk_below (g := gb256) (o := .cells #[.slice Ao52 t283.length co52, .slice Ao57 t284.length co57] 26 (0, 0)) (by (with_reducible repeat (first | apply blk_drewN | apply blk_drew | apply blk_alloc)); exact BK256.out) hb); have n10_ := Aside0.mk (below_step (by repeat (first | (with_reducible first | exact HB.out | apply below_alloc | apply pw_below_drewN | apply below_drew1 | refine below_set ?_ GE221.out | refine below_set ?_ GE222.out | refine below_set ?_ GE249.out | refine below_set ?_ GE256.out) | exact HB.out)) hb); clear HO_10; clear HO_11; clear HO_250000; clear HO_250001; clear HO_257000; clear HO_257001; clear BK221; clear BK222; clear BK249; clear BK256; clear HB; have HO_10 := n0_; have HO_11 := n1_; have HO_250000 := n2_; have HO_250001 := n3_; have HO_257000 := n4_; have HO_257001 := n5_; have BK221 := n6_; have BK222 := n7_; have BK249 := n8_; have BK256 := n9_; have HB := n10_; clear n0_ n1_ n2_ n3_ n4_ n5_ n6_ n7_ n8_ n9_ n10_; (try clear hb); (try clear hb2); (try clear hk); (try clear hi)))
                    go_ret
                    exact ⟨by first | rfl | (simp [errW_none, errW_some] <;> rfl) | (simp [*, errW_none, errW_some] <;> rfl), by repeat (first | (with_reducible first | exact HB.out | apply below_alloc | apply pw_below_drewN | apply below_drew1 | refine below_set ?_ GE221.out | refine below_set ?_ GE222.out | refine below_set ?_ GE249.out | refine below_set ?_ GE256.out) | exact HB.out)⟩
                   ·rw [if_neg c148] at H
                    exact absurd H (by simp)
             ·rw [if_neg c115] at H
              exact absurd H (by simp)
       ·replace c75 := Bool.eq_false_iff.mpr c75
        subst c75
        have H1 : (none) = some r := by rw [if_neg (show ¬ (false = true) by decide)] at H; exact H
        clear H
        have H := H1
        clear H1
        exact absurd H (by simp)
      ·replace c72 := Bool.eq_false_iff.mpr c72
       subst c72
       have H1 : (none) = some r := by rw [if_neg (show ¬ (false = true) by decide)] at H; exact H
       clear H
       have H := H1
       clear H1
       exact absurd H (by simp)

end Go.Proofs.Ytfpoihcpjmkbkaa.OFnExactDiffReports

-- Written by a program of this session (the kit's printing program with additions of this session's own); Lean checks it.
import Derived.Test.YtfpoihcpjmkbkaaOFnMergeReportsx0
import Derived.Test.YtfpoihcpjmkbkaaOFnMergeReportsx5
namespace Go.Proofs.Ytfpoihcpjmkbkaa.OFnMergeReports
open Go.RowKit Go.Proofs.YtfpoihcpjmkbkaaW.PrintWords Go.Proofs.YtfpoihcpjmkbkaaW.PrintLast Go.Proofs.YtfpoihcpjmkbkaaW.PrintMore
attribute [local go_sem] max2_int min2_int max_two min_two max_three min_three max_four min_four   -- for this text's walks alone
set_option linter.unusedVariables false
set_option linter.unusedSimpArgs false

/-! ### spec_MergeReports: function 21 -/
mutual
def spec_MergeReports.l0 : Nat → Int → List (S37) → List ByteArray → List (S37) → List ByteArray → List (S37) → List ByteArray → Option ((List (S37)) × List ByteArray)
 | 0, _, _, _, _, _, _, _ => none
 | k + 1, x6, x231000, x231001, x232000, x232001, x249000, x249001 => if x6 < (x249000.length : Int) then (if 0 ≤ x6 then ((spec_outcomeOf.f k x232000 ((rd_T37 x249000 x6).f0)).bind fun t250 => (if t250 ≥ 0 then (spec_MergeReports.l0 k (wrap64 (x6 + 1)) x231000 x231001 x232000 x232001 (x249000.set (x6 : Int).toNat (⟨(rd_T37 x249000 x6).f0, t250⟩ : S37)) x249001) else (spec_MergeReports.l0 k (wrap64 (x6 + 1)) x231000 x231001 x232000 x232001 x249000 x249001))) else (none)) else (spec_MergeReports.l1 k 0 x231000 x231001 x232000 x232001 x249000 x249001)
def spec_MergeReports.l1 : Nat → Int → List (S37) → List ByteArray → List (S37) → List ByteArray → List (S37) → List ByteArray → Option ((List (S37)) × List ByteArray)
 | 0, _, _, _, _, _, _, _ => none
 | k + 1, x8, x231000, x231001, x232000, x232001, x249000, x249001 => if x8 < (x232000.length : Int) then (if 0 ≤ x8 then ((spec_outcomeOf.f k x231000 ((rd_T37 x232000 x8).f0)).bind fun t253 => (if t253 < 0 then (if x249000.length < 5864062014805 then (spec_MergeReports.l1 k (wrap64 (x8 + 1)) x231000 x231001 x232000 x232001 (x249000 ++ [(⟨(rd_T37 x232000 x8).f0, (rd_T37 x232000 x8).f1⟩ : S37)]) x249001) else (none)) else (spec_MergeReports.l1 k (wrap64 (x8 + 1)) x231000 x231001 x232000 x232001 x249000 x249001))) else (none)) else (some (x249000, x249001))
end
def spec_MergeReports.f (k : Nat) (l0_0 : List (S37)) (l0_1 : List ByteArray) (l1_0 : List (S37)) (l1_1 : List ByteArray) : Option ((List (S37)) × List ByteArray) := (some (([] : List (S37)) : List (S37))).bind fun y233 => (if y233.length + l0_0.length < 5864062014805 then ((some (([] : List ByteArray) : List ByteArray)).bind fun y239 => (if y239.length + l0_1.length < 8796093022208 then ((some (y239 ++ l0_1 : List ByteArray)).bind fun y242 => (if y242.length + l1_1.length < 8796093022208 then (spec_MergeReports.l0 k 0 l0_0 l0_1 l1_0 l1_1 (y233 ++ l0_0) (y242 ++ l1_1)) else (none))) else (none))) else (none))
theorem spec_MergeReports.mono_l : ∀ k, (∀ y0 y1 y2 y3 y4 y5 y6, LeO (spec_MergeReports.l0 k y0 y1 y2 y3 y4 y5 y6) (spec_MergeReports.l0 (k + 1) y0 y1 y2 y3 y4 y5 y6)) ∧ (∀ y0 y1 y2 y3 y4 y5 y6, LeO (spec_MergeReports.l1 k y0 y1 y2 y3 y4 y5 y6) (spec_MergeReports.l1 (k + 1) y0 y1 y2 y3 y4 y5 y6))
 | 0 => ⟨fun _ _ _ _ _ _ _ r h => by simp [spec_MergeReports.l0] at h, fun _ _ _ _ _ _ _ r h => by simp [spec_MergeReports.l1] at h⟩
 | k + 1 => by
  obtain ⟨ih0, ih1⟩ := spec_MergeReports.mono_l k
  refine ⟨?_, ?_⟩
  ·intro y0 y1 y2 y3 y4 y5 y6
   unfold spec_MergeReports.l0
   repeat' first
   | (with_reducible exact ih0 _ _ _ _ _ _ _)
   | (with_reducible exact ih1 _ _ _ _ _ _ _)
   | (with_reducible exact spec_outcomeOf.mono _ _ _)
   | (with_reducible exact LeO.refl _)
   | (with_reducible exact LeO.none _)
   | (with_reducible refine LeO.ite ?_ ?_)
   | (with_reducible refine LeO.bind ?_ (fun _ => ?_))
   | exact ih0 _ _ _ _ _ _ _
   | exact ih1 _ _ _ _ _ _ _
   | exact spec_outcomeOf.mono _ _ _
   | exact LeO.none _
   | refine LeO.ite ?_ ?_
   | refine LeO.bind ?_ (fun _ => ?_)
  ·intro y0 y1 y2 y3 y4 y5 y6
   unfold spec_MergeReports.l1
   repeat' first
   | (with_reducible exact ih0 _ _ _ _ _ _ _)
   | (with_reducible exact ih1 _ _ _ _ _ _ _)
   | (with_reducible exact spec_outcomeOf.mono _ _ _)
   | (with_reducible exact LeO.refl _)
   | (with_reducible exact LeO.none _)
   | (with_reducible refine LeO.ite ?_ ?_)
   | (with_reducible refine LeO.bind ?_ (fun _ => ?_))
   | exact ih0 _ _ _ _ _ _ _
   | exact ih1 _ _ _ _ _ _ _
   | exact spec_outcomeOf.mono _ _ _
   | exact LeO.none _
   | refine LeO.ite ?_ ?_
   | refine LeO.bind ?_ (fun _ => ?_)
theorem spec_MergeReports.mono : ∀ a0 a1 a2 a3 k, LeO (spec_MergeReports.f k a0 a1 a2 a3) (spec_MergeReports.f (k + 1) a0 a1 a2 a3) := by
 intro a0 a1 a2 a3 k
 obtain ⟨ih0, ih1⟩ := spec_MergeReports.mono_l k
 unfold spec_MergeReports.f
 repeat' first
   | (with_reducible exact ih0 _ _ _ _ _ _ _)
   | (with_reducible exact ih1 _ _ _ _ _ _ _)
   | (with_reducible exact spec_outcomeOf.mono _ _ _)
   | (with_reducible exact LeO.refl _)
   | (with_reducible exact LeO.none _)
   | (with_reducible refine LeO.ite ?_ ?_)
   | (with_reducible refine LeO.bind ?_ (fun _ => ?_))
   | exact ih0 _ _ _ _ _ _ _
   | exact ih1 _ _ _ _ _ _ _
   | exact spec_outcomeOf.mono _ _ _
   | exact LeO.none _
   | refine LeO.ite ?_ ?_
   | refine LeO.bind ?_ (fun _ => ?_)
def spec_MergeReports.T1 : Bool × List (List Nat × List Nat) := (true, [([], []), ([], []), ([1], [1]), ([0, 2], [0, 2]), ([], []), ([], []), ([5], [5]), ([4, 6, 3], [4, 6]), ([], []), ([8], [8]), ([7, 9, 7], [7, 9]), ([3, 10], [3, 10]), ([], []), ([12, 11, 10, 0, 1, 2, 3, 4, 5, 6, 7, 8, 9, 10, 11, 12], [11, 12])])
def spec_MergeReports.B1 : List Nat := [0, 0, 2, 7, 0, 0, 32, 127, 0, 256, 1023, 2047, 0, 8191]
theorem spec_MergeReports.tab1 : rtab .any (opsOf Try.f21 1) = spec_MergeReports.T1 := by kernel_rfl
theorem spec_MergeReports.bits1 : waitsOk spec_MergeReports.T1.2 spec_MergeReports.B1 = true := by kernel_rfl
def spec_MergeReports.T5 : Bool × List (List Nat × List Nat) := (true, [([], []), ([0], [0]), ([], []), ([2], [2]), ([], []), ([3, 4], [3, 4]), ([5], [5]), ([6], [6]), ([1, 7], [1, 7]), ([8, 8, 0, 1, 2, 3, 4, 5, 6, 7, 8], [8])])
def spec_MergeReports.B5 : List Nat := [0, 1, 0, 4, 0, 28, 60, 124, 255, 511]
theorem spec_MergeReports.tab5 : rtab .any (opsOf Try.f21 5) = spec_MergeReports.T5 := by kernel_rfl
theorem spec_MergeReports.bits5 : waitsOk spec_MergeReports.T5.2 spec_MergeReports.B5 = true := by kernel_rfl
def spec_MergeReports.T11 : Bool × List (List Nat × List Nat) := (true, [([], []), ([0], [0]), ([], []), ([2], [2]), ([], []), ([3, 4], [3, 4]), ([5], [5]), ([6], [6]), ([1, 7], [1, 7]), ([8], [8])])
def spec_MergeReports.B11 : List Nat := [0, 1, 0, 4, 0, 28, 60, 124, 255, 511]
theorem spec_MergeReports.tab11 : rtab .any (opsOf Try.f21 11) = spec_MergeReports.T11 := by kernel_rfl
theorem spec_MergeReports.bits11 : waitsOk spec_MergeReports.T11.2 spec_MergeReports.B11 = true := by kernel_rfl
def spec_MergeReports.T12 : Bool × List (List Nat × List Nat) := (true, [([], []), ([0], [0]), ([], []), ([2], [2]), ([], []), ([3, 4], [3, 4]), ([5], [5]), ([6], [6]), ([1, 7], [1, 7]), ([0, 1, 2, 3, 4, 5, 6, 7, 8], []), ([9, 8, 8, 0, 1, 2, 3, 4, 5, 6, 7, 8], [8, 9])])
def spec_MergeReports.B12 : List Nat := [0, 1, 0, 4, 0, 28, 60, 124, 255, 511, 1023]
theorem spec_MergeReports.tab12 : rtab .any (opsOf Try.f21 12) = spec_MergeReports.T12 := by kernel_rfl
theorem spec_MergeReports.bits12 : waitsOk spec_MergeReports.T12.2 spec_MergeReports.B12 = true := by kernel_rfl
set_option maxHeartbeats 8000000 in
set_option maxRecDepth 100000 in
theorem spec_MergeReports.calls (k : Nat) (A0_0 : Option Addr) (c0_0 : Nat) (l0_0 : List (S37)) (A0_1 : Option Addr) (c0_1 : Nat) (l0_1 : List ByteArray) (A1_0 : Option Addr) (c1_0 : Nat) (l1_0 : List (S37)) (A1_1 : Option Addr) (c1_1 : Nat) (l1_1 : List ByteArray) (r1 : List (S37)) (r2 : List ByteArray) (w : World) (hr0_0 : Kd.C k37 w A0_0 l0_0.length l0_0) (hc0_0 : l0_0.length ≤ c0_0) (hr0_1 : Kd.C Kd.string w A0_1 l0_1.length l0_1) (hc0_1 : l0_1.length ≤ c0_1) (hr1_0 : Kd.C k37 w A1_0 l1_0.length l1_0) (hc1_0 : l1_0.length ≤ c1_0) (hr1_1 : Kd.C Kd.string w A1_1 l1_1.length l1_1) (hc1_1 : l1_1.length ≤ c1_1) (h : spec_MergeReports.f k l0_0 l0_1 l1_0 l1_1 = some (r1, r2)) :
  Calls Try.prog 21 #[.agg #[.slice A0_0 l0_0.length c0_0, .slice A0_1 l0_1.length c0_1], .agg #[.slice A1_0 l1_0.length c1_0, .slice A1_1 l1_1.length c1_1]] w fun e w' => ∃ v0_ v1_ : Value, e = .returned (.agg #[v0_, v1_]) ∧ Kd.R k37 37 w' w.heap.size (fun _ => True) v0_ r1 ∧ Kd.R Kd.string 9 w' w.heap.size (fun _ => True) v1_ r2 ∧ Below w.heap.size w w' := by
 have hu26 := Try.underlying26
 have hu37 := Try.underlying37
 have HR0_0 := ak hr0_0
 have HC0_0 := ak hc0_0
 clear hr0_0 hc0_0
 have HR0_1 := ak hr0_1
 have HC0_1 := ak hc0_1
 clear hr0_1 hc0_1
 have HR1_0 := ak hr1_0
 have HC1_0 := ak hc1_0
 clear hr1_0 hc1_0
 have HR1_1 := ak hr1_1
 have HC1_1 := ak hc1_1
 clear hr1_1 hc1_1
 have HB := ak (Below.refl w.heap.size w)
 have H : ((some (([] : List (S37)) : List (S37))).bind fun y233 => (if y233.length + l0_0.length < 5864062014805 then ((some (([] : List ByteArray) : List ByteArray)).bind fun y239 => (if y239.length + l0_1.length < 8796093022208 then ((some (y239 ++ l0_1 : List ByteArray)).bind fun y242 => (if y242.length + l1_1.length < 8796093022208 then (spec_MergeReports.l0 k 0 l0_0 l0_1 l1_0 l1_1 (y233 ++ l0_0) (y242 ++ l1_1)) else (none))) else (none))) else (none))) = some (r1, r2) := h
 clear h
 obtain ⟨y233, hy233⟩ : ∃ y_ : List (S37), y_ = (([] : List (S37))) := ⟨_, rfl⟩
 replace H : (if y233.length + l0_0.length < 5864062014805 then ((some (([] : List ByteArray) : List ByteArray)).bind fun y239 => (if y239.length + l0_1.length < 8796093022208 then ((some (y239 ++ l0_1 : List ByteArray)).bind fun y242 => (if y242.length + l1_1.length < 8796093022208 then (spec_MergeReports.l0 k 0 l0_0 l0_1 l1_0 l1_1 (y233 ++ l0_0) (y242 ++ l1_1)) else (none))) else (none))) else (none)) = some (r1, r2) := by first | (rw [hy233]; with_reducible exact H) | (have H2_ := (Option.bind_some _ _).symm.trans H; rw [hy233]; with_reducible exact H2_) | (have H2_ := (Option.bind_some _ _).symm.trans H; with_reducible exact H2_) | with_reducible exact H | (rw [hy233]; exact H) | exact H
 have Ny233 := ak hy233
 clear hy233
 by_cases c3 : y233.length + l0_0.length < 5864062014805
 ·rw [if_pos c3] at H
  have LMc3 := ak c3
  clear c3
  obtain ⟨y236, hy236⟩ : ∃ y_ : List (S37), y_ = (y233 ++ l0_0) := ⟨_, rfl⟩
  replace H : ((some (([] : List ByteArray) : List ByteArray)).bind fun y239 => (if y239.length + l0_1.length < 8796093022208 then ((some (y239 ++ l0_1 : List ByteArray)).bind fun y242 => (if y242.length + l1_1.length < 8796093022208 then (spec_MergeReports.l0 k 0 l0_0 l0_1 l1_0 l1_1 y236 (y242 ++ l1_1)) else (none))) else (none))) = some (r1, r2) := by first | (rw [hy236]; with_reducible exact H) | (have H2_ := (Option.bind_some _ _).symm.trans H; rw [hy236]; with_reducible exact H2_) | (have H2_ := (Option.bind_some _ _).symm.trans H; with_reducible exact H2_) | with_reducible exact H | (rw [hy236]; exact H) | exact H
  have Ny236 := ak hy236
  clear hy236
  obtain ⟨y239, hy239⟩ : ∃ y_ : List ByteArray, y_ = (([] : List ByteArray)) := ⟨_, rfl⟩
  replace H : (if y239.length + l0_1.length < 8796093022208 then ((some (y239 ++ l0_1 : List ByteArray)).bind fun y242 => (if y242.length + l1_1.length < 8796093022208 then (spec_MergeReports.l0 k 0 l0_0 l0_1 l1_0 l1_1 y236 (y242 ++ l1_1)) else (none))) else (none)) = some (r1, r2) := by first | (rw [hy239]; with_reducible exact H) | (have H2_ := (Option.bind_some _ _).symm.trans H; rw [hy239]; with_reducible exact H2_) | (have H2_ := (Option.bind_some _ _).symm.trans H; with_reducible exact H2_) | with_reducible exact H | (rw [hy239]; exact H) | exact H
  have Ny239 := ak hy239
  clear hy239
  by_cases c4 : y239.length + l0_1.length < 8796093022208
  ·rw [if_pos c4] at H
   have LMc4 := ak c4
   clear c4
   obtain ⟨y242, hy242⟩ : ∃ y_ : List ByteArray, y_ = (y239 ++ l0_1) := ⟨_, rfl⟩
   replace H : (if y242.length + l1_1.length < 8796093022208 then (spec_MergeReports.l0 k 0 l0_0 l0_1 l1_0 l1_1 y236 (y242 ++ l1_1)) else (none)) = some (r1, r2) := by first | (rw [hy242]; with_reducible exact H) | (have H2_ := (Option.bind_some _ _).symm.trans H; rw [hy242]; with_reducible exact H2_) | (have H2_ := (Option.bind_some _ _).symm.trans H; with_reducible exact H2_) | with_reducible exact H | (rw [hy242]; exact H) | exact H
   have Ny242 := ak hy242
   clear hy242
   by_cases c5 : y242.length + l1_1.length < 8796093022208
   ·rw [if_pos c5] at H
    have LMc5 := ak c5
    clear c5
    obtain ⟨y245, hy245⟩ : ∃ y_ : List ByteArray, y_ = (y242 ++ l1_1) := ⟨_, rfl⟩
    replace H : (spec_MergeReports.l0 k 0 l0_0 l0_1 l1_0 l1_1 y236 y245) = some (r1, r2) := by first | (rw [hy245]; with_reducible exact H) | (have H2_ := (Option.bind_some _ _).symm.trans H; rw [hy245]; with_reducible exact H2_) | (have H2_ := (Option.bind_some _ _).symm.trans H; with_reducible exact H2_) | with_reducible exact H | (rw [hy245]; exact H) | exact H
    have Ny245 := ak hy245
    clear hy245
    have H' := ak H
    clear H
    go_enter Try.func21, Try.ntmps21
    try go_wp2_with (first | ((with_reducible refine gate_dst (N := 2) rfl ?_); refine box_event ?hg (N := 2) ?hd (cs := #[.slice A0_0 l0_0.length c0_0, .slice A0_1 l0_1.length c0_1]) (t := 26) ?hr ?_; (case hd => rfl); (case hg => rfl); (case hr => first | (go_simp; done) | (go_simp; rfl)); intro gb230 hg w6 hbox hb; have n0_ := ak (below_step (by repeat (first | (with_reducible first | exact HB.out | apply below_alloc | apply pw_below_drewN | apply below_drew1) | exact HB.out)) hb); have n1_ := ak (hbox); have n2_ := ak ((by rw [hg]; exact (below_size (by repeat (first | (with_reducible first | exact HB.out | apply below_alloc | apply pw_below_drewN | apply below_drew1) | exact HB.out))) : w.heap.size ≤ gb230)); have n3_ := ak ((by rw [hg]; exact (below_size (by repeat (first | (with_reducible first | exact HB.out | apply below_alloc | apply pw_below_drewN | apply below_drew1) | exact HB.out))) : w.heap.size ≤ gb230)); clear HB; have HB := n0_; have BK230 := n1_; have GW230 := n2_; have GE230 := n3_; clear n0_ n1_ n2_ n3_; clear hb hbox hg) | ((with_reducible refine gate_dst (N := 3) rfl ?_); refine box_event ?hg (N := 3) ?hd (cs := #[.slice A1_0 l1_0.length c1_0, .slice A1_1 l1_1.length c1_1]) (t := 26) ?hr ?_; (case hd => rfl); (case hg => rfl); (case hr => first | (go_simp; done) | (go_simp; rfl)); intro gb231 hg w7 hbox hb; have n0_ := ak (blk_below (g := gb230) (o := .cells #[.slice A0_0 l0_0.length c0_0, .slice A0_1 l0_1.length c0_1] 26 (0, 0)) (bTo BK230.out) hb); have n1_ := ak (below_step (by repeat (first | (with_reducible first | exact HB.out | apply below_alloc | apply pw_below_drewN | apply below_drew1 | refine below_set ?_ GE230.out) | exact HB.out)) hb); have n2_ := ak (hbox); have n3_ := ak ((by rw [hg]; exact (below_size (by repeat (first | (with_reducible first | exact HB.out | apply below_alloc | apply pw_below_drewN | apply below_drew1 | refine below_set ?_ GE230.out) | exact HB.out))) : w.heap.size ≤ gb231)); have n4_ := ak ((by rw [hg]; exact (below_size (by repeat (first | (with_reducible first | exact HB.out | apply below_alloc | apply pw_below_drewN | apply below_drew1 | refine below_set ?_ GE230.out) | exact HB.out))) : w.heap.size ≤ gb231)); have n5_ := ak ((by rw [hg]; exact Nat.ne_of_lt (blk_lt (g := gb230) (o := .cells #[.slice A0_0 l0_0.length c0_0, .slice A0_1 l0_1.length c0_1] 26 (0, 0)) (bTo BK230.out)) : gb230 ≠ gb231)); have n6_ := ak ((by rw [hg]; exact Nat.ne_of_gt (blk_lt (g := gb230) (o := .cells #[.slice A0_0 l0_0.length c0_0, .slice A0_1 l0_1.length c0_1] 26 (0, 0)) (bTo BK230.out)) : gb231 ≠ gb230)); clear BK230; clear HB; have BK230 := n0_; have HB := n1_; have BK231 := n2_; have GW231 := n3_; have GE231 := n4_; have NB230_231 := n5_; have NB231_230 := n6_; clear n0_ n1_ n2_ n3_ n4_ n5_ n6_; clear hb hbox hg) | ((with_reducible refine gate_dst (N := 4) rfl ?_); refine box_event ?hg (N := 4) ?hd (cs := #[.slice none 0 0, .slice none 0 0]) (t := 26) ?hr ?_; (case hd => rfl); (case hg => rfl); (case hr => first | (go_simp; done) | (go_simp; rfl)); intro gb232 hg w8 hbox hb; have n0_ := ak (blk_below (g := gb230) (o := .cells #[.slice A0_0 l0_0.length c0_0, .slice A0_1 l0_1.length c0_1] 26 (0, 0)) (bTo BK230.out) hb); have n1_ := ak (blk_below (g := gb231) (o := .cells #[.slice A1_0 l1_0.length c1_0, .slice A1_1 l1_1.length c1_1] 26 (0, 0)) (bTo BK231.out) hb); have n2_ := ak (below_step (by repeat (first | (with_reducible first | exact HB.out | apply below_alloc | apply pw_below_drewN | apply below_drew1 | refine below_set ?_ GE230.out | refine below_set ?_ GE231.out) | exact HB.out)) hb); have n3_ := ak (hbox); have n4_ := ak ((by rw [hg]; exact (below_size (by repeat (first | (with_reducible first | exact HB.out | apply below_alloc | apply pw_below_drewN | apply below_drew1 | refine below_set ?_ GE230.out | refine below_set ?_ GE231.out) | exact HB.out))) : w.heap.size ≤ gb232)); have n5_ := ak ((by rw [hg]; exact (below_size (by repeat (first | (with_reducible first | exact HB.out | apply below_alloc | apply pw_below_drewN | apply below_drew1 | refine below_set ?_ GE230.out | refine below_set ?_ GE231.out) | exact HB.out))) : w.heap.size ≤ gb232)); have n6_ := ak ((by rw [hg]; exact Nat.ne_of_lt (blk_lt (g := gb230) (o := .cells #[.slice A0_0 l0_0.length c0_0, .slice A0_1 l0_1.length c0_1] 26 (0, 0)) (bTo BK230.out)) : gb230 ≠ gb232)); have n7_ := ak ((by rw [hg]; exact Nat.ne_of_gt (blk_lt (g := gb230) (o := .cells #[.slice A0_0 l0_0.length c0_0, .slice A0_1 l0_1.length c0_1] 26 (0, 0)) (bTo BK230.out)) : gb232 ≠ gb230)); have n8_ := ak ((by rw [hg]; exact Nat.ne_of_lt (blk_lt (g := gb231) (o := .cells #[.slice A1_0 l1_0.length c1_0, .slice A1_1 l1_1.length c1_1] 26 (0, 0)) (bTo BK231.out)) : gb231 ≠ gb232)); have n9_ := ak ((by rw [hg]; exact Nat.ne_of_gt (blk_lt (g := gb231) (o := .cells #[.slice A1_0 l1_0.length c1_0, .slice A1_1 l1_1.length c1_1] 26 (0, 0)) (bTo BK231.out)) : gb232 ≠ gb231)); clear BK230; clear BK231; clear HB; have BK230 := n0_; have BK231 := n1_; have HB := n2_; have BK232 := n3_; have GW232 := n4_; have GE232 := n5_; have NB230_232 := n6_; have NB232_230 := n7_; have NB231_232 := n8_; have NB232_231 := n9_; clear n0_ n1_ n2_ n3_ n4_ n5_ n6_ n7_ n8_ n9_; clear hb hbox hg))
    have n0_ := ak (blk_drew BK230.out)
    have n1_ := ak (blk_drew BK231.out)
    have n2_ := ak (blk_drew BK232.out)
    have n3_ := ak (below_drew1 HB.out)
    clear BK230
    clear BK231
    clear BK232
    clear HB
    have BK230 := n0_
    have BK231 := n1_
    have BK232 := n2_
    have HB := n3_
    clear n0_ n1_ n2_ n3_
    refine start_ (n := 14) (S := fun w' => w'.cell? ⟨gb230, 0, none⟩ = some (.slice A0_0 l0_0.length c0_0) ∧ w'.cell? ⟨gb230, 1, none⟩ = some (.slice A0_1 l0_1.length c0_1) ∧ w'.cell? ⟨gb231, 0, none⟩ = some (.slice A1_0 l1_0.length c1_0) ∧ w'.cell? ⟨gb231, 1, none⟩ = some (.slice A1_1 l1_1.length c1_1)) (ds := []) #[false, false, false, false, false, false, false, false, false, false, false, false, false, false] (by kernel_rfl) rfl rfl ⟨(blk_cell BK230.out 0).trans rfl, (blk_cell BK230.out 1).trans rfl, (blk_cell BK231.out 0).trans rfl, (blk_cell BK231.out 1).trans rfl⟩ (fun hHeld => ?_); refine with_tabW spec_MergeReports.tab1 spec_MergeReports.bits1 (fun HT_ HW_ => ?_)
    generalize w8.drew = w9 at BK230 BK231 BK232 HB hHeld ⊢
    refine pure_ (i := 1) (N := some 10) (v := ?_) (a' := ?_) #[false, true, false, false, false, false, false, false, false, false, false, false, false, false] rfl rfl (any_of HT_.out (by kernel_rfl)) (fun _ _ _ h => h) (Or.inl ⟨by rfl, ?_⟩) ?_ ?_
    rotate_left
    ·intro w'
     go_simp
     with_reducible rfl
    rotate_left
    ·simp only [Act.put, List.setIfInBounds_toArray, List.set_cons_zero, List.set_cons_succ, i64_w, i32_w]
     rfl
    refine pure_ (i := 5) (N := some 14) (v := ?_) (a' := ?_) #[false, true, false, false, false, true, false, false, false, false, false, false, false, false] rfl rfl (any_of HT_.out (by kernel_rfl)) (fun _ _ _ h => h) (Or.inl ⟨by rfl, ?_⟩) ?_ ?_
    rotate_left
    ·intro w'
     go_simp
     with_reducible rfl
    rotate_left
    ·simp only [Act.put, List.setIfInBounds_toArray, List.set_cons_zero, List.set_cons_succ, i64_w, i32_w]
     rfl
    refine pure_ (i := 8) (N := some 17) (v := ?_) (a' := ?_) #[false, true, false, false, false, true, false, false, true, false, false, false, false, false] rfl rfl (any_of HT_.out (by kernel_rfl)) (fun _ _ _ h => h) (Or.inl ⟨by rfl, ?_⟩) ?_ ?_
    rotate_left
    ·intro w'
     go_simp
     with_reducible rfl
    rotate_left
    ·simp only [Act.put, List.setIfInBounds_toArray, List.set_cons_zero, List.set_cons_succ, i64_w, i32_w]
     rfl
    refine take_ (i := 2) (N := some 11) (v := ?_) (a' := ?_) #[false, true, true, false, false, true, false, false, true, false, false, false, false, false] rfl rfl (take_ofW HT_.out HW_.out (by kernel_rfl)) (fun _ _ _ h => h) (Or.inl ⟨by rfl, ?_⟩) hHeld ?_ ?_
    rotate_left
    ·rintro w' ⟨s0, s1, s2, s3⟩
     go_simp
     with_reducible rfl
    rotate_left
    ·simp only [Act.put, List.setIfInBounds_toArray, List.set_cons_zero, List.set_cons_succ, i64_w, i32_w]
     rfl
    refine take_ (i := 6) (N := some 15) (v := ?_) (a' := ?_) #[false, true, true, false, false, true, true, false, true, false, false, false, false, false] rfl rfl (take_ofW HT_.out HW_.out (by kernel_rfl)) (fun _ _ _ h => h) (Or.inl ⟨by rfl, ?_⟩) hHeld ?_ ?_
    rotate_left
    ·rintro w' ⟨s0, s1, s2, s3⟩
     go_simp
     with_reducible rfl
    rotate_left
    ·simp only [Act.put, List.setIfInBounds_toArray, List.set_cons_zero, List.set_cons_succ, i64_w, i32_w]
     rfl
    refine take_ (i := 9) (N := some 18) (v := ?_) (a' := ?_) #[false, true, true, false, false, true, true, false, true, true, false, false, false, false] rfl rfl (take_ofW HT_.out HW_.out (by kernel_rfl)) (fun _ _ _ h => h) (Or.inl ⟨by rfl, ?_⟩) hHeld ?_ ?_
    rotate_left
    ·rintro w' ⟨s0, s1, s2, s3⟩
     go_simp
     with_reducible rfl
    rotate_left
    ·simp only [Act.put, List.setIfInBounds_toArray, List.set_cons_zero, List.set_cons_succ, i64_w, i32_w]
     rfl
    refine join_ (σ := Value × Value × Value × Value × Value × Nat) 1 #[true, true, true, true, true, true, true, true, true, true, true, true, true, false] (fun s_ => [(9, s_.1), (12, s_.2.1), (13, s_.2.2.1), (16, s_.2.2.2.1), (19, s_.2.2.2.2.1), (5, .pointer (some ⟨s_.2.2.2.2.2, 0, none⟩)), (20, .agg #[s_.2.1, s_.2.2.2.2.1])]) (fun s_ w' => (w'.cell? ⟨gb230, 0, none⟩ = some (.slice A0_0 l0_0.length c0_0) ∧ w'.cell? ⟨gb230, 1, none⟩ = some (.slice A0_1 l0_1.length c0_1) ∧ w'.cell? ⟨gb231, 0, none⟩ = some (.slice A1_0 l1_0.length c1_0) ∧ w'.cell? ⟨gb231, 1, none⟩ = some (.slice A1_1 l1_1.length c1_1)) ∧ (Kd.R k37 37 w' w.heap.size (fun _ => True) s_.2.1 y236) ∧ (Kd.R Kd.string 9 w' w.heap.size (fun _ => True) s_.2.2.2.2.1 y245) ∧ (w'.heap[gb230]? = some (.cells #[.slice A0_0 l0_0.length c0_0, .slice A0_1 l0_1.length c0_1] 26 (0, 0))) ∧ (w'.heap[gb231]? = some (.cells #[.slice A1_0 l1_0.length c1_0, .slice A1_1 l1_1.length c1_1] 26 (0, 0))) ∧ (w'.heap[gb232]? = some (.cells #[.slice none 0 0, .slice none 0 0] 26 (0, 0))) ∧ (w'.heap[s_.2.2.2.2.2]? = some (.cells #[.slice none 0 0, .slice none 0 0] 26 (0, 0))) ∧ (w.heap.size ≤ s_.2.2.2.2.2) ∧ (w.heap.size ≤ s_.2.2.2.2.2) ∧ (gb230 ≠ s_.2.2.2.2.2) ∧ (s_.2.2.2.2.2 ≠ gb230) ∧ (gb231 ≠ s_.2.2.2.2.2) ∧ (s_.2.2.2.2.2 ≠ gb231) ∧ (gb232 ≠ s_.2.2.2.2.2) ∧ (s_.2.2.2.2.2 ≠ gb232) ∧ (Below w.heap.size w w')) ?_ ?_
    rotate_left
    ·intro hJ0_3_4_7_10_12
     refine join_ (σ := Value × Value × Value × Value × Value) 2 #[true, true, true, true, true, true, true, true, true, true, true, true, false, false] (fun s_ => [(9, s_.1), (12, s_.2.1), (13, s_.2.2.1), (16, s_.2.2.2.1), (19, s_.2.2.2.2), (20, .agg #[s_.2.1, s_.2.2.2.2])]) (fun s_ w' => (w'.cell? ⟨gb230, 0, none⟩ = some (.slice A0_0 l0_0.length c0_0) ∧ w'.cell? ⟨gb230, 1, none⟩ = some (.slice A0_1 l0_1.length c0_1) ∧ w'.cell? ⟨gb231, 0, none⟩ = some (.slice A1_0 l1_0.length c1_0) ∧ w'.cell? ⟨gb231, 1, none⟩ = some (.slice A1_1 l1_1.length c1_1)) ∧ (Kd.R k37 37 w' w.heap.size (fun _ => True) s_.2.1 y236) ∧ (Kd.R Kd.string 9 w' w.heap.size (fun _ => True) s_.2.2.2.2 y245) ∧ (w'.heap[gb230]? = some (.cells #[.slice A0_0 l0_0.length c0_0, .slice A0_1 l0_1.length c0_1] 26 (0, 0))) ∧ (w'.heap[gb231]? = some (.cells #[.slice A1_0 l1_0.length c1_0, .slice A1_1 l1_1.length c1_1] 26 (0, 0))) ∧ (w'.heap[gb232]? = some (.cells #[.slice none 0 0, .slice none 0 0] 26 (0, 0))) ∧ (Below w.heap.size w w')) ?_ ?_
     rotate_left
     ·intro hJ0_3_4_7_10
      refine join_ (σ := Value × Value × Value × Value × Nat) 3 #[true, true, true, true, true, true, true, true, true, true, false, false, true, false] (fun s_ => [(9, s_.1), (12, s_.2.1), (13, s_.2.2.1), (16, s_.2.2.2.1), (5, .pointer (some ⟨s_.2.2.2.2, 0, none⟩))]) (fun s_ w' => (w'.cell? ⟨gb230, 0, none⟩ = some (.slice A0_0 l0_0.length c0_0) ∧ w'.cell? ⟨gb230, 1, none⟩ = some (.slice A0_1 l0_1.length c0_1) ∧ w'.cell? ⟨gb231, 0, none⟩ = some (.slice A1_0 l1_0.length c1_0) ∧ w'.cell? ⟨gb231, 1, none⟩ = some (.slice A1_1 l1_1.length c1_1)) ∧ (Kd.R k37 37 w' w.heap.size (fun _ => True) s_.2.1 y236) ∧ (Kd.R Kd.string 9 w' w.heap.size (fun _ => True) s_.2.2.2.1 y242) ∧ (w'.heap[gb230]? = some (.cells #[.slice A0_0 l0_0.length c0_0, .slice A0_1 l0_1.length c0_1] 26 (0, 0))) ∧ (w'.heap[gb231]? = some (.cells #[.slice A1_0 l1_0.length c1_0, .slice A1_1 l1_1.length c1_1] 26 (0, 0))) ∧ (w'.heap[gb232]? = some (.cells #[.slice none 0 0, .slice none 0 0] 26 (0, 0))) ∧ (w'.heap[s_.2.2.2.2]? = some (.cells #[.slice none 0 0, .slice none 0 0] 26 (0, 0))) ∧ (w.heap.size ≤ s_.2.2.2.2) ∧ (w.heap.size ≤ s_.2.2.2.2) ∧ (gb230 ≠ s_.2.2.2.2) ∧ (s_.2.2.2.2 ≠ gb230) ∧ (gb231 ≠ s_.2.2.2.2) ∧ (s_.2.2.2.2 ≠ gb231) ∧ (gb232 ≠ s_.2.2.2.2) ∧ (s_.2.2.2.2 ≠ gb232) ∧ (Below w.heap.size w w')) ?_ ?_
      rotate_left
      ·intro hJ0_3_4_7_12
       refine join_ (σ := Value × Value × Value × Value) 4 #[true, true, true, true, true, true, true, true, true, true, false, false, false, false] (fun s_ => [(9, s_.1), (12, s_.2.1), (13, s_.2.2.1), (16, s_.2.2.2)]) (fun s_ w' => (w'.cell? ⟨gb230, 0, none⟩ = some (.slice A0_0 l0_0.length c0_0) ∧ w'.cell? ⟨gb230, 1, none⟩ = some (.slice A0_1 l0_1.length c0_1) ∧ w'.cell? ⟨gb231, 0, none⟩ = some (.slice A1_0 l1_0.length c1_0) ∧ w'.cell? ⟨gb231, 1, none⟩ = some (.slice A1_1 l1_1.length c1_1)) ∧ (Kd.R k37 37 w' w.heap.size (fun _ => True) s_.2.1 y236) ∧ (Kd.R Kd.string 9 w' w.heap.size (fun _ => True) s_.2.2.2 y242) ∧ (w'.heap[gb230]? = some (.cells #[.slice A0_0 l0_0.length c0_0, .slice A0_1 l0_1.length c0_1] 26 (0, 0))) ∧ (w'.heap[gb231]? = some (.cells #[.slice A1_0 l1_0.length c1_0, .slice A1_1 l1_1.length c1_1] 26 (0, 0))) ∧ (w'.heap[gb232]? = some (.cells #[.slice none 0 0, .slice none 0 0] 26 (0, 0))) ∧ (Below w.heap.size w w')) ?_ ?_
       rotate_left
       ·intro hJ0_3_4_7
        refine join_ (σ := Value × Value × Value × Nat) 4 #[true, true, true, true, true, true, true, false, true, true, false, false, true, false] (fun s_ => [(9, s_.1), (12, s_.2.1), (13, s_.2.2.1), (5, .pointer (some ⟨s_.2.2.2, 0, none⟩))]) (fun s_ w' => (w'.cell? ⟨gb230, 0, none⟩ = some (.slice A0_0 l0_0.length c0_0) ∧ w'.cell? ⟨gb230, 1, none⟩ = some (.slice A0_1 l0_1.length c0_1) ∧ w'.cell? ⟨gb231, 0, none⟩ = some (.slice A1_0 l1_0.length c1_0) ∧ w'.cell? ⟨gb231, 1, none⟩ = some (.slice A1_1 l1_1.length c1_1)) ∧ (Kd.R k37 37 w' w.heap.size (fun _ => True) s_.2.1 y236) ∧ (Kd.R Kd.string 9 w' w.heap.size (fun _ => True) s_.2.2.1 y239) ∧ (w'.heap[gb230]? = some (.cells #[.slice A0_0 l0_0.length c0_0, .slice A0_1 l0_1.length c0_1] 26 (0, 0))) ∧ (w'.heap[gb231]? = some (.cells #[.slice A1_0 l1_0.length c1_0, .slice A1_1 l1_1.length c1_1] 26 (0, 0))) ∧ (w'.heap[gb232]? = some (.cells #[.slice none 0 0, .slice none 0 0] 26 (0, 0))) ∧ (w'.heap[s_.2.2.2]? = some (.cells #[.slice none 0 0, .slice none 0 0] 26 (0, 0))) ∧ (w.heap.size ≤ s_.2.2.2) ∧ (w.heap.size ≤ s_.2.2.2) ∧ (gb230 ≠ s_.2.2.2) ∧ (s_.2.2.2 ≠ gb230) ∧ (gb231 ≠ s_.2.2.2) ∧ (s_.2.2.2 ≠ gb231) ∧ (gb232 ≠ s_.2.2.2) ∧ (s_.2.2.2 ≠ gb232) ∧ (Below w.heap.size w w')) ?_ ?_
        rotate_left
        ·intro hJ0_3_4_12
         refine join_ (σ := Value × Value × Value) 5 #[true, true, true, true, true, true, true, false, true, true, false, false, false, false] (fun s_ => [(9, s_.1), (12, s_.2.1), (13, s_.2.2)]) (fun s_ w' => (w'.cell? ⟨gb230, 0, none⟩ = some (.slice A0_0 l0_0.length c0_0) ∧ w'.cell? ⟨gb230, 1, none⟩ = some (.slice A0_1 l0_1.length c0_1) ∧ w'.cell? ⟨gb231, 0, none⟩ = some (.slice A1_0 l1_0.length c1_0) ∧ w'.cell? ⟨gb231, 1, none⟩ = some (.slice A1_1 l1_1.length c1_1)) ∧ (Kd.R k37 37 w' w.heap.size (fun _ => True) s_.2.1 y236) ∧ (Kd.R Kd.string 9 w' w.heap.size (fun _ => True) s_.2.2 y239) ∧ (w'.heap[gb230]? = some (.cells #[.slice A0_0 l0_0.length c0_0, .slice A0_1 l0_1.length c0_1] 26 (0, 0))) ∧ (w'.heap[gb231]? = some (.cells #[.slice A1_0 l1_0.length c1_0, .slice A1_1 l1_1.length c1_1] 26 (0, 0))) ∧ (w'.heap[gb232]? = some (.cells #[.slice none 0 0, .slice none 0 0] 26 (0, 0))) ∧ (Below w.heap.size w w')) ?_ ?_
         rotate_left
         ·intro hJ0_3_4
          refine join_ (σ := Value × Value × Nat) 5 #[true, true, true, true, false, true, true, false, true, true, false, false, true, false] (fun s_ => [(9, s_.1), (12, s_.2.1), (5, .pointer (some ⟨s_.2.2, 0, none⟩))]) (fun s_ w' => (w'.cell? ⟨gb230, 0, none⟩ = some (.slice A0_0 l0_0.length c0_0) ∧ w'.cell? ⟨gb230, 1, none⟩ = some (.slice A0_1 l0_1.length c0_1) ∧ w'.cell? ⟨gb231, 0, none⟩ = some (.slice A1_0 l1_0.length c1_0) ∧ w'.cell? ⟨gb231, 1, none⟩ = some (.slice A1_1 l1_1.length c1_1)) ∧ (Kd.R k37 37 w' w.heap.size (fun _ => True) s_.2.1 y236) ∧ (w'.heap[gb230]? = some (.cells #[.slice A0_0 l0_0.length c0_0, .slice A0_1 l0_1.length c0_1] 26 (0, 0))) ∧ (w'.heap[gb231]? = some (.cells #[.slice A1_0 l1_0.length c1_0, .slice A1_1 l1_1.length c1_1] 26 (0, 0))) ∧ (w'.heap[gb232]? = some (.cells #[.slice none 0 0, .slice none 0 0] 26 (0, 0))) ∧ (w'.heap[s_.2.2]? = some (.cells #[.slice none 0 0, .slice none 0 0] 26 (0, 0))) ∧ (w.heap.size ≤ s_.2.2) ∧ (w.heap.size ≤ s_.2.2) ∧ (gb230 ≠ s_.2.2) ∧ (s_.2.2 ≠ gb230) ∧ (gb231 ≠ s_.2.2) ∧ (s_.2.2 ≠ gb231) ∧ (gb232 ≠ s_.2.2) ∧ (s_.2.2 ≠ gb232) ∧ (Below w.heap.size w w')) ?_ ?_
          rotate_left
          ·intro hJ0_3_12
           refine join_ (σ := Value × Value × Nat) 5 #[true, true, true, false, true, true, true, false, true, true, false, false, true, false] (fun s_ => [(9, s_.1), (13, s_.2.1), (5, .pointer (some ⟨s_.2.2, 0, none⟩))]) (fun s_ w' => (w'.cell? ⟨gb230, 0, none⟩ = some (.slice A0_0 l0_0.length c0_0) ∧ w'.cell? ⟨gb230, 1, none⟩ = some (.slice A0_1 l0_1.length c0_1) ∧ w'.cell? ⟨gb231, 0, none⟩ = some (.slice A1_0 l1_0.length c1_0) ∧ w'.cell? ⟨gb231, 1, none⟩ = some (.slice A1_1 l1_1.length c1_1)) ∧ (Kd.R k37 37 w' w.heap.size (fun _ => True) s_.1 y233) ∧ (Kd.R Kd.string 9 w' w.heap.size (fun _ => True) s_.2.1 y239) ∧ (w'.heap[gb230]? = some (.cells #[.slice A0_0 l0_0.length c0_0, .slice A0_1 l0_1.length c0_1] 26 (0, 0))) ∧ (w'.heap[gb231]? = some (.cells #[.slice A1_0 l1_0.length c1_0, .slice A1_1 l1_1.length c1_1] 26 (0, 0))) ∧ (w'.heap[gb232]? = some (.cells #[.slice none 0 0, .slice none 0 0] 26 (0, 0))) ∧ (w'.heap[s_.2.2]? = some (.cells #[.slice none 0 0, .slice none 0 0] 26 (0, 0))) ∧ (w.heap.size ≤ s_.2.2) ∧ (w.heap.size ≤ s_.2.2) ∧ (gb230 ≠ s_.2.2) ∧ (s_.2.2 ≠ gb230) ∧ (gb231 ≠ s_.2.2) ∧ (s_.2.2 ≠ gb231) ∧ (gb232 ≠ s_.2.2) ∧ (s_.2.2 ≠ gb232) ∧ (Below w.heap.size w w')) ?_ ?_
           rotate_left
           ·intro hJ0_4_12
            refine join_ (σ := Value × Value) 6 #[true, true, true, true, false, true, true, false, true, true, false, false, false, false] (fun s_ => [(9, s_.1), (12, s_.2)]) (fun s_ w' => (w'.cell? ⟨gb230, 0, none⟩ = some (.slice A0_0 l0_0.length c0_0) ∧ w'.cell? ⟨gb230, 1, none⟩ = some (.slice A0_1 l0_1.length c0_1) ∧ w'.cell? ⟨gb231, 0, none⟩ = some (.slice A1_0 l1_0.length c1_0) ∧ w'.cell? ⟨gb231, 1, none⟩ = some (.slice A1_1 l1_1.length c1_1)) ∧ (Kd.R k37 37 w' w.heap.size (fun _ => True) s_.2 y236) ∧ (w'.heap[gb230]? = some (.cells #[.slice A0_0 l0_0.length c0_0, .slice A0_1 l0_1.length c0_1] 26 (0, 0))) ∧ (w'.heap[gb231]? = some (.cells #[.slice A1_0 l1_0.length c1_0, .slice A1_1 l1_1.length c1_1] 26 (0, 0))) ∧ (w'.heap[gb232]? = some (.cells #[.slice none 0 0, .slice none 0 0] 26 (0, 0))) ∧ (Below w.heap.size w w')) ?_ ?_
            rotate_left
            ·intro hJ0_3
             refine join_ (σ := Value × Value) 6 #[true, true, true, false, true, true, true, false, true, true, false, false, false, false] (fun s_ => [(9, s_.1), (13, s_.2)]) (fun s_ w' => (w'.cell? ⟨gb230, 0, none⟩ = some (.slice A0_0 l0_0.length c0_0) ∧ w'.cell? ⟨gb230, 1, none⟩ = some (.slice A0_1 l0_1.length c0_1) ∧ w'.cell? ⟨gb231, 0, none⟩ = some (.slice A1_0 l1_0.length c1_0) ∧ w'.cell? ⟨gb231, 1, none⟩ = some (.slice A1_1 l1_1.length c1_1)) ∧ (Kd.R k37 37 w' w.heap.size (fun _ => True) s_.1 y233) ∧ (Kd.R Kd.string 9 w' w.heap.size (fun _ => True) s_.2 y239) ∧ (w'.heap[gb230]? = some (.cells #[.slice A0_0 l0_0.length c0_0, .slice A0_1 l0_1.length c0_1] 26 (0, 0))) ∧ (w'.heap[gb231]? = some (.cells #[.slice A1_0 l1_0.length c1_0, .slice A1_1 l1_1.length c1_1] 26 (0, 0))) ∧ (w'.heap[gb232]? = some (.cells #[.slice none 0 0, .slice none 0 0] 26 (0, 0))) ∧ (Below w.heap.size w w')) ?_ ?_
             rotate_left
             ·intro hJ0_4
              refine join_ (σ := Value × Nat) 6 #[true, true, true, false, false, true, true, false, true, true, false, false, true, false] (fun s_ => [(9, s_.1), (5, .pointer (some ⟨s_.2, 0, none⟩))]) (fun s_ w' => (w'.cell? ⟨gb230, 0, none⟩ = some (.slice A0_0 l0_0.length c0_0) ∧ w'.cell? ⟨gb230, 1, none⟩ = some (.slice A0_1 l0_1.length c0_1) ∧ w'.cell? ⟨gb231, 0, none⟩ = some (.slice A1_0 l1_0.length c1_0) ∧ w'.cell? ⟨gb231, 1, none⟩ = some (.slice A1_1 l1_1.length c1_1)) ∧ (Kd.R k37 37 w' w.heap.size (fun _ => True) s_.1 y233) ∧ (w'.heap[gb230]? = some (.cells #[.slice A0_0 l0_0.length c0_0, .slice A0_1 l0_1.length c0_1] 26 (0, 0))) ∧ (w'.heap[gb231]? = some (.cells #[.slice A1_0 l1_0.length c1_0, .slice A1_1 l1_1.length c1_1] 26 (0, 0))) ∧ (w'.heap[gb232]? = some (.cells #[.slice none 0 0, .slice none 0 0] 26 (0, 0))) ∧ (w'.heap[s_.2]? = some (.cells #[.slice none 0 0, .slice none 0 0] 26 (0, 0))) ∧ (w.heap.size ≤ s_.2) ∧ (w.heap.size ≤ s_.2) ∧ (gb230 ≠ s_.2) ∧ (s_.2 ≠ gb230) ∧ (gb231 ≠ s_.2) ∧ (s_.2 ≠ gb231) ∧ (gb232 ≠ s_.2) ∧ (s_.2 ≠ gb232) ∧ (Below w.heap.size w w')) ?_ ?_
              rotate_left
              ·intro hJ0_12
               refine join_ (σ := Value × Nat) 6 #[false, true, true, false, true, true, true, false, true, true, false, false, true, false] (fun s_ => [(13, s_.1), (5, .pointer (some ⟨s_.2, 0, none⟩))]) (fun s_ w' => (w'.cell? ⟨gb230, 0, none⟩ = some (.slice A0_0 l0_0.length c0_0) ∧ w'.cell? ⟨gb230, 1, none⟩ = some (.slice A0_1 l0_1.length c0_1) ∧ w'.cell? ⟨gb231, 0, none⟩ = some (.slice A1_0 l1_0.length c1_0) ∧ w'.cell? ⟨gb231, 1, none⟩ = some (.slice A1_1 l1_1.length c1_1)) ∧ (Kd.R Kd.string 9 w' w.heap.size (fun _ => True) s_.1 y239) ∧ (w'.heap[gb230]? = some (.cells #[.slice A0_0 l0_0.length c0_0, .slice A0_1 l0_1.length c0_1] 26 (0, 0))) ∧ (w'.heap[gb231]? = some (.cells #[.slice A1_0 l1_0.length c1_0, .slice A1_1 l1_1.length c1_1] 26 (0, 0))) ∧ (w'.heap[gb232]? = some (.cells #[.slice none 0 0, .slice none 0 0] 26 (0, 0))) ∧ (w'.heap[s_.2]? = some (.cells #[.slice none 0 0, .slice none 0 0] 26 (0, 0))) ∧ (w.heap.size ≤ s_.2) ∧ (w.heap.size ≤ s_.2) ∧ (gb230 ≠ s_.2) ∧ (s_.2 ≠ gb230) ∧ (gb231 ≠ s_.2) ∧ (s_.2 ≠ gb231) ∧ (gb232 ≠ s_.2) ∧ (s_.2 ≠ gb232) ∧ (Below w.heap.size w w')) ?_ ?_
               rotate_left
               ·intro hJ4_12
                refine join_ (σ := Value) 7 #[true, true, true, false, false, true, true, false, true, true, false, false, false, false] (fun s_ => [(9, s_)]) (fun s_ w' => (w'.cell? ⟨gb230, 0, none⟩ = some (.slice A0_0 l0_0.length c0_0) ∧ w'.cell? ⟨gb230, 1, none⟩ = some (.slice A0_1 l0_1.length c0_1) ∧ w'.cell? ⟨gb231, 0, none⟩ = some (.slice A1_0 l1_0.length c1_0) ∧ w'.cell? ⟨gb231, 1, none⟩ = some (.slice A1_1 l1_1.length c1_1)) ∧ (Kd.R k37 37 w' w.heap.size (fun _ => True) s_ y233) ∧ (w'.heap[gb230]? = some (.cells #[.slice A0_0 l0_0.length c0_0, .slice A0_1 l0_1.length c0_1] 26 (0, 0))) ∧ (w'.heap[gb231]? = some (.cells #[.slice A1_0 l1_0.length c1_0, .slice A1_1 l1_1.length c1_1] 26 (0, 0))) ∧ (w'.heap[gb232]? = some (.cells #[.slice none 0 0, .slice none 0 0] 26 (0, 0))) ∧ (Below w.heap.size w w')) ?_ ?_
                rotate_left
                ·intro hJ0
                 refine join_ (σ := Value) 7 #[false, true, true, false, true, true, true, false, true, true, false, false, false, false] (fun s_ => [(13, s_)]) (fun s_ w' => (w'.cell? ⟨gb230, 0, none⟩ = some (.slice A0_0 l0_0.length c0_0) ∧ w'.cell? ⟨gb230, 1, none⟩ = some (.slice A0_1 l0_1.length c0_1) ∧ w'.cell? ⟨gb231, 0, none⟩ = some (.slice A1_0 l1_0.length c1_0) ∧ w'.cell? ⟨gb231, 1, none⟩ = some (.slice A1_1 l1_1.length c1_1)) ∧ (Kd.R Kd.string 9 w' w.heap.size (fun _ => True) s_ y239) ∧ (w'.heap[gb230]? = some (.cells #[.slice A0_0 l0_0.length c0_0, .slice A0_1 l0_1.length c0_1] 26 (0, 0))) ∧ (w'.heap[gb231]? = some (.cells #[.slice A1_0 l1_0.length c1_0, .slice A1_1 l1_1.length c1_1] 26 (0, 0))) ∧ (w'.heap[gb232]? = some (.cells #[.slice none 0 0, .slice none 0 0] 26 (0, 0))) ∧ (Below w.heap.size w w')) ?_ ?_
                 rotate_left
                 ·intro hJ4
                  refine join_ (σ := Nat) 7 #[false, true, true, false, false, true, true, false, true, true, false, false, true, false] (fun s_ => [(5, .pointer (some ⟨s_, 0, none⟩))]) (fun s_ w' => (w'.cell? ⟨gb230, 0, none⟩ = some (.slice A0_0 l0_0.length c0_0) ∧ w'.cell? ⟨gb230, 1, none⟩ = some (.slice A0_1 l0_1.length c0_1) ∧ w'.cell? ⟨gb231, 0, none⟩ = some (.slice A1_0 l1_0.length c1_0) ∧ w'.cell? ⟨gb231, 1, none⟩ = some (.slice A1_1 l1_1.length c1_1)) ∧ (w'.heap[gb230]? = some (.cells #[.slice A0_0 l0_0.length c0_0, .slice A0_1 l0_1.length c0_1] 26 (0, 0))) ∧ (w'.heap[gb231]? = some (.cells #[.slice A1_0 l1_0.length c1_0, .slice A1_1 l1_1.length c1_1] 26 (0, 0))) ∧ (w'.heap[gb232]? = some (.cells #[.slice none 0 0, .slice none 0 0] 26 (0, 0))) ∧ (w'.heap[s_]? = some (.cells #[.slice none 0 0, .slice none 0 0] 26 (0, 0))) ∧ (w.heap.size ≤ s_) ∧ (w.heap.size ≤ s_) ∧ (gb230 ≠ s_) ∧ (s_ ≠ gb230) ∧ (gb231 ≠ s_) ∧ (s_ ≠ gb231) ∧ (gb232 ≠ s_) ∧ (s_ ≠ gb232) ∧ (Below w.heap.size w w')) ?_ ?_
                  rotate_left
                  ·intro hJ12
                   refine three_ (i := 0) (j := 4) (k := 12) (Ni := some 9) (Nj := some 13) (Nk := some 5) #[true, true, true, false, false, true, true, false, true, true, false, false, false, false] #[false, true, true, false, true, true, true, false, true, true, false, false, false, false] #[false, true, true, false, false, true, true, false, true, true, false, false, true, false] rfl rfl rfl rfl rfl rfl (three_of HT_.out (by kernel_rfl)) (by decide) (by decide) (by decide) (fun K hK => ?_) (fun K hK => ?_) (fun K hK => ?_)
                   ·skip
                    refine Kd.R_lit_step k37 _ 37 ?hg (N := 9) ?hd (xs := ([] : List (S37))) (inner := []) (ok := fun _ => True) (okp := fun _ => True) ?hr ?hp (fun _ hk => hk) trivial (Below.refl _ _) (Nat.le_refl _) (by simp) ?_; (case hd => rfl); (case hg => rfl); (case hr => first | (go_simp; done) | (go_simp; rfl)); (case hp => exact (Reps.none _ _))
                    intro v234 w10 ho11 hb hg_ hnew_
                    clear hg_ hnew_
                    (first | rw [← Ny233.out] at ho11 | (simp only [Int.reduceToNat] at ho11; rw [← Ny233.out] at ho11))
                    have n0_ := ak (Kd.R_lower ho11 (below_size (by repeat (first | (with_reducible first | exact HB.out | apply below_alloc | apply pw_below_drewN | apply below_drew1 | refine below_set ?_ GE230.out | refine below_set ?_ GE231.out | refine below_set ?_ GE232.out) | exact HB.out))))
                    have n1_ := ak (blk_below (g := gb230) (o := .cells #[.slice A0_0 l0_0.length c0_0, .slice A0_1 l0_1.length c0_1] 26 (0, 0)) (bTo BK230.out) hb)
                    have n2_ := ak (blk_below (g := gb231) (o := .cells #[.slice A1_0 l1_0.length c1_0, .slice A1_1 l1_1.length c1_1] 26 (0, 0)) (bTo BK231.out) hb)
                    have n3_ := ak (blk_below (g := gb232) (o := .cells #[.slice none 0 0, .slice none 0 0] 26 (0, 0)) (bTo BK232.out) hb)
                    have n4_ := ak (below_step (by repeat (first | (with_reducible first | exact HB.out | apply below_alloc | apply pw_below_drewN | apply below_drew1 | refine below_set ?_ GE230.out | refine below_set ?_ GE231.out | refine below_set ?_ GE232.out) | exact HB.out)) hb)
                    clear BK230
                    clear BK231
                    clear BK232
                    clear HB
                    have HO235 := n0_
                    have BK230 := n1_
                    have BK231 := n2_
                    have BK232 := n3_
                    have HB := n4_
                    clear n0_ n1_ n2_ n3_ n4_
                    clear hb ho11
                    refine hK.out _ _ ⟨(blk_cell BK230.out 0).trans rfl, (blk_cell BK230.out 1).trans rfl, (blk_cell BK231.out 0).trans rfl, (blk_cell BK231.out 1).trans rfl⟩ (fun hHeld => ?_)
                    clear hK K
                    refine norm_ (a' := ?_) ?_ ?_
                    rotate_left
                    ·show Act.put _ (some 9) _ = _
                     simp only [Act.put, List.setIfInBounds_toArray, List.set_cons_zero, List.set_cons_succ, i64_w, i32_w]
                     rfl
                    exact norm_ (by first | (simp only [putAll, Act.put, List.setIfInBounds_toArray, List.set_cons_zero, List.set_cons_succ]; done) | (simp only [putAll, Act.put, List.setIfInBounds_toArray, List.set_cons_zero, List.set_cons_succ]; rfl)) (hJ0 (v234) _ ⟨hHeld, (rTo HO235.out), (bTo BK230.out), (bTo BK231.out), (bTo BK232.out), (by repeat (first | (with_reducible first | exact HB.out | apply below_alloc | apply pw_below_drewN | apply below_drew1 | refine below_set ?_ GE230.out | refine below_set ?_ GE231.out | refine below_set ?_ GE232.out) | exact HB.out))⟩)
                   ·skip
                    refine Kd.R_lit_step Kd.string _ 9 ?hg (N := 13) ?hd (xs := ([] : List ByteArray)) (inner := []) (ok := fun _ => True) (okp := fun _ => True) ?hr ?hp (fun _ hk => hk) trivial (Below.refl _ _) (Nat.le_refl _) (by simp) ?_; (case hd => rfl); (case hg => rfl); (case hr => first | (go_simp; done) | (go_simp; rfl)); (case hp => exact (Reps.none _ _))
                    intro v240 w10 ho11 hb hg_ hnew_
                    clear hg_ hnew_
                    (first | rw [← Ny239.out] at ho11 | (simp only [Int.reduceToNat] at ho11; rw [← Ny239.out] at ho11))
                    have n0_ := ak (Kd.R_lower ho11 (below_size (by repeat (first | (with_reducible first | exact HB.out | apply below_alloc | apply pw_below_drewN | apply below_drew1 | refine below_set ?_ GE230.out | refine below_set ?_ GE231.out | refine below_set ?_ GE232.out) | exact HB.out))))
                    have n1_ := ak (blk_below (g := gb230) (o := .cells #[.slice A0_0 l0_0.length c0_0, .slice A0_1 l0_1.length c0_1] 26 (0, 0)) (bTo BK230.out) hb)
                    have n2_ := ak (blk_below (g := gb231) (o := .cells #[.slice A1_0 l1_0.length c1_0, .slice A1_1 l1_1.length c1_1] 26 (0, 0)) (bTo BK231.out) hb)
                    have n3_ := ak (blk_below (g := gb232) (o := .cells #[.slice none 0 0, .slice none 0 0] 26 (0, 0)) (bTo BK232.out) hb)
                    have n4_ := ak (below_step (by repeat (first | (with_reducible first | exact HB.out | apply below_alloc | apply pw_below_drewN | apply below_drew1 | refine below_set ?_ GE230.out | refine below_set ?_ GE231.out | refine below_set ?_ GE232.out) | exact HB.out)) hb)
                    clear BK230
                    clear BK231
                    clear BK232
                    clear HB
                    have HO241 := n0_
                    have BK230 := n1_
                    have BK231 := n2_
                    have BK232 := n3_
                    have HB := n4_
                    clear n0_ n1_ n2_ n3_ n4_
                    clear hb ho11
                    refine hK.out _ _ ⟨(blk_cell BK230.out 0).trans rfl, (blk_cell BK230.out 1).trans rfl, (blk_cell BK231.out 0).trans rfl, (blk_cell BK231.out 1).trans rfl⟩ (fun hHeld => ?_)
                    clear hK K
                    refine norm_ (a' := ?_) ?_ ?_
                    rotate_left
                    ·show Act.put _ (some 13) _ = _
                     simp only [Act.put, List.setIfInBounds_toArray, List.set_cons_zero, List.set_cons_succ, i64_w, i32_w]
                     rfl
                    exact norm_ (by first | (simp only [putAll, Act.put, List.setIfInBounds_toArray, List.set_cons_zero, List.set_cons_succ]; done) | (simp only [putAll, Act.put, List.setIfInBounds_toArray, List.set_cons_zero, List.set_cons_succ]; rfl)) (hJ4 (v240) _ ⟨hHeld, (rTo HO241.out), (bTo BK230.out), (bTo BK231.out), (bTo BK232.out), (by repeat (first | (with_reducible first | exact HB.out | apply below_alloc | apply pw_below_drewN | apply below_drew1 | refine below_set ?_ GE230.out | refine below_set ?_ GE231.out | refine below_set ?_ GE232.out) | exact HB.out))⟩)
                   ·skip
                    refine box_step ?hg (N := 5) ?hd (cs := #[.slice none 0 0, .slice none 0 0]) (t := 26) ?hr ?_; (case hd => rfl); (case hg => rfl); (case hr => first | (go_simp; done) | (go_simp; rfl))
                    intro gb248 hg w10 hbox hb
                    have n0_ := ak (blk_below (g := gb230) (o := .cells #[.slice A0_0 l0_0.length c0_0, .slice A0_1 l0_1.length c0_1] 26 (0, 0)) (bTo BK230.out) hb)
                    have n1_ := ak (blk_below (g := gb231) (o := .cells #[.slice A1_0 l1_0.length c1_0, .slice A1_1 l1_1.length c1_1] 26 (0, 0)) (bTo BK231.out) hb)
                    have n2_ := ak (blk_below (g := gb232) (o := .cells #[.slice none 0 0, .slice none 0 0] 26 (0, 0)) (bTo BK232.out) hb)
                    have n3_ := ak (below_step (by repeat (first | (with_reducible first | exact HB.out | apply below_alloc | apply pw_below_drewN | apply below_drew1 | refine below_set ?_ GE230.out | refine below_set ?_ GE231.out | refine below_set ?_ GE232.out) | exact HB.out)) hb)
                    have n4_ := ak (hbox)
                    have n5_ := ak ((by rw [hg]; exact (below_size (by repeat (first | (with_reducible first | exact HB.out | apply below_alloc | apply pw_below_drewN | apply below_drew1 | refine below_set ?_ GE230.out | refine below_set ?_ GE231.out | refine below_set ?_ GE232.out) | exact HB.out))) : w.heap.size ≤ gb248))
                    have n6_ := ak ((by rw [hg]; exact (below_size (by repeat (first | (with_reducible first | exact HB.out | apply below_alloc | apply pw_below_drewN | apply below_drew1 | refine below_set ?_ GE230.out | refine below_set ?_ GE231.out | refine below_set ?_ GE232.out) | exact HB.out))) : w.heap.size ≤ gb248))
                    have n7_ := ak ((by rw [hg]; exact Nat.ne_of_lt (blk_lt (g := gb230) (o := .cells #[.slice A0_0 l0_0.length c0_0, .slice A0_1 l0_1.length c0_1] 26 (0, 0)) (bTo BK230.out)) : gb230 ≠ gb248))
                    have n8_ := ak ((by rw [hg]; exact Nat.ne_of_gt (blk_lt (g := gb230) (o := .cells #[.slice A0_0 l0_0.length c0_0, .slice A0_1 l0_1.length c0_1] 26 (0, 0)) (bTo BK230.out)) : gb248 ≠ gb230))
                    have n9_ := ak ((by rw [hg]; exact Nat.ne_of_lt (blk_lt (g := gb231) (o := .cells #[.slice A1_0 l1_0.length c1_0, .slice A1_1 l1_1.length c1_1] 26 (0, 0)) (bTo BK231.out)) : gb231 ≠ gb248))
                    have n10_ := ak ((by rw [hg]; exact Nat.ne_of_gt (blk_lt (g := gb231) (o := .cells #[.slice A1_0 l1_0.length c1_0, .slice A1_1 l1_1.length c1_1] 26 (0, 0)) (bTo BK231.out)) : gb248 ≠ gb231))
                    have n11_ := ak ((by rw [hg]; exact Nat.ne_of_lt (blk_lt (g := gb232) (o := .cells #[.slice none 0 0, .slice none 0 0] 26 (0, 0)) (bTo BK232.out)) : gb232 ≠ gb248))
                    have n12_ := ak ((by rw [hg]; exact Nat.ne_of_gt (blk_lt (g := gb232) (o := .cells #[.slice none 0 0, .slice none 0 0] 26 (0, 0)) (bTo BK232.out)) : gb248 ≠ gb232))
                    clear BK230
                    clear BK231
                    clear BK232
                    clear HB
                    have BK230 := n0_
                    have BK231 := n1_
                    have BK232 := n2_
                    have HB := n3_
                    have BK248 := n4_
                    have GW248 := n5_
                    have GE248 := n6_
                    have NB230_248 := n7_
                    have NB248_230 := n8_
                    have NB231_248 := n9_
                    have NB248_231 := n10_
                    have NB232_248 := n11_
                    have NB248_232 := n12_
                    clear n0_ n1_ n2_ n3_ n4_ n5_ n6_ n7_ n8_ n9_ n10_ n11_ n12_
                    clear hb hbox hg
                    refine hK.out _ _ ⟨(blk_cell BK230.out 0).trans rfl, (blk_cell BK230.out 1).trans rfl, (blk_cell BK231.out 0).trans rfl, (blk_cell BK231.out 1).trans rfl⟩ (fun hHeld => ?_)
                    clear hK K
                    refine norm_ (a' := ?_) ?_ ?_
                    rotate_left
                    ·show Act.put _ (some 5) _ = _
                     simp only [Act.put, List.setIfInBounds_toArray, List.set_cons_zero, List.set_cons_succ, i64_w, i32_w]
                     rfl
                    exact norm_ (by first | (simp only [putAll, Act.put, List.setIfInBounds_toArray, List.set_cons_zero, List.set_cons_succ]; done) | (simp only [putAll, Act.put, List.setIfInBounds_toArray, List.set_cons_zero, List.set_cons_succ]; rfl)) (hJ12 (gb248) _ ⟨hHeld, (bTo BK230.out), (bTo BK231.out), (bTo BK232.out), (bTo BK248.out), GW248.out, GE248.out, NB230_248.out, NB248_230.out, NB231_248.out, NB248_231.out, NB232_248.out, NB248_232.out, (by repeat (first | (with_reducible first | exact HB.out | apply below_alloc | apply pw_below_drewN | apply below_drew1 | refine below_set ?_ GE230.out | refine below_set ?_ GE231.out | refine below_set ?_ GE232.out | refine below_set ?_ GE248.out) | exact HB.out))⟩)
                  ·skip
                   rintro gb248 w11 ⟨hS_, h0_, h1_, h2_, h3_, h4_, h5_, h6_, h7_, h8_, h9_, h10_, h11_, h12_⟩
                   have n0_ : Aside0 (w11.heap[gb230]? = some (.cells #[.slice A0_0 l0_0.length c0_0, .slice A0_1 l0_1.length c0_1] 26 (0, 0))) := ⟨h0_⟩
                   have n1_ : Aside0 (w11.heap[gb231]? = some (.cells #[.slice A1_0 l1_0.length c1_0, .slice A1_1 l1_1.length c1_1] 26 (0, 0))) := ⟨h1_⟩
                   have n2_ : Aside0 (w11.heap[gb232]? = some (.cells #[.slice none 0 0, .slice none 0 0] 26 (0, 0))) := ⟨h2_⟩
                   have n3_ : Aside0 (w11.heap[gb248]? = some (.cells #[.slice none 0 0, .slice none 0 0] 26 (0, 0))) := ⟨h3_⟩
                   have n4_ : Aside0 (w.heap.size ≤ gb248) := ⟨h4_⟩
                   have n5_ : Aside0 (w.heap.size ≤ gb248) := ⟨h5_⟩
                   have n6_ : Aside0 (gb230 ≠ gb248) := ⟨h6_⟩
                   have n7_ : Aside0 (gb248 ≠ gb230) := ⟨h7_⟩
                   have n8_ : Aside0 (gb231 ≠ gb248) := ⟨h8_⟩
                   have n9_ : Aside0 (gb248 ≠ gb231) := ⟨h9_⟩
                   have n10_ : Aside0 (gb232 ≠ gb248) := ⟨h10_⟩
                   have n11_ : Aside0 (gb248 ≠ gb232) := ⟨h11_⟩
                   have n12_ : Aside0 (Below w.heap.size w w11) := ⟨h12_⟩
                   clear BK230
                   clear BK231
                   clear BK232
                   clear HB
                   clear h0_ h1_ h2_ h3_ h4_ h5_ h6_ h7_ h8_ h9_ h10_ h11_ h12_
                   have BK230 := n0_
                   have BK231 := n1_
                   have BK232 := n2_
                   have BK248 := n3_
                   have GW248 := n4_
                   have GE248 := n5_
                   have NB230_248 := n6_
                   have NB248_230 := n7_
                   have NB231_248 := n8_
                   have NB248_231 := n9_
                   have NB232_248 := n10_
                   have NB248_232 := n11_
                   have HB := n12_
                   clear n0_ n1_ n2_ n3_ n4_ n5_ n6_ n7_ n8_ n9_ n10_ n11_ n12_
                   have hHeld : w11.cell? ⟨gb230, 0, none⟩ = some (.slice A0_0 l0_0.length c0_0) ∧ w11.cell? ⟨gb230, 1, none⟩ = some (.slice A0_1 l0_1.length c0_1) ∧ w11.cell? ⟨gb231, 0, none⟩ = some (.slice A1_0 l1_0.length c1_0) ∧ w11.cell? ⟨gb231, 1, none⟩ = some (.slice A1_1 l1_1.length c1_1) := hS_
                   refine norm_ (a' := ?_) ?_ ?_
                   rotate_left
                   ·simp only [putAll, Act.put, List.setIfInBounds_toArray, List.set_cons_zero, List.set_cons_succ]
                    rfl
                   refine two_ (i := 0) (j := 4) (Ni := some 9) (Nj := some 13) #[true, true, true, false, false, true, true, false, true, true, false, false, true, false] #[false, true, true, false, true, true, true, false, true, true, false, false, true, false] rfl rfl rfl rfl (two_of HT_.out (by kernel_rfl)) (by decide) (by decide) (fun K hK => ?_) (fun K hK => ?_)
                   ·skip
                    refine Kd.R_lit_step k37 _ 37 ?hg (N := 9) ?hd (xs := ([] : List (S37))) (inner := []) (ok := fun _ => True) (okp := fun _ => True) ?hr ?hp (fun _ hk => hk) trivial (Below.refl _ _) (Nat.le_refl _) (by simp) ?_; (case hd => rfl); (case hg => rfl); (case hr => first | (go_simp; done) | (go_simp; rfl)); (case hp => exact (Reps.none _ _))
                    intro v234 w12 ho13 hb hg_ hnew_
                    clear hg_ hnew_
                    (first | rw [← Ny233.out] at ho13 | (simp only [Int.reduceToNat] at ho13; rw [← Ny233.out] at ho13))
                    have n0_ := ak (Kd.R_lower ho13 (below_size (by repeat (first | (with_reducible first | exact HB.out | apply below_alloc | apply pw_below_drewN | apply below_drew1 | refine below_set ?_ GE230.out | refine below_set ?_ GE231.out | refine below_set ?_ GE232.out | refine below_set ?_ GE248.out) | exact HB.out))))
                    have n1_ := ak (blk_below (g := gb230) (o := .cells #[.slice A0_0 l0_0.length c0_0, .slice A0_1 l0_1.length c0_1] 26 (0, 0)) (bTo BK230.out) hb)
                    have n2_ := ak (blk_below (g := gb231) (o := .cells #[.slice A1_0 l1_0.length c1_0, .slice A1_1 l1_1.length c1_1] 26 (0, 0)) (bTo BK231.out) hb)
                    have n3_ := ak (blk_below (g := gb232) (o := .cells #[.slice none 0 0, .slice none 0 0] 26 (0, 0)) (bTo BK232.out) hb)
                    have n4_ := ak (blk_below (g := gb248) (o := .cells #[.slice none 0 0, .slice none 0 0] 26 (0, 0)) (bTo BK248.out) hb)
                    have n5_ := ak (below_step (by repeat (first | (with_reducible first | exact HB.out | apply below_alloc | apply pw_below_drewN | apply below_drew1 | refine below_set ?_ GE230.out | refine below_set ?_ GE231.out | refine below_set ?_ GE232.out | refine below_set ?_ GE248.out) | exact HB.out)) hb)
                    clear BK230
                    clear BK231
                    clear BK232
                    clear BK248
                    clear HB
                    have HO235 := n0_
                    have BK230 := n1_
                    have BK231 := n2_
                    have BK232 := n3_
                    have BK248 := n4_
                    have HB := n5_
                    clear n0_ n1_ n2_ n3_ n4_ n5_
                    clear hb ho13
                    refine hK.out _ _ ⟨(blk_cell BK230.out 0).trans rfl, (blk_cell BK230.out 1).trans rfl, (blk_cell BK231.out 0).trans rfl, (blk_cell BK231.out 1).trans rfl⟩ (fun hHeld => ?_)
                    clear hK K
                    refine norm_ (a' := ?_) ?_ ?_
                    rotate_left
                    ·show Act.put _ (some 9) _ = _
                     simp only [Act.put, List.setIfInBounds_toArray, List.set_cons_zero, List.set_cons_succ, i64_w, i32_w]
                     rfl
                    exact norm_ (by first | (simp only [putAll, Act.put, List.setIfInBounds_toArray, List.set_cons_zero, List.set_cons_succ]; done) | (simp only [putAll, Act.put, List.setIfInBounds_toArray, List.set_cons_zero, List.set_cons_succ]; rfl)) (hJ0_12 (v234, gb248) _ ⟨hHeld, (rTo HO235.out), (bTo BK230.out), (bTo BK231.out), (bTo BK232.out), (bTo BK248.out), GW248.out, GE248.out, NB230_248.out, NB248_230.out, NB231_248.out, NB248_231.out, NB232_248.out, NB248_232.out, (by repeat (first | (with_reducible first | exact HB.out | apply below_alloc | apply pw_below_drewN | apply below_drew1 | refine below_set ?_ GE230.out | refine below_set ?_ GE231.out | refine below_set ?_ GE232.out | refine below_set ?_ GE248.out) | exact HB.out))⟩)
                   ·skip
                    refine Kd.R_lit_step Kd.string _ 9 ?hg (N := 13) ?hd (xs := ([] : List ByteArray)) (inner := []) (ok := fun _ => True) (okp := fun _ => True) ?hr ?hp (fun _ hk => hk) trivial (Below.refl _ _) (Nat.le_refl _) (by simp) ?_; (case hd => rfl); (case hg => rfl); (case hr => first | (go_simp; done) | (go_simp; rfl)); (case hp => exact (Reps.none _ _))
                    intro v240 w12 ho13 hb hg_ hnew_
                    clear hg_ hnew_
                    (first | rw [← Ny239.out] at ho13 | (simp only [Int.reduceToNat] at ho13; rw [← Ny239.out] at ho13))
                    have n0_ := ak (Kd.R_lower ho13 (below_size (by repeat (first | (with_reducible first | exact HB.out | apply below_alloc | apply pw_below_drewN | apply below_drew1 | refine below_set ?_ GE230.out | refine below_set ?_ GE231.out | refine below_set ?_ GE232.out | refine below_set ?_ GE248.out) | exact HB.out))))
                    have n1_ := ak (blk_below (g := gb230) (o := .cells #[.slice A0_0 l0_0.length c0_0, .slice A0_1 l0_1.length c0_1] 26 (0, 0)) (bTo BK230.out) hb)
                    have n2_ := ak (blk_below (g := gb231) (o := .cells #[.slice A1_0 l1_0.length c1_0, .slice A1_1 l1_1.length c1_1] 26 (0, 0)) (bTo BK231.out) hb)
                    have n3_ := ak (blk_below (g := gb232) (o := .cells #[.slice none 0 0, .slice none 0 0] 26 (0, 0)) (bTo BK232.out) hb)
                    have n4_ := ak (blk_below (g := gb248) (o := .cells #[.slice none 0 0, .slice none 0 0] 26 (0, 0)) (bTo BK248.out) hb)
                    have n5_ := ak (below_step (by repeat (first | (with_reducible first | exact HB.out | apply below_alloc | apply pw_below_drewN | apply below_drew1 | refine below_set ?_ GE230.out | refine below_set ?_ GE231.out | refine below_set ?_ GE232.out | refine below_set ?_ GE248.out) | exact HB.out)) hb)
                    clear BK230
                    clear BK231
                    clear BK232
                    clear BK248
                    clear HB
                    have HO241 := n0_
                    have BK230 := n1_
                    have BK231 := n2_
                    have BK232 := n3_
                    have BK248 := n4_
                    have HB := n5_
                    clear n0_ n1_ n2_ n3_ n4_ n5_
                    clear hb ho13
                    refine hK.out _ _ ⟨(blk_cell BK230.out 0).trans rfl, (blk_cell BK230.out 1).trans rfl, (blk_cell BK231.out 0).trans rfl, (blk_cell BK231.out 1).trans rfl⟩ (fun hHeld => ?_)
                    clear hK K
                    refine norm_ (a' := ?_) ?_ ?_
                    rotate_left
                    ·show Act.put _ (some 13) _ = _
                     simp only [Act.put, List.setIfInBounds_toArray, List.set_cons_zero, List.set_cons_succ, i64_w, i32_w]
                     rfl
                    exact norm_ (by first | (simp only [putAll, Act.put, List.setIfInBounds_toArray, List.set_cons_zero, List.set_cons_succ]; done) | (simp only [putAll, Act.put, List.setIfInBounds_toArray, List.set_cons_zero, List.set_cons_succ]; rfl)) (hJ4_12 (v240, gb248) _ ⟨hHeld, (rTo HO241.out), (bTo BK230.out), (bTo BK231.out), (bTo BK232.out), (bTo BK248.out), GW248.out, GE248.out, NB230_248.out, NB248_230.out, NB231_248.out, NB248_231.out, NB232_248.out, NB248_232.out, (by repeat (first | (with_reducible first | exact HB.out | apply below_alloc | apply pw_below_drewN | apply below_drew1 | refine below_set ?_ GE230.out | refine below_set ?_ GE231.out | refine below_set ?_ GE232.out | refine below_set ?_ GE248.out) | exact HB.out))⟩)
                 ·skip
                  rintro v240 w12 ⟨hS_, h0_, h1_, h2_, h3_, h4_⟩
                  have n0_ : Aside0 (Kd.R Kd.string 9 w12 w.heap.size (fun _ => True) v240 y239) := ⟨h0_⟩
                  have n1_ : Aside0 (w12.heap[gb230]? = some (.cells #[.slice A0_0 l0_0.length c0_0, .slice A0_1 l0_1.length c0_1] 26 (0, 0))) := ⟨h1_⟩
                  have n2_ : Aside0 (w12.heap[gb231]? = some (.cells #[.slice A1_0 l1_0.length c1_0, .slice A1_1 l1_1.length c1_1] 26 (0, 0))) := ⟨h2_⟩
                  have n3_ : Aside0 (w12.heap[gb232]? = some (.cells #[.slice none 0 0, .slice none 0 0] 26 (0, 0))) := ⟨h3_⟩
                  have n4_ : Aside0 (Below w.heap.size w w12) := ⟨h4_⟩
                  clear BK230
                  clear BK231
                  clear BK232
                  clear HB
                  clear h0_ h1_ h2_ h3_ h4_
                  have HO241 := n0_
                  have BK230 := n1_
                  have BK231 := n2_
                  have BK232 := n3_
                  have HB := n4_
                  clear n0_ n1_ n2_ n3_ n4_
                  have hHeld : w12.cell? ⟨gb230, 0, none⟩ = some (.slice A0_0 l0_0.length c0_0) ∧ w12.cell? ⟨gb230, 1, none⟩ = some (.slice A0_1 l0_1.length c0_1) ∧ w12.cell? ⟨gb231, 0, none⟩ = some (.slice A1_0 l1_0.length c1_0) ∧ w12.cell? ⟨gb231, 1, none⟩ = some (.slice A1_1 l1_1.length c1_1) := hS_
                  refine norm_ (a' := ?_) ?_ ?_
                  rotate_left
                  ·simp only [putAll, Act.put, List.setIfInBounds_toArray, List.set_cons_zero, List.set_cons_succ]
                   rfl
                  refine two_ (i := 0) (j := 12) (Ni := some 9) (Nj := some 5) #[true, true, true, false, true, true, true, false, true, true, false, false, false, false] #[false, true, true, false, true, true, true, false, true, true, false, false, true, false] rfl rfl rfl rfl (two_of HT_.out (by kernel_rfl)) (by decide) (by decide) (fun K hK => ?_) (fun K hK => ?_)
                  ·skip
                   refine Kd.R_lit_step k37 _ 37 ?hg (N := 9) ?hd (xs := ([] : List (S37))) (inner := []) (ok := fun _ => True) (okp := fun _ => True) ?hr ?hp (fun _ hk => hk) trivial (Below.refl _ _) (Nat.le_refl _) (by simp) ?_; (case hd => rfl); (case hg => rfl); (case hr => first | (go_simp; done) | (go_simp; rfl)); (case hp => exact (Reps.none _ _))
                   intro v234 w13 ho14 hb hg_ hnew_
                   clear hg_ hnew_
                   (first | rw [← Ny233.out] at ho14 | (simp only [Int.reduceToNat] at ho14; rw [← Ny233.out] at ho14))
                   have n0_ := ak (Kd.R_below (rTo HO241.out) hb)
                   have n1_ := ak (Kd.R_lower ho14 (below_size (by repeat (first | (with_reducible first | exact HB.out | apply below_alloc | apply pw_below_drewN | apply below_drew1 | refine below_set ?_ GE230.out | refine below_set ?_ GE231.out | refine below_set ?_ GE232.out) | exact HB.out))))
                   have n2_ := ak (blk_below (g := gb230) (o := .cells #[.slice A0_0 l0_0.length c0_0, .slice A0_1 l0_1.length c0_1] 26 (0, 0)) (bTo BK230.out) hb)
                   have n3_ := ak (blk_below (g := gb231) (o := .cells #[.slice A1_0 l1_0.length c1_0, .slice A1_1 l1_1.length c1_1] 26 (0, 0)) (bTo BK231.out) hb)
                   have n4_ := ak (blk_below (g := gb232) (o := .cells #[.slice none 0 0, .slice none 0 0] 26 (0, 0)) (bTo BK232.out) hb)
                   have n5_ := ak (below_step (by repeat (first | (with_reducible first | exact HB.out | apply below_alloc | apply pw_below_drewN | apply below_drew1 | refine below_set ?_ GE230.out | refine below_set ?_ GE231.out | refine below_set ?_ GE232.out) | exact HB.out)) hb)
                   clear HO241
                   clear BK230
                   clear BK231
                   clear BK232
                   clear HB
                   have HO241 := n0_
                   have HO235 := n1_
                   have BK230 := n2_
                   have BK231 := n3_
                   have BK232 := n4_
                   have HB := n5_
                   clear n0_ n1_ n2_ n3_ n4_ n5_
                   clear hb ho14
                   refine hK.out _ _ ⟨(blk_cell BK230.out 0).trans rfl, (blk_cell BK230.out 1).trans rfl, (blk_cell BK231.out 0).trans rfl, (blk_cell BK231.out 1).trans rfl⟩ (fun hHeld => ?_)
                   clear hK K
                   refine norm_ (a' := ?_) ?_ ?_
                   rotate_left
                   ·show Act.put _ (some 9) _ = _
                    simp only [Act.put, List.setIfInBounds_toArray, List.set_cons_zero, List.set_cons_succ, i64_w, i32_w]
                    rfl
                   exact norm_ (by first | (simp only [putAll, Act.put, List.setIfInBounds_toArray, List.set_cons_zero, List.set_cons_succ]; done) | (simp only [putAll, Act.put, List.setIfInBounds_toArray, List.set_cons_zero, List.set_cons_succ]; rfl)) (hJ0_4 (v234, v240) _ ⟨hHeld, (rTo HO235.out), (rTo HO241.out), (bTo BK230.out), (bTo BK231.out), (bTo BK232.out), (by repeat (first | (with_reducible first | exact HB.out | apply below_alloc | apply pw_below_drewN | apply below_drew1 | refine below_set ?_ GE230.out | refine below_set ?_ GE231.out | refine below_set ?_ GE232.out) | exact HB.out))⟩)
                  ·skip
                   refine box_step ?hg (N := 5) ?hd (cs := #[.slice none 0 0, .slice none 0 0]) (t := 26) ?hr ?_; (case hd => rfl); (case hg => rfl); (case hr => first | (go_simp; done) | (go_simp; rfl))
                   intro gb248 hg w13 hbox hb
                   have n0_ := ak (Kd.R_below (rTo HO241.out) hb)
                   have n1_ := ak (blk_below (g := gb230) (o := .cells #[.slice A0_0 l0_0.length c0_0, .slice A0_1 l0_1.length c0_1] 26 (0, 0)) (bTo BK230.out) hb)
                   have n2_ := ak (blk_below (g := gb231) (o := .cells #[.slice A1_0 l1_0.length c1_0, .slice A1_1 l1_1.length c1_1] 26 (0, 0)) (bTo BK231.out) hb)
                   have n3_ := ak (blk_below (g := gb232) (o := .cells #[.slice none 0 0, .slice none 0 0] 26 (0, 0)) (bTo BK232.out) hb)
                   have n4_ := ak (below_step (by repeat (first | (with_reducible first | exact HB.out | apply below_alloc | apply pw_below_drewN | apply below_drew1 | refine below_set ?_ GE230.out | refine below_set ?_ GE231.out | refine below_set ?_ GE232.out) | exact HB.out)) hb)
                   have n5_ := ak (hbox)
                   have n6_ := ak ((by rw [hg]; exact (below_size (by repeat (first | (with_reducible first | exact HB.out | apply below_alloc | apply pw_below_drewN | apply below_drew1 | refine below_set ?_ GE230.out | refine below_set ?_ GE231.out | refine below_set ?_ GE232.out) | exact HB.out))) : w.heap.size ≤ gb248))
                   have n7_ := ak ((by rw [hg]; exact (below_size (by repeat (first | (with_reducible first | exact HB.out | apply below_alloc | apply pw_below_drewN | apply below_drew1 | refine below_set ?_ GE230.out | refine below_set ?_ GE231.out | refine below_set ?_ GE232.out) | exact HB.out))) : w.heap.size ≤ gb248))
                   have n8_ := ak ((by rw [hg]; exact Nat.ne_of_lt (blk_lt (g := gb230) (o := .cells #[.slice A0_0 l0_0.length c0_0, .slice A0_1 l0_1.length c0_1] 26 (0, 0)) (bTo BK230.out)) : gb230 ≠ gb248))
                   have n9_ := ak ((by rw [hg]; exact Nat.ne_of_gt (blk_lt (g := gb230) (o := .cells #[.slice A0_0 l0_0.length c0_0, .slice A0_1 l0_1.length c0_1] 26 (0, 0)) (bTo BK230.out)) : gb248 ≠ gb230))
                   have n10_ := ak ((by rw [hg]; exact Nat.ne_of_lt (blk_lt (g := gb231) (o := .cells #[.slice A1_0 l1_0.length c1_0, .slice A1_1 l1_1.length c1_1] 26 (0, 0)) (bTo BK231.out)) : gb231 ≠ gb248))
                   have n11_ := ak ((by rw [hg]; exact Nat.ne_of_gt (blk_lt (g := gb231) (o := .cells #[.slice A1_0 l1_0.length c1_0, .slice A1_1 l1_1.length c1_1] 26 (0, 0)) (bTo BK231.out)) : gb248 ≠ gb231))
                   have n12_ := ak ((by rw [hg]; exact Nat.ne_of_lt (blk_lt (g := gb232) (o := .cells #[.slice none 0 0, .slice none 0 0] 26 (0, 0)) (bTo BK232.out)) : gb232 ≠ gb248))
                   have n13_ := ak ((by rw [hg]; exact Nat.ne_of_gt (blk_lt (g := gb232) (o := .cells #[.slice none 0 0, .slice none 0 0] 26 (0, 0)) (bTo BK232.out)) : gb248 ≠ gb232))
                   clear HO241
                   clear BK230
                   clear BK231
                   clear BK232
                   clear HB
                   have HO241 := n0_
                   have BK230 := n1_
                   have BK231 := n2_
                   have BK232 := n3_
                   have HB := n4_
                   have BK248 := n5_
                   have GW248 := n6_
                   have GE248 := n7_
                   have NB230_248 := n8_
                   have NB248_230 := n9_
                   have NB231_248 := n10_
                   have NB248_231 := n11_
                   have NB232_248 := n12_
                   have NB248_232 := n13_
                   clear n0_ n1_ n2_ n3_ n4_ n5_ n6_ n7_ n8_ n9_ n10_ n11_ n12_ n13_
                   clear hb hbox hg
                   refine hK.out _ _ ⟨(blk_cell BK230.out 0).trans rfl, (blk_cell BK230.out 1).trans rfl, (blk_cell BK231.out 0).trans rfl, (blk_cell BK231.out 1).trans rfl⟩ (fun hHeld => ?_)
                   clear hK K
                   refine norm_ (a' := ?_) ?_ ?_
                   rotate_left
                   ·show Act.put _ (some 5) _ = _
                    simp only [Act.put, List.setIfInBounds_toArray, List.set_cons_zero, List.set_cons_succ, i64_w, i32_w]
                    rfl
                   exact norm_ (by first | (simp only [putAll, Act.put, List.setIfInBounds_toArray, List.set_cons_zero, List.set_cons_succ]; done) | (simp only [putAll, Act.put, List.setIfInBounds_toArray, List.set_cons_zero, List.set_cons_succ]; rfl)) (hJ4_12 (v240, gb248) _ ⟨hHeld, (rTo HO241.out), (bTo BK230.out), (bTo BK231.out), (bTo BK232.out), (bTo BK248.out), GW248.out, GE248.out, NB230_248.out, NB248_230.out, NB231_248.out, NB248_231.out, NB232_248.out, NB248_232.out, (by repeat (first | (with_reducible first | exact HB.out | apply below_alloc | apply pw_below_drewN | apply below_drew1 | refine below_set ?_ GE230.out | refine below_set ?_ GE231.out | refine below_set ?_ GE232.out | refine below_set ?_ GE248.out) | exact HB.out))⟩)
                ·skip
                 rintro v234 w12 ⟨hS_, h0_, h1_, h2_, h3_, h4_⟩
                 have n0_ : Aside0 (Kd.R k37 37 w12 w.heap.size (fun _ => True) v234 y233) := ⟨h0_⟩
                 have n1_ : Aside0 (w12.heap[gb230]? = some (.cells #[.slice A0_0 l0_0.length c0_0, .slice A0_1 l0_1.length c0_1] 26 (0, 0))) := ⟨h1_⟩
                 have n2_ : Aside0 (w12.heap[gb231]? = some (.cells #[.slice A1_0 l1_0.length c1_0, .slice A1_1 l1_1.length c1_1] 26 (0, 0))) := ⟨h2_⟩
                 have n3_ : Aside0 (w12.heap[gb232]? = some (.cells #[.slice none 0 0, .slice none 0 0] 26 (0, 0))) := ⟨h3_⟩
                 have n4_ : Aside0 (Below w.heap.size w w12) := ⟨h4_⟩
                 clear BK230
                 clear BK231
                 clear BK232
                 clear HB
                 clear h0_ h1_ h2_ h3_ h4_
                 have HO235 := n0_
                 have BK230 := n1_
                 have BK231 := n2_
                 have BK232 := n3_
                 have HB := n4_
                 clear n0_ n1_ n2_ n3_ n4_
                 have hHeld : w12.cell? ⟨gb230, 0, none⟩ = some (.slice A0_0 l0_0.length c0_0) ∧ w12.cell? ⟨gb230, 1, none⟩ = some (.slice A0_1 l0_1.length c0_1) ∧ w12.cell? ⟨gb231, 0, none⟩ = some (.slice A1_0 l1_0.length c1_0) ∧ w12.cell? ⟨gb231, 1, none⟩ = some (.slice A1_1 l1_1.length c1_1) := hS_
                 refine norm_ (a' := ?_) ?_ ?_
                 rotate_left
                 ·simp only [putAll, Act.put, List.setIfInBounds_toArray, List.set_cons_zero, List.set_cons_succ]
                  rfl
                 refine three_ (i := 3) (j := 4) (k := 12) (Ni := some 12) (Nj := some 13) (Nk := some 5) #[true, true, true, true, false, true, true, false, true, true, false, false, false, false] #[true, true, true, false, true, true, true, false, true, true, false, false, false, false] #[true, true, true, false, false, true, true, false, true, true, false, false, true, false] rfl rfl rfl rfl rfl rfl (three_of HT_.out (by kernel_rfl)) (by decide) (by decide) (by decide) (fun K hK => ?_) (fun K hK => ?_) (fun K hK => ?_)
                 ·skip
                  refine Kd.R_append_rows_step k37 (w0 := w) w.heap.size (by rfl) (.tmp 9) (.tmp 11) 23 37 (.agg #[(.string ⟨#[]⟩), (.int .i64 0)]) 24 rfl Try.underlying23 info37 rfl (by decide) (by omega) v234 y233 l0_0 _ _ _ (fun _ => True) (fun _ => False) rfl rfl ?aO ?aR (fun _ _ h => h) (fun _ h => h.elim) ?aF ?aB ?aS ?aL ?_
                  (case aR => repeat (first | exact (Kd.C_below HR0_0.out HB.out) | (with_reducible refine Kd.C_alloc ?_ _) | (with_reducible refine Kd.C_drewN ?_ _) | (with_reducible refine Kd.C_drew ?_)))
                  (case aB => exact (by repeat (first | (with_reducible first | exact HB.out | apply below_alloc | apply pw_below_drewN | apply below_drew1 | refine below_set ?_ GE230.out | refine below_set ?_ GE231.out | refine below_set ?_ GE232.out) | exact HB.out)))
                  (case aF => exact (fun _ _ => trivial))
                  (case aO => exact (rTo HO235.out))
                  (case aS => exact (below_size (by repeat (first | (with_reducible first | exact HB.out | apply below_alloc | apply pw_below_drewN | apply below_drew1 | refine below_set ?_ GE230.out | refine below_set ?_ GE231.out | refine below_set ?_ GE232.out) | exact HB.out))))
                  (case aL => have := LMc3.out; omega)
                  intro v237 w13 ho hb hg hat
                  rw [← Ny236.out] at ho
                  have n0_ := ak (blk_grown (g := gb230) (o := .cells #[.slice A0_0 l0_0.length c0_0, .slice A0_1 l0_1.length c0_1] 26 (0, 0)) (bTo BK230.out) hg (Kd.R_ne HO235.out BK230.out (by decide)))
                  have n1_ := ak (blk_grown (g := gb231) (o := .cells #[.slice A1_0 l1_0.length c1_0, .slice A1_1 l1_1.length c1_1] 26 (0, 0)) (bTo BK231.out) hg (Kd.R_ne HO235.out BK231.out (by decide)))
                  have n2_ := ak (blk_grown (g := gb232) (o := .cells #[.slice none 0 0, .slice none 0 0] 26 (0, 0)) (bTo BK232.out) hg (Kd.R_ne HO235.out BK232.out (by decide)))
                  have n3_ := ak (hb)
                  have n4_ := ak (ho)
                  clear BK230
                  clear BK231
                  clear BK232
                  clear HB
                  clear HO235
                  have BK230 := n0_
                  have BK231 := n1_
                  have BK232 := n2_
                  have HB := n3_
                  have HO238 := n4_
                  clear n0_ n1_ n2_ n3_ n4_
                  clear ho hb hg hat
                  refine hK.out _ _ ⟨(blk_cell BK230.out 0).trans rfl, (blk_cell BK230.out 1).trans rfl, (blk_cell BK231.out 0).trans rfl, (blk_cell BK231.out 1).trans rfl⟩ (fun hHeld => ?_)
                  clear hK K
                  refine norm_ (a' := ?_) ?_ ?_
                  rotate_left
                  ·show Act.put _ (some 12) _ = _
                   simp only [Act.put, List.setIfInBounds_toArray, List.set_cons_zero, List.set_cons_succ, i64_w, i32_w]
                   rfl
                  exact norm_ (by first | (simp only [putAll, Act.put, List.setIfInBounds_toArray, List.set_cons_zero, List.set_cons_succ]; done) | (simp only [putAll, Act.put, List.setIfInBounds_toArray, List.set_cons_zero, List.set_cons_succ]; rfl)) (hJ0_3 (v234, v237) _ ⟨hHeld, (rTo HO238.out), (bTo BK230.out), (bTo BK231.out), (bTo BK232.out), (by repeat (first | (with_reducible first | exact HB.out | apply below_alloc | apply pw_below_drewN | apply below_drew1 | refine below_set ?_ GE230.out | refine below_set ?_ GE231.out | refine below_set ?_ GE232.out) | exact HB.out))⟩)
                 ·skip
                  refine Kd.R_lit_step Kd.string _ 9 ?hg (N := 13) ?hd (xs := ([] : List ByteArray)) (inner := []) (ok := fun _ => True) (okp := fun _ => True) ?hr ?hp (fun _ hk => hk) trivial (Below.refl _ _) (Nat.le_refl _) (by simp) ?_; (case hd => rfl); (case hg => rfl); (case hr => first | (go_simp; done) | (go_simp; rfl)); (case hp => exact (Reps.none _ _))
                  intro v240 w13 ho14 hb hg_ hnew_
                  clear hg_ hnew_
                  (first | rw [← Ny239.out] at ho14 | (simp only [Int.reduceToNat] at ho14; rw [← Ny239.out] at ho14))
                  have n0_ := ak (Kd.R_below (rTo HO235.out) hb)
                  have n1_ := ak (Kd.R_lower ho14 (below_size (by repeat (first | (with_reducible first | exact HB.out | apply below_alloc | apply pw_below_drewN | apply below_drew1 | refine below_set ?_ GE230.out | refine below_set ?_ GE231.out | refine below_set ?_ GE232.out) | exact HB.out))))
                  have n2_ := ak (blk_below (g := gb230) (o := .cells #[.slice A0_0 l0_0.length c0_0, .slice A0_1 l0_1.length c0_1] 26 (0, 0)) (bTo BK230.out) hb)
                  have n3_ := ak (blk_below (g := gb231) (o := .cells #[.slice A1_0 l1_0.length c1_0, .slice A1_1 l1_1.length c1_1] 26 (0, 0)) (bTo BK231.out) hb)
                  have n4_ := ak (blk_below (g := gb232) (o := .cells #[.slice none 0 0, .slice none 0 0] 26 (0, 0)) (bTo BK232.out) hb)
                  have n5_ := ak (below_step (by repeat (first | (with_reducible first | exact HB.out | apply below_alloc | apply pw_below_drewN | apply below_drew1 | refine below_set ?_ GE230.out | refine below_set ?_ GE231.out | refine below_set ?_ GE232.out) | exact HB.out)) hb)
                  clear HO235
                  clear BK230
                  clear BK231
                  clear BK232
                  clear HB
                  have HO235 := n0_
                  have HO241 := n1_
                  have BK230 := n2_
                  have BK231 := n3_
                  have BK232 := n4_
                  have HB := n5_
                  clear n0_ n1_ n2_ n3_ n4_ n5_
                  clear hb ho14
                  refine hK.out _ _ ⟨(blk_cell BK230.out 0).trans rfl, (blk_cell BK230.out 1).trans rfl, (blk_cell BK231.out 0).trans rfl, (blk_cell BK231.out 1).trans rfl⟩ (fun hHeld => ?_)
                  clear hK K
                  refine norm_ (a' := ?_) ?_ ?_
                  rotate_left
                  ·show Act.put _ (some 13) _ = _
                   simp only [Act.put, List.setIfInBounds_toArray, List.set_cons_zero, List.set_cons_succ, i64_w, i32_w]
                   rfl
                  exact norm_ (by first | (simp only [putAll, Act.put, List.setIfInBounds_toArray, List.set_cons_zero, List.set_cons_succ]; done) | (simp only [putAll, Act.put, List.setIfInBounds_toArray, List.set_cons_zero, List.set_cons_succ]; rfl)) (hJ0_4 (v234, v240) _ ⟨hHeld, (rTo HO235.out), (rTo HO241.out), (bTo BK230.out), (bTo BK231.out), (bTo BK232.out), (by repeat (first | (with_reducible first | exact HB.out | apply below_alloc | apply pw_below_drewN | apply below_drew1 | refine below_set ?_ GE230.out | refine below_set ?_ GE231.out | refine below_set ?_ GE232.out) | exact HB.out))⟩)
                 ·skip
                  refine box_step ?hg (N := 5) ?hd (cs := #[.slice none 0 0, .slice none 0 0]) (t := 26) ?hr ?_; (case hd => rfl); (case hg => rfl); (case hr => first | (go_simp; done) | (go_simp; rfl))
                  intro gb248 hg w13 hbox hb
                  have n0_ := ak (Kd.R_below (rTo HO235.out) hb)
                  have n1_ := ak (blk_below (g := gb230) (o := .cells #[.slice A0_0 l0_0.length c0_0, .slice A0_1 l0_1.length c0_1] 26 (0, 0)) (bTo BK230.out) hb)
                  have n2_ := ak (blk_below (g := gb231) (o := .cells #[.slice A1_0 l1_0.length c1_0, .slice A1_1 l1_1.length c1_1] 26 (0, 0)) (bTo BK231.out) hb)
                  have n3_ := ak (blk_below (g := gb232) (o := .cells #[.slice none 0 0, .slice none 0 0] 26 (0, 0)) (bTo BK232.out) hb)
                  have n4_ := ak (below_step (by repeat (first | (with_reducible first | exact HB.out | apply below_alloc | apply pw_below_drewN | apply below_drew1 | refine below_set ?_ GE230.out | refine below_set ?_ GE231.out | refine below_set ?_ GE232.out) | exact HB.out)) hb)
                  have n5_ := ak (hbox)
                  have n6_ := ak ((by rw [hg]; exact (below_size (by repeat (first | (with_reducible first | exact HB.out | apply below_alloc | apply pw_below_drewN | apply below_drew1 | refine below_set ?_ GE230.out | refine below_set ?_ GE231.out | refine below_set ?_ GE232.out) | exact HB.out))) : w.heap.size ≤ gb248))
                  have n7_ := ak ((by rw [hg]; exact (below_size (by repeat (first | (with_reducible first | exact HB.out | apply below_alloc | apply pw_below_drewN | apply below_drew1 | refine below_set ?_ GE230.out | refine below_set ?_ GE231.out | refine below_set ?_ GE232.out) | exact HB.out))) : w.heap.size ≤ gb248))
                  have n8_ := ak ((by rw [hg]; exact Nat.ne_of_lt (blk_lt (g := gb230) (o := .cells #[.slice A0_0 l0_0.length c0_0, .slice A0_1 l0_1.length c0_1] 26 (0, 0)) (bTo BK230.out)) : gb230 ≠ gb248))
                  have n9_ := ak ((by rw [hg]; exact Nat.ne_of_gt (blk_lt (g := gb230) (o := .cells #[.slice A0_0 l0_0.length c0_0, .slice A0_1 l0_1.length c0_1] 26 (0, 0)) (bTo BK230.out)) : gb248 ≠ gb230))
                  have n10_ := ak ((by rw [hg]; exact Nat.ne_of_lt (blk_lt (g := gb231) (o := .cells #[.slice A1_0 l1_0.length c1_0, .slice A1_1 l1_1.length c1_1] 26 (0, 0)) (bTo BK231.out)) : gb231 ≠ gb248))
                  have n11_ := ak ((by rw [hg]; exact Nat.ne_of_gt (blk_lt (g := gb231) (o := .cells #[.slice A1_0 l1_0.length c1_0, .slice A1_1 l1_1.length c1_1] 26 (0, 0)) (bTo BK231.out)) : gb248 ≠ gb231))
                  have n12_ := ak ((by rw [hg]; exact Nat.ne_of_lt (blk_lt (g := gb232) (o := .cells #[.slice none 0 0, .slice none 0 0] 26 (0, 0)) (bTo BK232.out)) : gb232 ≠ gb248))
                  have n13_ := ak ((by rw [hg]; exact Nat.ne_of_gt (blk_lt (g := gb232) (o := .cells #[.slice none 0 0, .slice none 0 0] 26 (0, 0)) (bTo BK232.out)) : gb248 ≠ gb232))
                  clear HO235
                  clear BK230
                  clear BK231
                  clear BK232
                  clear HB
                  have HO235 := n0_
                  have BK230 := n1_
                  have BK231 := n2_
                  have BK232 := n3_
                  have HB := n4_
                  have BK248 := n5_
                  have GW248 := n6_
                  have GE248 := n7_
                  have NB230_248 := n8_
                  have NB248_230 := n9_
                  have NB231_248 := n10_
                  have NB248_231 := n11_
                  have NB232_248 := n12_
                  have NB248_232 := n13_
                  clear n0_ n1_ n2_ n3_ n4_ n5_ n6_ n7_ n8_ n9_ n10_ n11_ n12_ n13_
                  clear hb hbox hg
                  refine hK.out _ _ ⟨(blk_cell BK230.out 0).trans rfl, (blk_cell BK230.out 1).trans rfl, (blk_cell BK231.out 0).trans rfl, (blk_cell BK231.out 1).trans rfl⟩ (fun hHeld => ?_)
                  clear hK K
                  refine norm_ (a' := ?_) ?_ ?_
                  rotate_left
                  ·show Act.put _ (some 5) _ = _
                   simp only [Act.put, List.setIfInBounds_toArray, List.set_cons_zero, List.set_cons_succ, i64_w, i32_w]
                   rfl
                  exact norm_ (by first | (simp only [putAll, Act.put, List.setIfInBounds_toArray, List.set_cons_zero, List.set_cons_succ]; done) | (simp only [putAll, Act.put, List.setIfInBounds_toArray, List.set_cons_zero, List.set_cons_succ]; rfl)) (hJ0_12 (v234, gb248) _ ⟨hHeld, (rTo HO235.out), (bTo BK230.out), (bTo BK231.out), (bTo BK232.out), (bTo BK248.out), GW248.out, GE248.out, NB230_248.out, NB248_230.out, NB231_248.out, NB248_231.out, NB232_248.out, NB248_232.out, (by repeat (first | (with_reducible first | exact HB.out | apply below_alloc | apply pw_below_drewN | apply below_drew1 | refine below_set ?_ GE230.out | refine below_set ?_ GE231.out | refine below_set ?_ GE232.out | refine below_set ?_ GE248.out) | exact HB.out))⟩)
               ·skip
                rintro ⟨v240, gb248⟩ w13 ⟨hS_, h0_, h1_, h2_, h3_, h4_, h5_, h6_, h7_, h8_, h9_, h10_, h11_, h12_, h13_⟩
                have n0_ : Aside0 (Kd.R Kd.string 9 w13 w.heap.size (fun _ => True) v240 y239) := ⟨h0_⟩
                have n1_ : Aside0 (w13.heap[gb230]? = some (.cells #[.slice A0_0 l0_0.length c0_0, .slice A0_1 l0_1.length c0_1] 26 (0, 0))) := ⟨h1_⟩
                have n2_ : Aside0 (w13.heap[gb231]? = some (.cells #[.slice A1_0 l1_0.length c1_0, .slice A1_1 l1_1.length c1_1] 26 (0, 0))) := ⟨h2_⟩
                have n3_ : Aside0 (w13.heap[gb232]? = some (.cells #[.slice none 0 0, .slice none 0 0] 26 (0, 0))) := ⟨h3_⟩
                have n4_ : Aside0 (w13.heap[gb248]? = some (.cells #[.slice none 0 0, .slice none 0 0] 26 (0, 0))) := ⟨h4_⟩
                have n5_ : Aside0 (w.heap.size ≤ gb248) := ⟨h5_⟩
                have n6_ : Aside0 (w.heap.size ≤ gb248) := ⟨h6_⟩
                have n7_ : Aside0 (gb230 ≠ gb248) := ⟨h7_⟩
                have n8_ : Aside0 (gb248 ≠ gb230) := ⟨h8_⟩
                have n9_ : Aside0 (gb231 ≠ gb248) := ⟨h9_⟩
                have n10_ : Aside0 (gb248 ≠ gb231) := ⟨h10_⟩
                have n11_ : Aside0 (gb232 ≠ gb248) := ⟨h11_⟩
                have n12_ : Aside0 (gb248 ≠ gb232) := ⟨h12_⟩
                have n13_ : Aside0 (Below w.heap.size w w13) := ⟨h13_⟩
                clear BK230
                clear BK231
                clear BK232
                clear HB
                clear h0_ h1_ h2_ h3_ h4_ h5_ h6_ h7_ h8_ h9_ h10_ h11_ h12_ h13_
                have HO241 := n0_
                have BK230 := n1_
                have BK231 := n2_
                have BK232 := n3_
                have BK248 := n4_
                have GW248 := n5_
                have GE248 := n6_
                have NB230_248 := n7_
                have NB248_230 := n8_
                have NB231_248 := n9_
                have NB248_231 := n10_
                have NB232_248 := n11_
                have NB248_232 := n12_
                have HB := n13_
                clear n0_ n1_ n2_ n3_ n4_ n5_ n6_ n7_ n8_ n9_ n10_ n11_ n12_ n13_
                have hHeld : w13.cell? ⟨gb230, 0, none⟩ = some (.slice A0_0 l0_0.length c0_0) ∧ w13.cell? ⟨gb230, 1, none⟩ = some (.slice A0_1 l0_1.length c0_1) ∧ w13.cell? ⟨gb231, 0, none⟩ = some (.slice A1_0 l1_0.length c1_0) ∧ w13.cell? ⟨gb231, 1, none⟩ = some (.slice A1_1 l1_1.length c1_1) := hS_
                refine norm_ (a' := ?_) ?_ ?_
                rotate_left
                ·simp only [putAll, Act.put, List.setIfInBounds_toArray, List.set_cons_zero, List.set_cons_succ]
                 rfl
                refine one_ (i := 0) (N := some 9) #[true, true, true, false, true, true, true, false, true, true, false, false, true, false] rfl rfl (one_of HT_.out (by kernel_rfl)) (by decide) (fun K hK => ?_)
                refine Kd.R_lit_step k37 _ 37 ?hg (N := 9) ?hd (xs := ([] : List (S37))) (inner := []) (ok := fun _ => True) (okp := fun _ => True) ?hr ?hp (fun _ hk => hk) trivial (Below.refl _ _) (Nat.le_refl _) (by simp) ?_; (case hd => rfl); (case hg => rfl); (case hr => first | (go_simp; done) | (go_simp; rfl)); (case hp => exact (Reps.none _ _))
                intro v234 w14 ho15 hb hg_ hnew_
                clear hg_ hnew_
                (first | rw [← Ny233.out] at ho15 | (simp only [Int.reduceToNat] at ho15; rw [← Ny233.out] at ho15))
                have n0_ := ak (Kd.R_below (rTo HO241.out) hb)
                have n1_ := ak (Kd.R_lower ho15 (below_size (by repeat (first | (with_reducible first | exact HB.out | apply below_alloc | apply pw_below_drewN | apply below_drew1 | refine below_set ?_ GE230.out | refine below_set ?_ GE231.out | refine below_set ?_ GE232.out | refine below_set ?_ GE248.out) | exact HB.out))))
                have n2_ := ak (blk_below (g := gb230) (o := .cells #[.slice A0_0 l0_0.length c0_0, .slice A0_1 l0_1.length c0_1] 26 (0, 0)) (bTo BK230.out) hb)
                have n3_ := ak (blk_below (g := gb231) (o := .cells #[.slice A1_0 l1_0.length c1_0, .slice A1_1 l1_1.length c1_1] 26 (0, 0)) (bTo BK231.out) hb)
                have n4_ := ak (blk_below (g := gb232) (o := .cells #[.slice none 0 0, .slice none 0 0] 26 (0, 0)) (bTo BK232.out) hb)
                have n5_ := ak (blk_below (g := gb248) (o := .cells #[.slice none 0 0, .slice none 0 0] 26 (0, 0)) (bTo BK248.out) hb)
                have n6_ := ak (below_step (by repeat (first | (with_reducible first | exact HB.out | apply below_alloc | apply pw_below_drewN | apply below_drew1 | refine below_set ?_ GE230.out | refine below_set ?_ GE231.out | refine below_set ?_ GE232.out | refine below_set ?_ GE248.out) | exact HB.out)) hb)
                clear HO241
                clear BK230
                clear BK231
                clear BK232
                clear BK248
                clear HB
                have HO241 := n0_
                have HO235 := n1_
                have BK230 := n2_
                have BK231 := n3_
                have BK232 := n4_
                have BK248 := n5_
                have HB := n6_
                clear n0_ n1_ n2_ n3_ n4_ n5_ n6_
                clear hb ho15
                refine hK.out _ _ ⟨(blk_cell BK230.out 0).trans rfl, (blk_cell BK230.out 1).trans rfl, (blk_cell BK231.out 0).trans rfl, (blk_cell BK231.out 1).trans rfl⟩ (fun hHeld => ?_)
                clear hK K
                refine norm_ (a' := ?_) ?_ ?_
                rotate_left
                ·show Act.put _ (some 9) _ = _
                 simp only [Act.put, List.setIfInBounds_toArray, List.set_cons_zero, List.set_cons_succ, i64_w, i32_w]
                 rfl
                exact norm_ (by first | (simp only [putAll, Act.put, List.setIfInBounds_toArray, List.set_cons_zero, List.set_cons_succ]; done) | (simp only [putAll, Act.put, List.setIfInBounds_toArray, List.set_cons_zero, List.set_cons_succ]; rfl)) (hJ0_4_12 (v234, v240, gb248) _ ⟨hHeld, (rTo HO235.out), (rTo HO241.out), (bTo BK230.out), (bTo BK231.out), (bTo BK232.out), (bTo BK248.out), GW248.out, GE248.out, NB230_248.out, NB248_230.out, NB231_248.out, NB248_231.out, NB232_248.out, NB248_232.out, (by repeat (first | (with_reducible first | exact HB.out | apply below_alloc | apply pw_below_drewN | apply below_drew1 | refine below_set ?_ GE230.out | refine below_set ?_ GE231.out | refine below_set ?_ GE232.out | refine below_set ?_ GE248.out) | exact HB.out))⟩)
              ·skip
               rintro ⟨v234, gb248⟩ w13 ⟨hS_, h0_, h1_, h2_, h3_, h4_, h5_, h6_, h7_, h8_, h9_, h10_, h11_, h12_, h13_⟩
               have n0_ : Aside0 (Kd.R k37 37 w13 w.heap.size (fun _ => True) v234 y233) := ⟨h0_⟩
               have n1_ : Aside0 (w13.heap[gb230]? = some (.cells #[.slice A0_0 l0_0.length c0_0, .slice A0_1 l0_1.length c0_1] 26 (0, 0))) := ⟨h1_⟩
               have n2_ : Aside0 (w13.heap[gb231]? = some (.cells #[.slice A1_0 l1_0.length c1_0, .slice A1_1 l1_1.length c1_1] 26 (0, 0))) := ⟨h2_⟩
               have n3_ : Aside0 (w13.heap[gb232]? = some (.cells #[.slice none 0 0, .slice none 0 0] 26 (0, 0))) := ⟨h3_⟩
               have n4_ : Aside0 (w13.heap[gb248]? = some (.cells #[.slice none 0 0, .slice none 0 0] 26 (0, 0))) := ⟨h4_⟩
               have n5_ : Aside0 (w.heap.size ≤ gb248) := ⟨h5_⟩
               have n6_ : Aside0 (w.heap.size ≤ gb248) := ⟨h6_⟩
               have n7_ : Aside0 (gb230 ≠ gb248) := ⟨h7_⟩
               have n8_ : Aside0 (gb248 ≠ gb230) := ⟨h8_⟩
               have n9_ : Aside0 (gb231 ≠ gb248) := ⟨h9_⟩
               have n10_ : Aside0 (gb248 ≠ gb231) := ⟨h10_⟩
               have n11_ : Aside0 (gb232 ≠ gb248) := ⟨h11_⟩
               have n12_ : Aside0 (gb248 ≠ gb232) := ⟨h12_⟩
               have n13_ : Aside0 (Below w.heap.size w w13) := ⟨h13_⟩
               clear BK230
               clear BK231
               clear BK232
               clear HB
               clear h0_ h1_ h2_ h3_ h4_ h5_ h6_ h7_ h8_ h9_ h10_ h11_ h12_ h13_
               have HO235 := n0_
               have BK230 := n1_
               have BK231 := n2_
               have BK232 := n3_
               have BK248 := n4_
               have GW248 := n5_
               have GE248 := n6_
               have NB230_248 := n7_
               have NB248_230 := n8_
               have NB231_248 := n9_
               have NB248_231 := n10_
               have NB232_248 := n11_
               have NB248_232 := n12_
               have HB := n13_
               clear n0_ n1_ n2_ n3_ n4_ n5_ n6_ n7_ n8_ n9_ n10_ n11_ n12_ n13_
               have hHeld : w13.cell? ⟨gb230, 0, none⟩ = some (.slice A0_0 l0_0.length c0_0) ∧ w13.cell? ⟨gb230, 1, none⟩ = some (.slice A0_1 l0_1.length c0_1) ∧ w13.cell? ⟨gb231, 0, none⟩ = some (.slice A1_0 l1_0.length c1_0) ∧ w13.cell? ⟨gb231, 1, none⟩ = some (.slice A1_1 l1_1.length c1_1) := hS_
               refine norm_ (a' := ?_) ?_ ?_
               rotate_left
               ·simp only [putAll, Act.put, List.setIfInBounds_toArray, List.set_cons_zero, List.set_cons_succ]
                rfl
               refine two_ (i := 3) (j := 4) (Ni := some 12) (Nj := some 13) #[true, true, true, true, false, true, true, false, true, true, false, false, true, false] #[true, true, true, false, true, true, true, false, true, true, false, false, true, false] rfl rfl rfl rfl (two_of HT_.out (by kernel_rfl)) (by decide) (by decide) (fun K hK => ?_) (fun K hK => ?_)
               ·skip
                refine Kd.R_append_rows_step k37 (w0 := w) w.heap.size (by rfl) (.tmp 9) (.tmp 11) 23 37 (.agg #[(.string ⟨#[]⟩), (.int .i64 0)]) 24 rfl Try.underlying23 info37 rfl (by decide) (by omega) v234 y233 l0_0 _ _ _ (fun _ => True) (fun _ => False) rfl rfl ?aO ?aR (fun _ _ h => h) (fun _ h => h.elim) ?aF ?aB ?aS ?aL ?_
                (case aR => repeat (first | exact (Kd.C_below HR0_0.out HB.out) | (with_reducible refine Kd.C_alloc ?_ _) | (with_reducible refine Kd.C_drewN ?_ _) | (with_reducible refine Kd.C_drew ?_)))
                (case aB => exact (by repeat (first | (with_reducible first | exact HB.out | apply below_alloc | apply pw_below_drewN | apply below_drew1 | refine below_set ?_ GE230.out | refine below_set ?_ GE231.out | refine below_set ?_ GE232.out | refine below_set ?_ GE248.out) | exact HB.out)))
                (case aF => exact (fun _ _ => trivial))
                (case aO => exact (rTo HO235.out))
                (case aS => exact (below_size (by repeat (first | (with_reducible first | exact HB.out | apply below_alloc | apply pw_below_drewN | apply below_drew1 | refine below_set ?_ GE230.out | refine below_set ?_ GE231.out | refine below_set ?_ GE232.out | refine below_set ?_ GE248.out) | exact HB.out))))
                (case aL => have := LMc3.out; omega)
                intro v237 w14 ho hb hg hat
                rw [← Ny236.out] at ho
                have n0_ := ak (blk_grown (g := gb230) (o := .cells #[.slice A0_0 l0_0.length c0_0, .slice A0_1 l0_1.length c0_1] 26 (0, 0)) (bTo BK230.out) hg (Kd.R_ne HO235.out BK230.out (by decide)))
                have n1_ := ak (blk_grown (g := gb231) (o := .cells #[.slice A1_0 l1_0.length c1_0, .slice A1_1 l1_1.length c1_1] 26 (0, 0)) (bTo BK231.out) hg (Kd.R_ne HO235.out BK231.out (by decide)))
                have n2_ := ak (blk_grown (g := gb232) (o := .cells #[.slice none 0 0, .slice none 0 0] 26 (0, 0)) (bTo BK232.out) hg (Kd.R_ne HO235.out BK232.out (by decide)))
                have n3_ := ak (blk_grown (g := gb248) (o := .cells #[.slice none 0 0, .slice none 0 0] 26 (0, 0)) (bTo BK248.out) hg (Kd.R_ne HO235.out BK248.out (by decide)))
                have n4_ := ak (hb)
                have n5_ := ak (ho)
                clear BK230
                clear BK231
                clear BK232
                clear BK248
                clear HB
                clear HO235
                have BK230 := n0_
                have BK231 := n1_
                have BK232 := n2_
                have BK248 := n3_
                have HB := n4_
                have HO238 := n5_
                clear n0_ n1_ n2_ n3_ n4_ n5_
                clear ho hb hg hat
                refine hK.out _ _ ⟨(blk_cell BK230.out 0).trans rfl, (blk_cell BK230.out 1).trans rfl, (blk_cell BK231.out 0).trans rfl, (blk_cell BK231.out 1).trans rfl⟩ (fun hHeld => ?_)
                clear hK K
                refine norm_ (a' := ?_) ?_ ?_
                rotate_left
                ·show Act.put _ (some 12) _ = _
                 simp only [Act.put, List.setIfInBounds_toArray, List.set_cons_zero, List.set_cons_succ, i64_w, i32_w]
                 rfl
                exact norm_ (by first | (simp only [putAll, Act.put, List.setIfInBounds_toArray, List.set_cons_zero, List.set_cons_succ]; done) | (simp only [putAll, Act.put, List.setIfInBounds_toArray, List.set_cons_zero, List.set_cons_succ]; rfl)) (hJ0_3_12 (v234, v237, gb248) _ ⟨hHeld, (rTo HO238.out), (bTo BK230.out), (bTo BK231.out), (bTo BK232.out), (bTo BK248.out), GW248.out, GE248.out, NB230_248.out, NB248_230.out, NB231_248.out, NB248_231.out, NB232_248.out, NB248_232.out, (by repeat (first | (with_reducible first | exact HB.out | apply below_alloc | apply pw_below_drewN | apply below_drew1 | refine below_set ?_ GE230.out | refine below_set ?_ GE231.out | refine below_set ?_ GE232.out | refine below_set ?_ GE248.out) | exact HB.out))⟩)
               ·skip
                refine Kd.R_lit_step Kd.string _ 9 ?hg (N := 13) ?hd (xs := ([] : List ByteArray)) (inner := []) (ok := fun _ => True) (okp := fun _ => True) ?hr ?hp (fun _ hk => hk) trivial (Below.refl _ _) (Nat.le_refl _) (by simp) ?_; (case hd => rfl); (case hg => rfl); (case hr => first | (go_simp; done) | (go_simp; rfl)); (case hp => exact (Reps.none _ _))
                intro v240 w14 ho15 hb hg_ hnew_
                clear hg_ hnew_
                (first | rw [← Ny239.out] at ho15 | (simp only [Int.reduceToNat] at ho15; rw [← Ny239.out] at ho15))
                have n0_ := ak (Kd.R_below (rTo HO235.out) hb)
                have n1_ := ak (Kd.R_lower ho15 (below_size (by repeat (first | (with_reducible first | exact HB.out | apply below_alloc | apply pw_below_drewN | apply below_drew1 | refine below_set ?_ GE230.out | refine below_set ?_ GE231.out | refine below_set ?_ GE232.out | refine below_set ?_ GE248.out) | exact HB.out))))
                have n2_ := ak (blk_below (g := gb230) (o := .cells #[.slice A0_0 l0_0.length c0_0, .slice A0_1 l0_1.length c0_1] 26 (0, 0)) (bTo BK230.out) hb)
                have n3_ := ak (blk_below (g := gb231) (o := .cells #[.slice A1_0 l1_0.length c1_0, .slice A1_1 l1_1.length c1_1] 26 (0, 0)) (bTo BK231.out) hb)
                have n4_ := ak (blk_below (g := gb232) (o := .cells #[.slice none 0 0, .slice none 0 0] 26 (0, 0)) (bTo BK232.out) hb)
                have n5_ := ak (blk_below (g := gb248) (o := .cells #[.slice none 0 0, .slice none 0 0] 26 (0, 0)) (bTo BK248.out) hb)
                have n6_ := ak (below_step (by repeat (first | (with_reducible first | exact HB.out | apply below_alloc | apply pw_below_drewN | apply below_drew1 | refine below_set ?_ GE230.out | refine below_set ?_ GE231.out | refine below_set ?_ GE232.out | refine below_set ?_ GE248.out) | exact HB.out)) hb)
                clear HO235
                clear BK230
                clear BK231
                clear BK232
                clear BK248
                clear HB
                have HO235 := n0_
                have HO241 := n1_
                have BK230 := n2_
                have BK231 := n3_
                have BK232 := n4_
                have BK248 := n5_
                have HB := n6_
                clear n0_ n1_ n2_ n3_ n4_ n5_ n6_
                clear hb ho15
                refine hK.out _ _ ⟨(blk_cell BK230.out 0).trans rfl, (blk_cell BK230.out 1).trans rfl, (blk_cell BK231.out 0).trans rfl, (blk_cell BK231.out 1).trans rfl⟩ (fun hHeld => ?_)
                clear hK K
                refine norm_ (a' := ?_) ?_ ?_
                rotate_left
                ·show Act.put _ (some 13) _ = _
                 simp only [Act.put, List.setIfInBounds_toArray, List.set_cons_zero, List.set_cons_succ, i64_w, i32_w]
                 rfl
                exact norm_ (by first | (simp only [putAll, Act.put, List.setIfInBounds_toArray, List.set_cons_zero, List.set_cons_succ]; done) | (simp only [putAll, Act.put, List.setIfInBounds_toArray, List.set_cons_zero, List.set_cons_succ]; rfl)) (hJ0_4_12 (v234, v240, gb248) _ ⟨hHeld, (rTo HO235.out), (rTo HO241.out), (bTo BK230.out), (bTo BK231.out), (bTo BK232.out), (bTo BK248.out), GW248.out, GE248.out, NB230_248.out, NB248_230.out, NB231_248.out, NB248_231.out, NB232_248.out, NB248_232.out, (by repeat (first | (with_reducible first | exact HB.out | apply below_alloc | apply pw_below_drewN | apply below_drew1 | refine below_set ?_ GE230.out | refine below_set ?_ GE231.out | refine below_set ?_ GE232.out | refine below_set ?_ GE248.out) | exact HB.out))⟩)
             ·skip
              rintro ⟨v234, v240⟩ w14 ⟨hS_, h0_, h1_, h2_, h3_, h4_, h5_⟩
              have n0_ : Aside0 (Kd.R k37 37 w14 w.heap.size (fun _ => True) v234 y233) := ⟨h0_⟩
              have n1_ : Aside0 (Kd.R Kd.string 9 w14 w.heap.size (fun _ => True) v240 y239) := ⟨h1_⟩
              have n2_ : Aside0 (w14.heap[gb230]? = some (.cells #[.slice A0_0 l0_0.length c0_0, .slice A0_1 l0_1.length c0_1] 26 (0, 0))) := ⟨h2_⟩
              have n3_ : Aside0 (w14.heap[gb231]? = some (.cells #[.slice A1_0 l1_0.length c1_0, .slice A1_1 l1_1.length c1_1] 26 (0, 0))) := ⟨h3_⟩
              have n4_ : Aside0 (w14.heap[gb232]? = some (.cells #[.slice none 0 0, .slice none 0 0] 26 (0, 0))) := ⟨h4_⟩
              have n5_ : Aside0 (Below w.heap.size w w14) := ⟨h5_⟩
              clear BK230
              clear BK231
              clear BK232
              clear HB
              clear h0_ h1_ h2_ h3_ h4_ h5_
              have HO235 := n0_
              have HO241 := n1_
              have BK230 := n2_
              have BK231 := n3_
              have BK232 := n4_
              have HB := n5_
              clear n0_ n1_ n2_ n3_ n4_ n5_
              have hHeld : w14.cell? ⟨gb230, 0, none⟩ = some (.slice A0_0 l0_0.length c0_0) ∧ w14.cell? ⟨gb230, 1, none⟩ = some (.slice A0_1 l0_1.length c0_1) ∧ w14.cell? ⟨gb231, 0, none⟩ = some (.slice A1_0 l1_0.length c1_0) ∧ w14.cell? ⟨gb231, 1, none⟩ = some (.slice A1_1 l1_1.length c1_1) := hS_
              refine norm_ (a' := ?_) ?_ ?_
              rotate_left
              ·simp only [putAll, Act.put, List.setIfInBounds_toArray, List.set_cons_zero, List.set_cons_succ]
               rfl
              refine two_ (i := 3) (j := 12) (Ni := some 12) (Nj := some 5) #[true, true, true, true, true, true, true, false, true, true, false, false, false, false] #[true, true, true, false, true, true, true, false, true, true, false, false, true, false] rfl rfl rfl rfl (two_of HT_.out (by kernel_rfl)) (by decide) (by decide) (fun K hK => ?_) (fun K hK => ?_)
              ·skip
               refine Kd.R_append_rows_step k37 (w0 := w) w.heap.size (by rfl) (.tmp 9) (.tmp 11) 23 37 (.agg #[(.string ⟨#[]⟩), (.int .i64 0)]) 24 rfl Try.underlying23 info37 rfl (by decide) (by omega) v234 y233 l0_0 _ _ _ (fun _ => True) (fun _ => False) rfl rfl ?aO ?aR (fun _ _ h => h) (fun _ h => h.elim) ?aF ?aB ?aS ?aL ?_
               (case aR => repeat (first | exact (Kd.C_below HR0_0.out HB.out) | (with_reducible refine Kd.C_alloc ?_ _) | (with_reducible refine Kd.C_drewN ?_ _) | (with_reducible refine Kd.C_drew ?_)))
               (case aB => exact (by repeat (first | (with_reducible first | exact HB.out | apply below_alloc | apply pw_below_drewN | apply below_drew1 | refine below_set ?_ GE230.out | refine below_set ?_ GE231.out | refine below_set ?_ GE232.out) | exact HB.out)))
               (case aF => exact (fun _ _ => trivial))
               (case aO => exact (rTo HO235.out))
               (case aS => exact (below_size (by repeat (first | (with_reducible first | exact HB.out | apply below_alloc | apply pw_below_drewN | apply below_drew1 | refine below_set ?_ GE230.out | refine below_set ?_ GE231.out | refine below_set ?_ GE232.out) | exact HB.out))))
               (case aL => have := LMc3.out; omega)
               intro v237 w15 ho hb hg hat
               rw [← Ny236.out] at ho
               have n0_ := ak (blk_grown (g := gb230) (o := .cells #[.slice A0_0 l0_0.length c0_0, .slice A0_1 l0_1.length c0_1] 26 (0, 0)) (bTo BK230.out) hg (Kd.R_ne HO235.out BK230.out (by decide)))
               have n1_ := ak (blk_grown (g := gb231) (o := .cells #[.slice A1_0 l1_0.length c1_0, .slice A1_1 l1_1.length c1_1] 26 (0, 0)) (bTo BK231.out) hg (Kd.R_ne HO235.out BK231.out (by decide)))
               have n2_ := ak (blk_grown (g := gb232) (o := .cells #[.slice none 0 0, .slice none 0 0] 26 (0, 0)) (bTo BK232.out) hg (Kd.R_ne HO235.out BK232.out (by decide)))
               have n3_ := ak (Kd.R_over' (rTo HO241.out) (Kd.R_typed (rTo HO235.out)) (by decide) hg)
               have n4_ := ak (hb)
               have n5_ := ak (ho)
               clear BK230
               clear BK231
               clear BK232
               clear HO241
               clear HB
               clear HO235
               have BK230 := n0_
               have BK231 := n1_
               have BK232 := n2_
               have HO241 := n3_
               have HB := n4_
               have HO238 := n5_
               clear n0_ n1_ n2_ n3_ n4_ n5_
               clear ho hb hg hat
               refine hK.out _ _ ⟨(blk_cell BK230.out 0).trans rfl, (blk_cell BK230.out 1).trans rfl, (blk_cell BK231.out 0).trans rfl, (blk_cell BK231.out 1).trans rfl⟩ (fun hHeld => ?_)
               clear hK K
               refine norm_ (a' := ?_) ?_ ?_
               rotate_left
               ·show Act.put _ (some 12) _ = _
                simp only [Act.put, List.setIfInBounds_toArray, List.set_cons_zero, List.set_cons_succ, i64_w, i32_w]
                rfl
               exact norm_ (by first | (simp only [putAll, Act.put, List.setIfInBounds_toArray, List.set_cons_zero, List.set_cons_succ]; done) | (simp only [putAll, Act.put, List.setIfInBounds_toArray, List.set_cons_zero, List.set_cons_succ]; rfl)) (hJ0_3_4 (v234, v237, v240) _ ⟨hHeld, (rTo HO238.out), (rTo HO241.out), (bTo BK230.out), (bTo BK231.out), (bTo BK232.out), (by repeat (first | (with_reducible first | exact HB.out | apply below_alloc | apply pw_below_drewN | apply below_drew1 | refine below_set ?_ GE230.out | refine below_set ?_ GE231.out | refine below_set ?_ GE232.out) | exact HB.out))⟩)
              ·skip
               refine box_step ?hg (N := 5) ?hd (cs := #[.slice none 0 0, .slice none 0 0]) (t := 26) ?hr ?_; (case hd => rfl); (case hg => rfl); (case hr => first | (go_simp; done) | (go_simp; rfl))
               intro gb248 hg w15 hbox hb
               have n0_ := ak (Kd.R_below (rTo HO235.out) hb)
               have n1_ := ak (Kd.R_below (rTo HO241.out) hb)
               have n2_ := ak (blk_below (g := gb230) (o := .cells #[.slice A0_0 l0_0.length c0_0, .slice A0_1 l0_1.length c0_1] 26 (0, 0)) (bTo BK230.out) hb)
               have n3_ := ak (blk_below (g := gb231) (o := .cells #[.slice A1_0 l1_0.length c1_0, .slice A1_1 l1_1.length c1_1] 26 (0, 0)) (bTo BK231.out) hb)
               have n4_ := ak (blk_below (g := gb232) (o := .cells #[.slice none 0 0, .slice none 0 0] 26 (0, 0)) (bTo BK232.out) hb)
               have n5_ := ak (below_step (by repeat (first | (with_reducible first | exact HB.out | apply below_alloc | apply pw_below_drewN | apply below_drew1 | refine below_set ?_ GE230.out | refine below_set ?_ GE231.out | refine below_set ?_ GE232.out) | exact HB.out)) hb)
               have n6_ := ak (hbox)
               have n7_ := ak ((by rw [hg]; exact (below_size (by repeat (first | (with_reducible first | exact HB.out | apply below_alloc | apply pw_below_drewN | apply below_drew1 | refine below_set ?_ GE230.out | refine below_set ?_ GE231.out | refine below_set ?_ GE232.out) | exact HB.out))) : w.heap.size ≤ gb248))
               have n8_ := ak ((by rw [hg]; exact (below_size (by repeat (first | (with_reducible first | exact HB.out | apply below_alloc | apply pw_below_drewN | apply below_drew1 | refine below_set ?_ GE230.out | refine below_set ?_ GE231.out | refine below_set ?_ GE232.out) | exact HB.out))) : w.heap.size ≤ gb248))
               have n9_ := ak ((by rw [hg]; exact Nat.ne_of_lt (blk_lt (g := gb230) (o := .cells #[.slice A0_0 l0_0.length c0_0, .slice A0_1 l0_1.length c0_1] 26 (0, 0)) (bTo BK230.out)) : gb230 ≠ gb248))
               have n10_ := ak ((by rw [hg]; exact Nat.ne_of_gt (blk_lt (g := gb230) (o := .cells #[.slice A0_0 l0_0.length c0_0, .slice A0_1 l0_1.length c0_1] 26 (0, 0)) (bTo BK230.out)) : gb248 ≠ gb230))
               have n11_ := ak ((by rw [hg]; exact Nat.ne_of_lt (blk_lt (g := gb231) (o := .cells #[.slice A1_0 l1_0.length c1_0, .slice A1_1 l1_1.length c1_1] 26 (0, 0)) (bTo BK231.out)) : gb231 ≠ gb248))
               have n12_ := ak ((by rw [hg]; exact Nat.ne_of_gt (blk_lt (g := gb231) (o := .cells #[.slice A1_0 l1_0.length c1_0, .slice A1_1 l1_1.length c1_1] 26 (0, 0)) (bTo BK231.out)) : gb248 ≠ gb231))
               have n13_ := ak ((by rw [hg]; exact Nat.ne_of_lt (blk_lt (g := gb232) (o := .cells #[.slice none 0 0, .slice none 0 0] 26 (0, 0)) (bTo BK232.out)) : gb232 ≠ gb248))
               have n14_ := ak ((by rw [hg]; exact Nat.ne_of_gt (blk_lt (g := gb232) (o := .cells #[.slice none 0 0, .slice none 0 0] 26 (0, 0)) (bTo BK232.out)) : gb248 ≠ gb232))
               clear HO235
               clear HO241
               clear BK230
               clear BK231
               clear BK232
               clear HB
               have HO235 := n0_
               have HO241 := n1_
               have BK230 := n2_
               have BK231 := n3_
               have BK232 := n4_
               have HB := n5_
               have BK248 := n6_
               have GW248 := n7_
               have GE248 := n8_
               have NB230_248 := n9_
               have NB248_230 := n10_
               have NB231_248 := n11_
               have NB248_231 := n12_
               have NB232_248 := n13_
               have NB248_232 := n14_
               clear n0_ n1_ n2_ n3_ n4_ n5_ n6_ n7_ n8_ n9_ n10_ n11_ n12_ n13_ n14_
               clear hb hbox hg
               refine hK.out _ _ ⟨(blk_cell BK230.out 0).trans rfl, (blk_cell BK230.out 1).trans rfl, (blk_cell BK231.out 0).trans rfl, (blk_cell BK231.out 1).trans rfl⟩ (fun hHeld => ?_)
               clear hK K
               refine norm_ (a' := ?_) ?_ ?_
               rotate_left
               ·show Act.put _ (some 5) _ = _
                simp only [Act.put, List.setIfInBounds_toArray, List.set_cons_zero, List.set_cons_succ, i64_w, i32_w]
                rfl
               exact norm_ (by first | (simp only [putAll, Act.put, List.setIfInBounds_toArray, List.set_cons_zero, List.set_cons_succ]; done) | (simp only [putAll, Act.put, List.setIfInBounds_toArray, List.set_cons_zero, List.set_cons_succ]; rfl)) (hJ0_4_12 (v234, v240, gb248) _ ⟨hHeld, (rTo HO235.out), (rTo HO241.out), (bTo BK230.out), (bTo BK231.out), (bTo BK232.out), (bTo BK248.out), GW248.out, GE248.out, NB230_248.out, NB248_230.out, NB231_248.out, NB248_231.out, NB232_248.out, NB248_232.out, (by repeat (first | (with_reducible first | exact HB.out | apply below_alloc | apply pw_below_drewN | apply below_drew1 | refine below_set ?_ GE230.out | refine below_set ?_ GE231.out | refine below_set ?_ GE232.out | refine below_set ?_ GE248.out) | exact HB.out))⟩)
            ·skip
             rintro ⟨v234, v237⟩ w13 ⟨hS_, h0_, h1_, h2_, h3_, h4_⟩
             have n0_ : Aside0 (Kd.R k37 37 w13 w.heap.size (fun _ => True) v237 y236) := ⟨h0_⟩
             have n1_ : Aside0 (w13.heap[gb230]? = some (.cells #[.slice A0_0 l0_0.length c0_0, .slice A0_1 l0_1.length c0_1] 26 (0, 0))) := ⟨h1_⟩
             have n2_ : Aside0 (w13.heap[gb231]? = some (.cells #[.slice A1_0 l1_0.length c1_0, .slice A1_1 l1_1.length c1_1] 26 (0, 0))) := ⟨h2_⟩
             have n3_ : Aside0 (w13.heap[gb232]? = some (.cells #[.slice none 0 0, .slice none 0 0] 26 (0, 0))) := ⟨h3_⟩
             have n4_ : Aside0 (Below w.heap.size w w13) := ⟨h4_⟩
             clear BK230
             clear BK231
             clear BK232
             clear HB
             clear h0_ h1_ h2_ h3_ h4_
             have HO238 := n0_
             have BK230 := n1_
             have BK231 := n2_
             have BK232 := n3_
             have HB := n4_
             clear n0_ n1_ n2_ n3_ n4_
             have hHeld : w13.cell? ⟨gb230, 0, none⟩ = some (.slice A0_0 l0_0.length c0_0) ∧ w13.cell? ⟨gb230, 1, none⟩ = some (.slice A0_1 l0_1.length c0_1) ∧ w13.cell? ⟨gb231, 0, none⟩ = some (.slice A1_0 l1_0.length c1_0) ∧ w13.cell? ⟨gb231, 1, none⟩ = some (.slice A1_1 l1_1.length c1_1) := hS_
             refine norm_ (a' := ?_) ?_ ?_
             rotate_left
             ·simp only [putAll, Act.put, List.setIfInBounds_toArray, List.set_cons_zero, List.set_cons_succ]
              rfl
             refine two_ (i := 4) (j := 12) (Ni := some 13) (Nj := some 5) #[true, true, true, true, true, true, true, false, true, true, false, false, false, false] #[true, true, true, true, false, true, true, false, true, true, false, false, true, false] rfl rfl rfl rfl (two_of HT_.out (by kernel_rfl)) (by decide) (by decide) (fun K hK => ?_) (fun K hK => ?_)
             ·skip
              refine Kd.R_lit_step Kd.string _ 9 ?hg (N := 13) ?hd (xs := ([] : List ByteArray)) (inner := []) (ok := fun _ => True) (okp := fun _ => True) ?hr ?hp (fun _ hk => hk) trivial (Below.refl _ _) (Nat.le_refl _) (by simp) ?_; (case hd => rfl); (case hg => rfl); (case hr => first | (go_simp; done) | (go_simp; rfl)); (case hp => exact (Reps.none _ _))
              intro v240 w14 ho15 hb hg_ hnew_
              clear hg_ hnew_
              (first | rw [← Ny239.out] at ho15 | (simp only [Int.reduceToNat] at ho15; rw [← Ny239.out] at ho15))
              have n0_ := ak (Kd.R_below (rTo HO238.out) hb)
              have n1_ := ak (Kd.R_lower ho15 (below_size (by repeat (first | (with_reducible first | exact HB.out | apply below_alloc | apply pw_below_drewN | apply below_drew1 | refine below_set ?_ GE230.out | refine below_set ?_ GE231.out | refine below_set ?_ GE232.out) | exact HB.out))))
              have n2_ := ak (blk_below (g := gb230) (o := .cells #[.slice A0_0 l0_0.length c0_0, .slice A0_1 l0_1.length c0_1] 26 (0, 0)) (bTo BK230.out) hb)
              have n3_ := ak (blk_below (g := gb231) (o := .cells #[.slice A1_0 l1_0.length c1_0, .slice A1_1 l1_1.length c1_1] 26 (0, 0)) (bTo BK231.out) hb)
              have n4_ := ak (blk_below (g := gb232) (o := .cells #[.slice none 0 0, .slice none 0 0] 26 (0, 0)) (bTo BK232.out) hb)
              have n5_ := ak (below_step (by repeat (first | (with_reducible first | exact HB.out | apply below_alloc | apply pw_below_drewN | apply below_drew1 | refine below_set ?_ GE230.out | refine below_set ?_ GE231.out | refine below_set ?_ GE232.out) | exact HB.out)) hb)
              clear HO238
              clear BK230
              clear BK231
              clear BK232
              clear HB
              have HO238 := n0_
              have HO241 := n1_
              have BK230 := n2_
              have BK231 := n3_
              have BK232 := n4_
              have HB := n5_
              clear n0_ n1_ n2_ n3_ n4_ n5_
              clear hb ho15
              refine hK.out _ _ ⟨(blk_cell BK230.out 0).trans rfl, (blk_cell BK230.out 1).trans rfl, (blk_cell BK231.out 0).trans rfl, (blk_cell BK231.out 1).trans rfl⟩ (fun hHeld => ?_)
              clear hK K
              refine norm_ (a' := ?_) ?_ ?_
              rotate_left
              ·show Act.put _ (some 13) _ = _
               simp only [Act.put, List.setIfInBounds_toArray, List.set_cons_zero, List.set_cons_succ, i64_w, i32_w]
               rfl
              exact norm_ (by first | (simp only [putAll, Act.put, List.setIfInBounds_toArray, List.set_cons_zero, List.set_cons_succ]; done) | (simp only [putAll, Act.put, List.setIfInBounds_toArray, List.set_cons_zero, List.set_cons_succ]; rfl)) (hJ0_3_4 (v234, v237, v240) _ ⟨hHeld, (rTo HO238.out), (rTo HO241.out), (bTo BK230.out), (bTo BK231.out), (bTo BK232.out), (by repeat (first | (with_reducible first | exact HB.out | apply below_alloc | apply pw_below_drewN | apply below_drew1 | refine below_set ?_ GE230.out | refine below_set ?_ GE231.out | refine below_set ?_ GE232.out) | exact HB.out))⟩)
             ·skip
              refine box_step ?hg (N := 5) ?hd (cs := #[.slice none 0 0, .slice none 0 0]) (t := 26) ?hr ?_; (case hd => rfl); (case hg => rfl); (case hr => first | (go_simp; done) | (go_simp; rfl))
              intro gb248 hg w14 hbox hb
              have n0_ := ak (Kd.R_below (rTo HO238.out) hb)
              have n1_ := ak (blk_below (g := gb230) (o := .cells #[.slice A0_0 l0_0.length c0_0, .slice A0_1 l0_1.length c0_1] 26 (0, 0)) (bTo BK230.out) hb)
              have n2_ := ak (blk_below (g := gb231) (o := .cells #[.slice A1_0 l1_0.length c1_0, .slice A1_1 l1_1.length c1_1] 26 (0, 0)) (bTo BK231.out) hb)
              have n3_ := ak (blk_below (g := gb232) (o := .cells #[.slice none 0 0, .slice none 0 0] 26 (0, 0)) (bTo BK232.out) hb)
              have n4_ := ak (below_step (by repeat (first | (with_reducible first | exact HB.out | apply below_alloc | apply pw_below_drewN | apply below_drew1 | refine below_set ?_ GE230.out | refine below_set ?_ GE231.out | refine below_set ?_ GE232.out) | exact HB.out)) hb)
              have n5_ := ak (hbox)
              have n6_ := ak ((by rw [hg]; exact (below_size (by repeat (first | (with_reducible first | exact HB.out | apply below_alloc | apply pw_below_drewN | apply below_drew1 | refine below_set ?_ GE230.out | refine below_set ?_ GE231.out | refine below_set ?_ GE232.out) | exact HB.out))) : w.heap.size ≤ gb248))
              have n7_ := ak ((by rw [hg]; exact (below_size (by repeat (first | (with_reducible first | exact HB.out | apply below_alloc | apply pw_below_drewN | apply below_drew1 | refine below_set ?_ GE230.out | refine below_set ?_ GE231.out | refine below_set ?_ GE232.out) | exact HB.out))) : w.heap.size ≤ gb248))
              have n8_ := ak ((by rw [hg]; exact Nat.ne_of_lt (blk_lt (g := gb230) (o := .cells #[.slice A0_0 l0_0.length c0_0, .slice A0_1 l0_1.length c0_1] 26 (0, 0)) (bTo BK230.out)) : gb230 ≠ gb248))
              have n9_ := ak ((by rw [hg]; exact Nat.ne_of_gt (blk_lt (g := gb230) (o := .cells #[.slice A0_0 l0_0.length c0_0, .slice A0_1 l0_1.length c0_1] 26 (0, 0)) (bTo BK230.out)) : gb248 ≠ gb230))
              have n10_ := ak ((by rw [hg]; exact Nat.ne_of_lt (blk_lt (g := gb231) (o := .cells #[.slice A1_0 l1_0.length c1_0, .slice A1_1 l1_1.length c1_1] 26 (0, 0)) (bTo BK231.out)) : gb231 ≠ gb248))
              have n11_ := ak ((by rw [hg]; exact Nat.ne_of_gt (blk_lt (g := gb231) (o := .cells #[.slice A1_0 l1_0.length c1_0, .slice A1_1 l1_1.length c1_1] 26 (0, 0)) (bTo BK231.out)) : gb248 ≠ gb231))
              have n12_ := ak ((by rw [hg]; exact Nat.ne_of_lt (blk_lt (g := gb232) (o := .cells #[.slice none 0 0, .slice none 0 0] 26 (0, 0)) (bTo BK232.out)) : gb232 ≠ gb248))
              have n13_ := ak ((by rw [hg]; exact Nat.ne_of_gt (blk_lt (g := gb232) (o := .cells #[.slice none 0 0, .slice none 0 0] 26 (0, 0)) (bTo BK232.out)) : gb248 ≠ gb232))
              clear HO238
              clear BK230
              clear BK231
              clear BK232
              clear HB
              have HO238 := n0_
              have BK230 := n1_
              have BK231 := n2_
              have BK232 := n3_
              have HB := n4_
              have BK248 := n5_
              have GW248 := n6_
              have GE248 := n7_
              have NB230_248 := n8_
              have NB248_230 := n9_
              have NB231_248 := n10_
              have NB248_231 := n11_
              have NB232_248 := n12_
              have NB248_232 := n13_
              clear n0_ n1_ n2_ n3_ n4_ n5_ n6_ n7_ n8_ n9_ n10_ n11_ n12_ n13_
              clear hb hbox hg
              refine hK.out _ _ ⟨(blk_cell BK230.out 0).trans rfl, (blk_cell BK230.out 1).trans rfl, (blk_cell BK231.out 0).trans rfl, (blk_cell BK231.out 1).trans rfl⟩ (fun hHeld => ?_)
              clear hK K
              refine norm_ (a' := ?_) ?_ ?_
              rotate_left
              ·show Act.put _ (some 5) _ = _
               simp only [Act.put, List.setIfInBounds_toArray, List.set_cons_zero, List.set_cons_succ, i64_w, i32_w]
               rfl
              exact norm_ (by first | (simp only [putAll, Act.put, List.setIfInBounds_toArray, List.set_cons_zero, List.set_cons_succ]; done) | (simp only [putAll, Act.put, List.setIfInBounds_toArray, List.set_cons_zero, List.set_cons_succ]; rfl)) (hJ0_3_12 (v234, v237, gb248) _ ⟨hHeld, (rTo HO238.out), (bTo BK230.out), (bTo BK231.out), (bTo BK232.out), (bTo BK248.out), GW248.out, GE248.out, NB230_248.out, NB248_230.out, NB231_248.out, NB248_231.out, NB232_248.out, NB248_232.out, (by repeat (first | (with_reducible first | exact HB.out | apply below_alloc | apply pw_below_drewN | apply below_drew1 | refine below_set ?_ GE230.out | refine below_set ?_ GE231.out | refine below_set ?_ GE232.out | refine below_set ?_ GE248.out) | exact HB.out))⟩)
           ·skip
            rintro ⟨v234, v240, gb248⟩ w15 ⟨hS_, h0_, h1_, h2_, h3_, h4_, h5_, h6_, h7_, h8_, h9_, h10_, h11_, h12_, h13_, h14_⟩
            have n0_ : Aside0 (Kd.R k37 37 w15 w.heap.size (fun _ => True) v234 y233) := ⟨h0_⟩
            have n1_ : Aside0 (Kd.R Kd.string 9 w15 w.heap.size (fun _ => True) v240 y239) := ⟨h1_⟩
            have n2_ : Aside0 (w15.heap[gb230]? = some (.cells #[.slice A0_0 l0_0.length c0_0, .slice A0_1 l0_1.length c0_1] 26 (0, 0))) := ⟨h2_⟩
            have n3_ : Aside0 (w15.heap[gb231]? = some (.cells #[.slice A1_0 l1_0.length c1_0, .slice A1_1 l1_1.length c1_1] 26 (0, 0))) := ⟨h3_⟩
            have n4_ : Aside0 (w15.heap[gb232]? = some (.cells #[.slice none 0 0, .slice none 0 0] 26 (0, 0))) := ⟨h4_⟩
            have n5_ : Aside0 (w15.heap[gb248]? = some (.cells #[.slice none 0 0, .slice none 0 0] 26 (0, 0))) := ⟨h5_⟩
            have n6_ : Aside0 (w.heap.size ≤ gb248) := ⟨h6_⟩
            have n7_ : Aside0 (w.heap.size ≤ gb248) := ⟨h7_⟩
            have n8_ : Aside0 (gb230 ≠ gb248) := ⟨h8_⟩
            have n9_ : Aside0 (gb248 ≠ gb230) := ⟨h9_⟩
            have n10_ : Aside0 (gb231 ≠ gb248) := ⟨h10_⟩
            have n11_ : Aside0 (gb248 ≠ gb231) := ⟨h11_⟩
            have n12_ : Aside0 (gb232 ≠ gb248) := ⟨h12_⟩
            have n13_ : Aside0 (gb248 ≠ gb232) := ⟨h13_⟩
            have n14_ : Aside0 (Below w.heap.size w w15) := ⟨h14_⟩
            clear BK230
            clear BK231
            clear BK232
            clear HB
            clear h0_ h1_ h2_ h3_ h4_ h5_ h6_ h7_ h8_ h9_ h10_ h11_ h12_ h13_ h14_
            have HO235 := n0_
            have HO241 := n1_
            have BK230 := n2_
            have BK231 := n3_
            have BK232 := n4_
            have BK248 := n5_
            have GW248 := n6_
            have GE248 := n7_
            have NB230_248 := n8_
            have NB248_230 := n9_
            have NB231_248 := n10_
            have NB248_231 := n11_
            have NB232_248 := n12_
            have NB248_232 := n13_
            have HB := n14_
            clear n0_ n1_ n2_ n3_ n4_ n5_ n6_ n7_ n8_ n9_ n10_ n11_ n12_ n13_ n14_
            have hHeld : w15.cell? ⟨gb230, 0, none⟩ = some (.slice A0_0 l0_0.length c0_0) ∧ w15.cell? ⟨gb230, 1, none⟩ = some (.slice A0_1 l0_1.length c0_1) ∧ w15.cell? ⟨gb231, 0, none⟩ = some (.slice A1_0 l1_0.length c1_0) ∧ w15.cell? ⟨gb231, 1, none⟩ = some (.slice A1_1 l1_1.length c1_1) := hS_
            refine norm_ (a' := ?_) ?_ ?_
            rotate_left
            ·simp only [putAll, Act.put, List.setIfInBounds_toArray, List.set_cons_zero, List.set_cons_succ]
             rfl
            refine one_ (i := 3) (N := some 12) #[true, true, true, true, true, true, true, false, true, true, false, false, true, false] rfl rfl (one_of HT_.out (by kernel_rfl)) (by decide) (fun K hK => ?_)
            refine Kd.R_append_rows_step k37 (w0 := w) w.heap.size (by rfl) (.tmp 9) (.tmp 11) 23 37 (.agg #[(.string ⟨#[]⟩), (.int .i64 0)]) 24 rfl Try.underlying23 info37 rfl (by decide) (by omega) v234 y233 l0_0 _ _ _ (fun _ => True) (fun _ => False) rfl rfl ?aO ?aR (fun _ _ h => h) (fun _ h => h.elim) ?aF ?aB ?aS ?aL ?_
            (case aR => repeat (first | exact (Kd.C_below HR0_0.out HB.out) | (with_reducible refine Kd.C_alloc ?_ _) | (with_reducible refine Kd.C_drewN ?_ _) | (with_reducible refine Kd.C_drew ?_)))
            (case aB => exact (by repeat (first | (with_reducible first | exact HB.out | apply below_alloc | apply pw_below_drewN | apply below_drew1 | refine below_set ?_ GE230.out | refine below_set ?_ GE231.out | refine below_set ?_ GE232.out | refine below_set ?_ GE248.out) | exact HB.out)))
            (case aF => exact (fun _ _ => trivial))
            (case aO => exact (rTo HO235.out))
            (case aS => exact (below_size (by repeat (first | (with_reducible first | exact HB.out | apply below_alloc | apply pw_below_drewN | apply below_drew1 | refine below_set ?_ GE230.out | refine below_set ?_ GE231.out | refine below_set ?_ GE232.out | refine below_set ?_ GE248.out) | exact HB.out))))
            (case aL => have := LMc3.out; omega)
            intro v237 w16 ho hb hg hat
            rw [← Ny236.out] at ho
            have n0_ := ak (blk_grown (g := gb230) (o := .cells #[.slice A0_0 l0_0.length c0_0, .slice A0_1 l0_1.length c0_1] 26 (0, 0)) (bTo BK230.out) hg (Kd.R_ne HO235.out BK230.out (by decide)))
            have n1_ := ak (blk_grown (g := gb231) (o := .cells #[.slice A1_0 l1_0.length c1_0, .slice A1_1 l1_1.length c1_1] 26 (0, 0)) (bTo BK231.out) hg (Kd.R_ne HO235.out BK231.out (by decide)))
            have n2_ := ak (blk_grown (g := gb232) (o := .cells #[.slice none 0 0, .slice none 0 0] 26 (0, 0)) (bTo BK232.out) hg (Kd.R_ne HO235.out BK232.out (by decide)))
            have n3_ := ak (Kd.R_over' (rTo HO241.out) (Kd.R_typed (rTo HO235.out)) (by decide) hg)
            have n4_ := ak (blk_grown (g := gb248) (o := .cells #[.slice none 0 0, .slice none 0 0] 26 (0, 0)) (bTo BK248.out) hg (Kd.R_ne HO235.out BK248.out (by decide)))
            have n5_ := ak (hb)
            have n6_ := ak (ho)
            clear BK230
            clear BK231
            clear BK232
            clear HO241
            clear BK248
            clear HB
            clear HO235
            have BK230 := n0_
            have BK231 := n1_
            have BK232 := n2_
            have HO241 := n3_
            have BK248 := n4_
            have HB := n5_
            have HO238 := n6_
            clear n0_ n1_ n2_ n3_ n4_ n5_ n6_
            clear ho hb hg hat
            refine hK.out _ _ ⟨(blk_cell BK230.out 0).trans rfl, (blk_cell BK230.out 1).trans rfl, (blk_cell BK231.out 0).trans rfl, (blk_cell BK231.out 1).trans rfl⟩ (fun hHeld => ?_)
            clear hK K
            refine norm_ (a' := ?_) ?_ ?_
            rotate_left
            ·show Act.put _ (some 12) _ = _
             simp only [Act.put, List.setIfInBounds_toArray, List.set_cons_zero, List.set_cons_succ, i64_w, i32_w]
             rfl
            exact norm_ (by first | (simp only [putAll, Act.put, List.setIfInBounds_toArray, List.set_cons_zero, List.set_cons_succ]; done) | (simp only [putAll, Act.put, List.setIfInBounds_toArray, List.set_cons_zero, List.set_cons_succ]; rfl)) (hJ0_3_4_12 (v234, v237, v240, gb248) _ ⟨hHeld, (rTo HO238.out), (rTo HO241.out), (bTo BK230.out), (bTo BK231.out), (bTo BK232.out), (bTo BK248.out), GW248.out, GE248.out, NB230_248.out, NB248_230.out, NB231_248.out, NB248_231.out, NB232_248.out, NB248_232.out, (by repeat (first | (with_reducible first | exact HB.out | apply below_alloc | apply pw_below_drewN | apply below_drew1 | refine below_set ?_ GE230.out | refine below_set ?_ GE231.out | refine below_set ?_ GE232.out | refine below_set ?_ GE248.out) | exact HB.out))⟩)
          ·skip
           rintro ⟨v234, v237, gb248⟩ w14 ⟨hS_, h0_, h1_, h2_, h3_, h4_, h5_, h6_, h7_, h8_, h9_, h10_, h11_, h12_, h13_⟩
           have n0_ : Aside0 (Kd.R k37 37 w14 w.heap.size (fun _ => True) v237 y236) := ⟨h0_⟩
           have n1_ : Aside0 (w14.heap[gb230]? = some (.cells #[.slice A0_0 l0_0.length c0_0, .slice A0_1 l0_1.length c0_1] 26 (0, 0))) := ⟨h1_⟩
           have n2_ : Aside0 (w14.heap[gb231]? = some (.cells #[.slice A1_0 l1_0.length c1_0, .slice A1_1 l1_1.length c1_1] 26 (0, 0))) := ⟨h2_⟩
           have n3_ : Aside0 (w14.heap[gb232]? = some (.cells #[.slice none 0 0, .slice none 0 0] 26 (0, 0))) := ⟨h3_⟩
           have n4_ : Aside0 (w14.heap[gb248]? = some (.cells #[.slice none 0 0, .slice none 0 0] 26 (0, 0))) := ⟨h4_⟩
           have n5_ : Aside0 (w.heap.size ≤ gb248) := ⟨h5_⟩
           have n6_ : Aside0 (w.heap.size ≤ gb248) := ⟨h6_⟩
           have n7_ : Aside0 (gb230 ≠ gb248) := ⟨h7_⟩
           have n8_ : Aside0 (gb248 ≠ gb230) := ⟨h8_⟩
           have n9_ : Aside0 (gb231 ≠ gb248) := ⟨h9_⟩
           have n10_ : Aside0 (gb248 ≠ gb231) := ⟨h10_⟩
           have n11_ : Aside0 (gb232 ≠ gb248) := ⟨h11_⟩
           have n12_ : Aside0 (gb248 ≠ gb232) := ⟨h12_⟩
           have n13_ : Aside0 (Below w.heap.size w w14) := ⟨h13_⟩
           clear BK230
           clear BK231
           clear BK232
           clear HB
           clear h0_ h1_ h2_ h3_ h4_ h5_ h6_ h7_ h8_ h9_ h10_ h11_ h12_ h13_
           have HO238 := n0_
           have BK230 := n1_
           have BK231 := n2_
           have BK232 := n3_
           have BK248 := n4_
           have GW248 := n5_
           have GE248 := n6_
           have NB230_248 := n7_
           have NB248_230 := n8_
           have NB231_248 := n9_
           have NB248_231 := n10_
           have NB232_248 := n11_
           have NB248_232 := n12_
           have HB := n13_
           clear n0_ n1_ n2_ n3_ n4_ n5_ n6_ n7_ n8_ n9_ n10_ n11_ n12_ n13_
           have hHeld : w14.cell? ⟨gb230, 0, none⟩ = some (.slice A0_0 l0_0.length c0_0) ∧ w14.cell? ⟨gb230, 1, none⟩ = some (.slice A0_1 l0_1.length c0_1) ∧ w14.cell? ⟨gb231, 0, none⟩ = some (.slice A1_0 l1_0.length c1_0) ∧ w14.cell? ⟨gb231, 1, none⟩ = some (.slice A1_1 l1_1.length c1_1) := hS_
           refine norm_ (a' := ?_) ?_ ?_
           rotate_left
           ·simp only [putAll, Act.put, List.setIfInBounds_toArray, List.set_cons_zero, List.set_cons_succ]
            rfl
           refine one_ (i := 4) (N := some 13) #[true, true, true, true, true, true, true, false, true, true, false, false, true, false] rfl rfl (one_of HT_.out (by kernel_rfl)) (by decide) (fun K hK => ?_)
           refine Kd.R_lit_step Kd.string _ 9 ?hg (N := 13) ?hd (xs := ([] : List ByteArray)) (inner := []) (ok := fun _ => True) (okp := fun _ => True) ?hr ?hp (fun _ hk => hk) trivial (Below.refl _ _) (Nat.le_refl _) (by simp) ?_; (case hd => rfl); (case hg => rfl); (case hr => first | (go_simp; done) | (go_simp; rfl)); (case hp => exact (Reps.none _ _))
           intro v240 w15 ho16 hb hg_ hnew_
           clear hg_ hnew_
           (first | rw [← Ny239.out] at ho16 | (simp only [Int.reduceToNat] at ho16; rw [← Ny239.out] at ho16))
           have n0_ := ak (Kd.R_below (rTo HO238.out) hb)
           have n1_ := ak (Kd.R_lower ho16 (below_size (by repeat (first | (with_reducible first | exact HB.out | apply below_alloc | apply pw_below_drewN | apply below_drew1 | refine below_set ?_ GE230.out | refine below_set ?_ GE231.out | refine below_set ?_ GE232.out | refine below_set ?_ GE248.out) | exact HB.out))))
           have n2_ := ak (blk_below (g := gb230) (o := .cells #[.slice A0_0 l0_0.length c0_0, .slice A0_1 l0_1.length c0_1] 26 (0, 0)) (bTo BK230.out) hb)
           have n3_ := ak (blk_below (g := gb231) (o := .cells #[.slice A1_0 l1_0.length c1_0, .slice A1_1 l1_1.length c1_1] 26 (0, 0)) (bTo BK231.out) hb)
           have n4_ := ak (blk_below (g := gb232) (o := .cells #[.slice none 0 0, .slice none 0 0] 26 (0, 0)) (bTo BK232.out) hb)
           have n5_ := ak (blk_below (g := gb248) (o := .cells #[.slice none 0 0, .slice none 0 0] 26 (0, 0)) (bTo BK248.out) hb)
           have n6_ := ak (below_step (by repeat (first | (with_reducible first | exact HB.out | apply below_alloc | apply pw_below_drewN | apply below_drew1 | refine below_set ?_ GE230.out | refine below_set ?_ GE231.out | refine below_set ?_ GE232.out | refine below_set ?_ GE248.out) | exact HB.out)) hb)
           clear HO238
           clear BK230
           clear BK231
           clear BK232
           clear BK248
           clear HB
           have HO238 := n0_
           have HO241 := n1_
           have BK230 := n2_
           have BK231 := n3_
           have BK232 := n4_
           have BK248 := n5_
           have HB := n6_
           clear n0_ n1_ n2_ n3_ n4_ n5_ n6_
           clear hb ho16
           refine hK.out _ _ ⟨(blk_cell BK230.out 0).trans rfl, (blk_cell BK230.out 1).trans rfl, (blk_cell BK231.out 0).trans rfl, (blk_cell BK231.out 1).trans rfl⟩ (fun hHeld => ?_)
           clear hK K
           refine norm_ (a' := ?_) ?_ ?_
           rotate_left
           ·show Act.put _ (some 13) _ = _
            simp only [Act.put, List.setIfInBounds_toArray, List.set_cons_zero, List.set_cons_succ, i64_w, i32_w]
            rfl
           exact norm_ (by first | (simp only [putAll, Act.put, List.setIfInBounds_toArray, List.set_cons_zero, List.set_cons_succ]; done) | (simp only [putAll, Act.put, List.setIfInBounds_toArray, List.set_cons_zero, List.set_cons_succ]; rfl)) (hJ0_3_4_12 (v234, v237, v240, gb248) _ ⟨hHeld, (rTo HO238.out), (rTo HO241.out), (bTo BK230.out), (bTo BK231.out), (bTo BK232.out), (bTo BK248.out), GW248.out, GE248.out, NB230_248.out, NB248_230.out, NB231_248.out, NB248_231.out, NB232_248.out, NB248_232.out, (by repeat (first | (with_reducible first | exact HB.out | apply below_alloc | apply pw_below_drewN | apply below_drew1 | refine below_set ?_ GE230.out | refine below_set ?_ GE231.out | refine below_set ?_ GE232.out | refine below_set ?_ GE248.out) | exact HB.out))⟩)
         ·skip
          rintro ⟨v234, v237, v240⟩ w15 ⟨hS_, h0_, h1_, h2_, h3_, h4_, h5_⟩
          have n0_ : Aside0 (Kd.R k37 37 w15 w.heap.size (fun _ => True) v237 y236) := ⟨h0_⟩
          have n1_ : Aside0 (Kd.R Kd.string 9 w15 w.heap.size (fun _ => True) v240 y239) := ⟨h1_⟩
          have n2_ : Aside0 (w15.heap[gb230]? = some (.cells #[.slice A0_0 l0_0.length c0_0, .slice A0_1 l0_1.length c0_1] 26 (0, 0))) := ⟨h2_⟩
          have n3_ : Aside0 (w15.heap[gb231]? = some (.cells #[.slice A1_0 l1_0.length c1_0, .slice A1_1 l1_1.length c1_1] 26 (0, 0))) := ⟨h3_⟩
          have n4_ : Aside0 (w15.heap[gb232]? = some (.cells #[.slice none 0 0, .slice none 0 0] 26 (0, 0))) := ⟨h4_⟩
          have n5_ : Aside0 (Below w.heap.size w w15) := ⟨h5_⟩
          clear BK230
          clear BK231
          clear BK232
          clear HB
          clear h0_ h1_ h2_ h3_ h4_ h5_
          have HO238 := n0_
          have HO241 := n1_
          have BK230 := n2_
          have BK231 := n3_
          have BK232 := n4_
          have HB := n5_
          clear n0_ n1_ n2_ n3_ n4_ n5_
          have hHeld : w15.cell? ⟨gb230, 0, none⟩ = some (.slice A0_0 l0_0.length c0_0) ∧ w15.cell? ⟨gb230, 1, none⟩ = some (.slice A0_1 l0_1.length c0_1) ∧ w15.cell? ⟨gb231, 0, none⟩ = some (.slice A1_0 l1_0.length c1_0) ∧ w15.cell? ⟨gb231, 1, none⟩ = some (.slice A1_1 l1_1.length c1_1) := hS_
          refine norm_ (a' := ?_) ?_ ?_
          rotate_left
          ·simp only [putAll, Act.put, List.setIfInBounds_toArray, List.set_cons_zero, List.set_cons_succ]
           rfl
          refine two_ (i := 7) (j := 12) (Ni := some 16) (Nj := some 5) #[true, true, true, true, true, true, true, true, true, true, false, false, false, false] #[true, true, true, true, true, true, true, false, true, true, false, false, true, false] rfl rfl rfl rfl (two_of HT_.out (by kernel_rfl)) (by decide) (by decide) (fun K hK => ?_) (fun K hK => ?_)
          ·skip
           refine Kd.R_append_rows_step Kd.string (w0 := w) w.heap.size (by rfl) (.tmp 13) (.tmp 15) 24 9 (.string ⟨#[]⟩) 16 rfl Try.underlying24 info9 rfl (by decide) (by omega) v240 y239 l0_1 _ _ _ (fun _ => True) (fun _ => False) rfl rfl ?aO ?aR (fun _ _ h => h) (fun _ h => h.elim) ?aF ?aB ?aS ?aL ?_
           (case aR => repeat (first | exact (Kd.C_below HR0_1.out HB.out) | (with_reducible refine Kd.C_alloc ?_ _) | (with_reducible refine Kd.C_drewN ?_ _) | (with_reducible refine Kd.C_drew ?_)))
           (case aB => exact (by repeat (first | (with_reducible first | exact HB.out | apply below_alloc | apply pw_below_drewN | apply below_drew1 | refine below_set ?_ GE230.out | refine below_set ?_ GE231.out | refine below_set ?_ GE232.out) | exact HB.out)))
           (case aF => exact (fun _ _ => trivial))
           (case aO => exact (rTo HO241.out))
           (case aS => exact (below_size (by repeat (first | (with_reducible first | exact HB.out | apply below_alloc | apply pw_below_drewN | apply below_drew1 | refine below_set ?_ GE230.out | refine below_set ?_ GE231.out | refine below_set ?_ GE232.out) | exact HB.out))))
           (case aL => have := LMc4.out; omega)
           intro v243 w16 ho hb hg hat
           rw [← Ny242.out] at ho
           have n0_ := ak (blk_grown (g := gb230) (o := .cells #[.slice A0_0 l0_0.length c0_0, .slice A0_1 l0_1.length c0_1] 26 (0, 0)) (bTo BK230.out) hg (Kd.R_ne HO241.out BK230.out (by decide)))
           have n1_ := ak (blk_grown (g := gb231) (o := .cells #[.slice A1_0 l1_0.length c1_0, .slice A1_1 l1_1.length c1_1] 26 (0, 0)) (bTo BK231.out) hg (Kd.R_ne HO241.out BK231.out (by decide)))
           have n2_ := ak (blk_grown (g := gb232) (o := .cells #[.slice none 0 0, .slice none 0 0] 26 (0, 0)) (bTo BK232.out) hg (Kd.R_ne HO241.out BK232.out (by decide)))
           have n3_ := ak (Kd.R_over' (rTo HO238.out) (Kd.R_typed (rTo HO241.out)) (by decide) hg)
           have n4_ := ak (hb)
           have n5_ := ak (ho)
           clear BK230
           clear BK231
           clear BK232
           clear HO238
           clear HB
           clear HO241
           have BK230 := n0_
           have BK231 := n1_
           have BK232 := n2_
           have HO238 := n3_
           have HB := n4_
           have HO244 := n5_
           clear n0_ n1_ n2_ n3_ n4_ n5_
           clear ho hb hg hat
           refine hK.out _ _ ⟨(blk_cell BK230.out 0).trans rfl, (blk_cell BK230.out 1).trans rfl, (blk_cell BK231.out 0).trans rfl, (blk_cell BK231.out 1).trans rfl⟩ (fun hHeld => ?_)
           clear hK K
           refine norm_ (a' := ?_) ?_ ?_
           rotate_left
           ·show Act.put _ (some 16) _ = _
            simp only [Act.put, List.setIfInBounds_toArray, List.set_cons_zero, List.set_cons_succ, i64_w, i32_w]
            rfl
           exact norm_ (by first | (simp only [putAll, Act.put, List.setIfInBounds_toArray, List.set_cons_zero, List.set_cons_succ]; done) | (simp only [putAll, Act.put, List.setIfInBounds_toArray, List.set_cons_zero, List.set_cons_succ]; rfl)) (hJ0_3_4_7 (v234, v237, v240, v243) _ ⟨hHeld, (rTo HO238.out), (rTo HO244.out), (bTo BK230.out), (bTo BK231.out), (bTo BK232.out), (by repeat (first | (with_reducible first | exact HB.out | apply below_alloc | apply pw_below_drewN | apply below_drew1 | refine below_set ?_ GE230.out | refine below_set ?_ GE231.out | refine below_set ?_ GE232.out) | exact HB.out))⟩)
          ·skip
           refine box_step ?hg (N := 5) ?hd (cs := #[.slice none 0 0, .slice none 0 0]) (t := 26) ?hr ?_; (case hd => rfl); (case hg => rfl); (case hr => first | (go_simp; done) | (go_simp; rfl))
           intro gb248 hg w16 hbox hb
           have n0_ := ak (Kd.R_below (rTo HO238.out) hb)
           have n1_ := ak (Kd.R_below (rTo HO241.out) hb)
           have n2_ := ak (blk_below (g := gb230) (o := .cells #[.slice A0_0 l0_0.length c0_0, .slice A0_1 l0_1.length c0_1] 26 (0, 0)) (bTo BK230.out) hb)
           have n3_ := ak (blk_below (g := gb231) (o := .cells #[.slice A1_0 l1_0.length c1_0, .slice A1_1 l1_1.length c1_1] 26 (0, 0)) (bTo BK231.out) hb)
           have n4_ := ak (blk_below (g := gb232) (o := .cells #[.slice none 0 0, .slice none 0 0] 26 (0, 0)) (bTo BK232.out) hb)
           have n5_ := ak (below_step (by repeat (first | (with_reducible first | exact HB.out | apply below_alloc | apply pw_below_drewN | apply below_drew1 | refine below_set ?_ GE230.out | refine below_set ?_ GE231.out | refine below_set ?_ GE232.out) | exact HB.out)) hb)
           have n6_ := ak (hbox)
           have n7_ := ak ((by rw [hg]; exact (below_size (by repeat (first | (with_reducible first | exact HB.out | apply below_alloc | apply pw_below_drewN | apply below_drew1 | refine below_set ?_ GE230.out | refine below_set ?_ GE231.out | refine below_set ?_ GE232.out) | exact HB.out))) : w.heap.size ≤ gb248))
           have n8_ := ak ((by rw [hg]; exact (below_size (by repeat (first | (with_reducible first | exact HB.out | apply below_alloc | apply pw_below_drewN | apply below_drew1 | refine below_set ?_ GE230.out | refine below_set ?_ GE231.out | refine below_set ?_ GE232.out) | exact HB.out))) : w.heap.size ≤ gb248))
           have n9_ := ak ((by rw [hg]; exact Nat.ne_of_lt (blk_lt (g := gb230) (o := .cells #[.slice A0_0 l0_0.length c0_0, .slice A0_1 l0_1.length c0_1] 26 (0, 0)) (bTo BK230.out)) : gb230 ≠ gb248))
           have n10_ := ak ((by rw [hg]; exact Nat.ne_of_gt (blk_lt (g := gb230) (o := .cells #[.slice A0_0 l0_0.length c0_0, .slice A0_1 l0_1.length c0_1] 26 (0, 0)) (bTo BK230.out)) : gb248 ≠ gb230))
           have n11_ := ak ((by rw [hg]; exact Nat.ne_of_lt (blk_lt (g := gb231) (o := .cells #[.slice A1_0 l1_0.length c1_0, .slice A1_1 l1_1.length c1_1] 26 (0, 0)) (bTo BK231.out)) : gb231 ≠ gb248))
           have n12_ := ak ((by rw [hg]; exact Nat.ne_of_gt (blk_lt (g := gb231) (o := .cells #[.slice A1_0 l1_0.length c1_0, .slice A1_1 l1_1.length c1_1] 26 (0, 0)) (bTo BK231.out)) : gb248 ≠ gb231))
           have n13_ := ak ((by rw [hg]; exact Nat.ne_of_lt (blk_lt (g := gb232) (o := .cells #[.slice none 0 0, .slice none 0 0] 26 (0, 0)) (bTo BK232.out)) : gb232 ≠ gb248))
           have n14_ := ak ((by rw [hg]; exact Nat.ne_of_gt (blk_lt (g := gb232) (o := .cells #[.slice none 0 0, .slice none 0 0] 26 (0, 0)) (bTo BK232.out)) : gb248 ≠ gb232))
           clear HO238
           clear HO241
           clear BK230
           clear BK231
           clear BK232
           clear HB
           have HO238 := n0_
           have HO241 := n1_
           have BK230 := n2_
           have BK231 := n3_
           have BK232 := n4_
           have HB := n5_
           have BK248 := n6_
           have GW248 := n7_
           have GE248 := n8_
           have NB230_248 := n9_
           have NB248_230 := n10_
           have NB231_248 := n11_
           have NB248_231 := n12_
           have NB232_248 := n13_
           have NB248_232 := n14_
           clear n0_ n1_ n2_ n3_ n4_ n5_ n6_ n7_ n8_ n9_ n10_ n11_ n12_ n13_ n14_
           clear hb hbox hg
           refine hK.out _ _ ⟨(blk_cell BK230.out 0).trans rfl, (blk_cell BK230.out 1).trans rfl, (blk_cell BK231.out 0).trans rfl, (blk_cell BK231.out 1).trans rfl⟩ (fun hHeld => ?_)
           clear hK K
           refine norm_ (a' := ?_) ?_ ?_
           rotate_left
           ·show Act.put _ (some 5) _ = _
            simp only [Act.put, List.setIfInBounds_toArray, List.set_cons_zero, List.set_cons_succ, i64_w, i32_w]
            rfl
           exact norm_ (by first | (simp only [putAll, Act.put, List.setIfInBounds_toArray, List.set_cons_zero, List.set_cons_succ]; done) | (simp only [putAll, Act.put, List.setIfInBounds_toArray, List.set_cons_zero, List.set_cons_succ]; rfl)) (hJ0_3_4_12 (v234, v237, v240, gb248) _ ⟨hHeld, (rTo HO238.out), (rTo HO241.out), (bTo BK230.out), (bTo BK231.out), (bTo BK232.out), (bTo BK248.out), GW248.out, GE248.out, NB230_248.out, NB248_230.out, NB231_248.out, NB248_231.out, NB232_248.out, NB248_232.out, (by repeat (first | (with_reducible first | exact HB.out | apply below_alloc | apply pw_below_drewN | apply below_drew1 | refine below_set ?_ GE230.out | refine below_set ?_ GE231.out | refine below_set ?_ GE232.out | refine below_set ?_ GE248.out) | exact HB.out))⟩)
        ·skip
         rintro ⟨v234, v237, v240, gb248⟩ w16 ⟨hS_, h0_, h1_, h2_, h3_, h4_, h5_, h6_, h7_, h8_, h9_, h10_, h11_, h12_, h13_, h14_⟩
         have n0_ : Aside0 (Kd.R k37 37 w16 w.heap.size (fun _ => True) v237 y236) := ⟨h0_⟩
         have n1_ : Aside0 (Kd.R Kd.string 9 w16 w.heap.size (fun _ => True) v240 y239) := ⟨h1_⟩
         have n2_ : Aside0 (w16.heap[gb230]? = some (.cells #[.slice A0_0 l0_0.length c0_0, .slice A0_1 l0_1.length c0_1] 26 (0, 0))) := ⟨h2_⟩
         have n3_ : Aside0 (w16.heap[gb231]? = some (.cells #[.slice A1_0 l1_0.length c1_0, .slice A1_1 l1_1.length c1_1] 26 (0, 0))) := ⟨h3_⟩
         have n4_ : Aside0 (w16.heap[gb232]? = some (.cells #[.slice none 0 0, .slice none 0 0] 26 (0, 0))) := ⟨h4_⟩
         have n5_ : Aside0 (w16.heap[gb248]? = some (.cells #[.slice none 0 0, .slice none 0 0] 26 (0, 0))) := ⟨h5_⟩
         have n6_ : Aside0 (w.heap.size ≤ gb248) := ⟨h6_⟩
         have n7_ : Aside0 (w.heap.size ≤ gb248) := ⟨h7_⟩
         have n8_ : Aside0 (gb230 ≠ gb248) := ⟨h8_⟩
         have n9_ : Aside0 (gb248 ≠ gb230) := ⟨h9_⟩
         have n10_ : Aside0 (gb231 ≠ gb248) := ⟨h10_⟩
         have n11_ : Aside0 (gb248 ≠ gb231) := ⟨h11_⟩
         have n12_ : Aside0 (gb232 ≠ gb248) := ⟨h12_⟩
         have n13_ : Aside0 (gb248 ≠ gb232) := ⟨h13_⟩
         have n14_ : Aside0 (Below w.heap.size w w16) := ⟨h14_⟩
         clear BK230
         clear BK231
         clear BK232
         clear HB
         clear h0_ h1_ h2_ h3_ h4_ h5_ h6_ h7_ h8_ h9_ h10_ h11_ h12_ h13_ h14_
         have HO238 := n0_
         have HO241 := n1_
         have BK230 := n2_
         have BK231 := n3_
         have BK232 := n4_
         have BK248 := n5_
         have GW248 := n6_
         have GE248 := n7_
         have NB230_248 := n8_
         have NB248_230 := n9_
         have NB231_248 := n10_
         have NB248_231 := n11_
         have NB232_248 := n12_
         have NB248_232 := n13_
         have HB := n14_
         clear n0_ n1_ n2_ n3_ n4_ n5_ n6_ n7_ n8_ n9_ n10_ n11_ n12_ n13_ n14_
         have hHeld : w16.cell? ⟨gb230, 0, none⟩ = some (.slice A0_0 l0_0.length c0_0) ∧ w16.cell? ⟨gb230, 1, none⟩ = some (.slice A0_1 l0_1.length c0_1) ∧ w16.cell? ⟨gb231, 0, none⟩ = some (.slice A1_0 l1_0.length c1_0) ∧ w16.cell? ⟨gb231, 1, none⟩ = some (.slice A1_1 l1_1.length c1_1) := hS_
         refine norm_ (a' := ?_) ?_ ?_
         rotate_left
         ·simp only [putAll, Act.put, List.setIfInBounds_toArray, List.set_cons_zero, List.set_cons_succ]
          rfl
         refine one_ (i := 7) (N := some 16) #[true, true, true, true, true, true, true, true, true, true, false, false, true, false] rfl rfl (one_of HT_.out (by kernel_rfl)) (by decide) (fun K hK => ?_)
         refine Kd.R_append_rows_step Kd.string (w0 := w) w.heap.size (by rfl) (.tmp 13) (.tmp 15) 24 9 (.string ⟨#[]⟩) 16 rfl Try.underlying24 info9 rfl (by decide) (by omega) v240 y239 l0_1 _ _ _ (fun _ => True) (fun _ => False) rfl rfl ?aO ?aR (fun _ _ h => h) (fun _ h => h.elim) ?aF ?aB ?aS ?aL ?_
         (case aR => repeat (first | exact (Kd.C_below HR0_1.out HB.out) | (with_reducible refine Kd.C_alloc ?_ _) | (with_reducible refine Kd.C_drewN ?_ _) | (with_reducible refine Kd.C_drew ?_)))
         (case aB => exact (by repeat (first | (with_reducible first | exact HB.out | apply below_alloc | apply pw_below_drewN | apply below_drew1 | refine below_set ?_ GE230.out | refine below_set ?_ GE231.out | refine below_set ?_ GE232.out | refine below_set ?_ GE248.out) | exact HB.out)))
         (case aF => exact (fun _ _ => trivial))
         (case aO => exact (rTo HO241.out))
         (case aS => exact (below_size (by repeat (first | (with_reducible first | exact HB.out | apply below_alloc | apply pw_below_drewN | apply below_drew1 | refine below_set ?_ GE230.out | refine below_set ?_ GE231.out | refine below_set ?_ GE232.out | refine below_set ?_ GE248.out) | exact HB.out))))
         (case aL => have := LMc4.out; omega)
         intro v243 w17 ho hb hg hat
         rw [← Ny242.out] at ho
         have n0_ := ak (blk_grown (g := gb230) (o := .cells #[.slice A0_0 l0_0.length c0_0, .slice A0_1 l0_1.length c0_1] 26 (0, 0)) (bTo BK230.out) hg (Kd.R_ne HO241.out BK230.out (by decide)))
         have n1_ := ak (blk_grown (g := gb231) (o := .cells #[.slice A1_0 l1_0.length c1_0, .slice A1_1 l1_1.length c1_1] 26 (0, 0)) (bTo BK231.out) hg (Kd.R_ne HO241.out BK231.out (by decide)))
         have n2_ := ak (blk_grown (g := gb232) (o := .cells #[.slice none 0 0, .slice none 0 0] 26 (0, 0)) (bTo BK232.out) hg (Kd.R_ne HO241.out BK232.out (by decide)))
         have n3_ := ak (Kd.R_over' (rTo HO238.out) (Kd.R_typed (rTo HO241.out)) (by decide) hg)
         have n4_ := ak (blk_grown (g := gb248) (o := .cells #[.slice none 0 0, .slice none 0 0] 26 (0, 0)) (bTo BK248.out) hg (Kd.R_ne HO241.out BK248.out (by decide)))
         have n5_ := ak (hb)
         have n6_ := ak (ho)
         clear BK230
         clear BK231
         clear BK232
         clear HO238
         clear BK248
         clear HB
         clear HO241
         have BK230 := n0_
         have BK231 := n1_
         have BK232 := n2_
         have HO238 := n3_
         have BK248 := n4_
         have HB := n5_
         have HO244 := n6_
         clear n0_ n1_ n2_ n3_ n4_ n5_ n6_
         clear ho hb hg hat
         refine hK.out _ _ ⟨(blk_cell BK230.out 0).trans rfl, (blk_cell BK230.out 1).trans rfl, (blk_cell BK231.out 0).trans rfl, (blk_cell BK231.out 1).trans rfl⟩ (fun hHeld => ?_)
         clear hK K
         refine norm_ (a' := ?_) ?_ ?_
         rotate_left
         ·show Act.put _ (some 16) _ = _
          simp only [Act.put, List.setIfInBounds_toArray, List.set_cons_zero, List.set_cons_succ, i64_w, i32_w]
          rfl
         exact norm_ (by first | (simp only [putAll, Act.put, List.setIfInBounds_toArray, List.set_cons_zero, List.set_cons_succ]; done) | (simp only [putAll, Act.put, List.setIfInBounds_toArray, List.set_cons_zero, List.set_cons_succ]; rfl)) (hJ0_3_4_7_12 (v234, v237, v240, v243, gb248) _ ⟨hHeld, (rTo HO238.out), (rTo HO244.out), (bTo BK230.out), (bTo BK231.out), (bTo BK232.out), (bTo BK248.out), GW248.out, GE248.out, NB230_248.out, NB248_230.out, NB231_248.out, NB248_231.out, NB232_248.out, NB248_232.out, (by repeat (first | (with_reducible first | exact HB.out | apply below_alloc | apply pw_below_drewN | apply below_drew1 | refine below_set ?_ GE230.out | refine below_set ?_ GE231.out | refine below_set ?_ GE232.out | refine below_set ?_ GE248.out) | exact HB.out))⟩)
       ·skip
        rintro ⟨v234, v237, v240, v243⟩ w16 ⟨hS_, h0_, h1_, h2_, h3_, h4_, h5_⟩
        have n0_ : Aside0 (Kd.R k37 37 w16 w.heap.size (fun _ => True) v237 y236) := ⟨h0_⟩
        have n1_ : Aside0 (Kd.R Kd.string 9 w16 w.heap.size (fun _ => True) v243 y242) := ⟨h1_⟩
        have n2_ : Aside0 (w16.heap[gb230]? = some (.cells #[.slice A0_0 l0_0.length c0_0, .slice A0_1 l0_1.length c0_1] 26 (0, 0))) := ⟨h2_⟩
        have n3_ : Aside0 (w16.heap[gb231]? = some (.cells #[.slice A1_0 l1_0.length c1_0, .slice A1_1 l1_1.length c1_1] 26 (0, 0))) := ⟨h3_⟩
        have n4_ : Aside0 (w16.heap[gb232]? = some (.cells #[.slice none 0 0, .slice none 0 0] 26 (0, 0))) := ⟨h4_⟩
        have n5_ : Aside0 (Below w.heap.size w w16) := ⟨h5_⟩
        clear BK230
        clear BK231
        clear BK232
        clear HB
        clear h0_ h1_ h2_ h3_ h4_ h5_
        have HO238 := n0_
        have HO244 := n1_
        have BK230 := n2_
        have BK231 := n3_
        have BK232 := n4_
        have HB := n5_
        clear n0_ n1_ n2_ n3_ n4_ n5_
        have hHeld : w16.cell? ⟨gb230, 0, none⟩ = some (.slice A0_0 l0_0.length c0_0) ∧ w16.cell? ⟨gb230, 1, none⟩ = some (.slice A0_1 l0_1.length c0_1) ∧ w16.cell? ⟨gb231, 0, none⟩ = some (.slice A1_0 l1_0.length c1_0) ∧ w16.cell? ⟨gb231, 1, none⟩ = some (.slice A1_1 l1_1.length c1_1) := hS_
        refine norm_ (a' := ?_) ?_ ?_
        rotate_left
        ·simp only [putAll, Act.put, List.setIfInBounds_toArray, List.set_cons_zero, List.set_cons_succ]
         rfl
        refine two_ (i := 10) (j := 12) (Ni := some 19) (Nj := some 5) #[true, true, true, true, true, true, true, true, true, true, true, false, false, false] #[true, true, true, true, true, true, true, true, true, true, false, false, true, false] rfl rfl rfl rfl (two_of HT_.out (by kernel_rfl)) (by decide) (by decide) (fun K hK => ?_) (fun K hK => ?_)
        ·skip
         refine Kd.R_append_rows_step Kd.string (w0 := w) w.heap.size (by rfl) (.tmp 16) (.tmp 18) 24 9 (.string ⟨#[]⟩) 16 rfl Try.underlying24 info9 rfl (by decide) (by omega) v243 y242 l1_1 _ _ _ (fun _ => True) (fun _ => False) rfl rfl ?aO ?aR (fun _ _ h => h) (fun _ h => h.elim) ?aF ?aB ?aS ?aL ?_
         (case aR => repeat (first | exact (Kd.C_below HR1_1.out HB.out) | (with_reducible refine Kd.C_alloc ?_ _) | (with_reducible refine Kd.C_drewN ?_ _) | (with_reducible refine Kd.C_drew ?_)))
         (case aB => exact (by repeat (first | (with_reducible first | exact HB.out | apply below_alloc | apply pw_below_drewN | apply below_drew1 | refine below_set ?_ GE230.out | refine below_set ?_ GE231.out | refine below_set ?_ GE232.out) | exact HB.out)))
         (case aF => exact (fun _ _ => trivial))
         (case aO => exact (rTo HO244.out))
         (case aS => exact (below_size (by repeat (first | (with_reducible first | exact HB.out | apply below_alloc | apply pw_below_drewN | apply below_drew1 | refine below_set ?_ GE230.out | refine below_set ?_ GE231.out | refine below_set ?_ GE232.out) | exact HB.out))))
         (case aL => have := LMc5.out; omega)
         intro v246 w17 ho hb hg hat
         rw [← Ny245.out] at ho
         have n0_ := ak (blk_grown (g := gb230) (o := .cells #[.slice A0_0 l0_0.length c0_0, .slice A0_1 l0_1.length c0_1] 26 (0, 0)) (bTo BK230.out) hg (Kd.R_ne HO244.out BK230.out (by decide)))
         have n1_ := ak (blk_grown (g := gb231) (o := .cells #[.slice A1_0 l1_0.length c1_0, .slice A1_1 l1_1.length c1_1] 26 (0, 0)) (bTo BK231.out) hg (Kd.R_ne HO244.out BK231.out (by decide)))
         have n2_ := ak (blk_grown (g := gb232) (o := .cells #[.slice none 0 0, .slice none 0 0] 26 (0, 0)) (bTo BK232.out) hg (Kd.R_ne HO244.out BK232.out (by decide)))
         have n3_ := ak (Kd.R_over' (rTo HO238.out) (Kd.R_typed (rTo HO244.out)) (by decide) hg)
         have n4_ := ak (hb)
         have n5_ := ak (ho)
         clear BK230
         clear BK231
         clear BK232
         clear HO238
         clear HB
         clear HO244
         have BK230 := n0_
         have BK231 := n1_
         have BK232 := n2_
         have HO238 := n3_
         have HB := n4_
         have HO247 := n5_
         clear n0_ n1_ n2_ n3_ n4_ n5_
         clear ho hb hg hat
         obtain ⟨Ao18, co18, eo18⟩ := Kd.R_slice HO247.out
         (first | subst eo18 | (injection eo18 with f1_ f2_ f3_; have f4_ := f1_.symm; have f5_ := f3_.symm; clear f1_ f2_ f3_; subst f4_; subst f5_))
         obtain ⟨Ao19, co19, eo19⟩ := Kd.R_slice HO238.out
         (first | subst eo19 | (injection eo19 with f1_ f2_ f3_; have f4_ := f1_.symm; have f5_ := f3_.symm; clear f1_ f2_ f3_; subst f4_; subst f5_))
         refine hK.out _ _ ⟨(blk_cell BK230.out 0).trans rfl, (blk_cell BK230.out 1).trans rfl, (blk_cell BK231.out 0).trans rfl, (blk_cell BK231.out 1).trans rfl⟩ (fun hHeld => ?_)
         clear hK K
         refine norm_ (a' := ?_) ?_ ?_
         rotate_left
         ·show Act.put _ (some 19) _ = _
          simp only [Act.put, List.setIfInBounds_toArray, List.set_cons_zero, List.set_cons_succ, i64_w, i32_w]
          rfl
         refine pure_ (i := 11) (N := some 20) (v := ?_) (a' := ?_) #[true, true, true, true, true, true, true, true, true, true, true, true, false, false] rfl rfl (any_of HT_.out (by kernel_rfl)) (fun _ _ _ h => h) (Or.inl ⟨by rfl, ?_⟩) ?_ ?_
         rotate_left
         ·intro w'
          go_simp
          with_reducible rfl
         rotate_left
         ·simp only [Act.put, List.setIfInBounds_toArray, List.set_cons_zero, List.set_cons_succ, i64_w, i32_w]
          rfl
         exact norm_ (by first | (simp only [putAll, Act.put, List.setIfInBounds_toArray, List.set_cons_zero, List.set_cons_succ]; done) | (simp only [putAll, Act.put, List.setIfInBounds_toArray, List.set_cons_zero, List.set_cons_succ]; rfl)) (hJ0_3_4_7_10 (v234, .slice Ao19 y236.length co19, v240, v243, .slice Ao18 y245.length co18) _ ⟨hHeld, (rTo HO238.out), (rTo HO247.out), (bTo BK230.out), (bTo BK231.out), (bTo BK232.out), (by repeat (first | (with_reducible first | exact HB.out | apply below_alloc | apply pw_below_drewN | apply below_drew1 | refine below_set ?_ GE230.out | refine below_set ?_ GE231.out | refine below_set ?_ GE232.out) | exact HB.out))⟩)
        ·skip
         refine box_step ?hg (N := 5) ?hd (cs := #[.slice none 0 0, .slice none 0 0]) (t := 26) ?hr ?_; (case hd => rfl); (case hg => rfl); (case hr => first | (go_simp; done) | (go_simp; rfl))
         intro gb248 hg w17 hbox hb
         have n0_ := ak (Kd.R_below (rTo HO238.out) hb)
         have n1_ := ak (Kd.R_below (rTo HO244.out) hb)
         have n2_ := ak (blk_below (g := gb230) (o := .cells #[.slice A0_0 l0_0.length c0_0, .slice A0_1 l0_1.length c0_1] 26 (0, 0)) (bTo BK230.out) hb)
         have n3_ := ak (blk_below (g := gb231) (o := .cells #[.slice A1_0 l1_0.length c1_0, .slice A1_1 l1_1.length c1_1] 26 (0, 0)) (bTo BK231.out) hb)
         have n4_ := ak (blk_below (g := gb232) (o := .cells #[.slice none 0 0, .slice none 0 0] 26 (0, 0)) (bTo BK232.out) hb)
         have n5_ := ak (below_step (by repeat (first | (with_reducible first | exact HB.out | apply below_alloc | apply pw_below_drewN | apply below_drew1 | refine below_set ?_ GE230.out | refine below_set ?_ GE231.out | refine below_set ?_ GE232.out) | exact HB.out)) hb)
         have n6_ := ak (hbox)
         have n7_ := ak ((by rw [hg]; exact (below_size (by repeat (first | (with_reducible first | exact HB.out | apply below_alloc | apply pw_below_drewN | apply below_drew1 | refine below_set ?_ GE230.out | refine below_set ?_ GE231.out | refine below_set ?_ GE232.out) | exact HB.out))) : w.heap.size ≤ gb248))
         have n8_ := ak ((by rw [hg]; exact (below_size (by repeat (first | (with_reducible first | exact HB.out | apply below_alloc | apply pw_below_drewN | apply below_drew1 | refine below_set ?_ GE230.out | refine below_set ?_ GE231.out | refine below_set ?_ GE232.out) | exact HB.out))) : w.heap.size ≤ gb248))
         have n9_ := ak ((by rw [hg]; exact Nat.ne_of_lt (blk_lt (g := gb230) (o := .cells #[.slice A0_0 l0_0.length c0_0, .slice A0_1 l0_1.length c0_1] 26 (0, 0)) (bTo BK230.out)) : gb230 ≠ gb248))
         have n10_ := ak ((by rw [hg]; exact Nat.ne_of_gt (blk_lt (g := gb230) (o := .cells #[.slice A0_0 l0_0.length c0_0, .slice A0_1 l0_1.length c0_1] 26 (0, 0)) (bTo BK230.out)) : gb248 ≠ gb230))
         have n11_ := ak ((by rw [hg]; exact Nat.ne_of_lt (blk_lt (g := gb231) (o := .cells #[.slice A1_0 l1_0.length c1_0, .slice A1_1 l1_1.length c1_1] 26 (0, 0)) (bTo BK231.out)) : gb231 ≠ gb248))
         have n12_ := ak ((by rw [hg]; exact Nat.ne_of_gt (blk_lt (g := gb231) (o := .cells #[.slice A1_0 l1_0.length c1_0, .slice A1_1 l1_1.length c1_1] 26 (0, 0)) (bTo BK231.out)) : gb248 ≠ gb231))
         have n13_ := ak ((by rw [hg]; exact Nat.ne_of_lt (blk_lt (g := gb232) (o := .cells #[.slice none 0 0, .slice none 0 0] 26 (0, 0)) (bTo BK232.out)) : gb232 ≠ gb248))
         have n14_ := ak ((by rw [hg]; exact Nat.ne_of_gt (blk_lt (g := gb232) (o := .cells #[.slice none 0 0, .slice none 0 0] 26 (0, 0)) (bTo BK232.out)) : gb248 ≠ gb232))
         clear HO238
         clear HO244
         clear BK230
         clear BK231
         clear BK232
         clear HB
         have HO238 := n0_
         have HO244 := n1_
         have BK230 := n2_
         have BK231 := n3_
         have BK232 := n4_
         have HB := n5_
         have BK248 := n6_
         have GW248 := n7_
         have GE248 := n8_
         have NB230_248 := n9_
         have NB248_230 := n10_
         have NB231_248 := n11_
         have NB248_231 := n12_
         have NB232_248 := n13_
         have NB248_232 := n14_
         clear n0_ n1_ n2_ n3_ n4_ n5_ n6_ n7_ n8_ n9_ n10_ n11_ n12_ n13_ n14_
         clear hb hbox hg
         refine hK.out _ _ ⟨(blk_cell BK230.out 0).trans rfl, (blk_cell BK230.out 1).trans rfl, (blk_cell BK231.out 0).trans rfl, (blk_cell BK231.out 1).trans rfl⟩ (fun hHeld => ?_)
         clear hK K
         refine norm_ (a' := ?_) ?_ ?_
         rotate_left
         ·show Act.put _ (some 5) _ = _
          simp only [Act.put, List.setIfInBounds_toArray, List.set_cons_zero, List.set_cons_succ, i64_w, i32_w]
          rfl
         exact norm_ (by first | (simp only [putAll, Act.put, List.setIfInBounds_toArray, List.set_cons_zero, List.set_cons_succ]; done) | (simp only [putAll, Act.put, List.setIfInBounds_toArray, List.set_cons_zero, List.set_cons_succ]; rfl)) (hJ0_3_4_7_12 (v234, v237, v240, v243, gb248) _ ⟨hHeld, (rTo HO238.out), (rTo HO244.out), (bTo BK230.out), (bTo BK231.out), (bTo BK232.out), (bTo BK248.out), GW248.out, GE248.out, NB230_248.out, NB248_230.out, NB231_248.out, NB248_231.out, NB232_248.out, NB248_232.out, (by repeat (first | (with_reducible first | exact HB.out | apply below_alloc | apply pw_below_drewN | apply below_drew1 | refine below_set ?_ GE230.out | refine below_set ?_ GE231.out | refine below_set ?_ GE232.out | refine below_set ?_ GE248.out) | exact HB.out))⟩)
      ·skip
       rintro ⟨v234, v237, v240, v243, gb248⟩ w17 ⟨hS_, h0_, h1_, h2_, h3_, h4_, h5_, h6_, h7_, h8_, h9_, h10_, h11_, h12_, h13_, h14_⟩
       have n0_ : Aside0 (Kd.R k37 37 w17 w.heap.size (fun _ => True) v237 y236) := ⟨h0_⟩
       have n1_ : Aside0 (Kd.R Kd.string 9 w17 w.heap.size (fun _ => True) v243 y242) := ⟨h1_⟩
       have n2_ : Aside0 (w17.heap[gb230]? = some (.cells #[.slice A0_0 l0_0.length c0_0, .slice A0_1 l0_1.length c0_1] 26 (0, 0))) := ⟨h2_⟩
       have n3_ : Aside0 (w17.heap[gb231]? = some (.cells #[.slice A1_0 l1_0.length c1_0, .slice A1_1 l1_1.length c1_1] 26 (0, 0))) := ⟨h3_⟩
       have n4_ : Aside0 (w17.heap[gb232]? = some (.cells #[.slice none 0 0, .slice none 0 0] 26 (0, 0))) := ⟨h4_⟩
       have n5_ : Aside0 (w17.heap[gb248]? = some (.cells #[.slice none 0 0, .slice none 0 0] 26 (0, 0))) := ⟨h5_⟩
       have n6_ : Aside0 (w.heap.size ≤ gb248) := ⟨h6_⟩
       have n7_ : Aside0 (w.heap.size ≤ gb248) := ⟨h7_⟩
       have n8_ : Aside0 (gb230 ≠ gb248) := ⟨h8_⟩
       have n9_ : Aside0 (gb248 ≠ gb230) := ⟨h9_⟩
       have n10_ : Aside0 (gb231 ≠ gb248) := ⟨h10_⟩
       have n11_ : Aside0 (gb248 ≠ gb231) := ⟨h11_⟩
       have n12_ : Aside0 (gb232 ≠ gb248) := ⟨h12_⟩
       have n13_ : Aside0 (gb248 ≠ gb232) := ⟨h13_⟩
       have n14_ : Aside0 (Below w.heap.size w w17) := ⟨h14_⟩
       clear BK230
       clear BK231
       clear BK232
       clear HB
       clear h0_ h1_ h2_ h3_ h4_ h5_ h6_ h7_ h8_ h9_ h10_ h11_ h12_ h13_ h14_
       have HO238 := n0_
       have HO244 := n1_
       have BK230 := n2_
       have BK231 := n3_
       have BK232 := n4_
       have BK248 := n5_
       have GW248 := n6_
       have GE248 := n7_
       have NB230_248 := n8_
       have NB248_230 := n9_
       have NB231_248 := n10_
       have NB248_231 := n11_
       have NB232_248 := n12_
       have NB248_232 := n13_
       have HB := n14_
       clear n0_ n1_ n2_ n3_ n4_ n5_ n6_ n7_ n8_ n9_ n10_ n11_ n12_ n13_ n14_
       have hHeld : w17.cell? ⟨gb230, 0, none⟩ = some (.slice A0_0 l0_0.length c0_0) ∧ w17.cell? ⟨gb230, 1, none⟩ = some (.slice A0_1 l0_1.length c0_1) ∧ w17.cell? ⟨gb231, 0, none⟩ = some (.slice A1_0 l1_0.length c1_0) ∧ w17.cell? ⟨gb231, 1, none⟩ = some (.slice A1_1 l1_1.length c1_1) := hS_
       refine norm_ (a' := ?_) ?_ ?_
       rotate_left
       ·simp only [putAll, Act.put, List.setIfInBounds_toArray, List.set_cons_zero, List.set_cons_succ]
        rfl
       refine one_ (i := 10) (N := some 19) #[true, true, true, true, true, true, true, true, true, true, true, false, true, false] rfl rfl (one_of HT_.out (by kernel_rfl)) (by decide) (fun K hK => ?_)
       refine Kd.R_append_rows_step Kd.string (w0 := w) w.heap.size (by rfl) (.tmp 16) (.tmp 18) 24 9 (.string ⟨#[]⟩) 16 rfl Try.underlying24 info9 rfl (by decide) (by omega) v243 y242 l1_1 _ _ _ (fun _ => True) (fun _ => False) rfl rfl ?aO ?aR (fun _ _ h => h) (fun _ h => h.elim) ?aF ?aB ?aS ?aL ?_
       (case aR => repeat (first | exact (Kd.C_below HR1_1.out HB.out) | (with_reducible refine Kd.C_alloc ?_ _) | (with_reducible refine Kd.C_drewN ?_ _) | (with_reducible refine Kd.C_drew ?_)))
       (case aB => exact (by repeat (first | (with_reducible first | exact HB.out | apply below_alloc | apply pw_below_drewN | apply below_drew1 | refine below_set ?_ GE230.out | refine below_set ?_ GE231.out | refine below_set ?_ GE232.out | refine below_set ?_ GE248.out) | exact HB.out)))
       (case aF => exact (fun _ _ => trivial))
       (case aO => exact (rTo HO244.out))
       (case aS => exact (below_size (by repeat (first | (with_reducible first | exact HB.out | apply below_alloc | apply pw_below_drewN | apply below_drew1 | refine below_set ?_ GE230.out | refine below_set ?_ GE231.out | refine below_set ?_ GE232.out | refine below_set ?_ GE248.out) | exact HB.out))))
       (case aL => have := LMc5.out; omega)
       intro v246 w18 ho hb hg hat
       rw [← Ny245.out] at ho
       have n0_ := ak (blk_grown (g := gb230) (o := .cells #[.slice A0_0 l0_0.length c0_0, .slice A0_1 l0_1.length c0_1] 26 (0, 0)) (bTo BK230.out) hg (Kd.R_ne HO244.out BK230.out (by decide)))
       have n1_ := ak (blk_grown (g := gb231) (o := .cells #[.slice A1_0 l1_0.length c1_0, .slice A1_1 l1_1.length c1_1] 26 (0, 0)) (bTo BK231.out) hg (Kd.R_ne HO244.out BK231.out (by decide)))
       have n2_ := ak (blk_grown (g := gb232) (o := .cells #[.slice none 0 0, .slice none 0 0] 26 (0, 0)) (bTo BK232.out) hg (Kd.R_ne HO244.out BK232.out (by decide)))
       have n3_ := ak (Kd.R_over' (rTo HO238.out) (Kd.R_typed (rTo HO244.out)) (by decide) hg)
       have n4_ := ak (blk_grown (g := gb248) (o := .cells #[.slice none 0 0, .slice none 0 0] 26 (0, 0)) (bTo BK248.out) hg (Kd.R_ne HO244.out BK248.out (by decide)))
       have n5_ := ak (hb)
       have n6_ := ak (ho)
       clear BK230
       clear BK231
       clear BK232
       clear HO238
       clear BK248
       clear HB
       clear HO244
       have BK230 := n0_
       have BK231 := n1_
       have BK232 := n2_
       have HO238 := n3_
       have BK248 := n4_
       have HB := n5_
       have HO247 := n6_
       clear n0_ n1_ n2_ n3_ n4_ n5_ n6_
       clear ho hb hg hat
       obtain ⟨Ao19, co19, eo19⟩ := Kd.R_slice HO247.out
       (first | subst eo19 | (injection eo19 with f1_ f2_ f3_; have f4_ := f1_.symm; have f5_ := f3_.symm; clear f1_ f2_ f3_; subst f4_; subst f5_))
       obtain ⟨Ao20, co20, eo20⟩ := Kd.R_slice HO238.out
       (first | subst eo20 | (injection eo20 with f1_ f2_ f3_; have f4_ := f1_.symm; have f5_ := f3_.symm; clear f1_ f2_ f3_; subst f4_; subst f5_))
       refine hK.out _ _ ⟨(blk_cell BK230.out 0).trans rfl, (blk_cell BK230.out 1).trans rfl, (blk_cell BK231.out 0).trans rfl, (blk_cell BK231.out 1).trans rfl⟩ (fun hHeld => ?_)
       clear hK K
       refine norm_ (a' := ?_) ?_ ?_
       rotate_left
       ·show Act.put _ (some 19) _ = _
        simp only [Act.put, List.setIfInBounds_toArray, List.set_cons_zero, List.set_cons_succ, i64_w, i32_w]
        rfl
       refine pure_ (i := 11) (N := some 20) (v := ?_) (a' := ?_) #[true, true, true, true, true, true, true, true, true, true, true, true, true, false] rfl rfl (any_of HT_.out (by kernel_rfl)) (fun _ _ _ h => h) (Or.inl ⟨by rfl, ?_⟩) ?_ ?_
       rotate_left
       ·intro w'
        go_simp
        with_reducible rfl
       rotate_left
       ·simp only [Act.put, List.setIfInBounds_toArray, List.set_cons_zero, List.set_cons_succ, i64_w, i32_w]
        rfl
       exact norm_ (by first | (simp only [putAll, Act.put, List.setIfInBounds_toArray, List.set_cons_zero, List.set_cons_succ]; done) | (simp only [putAll, Act.put, List.setIfInBounds_toArray, List.set_cons_zero, List.set_cons_succ]; rfl)) (hJ0_3_4_7_10_12 (v234, .slice Ao20 y236.length co20, v240, v243, .slice Ao19 y245.length co19, gb248) _ ⟨hHeld, (rTo HO238.out), (rTo HO247.out), (bTo BK230.out), (bTo BK231.out), (bTo BK232.out), (bTo BK248.out), GW248.out, GE248.out, NB230_248.out, NB248_230.out, NB231_248.out, NB248_231.out, NB232_248.out, NB248_232.out, (by repeat (first | (with_reducible first | exact HB.out | apply below_alloc | apply pw_below_drewN | apply below_drew1 | refine below_set ?_ GE230.out | refine below_set ?_ GE231.out | refine below_set ?_ GE232.out | refine below_set ?_ GE248.out) | exact HB.out))⟩)
     ·skip
      rintro ⟨v234, v237, v240, v243, v246⟩ w19 ⟨hS_, h0_, h1_, h2_, h3_, h4_, h5_⟩
      have n0_ : Aside0 (Kd.R k37 37 w19 w.heap.size (fun _ => True) v237 y236) := ⟨h0_⟩
      have n1_ : Aside0 (Kd.R Kd.string 9 w19 w.heap.size (fun _ => True) v246 y245) := ⟨h1_⟩
      have n2_ : Aside0 (w19.heap[gb230]? = some (.cells #[.slice A0_0 l0_0.length c0_0, .slice A0_1 l0_1.length c0_1] 26 (0, 0))) := ⟨h2_⟩
      have n3_ : Aside0 (w19.heap[gb231]? = some (.cells #[.slice A1_0 l1_0.length c1_0, .slice A1_1 l1_1.length c1_1] 26 (0, 0))) := ⟨h3_⟩
      have n4_ : Aside0 (w19.heap[gb232]? = some (.cells #[.slice none 0 0, .slice none 0 0] 26 (0, 0))) := ⟨h4_⟩
      have n5_ : Aside0 (Below w.heap.size w w19) := ⟨h5_⟩
      clear BK230
      clear BK231
      clear BK232
      clear HB
      clear h0_ h1_ h2_ h3_ h4_ h5_
      have HO238 := n0_
      have HO247 := n1_
      have BK230 := n2_
      have BK231 := n3_
      have BK232 := n4_
      have HB := n5_
      clear n0_ n1_ n2_ n3_ n4_ n5_
      have hHeld : w19.cell? ⟨gb230, 0, none⟩ = some (.slice A0_0 l0_0.length c0_0) ∧ w19.cell? ⟨gb230, 1, none⟩ = some (.slice A0_1 l0_1.length c0_1) ∧ w19.cell? ⟨gb231, 0, none⟩ = some (.slice A1_0 l1_0.length c1_0) ∧ w19.cell? ⟨gb231, 1, none⟩ = some (.slice A1_1 l1_1.length c1_1) := hS_
      obtain ⟨Ao20, co20, eo20⟩ := Kd.R_slice HO247.out
      (first | subst eo20 | (injection eo20 with f1_ f2_ f3_; have f4_ := f1_.symm; have f5_ := f3_.symm; clear f1_ f2_ f3_; subst f4_; subst f5_))
      obtain ⟨Ao21, co21, eo21⟩ := Kd.R_slice HO238.out
      (first | subst eo21 | (injection eo21 with f1_ f2_ f3_; have f4_ := f1_.symm; have f5_ := f3_.symm; clear f1_ f2_ f3_; subst f4_; subst f5_))
      refine norm_ (a' := ?_) ?_ ?_
      rotate_left
      ·simp only [putAll, Act.put, List.setIfInBounds_toArray, List.set_cons_zero, List.set_cons_succ]
       rfl
      refine one_ (i := 12) (N := some 5) #[true, true, true, true, true, true, true, true, true, true, true, true, true, false] rfl rfl (one_of HT_.out (by kernel_rfl)) (by decide) (fun K hK => ?_)
      refine box_step ?hg (N := 5) ?hd (cs := #[.slice none 0 0, .slice none 0 0]) (t := 26) ?hr ?_; (case hd => rfl); (case hg => rfl); (case hr => first | (go_simp; done) | (go_simp; rfl))
      intro gb248 hg w22 hbox hb
      have n0_ := ak (Kd.R_below (rTo HO238.out) hb)
      have n1_ := ak (Kd.R_below (rTo HO247.out) hb)
      have n2_ := ak (blk_below (g := gb230) (o := .cells #[.slice A0_0 l0_0.length c0_0, .slice A0_1 l0_1.length c0_1] 26 (0, 0)) (bTo BK230.out) hb)
      have n3_ := ak (blk_below (g := gb231) (o := .cells #[.slice A1_0 l1_0.length c1_0, .slice A1_1 l1_1.length c1_1] 26 (0, 0)) (bTo BK231.out) hb)
      have n4_ := ak (blk_below (g := gb232) (o := .cells #[.slice none 0 0, .slice none 0 0] 26 (0, 0)) (bTo BK232.out) hb)
      have n5_ := ak (below_step (by repeat (first | (with_reducible first | exact HB.out | apply below_alloc | apply pw_below_drewN | apply below_drew1 | refine below_set ?_ GE230.out | refine below_set ?_ GE231.out | refine below_set ?_ GE232.out) | exact HB.out)) hb)
      have n6_ := ak (hbox)
      have n7_ := ak ((by rw [hg]; exact (below_size (by repeat (first | (with_reducible first | exact HB.out | apply below_alloc | apply pw_below_drewN | apply below_drew1 | refine below_set ?_ GE230.out | refine below_set ?_ GE231.out | refine below_set ?_ GE232.out) | exact HB.out))) : w.heap.size ≤ gb248))
      have n8_ := ak ((by rw [hg]; exact (below_size (by repeat (first | (with_reducible first | exact HB.out | apply below_alloc | apply pw_below_drewN | apply below_drew1 | refine below_set ?_ GE230.out | refine below_set ?_ GE231.out | refine below_set ?_ GE232.out) | exact HB.out))) : w.heap.size ≤ gb248))
      have n9_ := ak ((by rw [hg]; exact Nat.ne_of_lt (blk_lt (g := gb230) (o := .cells #[.slice A0_0 l0_0.length c0_0, .slice A0_1 l0_1.length c0_1] 26 (0, 0)) (bTo BK230.out)) : gb230 ≠ gb248))
      have n10_ := ak ((by rw [hg]; exact Nat.ne_of_gt (blk_lt (g := gb230) (o := .cells #[.slice A0_0 l0_0.length c0_0, .slice A0_1 l0_1.length c0_1] 26 (0, 0)) (bTo BK230.out)) : gb248 ≠ gb230))
      have n11_ := ak ((by rw [hg]; exact Nat.ne_of_lt (blk_lt (g := gb231) (o := .cells #[.slice A1_0 l1_0.length c1_0, .slice A1_1 l1_1.length c1_1] 26 (0, 0)) (bTo BK231.out)) : gb231 ≠ gb248))
      have n12_ := ak ((by rw [hg]; exact Nat.ne_of_gt (blk_lt (g := gb231) (o := .cells #[.slice A1_0 l1_0.length c1_0, .slice A1_1 l1_1.length c1_1] 26 (0, 0)) (bTo BK231.out)) : gb248 ≠ gb231))
      have n13_ := ak ((by rw [hg]; exact Nat.ne_of_lt (blk_lt (g := gb232) (o := .cells #[.slice none 0 0, .slice none 0 0] 26 (0, 0)) (bTo BK232.out)) : gb232 ≠ gb248))
      have n14_ := ak ((by rw [hg]; exact Nat.ne_of_gt (blk_lt (g := gb232) (o := .cells #[.slice none 0 0, .slice none 0 0] 26 (0, 0)) (bTo BK232.out)) : gb248 ≠ gb232))
      clear HO238
      clear HO247
      clear BK230
      clear BK231
      clear BK232
      clear HB
      have HO238 := n0_
      have HO247 := n1_
      have BK230 := n2_
      have BK231 := n3_
      have BK232 := n4_
      have HB := n5_
      have BK248 := n6_
      have GW248 := n7_
      have GE248 := n8_
      have NB230_248 := n9_
      have NB248_230 := n10_
      have NB231_248 := n11_
      have NB248_231 := n12_
      have NB232_248 := n13_
      have NB248_232 := n14_
      clear n0_ n1_ n2_ n3_ n4_ n5_ n6_ n7_ n8_ n9_ n10_ n11_ n12_ n13_ n14_
      clear hb hbox hg
      refine hK.out _ _ ⟨(blk_cell BK230.out 0).trans rfl, (blk_cell BK230.out 1).trans rfl, (blk_cell BK231.out 0).trans rfl, (blk_cell BK231.out 1).trans rfl⟩ (fun hHeld => ?_)
      clear hK K
      refine norm_ (a' := ?_) ?_ ?_
      rotate_left
      ·show Act.put _ (some 5) _ = _
       simp only [Act.put, List.setIfInBounds_toArray, List.set_cons_zero, List.set_cons_succ, i64_w, i32_w]
       rfl
      exact norm_ (by first | (simp only [putAll, Act.put, List.setIfInBounds_toArray, List.set_cons_zero, List.set_cons_succ]; done) | (simp only [putAll, Act.put, List.setIfInBounds_toArray, List.set_cons_zero, List.set_cons_succ]; rfl)) (hJ0_3_4_7_10_12 (v234, .slice Ao21 y236.length co21, v240, v243, .slice Ao20 y245.length co20, gb248) _ ⟨hHeld, (rTo HO238.out), (rTo HO247.out), (bTo BK230.out), (bTo BK231.out), (bTo BK232.out), (bTo BK248.out), GW248.out, GE248.out, NB230_248.out, NB248_230.out, NB231_248.out, NB248_231.out, NB232_248.out, NB248_232.out, (by repeat (first | (with_reducible first | exact HB.out | apply below_alloc | apply pw_below_drewN | apply below_drew1 | refine below_set ?_ GE230.out | refine below_set ?_ GE231.out | refine below_set ?_ GE232.out | refine below_set ?_ GE248.out) | exact HB.out))⟩)
    rintro ⟨v234, v237, v240, v243, v246, gb248⟩ w20 ⟨hS_, h0_, h1_, h2_, h3_, h4_, h5_, h6_, h7_, h8_, h9_, h10_, h11_, h12_, h13_, h14_⟩
    have n0_ : Aside0 (Kd.R k37 37 w20 w.heap.size (fun _ => True) v237 y236) := ⟨h0_⟩
    have n1_ : Aside0 (Kd.R Kd.string 9 w20 w.heap.size (fun _ => True) v246 y245) := ⟨h1_⟩
    have n2_ : Aside0 (w20.heap[gb230]? = some (.cells #[.slice A0_0 l0_0.length c0_0, .slice A0_1 l0_1.length c0_1] 26 (0, 0))) := ⟨h2_⟩
    have n3_ : Aside0 (w20.heap[gb231]? = some (.cells #[.slice A1_0 l1_0.length c1_0, .slice A1_1 l1_1.length c1_1] 26 (0, 0))) := ⟨h3_⟩
    have n4_ : Aside0 (w20.heap[gb232]? = some (.cells #[.slice none 0 0, .slice none 0 0] 26 (0, 0))) := ⟨h4_⟩
    have n5_ : Aside0 (w20.heap[gb248]? = some (.cells #[.slice none 0 0, .slice none 0 0] 26 (0, 0))) := ⟨h5_⟩
    have n6_ : Aside0 (w.heap.size ≤ gb248) := ⟨h6_⟩
    have n7_ : Aside0 (w.heap.size ≤ gb248) := ⟨h7_⟩
    have n8_ : Aside0 (gb230 ≠ gb248) := ⟨h8_⟩
    have n9_ : Aside0 (gb248 ≠ gb230) := ⟨h9_⟩
    have n10_ : Aside0 (gb231 ≠ gb248) := ⟨h10_⟩
    have n11_ : Aside0 (gb248 ≠ gb231) := ⟨h11_⟩
    have n12_ : Aside0 (gb232 ≠ gb248) := ⟨h12_⟩
    have n13_ : Aside0 (gb248 ≠ gb232) := ⟨h13_⟩
    have n14_ : Aside0 (Below w.heap.size w w20) := ⟨h14_⟩
    clear BK230
    clear BK231
    clear BK232
    clear HB
    clear h0_ h1_ h2_ h3_ h4_ h5_ h6_ h7_ h8_ h9_ h10_ h11_ h12_ h13_ h14_
    have HO238 := n0_
    have HO247 := n1_
    have BK230 := n2_
    have BK231 := n3_
    have BK232 := n4_
    have BK248 := n5_
    have GW248 := n6_
    have GE248 := n7_
    have NB230_248 := n8_
    have NB248_230 := n9_
    have NB231_248 := n10_
    have NB248_231 := n11_
    have NB232_248 := n12_
    have NB248_232 := n13_
    have HB := n14_
    clear n0_ n1_ n2_ n3_ n4_ n5_ n6_ n7_ n8_ n9_ n10_ n11_ n12_ n13_ n14_
    have hHeld : w20.cell? ⟨gb230, 0, none⟩ = some (.slice A0_0 l0_0.length c0_0) ∧ w20.cell? ⟨gb230, 1, none⟩ = some (.slice A0_1 l0_1.length c0_1) ∧ w20.cell? ⟨gb231, 0, none⟩ = some (.slice A1_0 l1_0.length c1_0) ∧ w20.cell? ⟨gb231, 1, none⟩ = some (.slice A1_1 l1_1.length c1_1) := hS_
    obtain ⟨Ao21, co21, eo21⟩ := Kd.R_slice HO247.out
    (first | subst eo21 | (injection eo21 with f1_ f2_ f3_; have f4_ := f1_.symm; have f5_ := f3_.symm; clear f1_ f2_ f3_; subst f4_; subst f5_))
    obtain ⟨Ao22, co22, eo22⟩ := Kd.R_slice HO238.out
    (first | subst eo22 | (injection eo22 with f1_ f2_ f3_; have f4_ := f1_.symm; have f5_ := f3_.symm; clear f1_ f2_ f3_; subst f4_; subst f5_))
    refine norm_ (a' := ?_) ?_ ?_
    rotate_left
    ·simp only [putAll, Act.put, List.setIfInBounds_toArray, List.set_cons_zero, List.set_cons_succ]
     rfl
    refine one_ (i := 13) (N := none) #[true, true, true, true, true, true, true, true, true, true, true, true, true, true] rfl rfl (one_of HT_.out (by kernel_rfl)) (by decide) (fun K hK => ?_)
    have hs23 : w20.cell? ⟨gb248, 0, none⟩ = some (.slice none 0 0) := (blk_cell BK248.out 0).trans rfl
    have hfs23 := blk_frozen BK248.out 0
    have hns23_0 := NB230_248.out
    have hns23_1 := NB231_248.out
    have hns23_2 := NB232_248.out
    have hms23_0 := NB248_230.out
    have hms23_1 := NB248_231.out
    have hms23_2 := NB248_232.out
    have hs24 : w20.cell? ⟨gb248, 1, none⟩ = some (.slice none 0 0) := (blk_cell BK248.out 1).trans rfl
    have hfs24 := blk_frozen BK248.out 1
    have hns24_0 := NB230_248.out
    have hns24_1 := NB231_248.out
    have hns24_2 := NB232_248.out
    have hms24_0 := NB248_230.out
    have hms24_1 := NB248_231.out
    have hms24_2 := NB248_232.out
    refine skip_ (w1 := ?_) (by rfl) rfl ?_ ?_
    rotate_left
    ·go_simp
     rfl
    refine hK.out _ _ ⟨((cell_far (p := ⟨gb248, _, none⟩) NB230_248.out _).trans (((cell_far (p := ⟨gb248, _, none⟩) NB230_248.out _).trans (hHeld.1)))), ((cell_far (p := ⟨gb248, _, none⟩) NB230_248.out _).trans (((cell_far (p := ⟨gb248, _, none⟩) NB230_248.out _).trans (hHeld.2.1)))), ((cell_far (p := ⟨gb248, _, none⟩) NB231_248.out _).trans (((cell_far (p := ⟨gb248, _, none⟩) NB231_248.out _).trans (hHeld.2.2.1)))), ((cell_far (p := ⟨gb248, _, none⟩) NB231_248.out _).trans (((cell_far (p := ⟨gb248, _, none⟩) NB231_248.out _).trans (hHeld.2.2.2))))⟩ (fun hHeld => ?_)
    clear hK K
    refine done_ (done_of HT_.out (by kernel_rfl)) ?_
    try go_wp2
    go_loopg [6] k (fun kq v6 w' => ∃ (x6_1 : Int) (x249000_1 : List (S37)) (u249000 : Value), v6 = .int .i64 x6_1 ∧ Aside0 (spec_MergeReports.l0 kq x6_1 l0_0 l0_1 l1_0 l1_1 x249000_1 y245 = some (r1, r2)) ∧ Aside0 (kq ≤ k) ∧ Aside0 (Kd.R k37 37 w' w.heap.size (fun _ => True) u249000 x249000_1) ∧ Aside0 (Kd.R Kd.string 9 w' w.heap.size (fun _ => True) (.slice Ao21 y245.length co21) y245) ∧ Aside0 (w'.heap[gb230]? = some (.cells #[(.slice A0_0 l0_0.length c0_0), (.slice A0_1 l0_1.length c0_1)] 26 (0, 0))) ∧ Aside0 (w'.heap[gb231]? = some (.cells #[(.slice A1_0 l1_0.length c1_0), (.slice A1_1 l1_1.length c1_1)] 26 (0, 0))) ∧ Aside0 (w'.heap[gb232]? = some (.cells #[(.slice none 0 0), (.slice none 0 0)] 26 (0, 0))) ∧ Aside0 (w'.heap[gb248]? = some (.cells #[u249000, (.slice Ao21 y245.length co21)] 26 (0, 0))) ∧ Aside0 (Below w.heap.size w w'))
    case atStart => exact ⟨(0), (y236), (.slice Ao22 y236.length co22), (by first | rfl | (simp; done) | (simp [*]; done)), H', ⟨Nat.le_refl _⟩, ⟨by (with_reducible repeat (first | apply Kd.R_alloc | apply Kd.R_drewN | apply Kd.R_drew)); exact Kd.R_mono (Kd.R_far (p := ⟨gb248, 1, none⟩) (Kd.R_far (p := ⟨gb248, 0, none⟩) (Kd.R_types HO238.out BK248.out (by decide)) (fun _ hk => hk.2) (.slice Ao22 y236.length co22)) (fun _ hk => hk.2) (.slice Ao21 y245.length co21)) (fun _ hk => trivial)⟩, ⟨by (with_reducible repeat (first | apply Kd.R_alloc | apply Kd.R_drewN | apply Kd.R_drew)); exact Kd.R_mono (Kd.R_far (p := ⟨gb248, 1, none⟩) (Kd.R_far (p := ⟨gb248, 0, none⟩) (Kd.R_types HO247.out BK248.out (by decide)) (fun _ hk => hk.2) (.slice Ao22 y236.length co22)) (fun _ hk => hk.2) (.slice Ao21 y245.length co21)) (fun _ hk => trivial)⟩, ⟨by (with_reducible repeat (first | apply blk_drewN | apply blk_drew | apply blk_alloc)); refine blk_far ?_ NB230_248.out _; (with_reducible repeat (first | apply blk_drewN | apply blk_drew | apply blk_alloc)); refine blk_far ?_ NB230_248.out _; (with_reducible repeat (first | apply blk_drewN | apply blk_drew | apply blk_alloc)); exact BK230.out⟩, ⟨by (with_reducible repeat (first | apply blk_drewN | apply blk_drew | apply blk_alloc)); refine blk_far ?_ NB231_248.out _; (with_reducible repeat (first | apply blk_drewN | apply blk_drew | apply blk_alloc)); refine blk_far ?_ NB231_248.out _; (with_reducible repeat (first | apply blk_drewN | apply blk_drew | apply blk_alloc)); exact BK231.out⟩, ⟨by (with_reducible repeat (first | apply blk_drewN | apply blk_drew | apply blk_alloc)); refine blk_far ?_ NB232_248.out _; (with_reducible repeat (first | apply blk_drewN | apply blk_drew | apply blk_alloc)); refine blk_far ?_ NB232_248.out _; (with_reducible repeat (first | apply blk_drewN | apply blk_drew | apply blk_alloc)); exact BK232.out⟩, ⟨by (with_reducible repeat (first | apply blk_drewN | apply blk_drew | apply blk_alloc)); refine blk_put (cs := #[.slice Ao22 y236.length co22, .slice none 0 0]) ?_ 1 _ rfl; (with_reducible repeat (first | apply blk_drewN | apply blk_drew | apply blk_alloc)); refine blk_put (cs := #[.slice none 0 0, .slice none 0 0]) ?_ 0 _ rfl; (with_reducible repeat (first | apply blk_drewN | apply blk_drew | apply blk_alloc)); exact BK248.out⟩, ⟨by repeat (first | (with_reducible first | exact HB.out | apply below_alloc | apply pw_below_drewN | apply below_drew1 | refine below_set ?_ GE230.out | refine below_set ?_ GE231.out | refine below_set ?_ GE232.out | refine below_set ?_ GE248.out) | exact HB.out)⟩⟩
    case round =>
     clear H'
     try clear c1
     try clear p2
     try clear c4
     try clear c5
     obtain ⟨x6_1, x249000_1, u249000, rfl, HA, HK1, HO_249000, HO_249001, BK230, BK231, BK232, BK248, HB⟩ := hrel
     cases gk with
     | zero => exact absurd HA.out (by simp [spec_MergeReports.l0])
     | succ k1 =>
      have H := HA.out
      clear HA
      simp only [spec_MergeReports.l0] at H
      by_cases c25 : x6_1 < (x249000_1.length : Int)
      ·rw [if_pos c25] at H
       have c25b0 : decide (x6_1 < (x249000_1.length : Int)) = true := decide_eq_true c25
       clear c25
       by_cases c26 : 0 ≤ x6_1
       ·rw [if_pos c26] at H
        have c26b0 : decide (0 ≤ x6_1) = true := decide_eq_true c26
        clear c26
        replace H := Option.bind_eq_some_iff.mp H
        obtain ⟨t250, A270, H⟩ := H
        replace H : (if t250 ≥ 0 then (spec_MergeReports.l0 k1 (wrap64 (x6_1 + 1)) l0_0 l0_1 l1_0 l1_1 (x249000_1.set (x6_1 : Int).toNat (⟨(rd_T37 x249000_1 x6_1).f0, t250⟩ : S37)) y245) else (spec_MergeReports.l0 k1 (wrap64 (x6_1 + 1)) l0_0 l0_1 l1_0 l1_1 x249000_1 y245)) = some (r1, r2) := H
        have A27 := ak A270
        clear A270
        by_cases c28 : t250 ≥ 0
        ·rw [if_pos c28] at H
         have c28b0 : decide (0 ≤ t250) = true := decide_eq_true c28
         clear c28
         obtain ⟨y251, hy251⟩ : ∃ y_ : List (S37), y_ = (x249000_1.set (x6_1 : Int).toNat (⟨(rd_T37 x249000_1 x6_1).f0, t250⟩ : S37)) := ⟨_, rfl⟩
         replace H : (spec_MergeReports.l0 k1 (wrap64 (x6_1 + 1)) l0_0 l0_1 l1_0 l1_1 y251 y245) = some (r1, r2) := by first | (rw [hy251]; with_reducible exact H) | (have H2_ := (Option.bind_some _ _).symm.trans H; rw [hy251]; with_reducible exact H2_) | (have H2_ := (Option.bind_some _ _).symm.trans H; with_reducible exact H2_) | with_reducible exact H | (rw [hy251]; exact H) | exact H
         have Ny251 := ak hy251
         clear hy251
         have H' := ak H
         clear H
         have hnb30 := NB248_230.out
         have hnc30 := NB230_248.out
         have hnb31 := NB248_231.out
         have hnc31 := NB231_248.out
         have hnb32 := NB248_232.out
         have hnc32 := NB232_248.out
         have hcz33_0 : wr.cell? ⟨gb248, 0, none⟩ = some (u249000) := (blk_cell BK248.out 0).trans rfl
         have hcz33_1 : wr.cell? ⟨gb248, 1, none⟩ = some (.slice Ao21 y245.length co21) := (blk_cell BK248.out 1).trans rfl
         have hfz33_0 := blk_frozen BK248.out 0
         have hfz33_1 := blk_frozen BK248.out 1
         obtain ⟨Ao34, co34, eo34⟩ := Kd.R_slice HO_249000.out
         subst eo34
         try go_wp2
         have n0_ := ak (Kd.R_drew HO_249000.out)
         have n1_ := ak (Kd.R_drew HO_249001.out)
         have n2_ := ak (blk_drew BK230.out)
         have n3_ := ak (blk_drew BK231.out)
         have n4_ := ak (blk_drew BK232.out)
         have n5_ := ak (blk_drew BK248.out)
         have n6_ := ak (below_drew1 HB.out)
         clear HO_249000
         clear HO_249001
         clear BK230
         clear BK231
         clear BK232
         clear BK248
         clear HB
         have HO_249000 := n0_
         have HO_249001 := n1_
         have BK230 := n2_
         have BK231 := n3_
         have BK232 := n4_
         have BK248 := n5_
         have HB := n6_
         clear n0_ n1_ n2_ n3_ n4_ n5_ n6_
         have p249 : 0 ≤ (x6_1 : Int) := of_decide_eq_true (by first | (with_reducible assumption) | assumption)
         have q249 : x6_1 < (x249000_1.length : Int) := of_decide_eq_true (by first | (with_reducible assumption) | assumption)
         obtain ⟨ad249, e249, hx249_0, hx249_1⟩ := at_T37 (Kd.R_reads' HO_249000.out).2.2 x6_1 p249 q249
         cases e249
         replace p249 := eq_true p249
         replace q249 := eq_true q249
         refine start_ (n := 10) (S := fun w' => w'.cell? ⟨gb231, 0, none⟩ = some (.slice A1_0 l1_0.length c1_0) ∧ w'.cell? ⟨gb231, 1, none⟩ = some (.slice A1_1 l1_1.length c1_1) ∧ w'.cell? ⟨gb248, 0, none⟩ = some (.slice (some ad249) x249000_1.length co34) ∧ w'.cell? ⟨gb248, 1, none⟩ = some (.slice Ao21 y245.length co21) ∧ w'.cell? (ad249.add ((x6_1).toNat * 2)) = some (.string ((rd_T37 x249000_1 x6_1).f0)) ∧ w'.cell? ⟨(ad249.add ((x6_1).toNat * 2)).block, (ad249.add ((x6_1).toNat * 2)).off + 1, none⟩ = some (.int .i64 ((rd_T37 x249000_1 x6_1).f1))) (ds := []) #[false, false, false, false, false, false, false, false, false, false] (by kernel_rfl) rfl rfl ⟨(blk_cell BK231.out 0).trans rfl, (blk_cell BK231.out 1).trans rfl, (blk_cell BK248.out 0).trans rfl, (blk_cell BK248.out 1).trans rfl, hx249_0, hx249_1⟩ (fun hHeld => ?_); refine with_tabW spec_MergeReports.tab5 spec_MergeReports.bits5 (fun HT_ HW_ => ?_)
         generalize wr.drew = w35 at HO_249000 HO_249001 BK230 BK231 BK232 BK248 HB hx249_0 hx249_1 hHeld ⊢
         refine pure_ (i := 0) (N := some 28) (v := ?_) (a' := ?_) #[true, false, false, false, false, false, false, false, false, false] rfl rfl (any_of HT_.out (by kernel_rfl)) (fun _ _ _ h => h) (Or.inl ⟨by rfl, ?_⟩) ?_ ?_
         rotate_left
         ·intro w'
          go_simp
          with_reducible rfl
         rotate_left
         ·simp only [Act.put, List.setIfInBounds_toArray, List.set_cons_zero, List.set_cons_succ, i64_w, i32_w]
          rfl
         refine pure_ (i := 2) (N := some 30) (v := ?_) (a' := ?_) #[true, false, true, false, false, false, false, false, false, false] rfl rfl (any_of HT_.out (by kernel_rfl)) (fun _ _ _ h => h) (Or.inl ⟨by rfl, ?_⟩) ?_ ?_
         rotate_left
         ·intro w'
          go_simp
          with_reducible rfl
         rotate_left
         ·simp only [Act.put, List.setIfInBounds_toArray, List.set_cons_zero, List.set_cons_succ, i64_w, i32_w]
          rfl
         refine pure_ (i := 4) (N := some 32) (v := ?_) (a' := ?_) #[true, false, true, false, true, false, false, false, false, false] rfl rfl (any_of HT_.out (by kernel_rfl)) (fun _ _ _ h => h) (Or.inl ⟨by rfl, ?_⟩) ?_ ?_
         rotate_left
         ·intro w'
          go_simp
          with_reducible rfl
         rotate_left
         ·simp only [Act.put, List.setIfInBounds_toArray, List.set_cons_zero, List.set_cons_succ, i64_w, i32_w]
          rfl
         refine take_ (i := 1) (N := some 29) (v := ?_) (a' := ?_) #[true, true, true, false, true, false, false, false, false, false] rfl rfl (take_ofW HT_.out HW_.out (by kernel_rfl)) (fun _ _ _ h => h) (Or.inl ⟨by rfl, ?_⟩) hHeld ?_ ?_
         rotate_left
         ·rintro w' ⟨s0, s1, s2, s3, s4, s5⟩
          go_simp
          with_reducible rfl
         rotate_left
         ·simp only [Act.put, List.setIfInBounds_toArray, List.set_cons_zero, List.set_cons_succ, i64_w, i32_w]
          rfl
         refine take_ (i := 3) (N := some 31) (v := ?_) (a' := ?_) #[true, true, true, true, true, false, false, false, false, false] rfl rfl (take_ofW HT_.out HW_.out (by kernel_rfl)) (fun _ _ _ h => h) (Or.inl ⟨by rfl, ?_⟩) hHeld ?_ ?_
         rotate_left
         ·rintro w' ⟨s0, s1, s2, s3, s4, s5⟩
          go_simp
          with_reducible rfl
         rotate_left
         ·simp only [Act.put, List.setIfInBounds_toArray, List.set_cons_zero, List.set_cons_succ, i64_w, i32_w]
          rfl
         refine pure_ (i := 5) (N := some 33) (v := ?_) (a' := ?_) #[true, true, true, true, true, true, false, false, false, false] rfl rfl (any_of HT_.out (by kernel_rfl)) (fun _ _ _ h => h) (Or.inl ⟨by rfl, ?_⟩) ?_ ?_
         rotate_left
         ·intro w'
          go_simp
          with_reducible rfl
         rotate_left
         ·simp only [Act.put, List.setIfInBounds_toArray, List.set_cons_zero, List.set_cons_succ, i64_w, i32_w]
          rfl
         refine pure_ (i := 6) (N := some 34) (v := ?_) (a' := ?_) #[true, true, true, true, true, true, true, false, false, false] rfl rfl (any_of HT_.out (by kernel_rfl)) (fun _ _ _ h => h) (Or.inl ⟨by rfl, ?_⟩) ?_ ?_
         rotate_left
         ·intro w'
          go_simp
          with_reducible rfl
         rotate_left
         ·simp only [Act.put, List.setIfInBounds_toArray, List.set_cons_zero, List.set_cons_succ, i64_w, i32_w]
          rfl
         refine take_ (i := 7) (N := some 35) (v := ?_) (a' := ?_) #[true, true, true, true, true, true, true, true, false, false] rfl rfl (take_ofW HT_.out HW_.out (by kernel_rfl)) (fun _ _ _ h => h) (Or.inl ⟨by rfl, ?_⟩) hHeld ?_ ?_
         rotate_left
         ·rintro w' ⟨s0, s1, s2, s3, s4, s5⟩
          go_simp
          with_reducible rfl
         rotate_left
         ·simp only [Act.put, List.setIfInBounds_toArray, List.set_cons_zero, List.set_cons_succ, i64_w, i32_w]
          rfl
         refine one_ (i := 8) (N := some 36) #[true, true, true, true, true, true, true, true, true, false] rfl rfl (one_of HT_.out (by kernel_rfl)) (by decide) (fun K hK => ?_)
         refine goes_ Try.func49 (by kernel_rfl) rfl #[.slice A1_0 l1_0.length c1_0, .string ((rd_T37 x249000_1 x6_1).f0)] (by rfl) rfl rfl (by (try simp only [List.map_toArray, List.map_cons, List.map_nil]); first | done | rfl | (simp only [List.length_drop, List.length_take]; rfl)) ?_
         with_reducible refine (spec_outcomeOf.calls k1 _ _ l1_0 ((rd_T37 x249000_1 x6_1).f0) t250 _ ?side1 ?side2 A27.out).mono ?_
         (case side1 => repeat (first | exact (Kd.C_below HR1_0.out HB.out) | (with_reducible refine Kd.C_alloc ?_ _) | (with_reducible refine Kd.C_drewN ?_ _) | (with_reducible refine Kd.C_drew ?_)))
         (case side2 => exact HC1_0.out)
         rintro e w' ⟨rfl, ⟨nd, rfl⟩⟩
         refine ⟨_, rfl, ?_⟩
         refine hK.out _ _ ⟨(blk_cell BK231.out 0).trans rfl, (blk_cell BK231.out 1).trans rfl, (blk_cell BK248.out 0).trans rfl, (blk_cell BK248.out 1).trans rfl, hHeld.2.2.2.2.1, hHeld.2.2.2.2.2⟩ (fun hHeld => ?_)
         clear hK K
         refine norm_ (a' := ?_) ?_ ?_
         rotate_left
         ·show Act.put _ (some 36) _ = _
          simp only [Act.put, List.setIfInBounds_toArray, List.set_cons_zero, List.set_cons_succ, i64_w, i32_w]
          rfl
         refine pure_ (i := 9) (N := some 7) (v := ?_) (a' := ?_) #[true, true, true, true, true, true, true, true, true, true] rfl rfl (any_of HT_.out (by kernel_rfl)) (fun _ _ _ h => h) (Or.inl ⟨by rfl, ?_⟩) ?_ ?_
         rotate_left
         ·intro w'
          go_simp
          with_reducible rfl
         rotate_left
         ·simp only [Act.put, List.setIfInBounds_toArray, List.set_cons_zero, List.set_cons_succ, i64_w, i32_w]
          rfl
         refine done_ (done_of HT_.out (by kernel_rfl)) ?_
         have n0_ := ak (Kd.R_drewN HO_249000.out nd)
         have n1_ := ak (Kd.R_drewN HO_249001.out nd)
         have n2_ := ak (blk_drewN BK230.out nd)
         have n3_ := ak (blk_drewN BK231.out nd)
         have n4_ := ak (blk_drewN BK232.out nd)
         have n5_ := ak (blk_drewN BK248.out nd)
         have n6_ := ak (pw_below_drewN HB.out nd)
         clear HO_249000 HO_249001 BK230 BK231 BK232 BK248 HB
         generalize World.drewN w35 nd = w35 at n0_ n1_ n2_ n3_ n4_ n5_ n6_ ⊢
         have HO_249000 := n0_
         have HO_249001 := n1_
         have BK230 := n2_
         have BK231 := n3_
         have BK232 := n4_
         have BK248 := n5_
         have HB := n6_
         clear n0_ n1_ n2_ n3_ n4_ n5_ n6_
         have hcz36_0 : w35.cell? ⟨gb248, 0, none⟩ = some (.slice (some ad249) x249000_1.length co34) := (blk_cell BK248.out 0).trans rfl
         have hcz36_1 : w35.cell? ⟨gb248, 1, none⟩ = some (.slice Ao21 y245.length co21) := (blk_cell BK248.out 1).trans rfl
         have hfz36_0 := blk_frozen BK248.out 0
         have hfz36_1 := blk_frozen BK248.out 1
         have p29 : 0 ≤ (x6_1 : Int) := of_decide_eq_true (by first | (with_reducible assumption) | assumption)
         have q29 : (x6_1 : Int) < ((x249000_1.length : Int) : Int) := of_decide_eq_true (by first | (with_reducible assumption) | assumption)
         obtain ⟨go29, co29, eo29, gb29, gl29, cl29, HG29⟩ := Kd.R_form HO_249000.out (by omega)
         (first | cases eo29 | (injection eo29 with ea_ en_ ec_; (first | subst ea_ | (injection ea_ with ea_; subst ea_)); subst ec_; clear en_))
         have GB29 := ak gb29
         have GG29 := ak HG29
         clear gb29 gl29 HG29
         (first | simp only [add_plain] at hx249_0 | skip)
         (first | simp only [add_plain] at hx249_1 | skip)
         obtain ⟨ce29, hcl29, hM29, hcc29, hfr29⟩ := Kd.R_elem HO_249000.out z37 (x6_1 : Int) p29 q29
         obtain rfl := k37_openM hM29
         have hx29_0 : w35.cell? ⟨go29, (x6_1 : Int).toNat * 2, none⟩ = some (.string ((rd_T37 x249000_1 x6_1).f0)) := hcc29 0 _ rfl
         have hx29_1 : w35.cell? ⟨go29, (x6_1 : Int).toNat * 2 + 1, none⟩ = some (.int .i64 ((rd_T37 x249000_1 x6_1).f1)) := hcc29 1 _ rfl
         have hf29_0 : w35.frozen? ⟨go29, (x6_1 : Int).toNat * 2, none⟩ = false := hfr29 0
         have hf29_1 : w35.frozen? ⟨go29, (x6_1 : Int).toNat * 2 + 1, none⟩ = false := hfr29 1
         clear hcl29 hcc29 hfr29 hM29
         replace p29 := eq_true p29
         replace q29 := eq_true q29
         have HX37 := ak (show Kd.R k37 37 w35 w.heap.size (fun _ => True) (.slice (some ⟨go29, 0, none⟩) x249000_1.length co34) x249000_1 from (rTo HO_249000.out))
         obtain ⟨ce37, hcl37, hM37, hcc37, hfr37⟩ := Kd.R_elem HX37.out z37 (x6_1 : Int) (of_decide_eq_true (by first | (with_reducible assumption) | assumption)) (by have h_ : (x6_1 : Int) < ((x249000_1.length : Int) : Int) := of_decide_eq_true (by first | (with_reducible assumption) | assumption); first | exact h_ | (have e_ := (Kd.R_reads' HO_249000.out).1; omega) | simpa using h_)
         obtain rfl := k37_openM hM37
         have HP37 := Kd.R_seg HX37.out (x6_1 : Int) (of_decide_eq_true (by first | (with_reducible assumption) | assumption)) (by have h_ : (x6_1 : Int) < ((x249000_1.length : Int) : Int) := of_decide_eq_true (by first | (with_reducible assumption) | assumption); first | exact h_ | (have e_ := (Kd.R_reads' HO_249000.out).1; omega) | simpa using h_) (seg := [.int .i64 t250]) (j := 1) hcl37 hcc37 (show 2 ≤ 2 from by decide) (x' := (⟨(rd_T37 x249000_1 x6_1).f0, t250⟩ : S37)) (k37_mkM _ _ _ (⟨(rd_T37 x249000_1 x6_1).f0, t250⟩ : S37) ) (fun _ hk => hk)
         have hx37_1 := hcc37 1 _ rfl
         (try simp only [show (k37).sz = 2 from rfl, Nat.mul_one, Nat.add_zero] at hx37_1)
         have hf37_1 := hfr37 1
         (try simp only [show (k37).sz = 2 from rfl, Nat.mul_one, Nat.add_zero] at hf37_1)
         clear hcl37 hcc37 hfr37 hM37
         try go_wp2_with (first | ((with_reducible refine gate_store (t := 3) (p := 44) rfl ?_); refine store_event (t := 3) (p := 44) (v := ?vo_w38) (w1 := (w35.setCell ⟨go29, (x6_1 : Int).toNat * 2 + 1, none⟩ (.int .i64 t250))) ?hg ?ho ?hn ?hr ?_; (case ho => rfl); (case hg => rfl); (case hn => rfl); (case hr => first | (go_simp; done) | (go_simp; rfl)); intro w38 hw; have hg : w35.grownBy w38 (some go29) := (by rw [hw]; exact HP37.2); have hp_ : Kd.R k37 37 w38 w.heap.size (fun _ => True) (.slice (some ⟨go29, 0, none⟩) x249000_1.length co34) y251 := (by rw [hw, Ny251.out]; exact HP37.1); clear HP37; have n0_ := ak (hp_); have n1_ := ak (Kd.R_over' (v := (.slice (some ⟨go29, 0, none⟩) x249000_1.length co34)) (rTo HO_249001.out) (Kd.R_typed HO_249000.out) (by decide) hg); have n2_ := ak (blk_grown (g := gb230) (o := .cells #[.slice A0_0 l0_0.length c0_0, .slice A0_1 l0_1.length c0_1] 26 (0, 0)) (bTo BK230.out) hg (Kd.R_ne HO_249000.out BK230.out (by decide))); have n3_ := ak (blk_grown (g := gb231) (o := .cells #[.slice A1_0 l1_0.length c1_0, .slice A1_1 l1_1.length c1_1] 26 (0, 0)) (bTo BK231.out) hg (Kd.R_ne HO_249000.out BK231.out (by decide))); have n4_ := ak (blk_grown (g := gb232) (o := .cells #[.slice none 0 0, .slice none 0 0] 26 (0, 0)) (bTo BK232.out) hg (Kd.R_ne HO_249000.out BK232.out (by decide))); have n5_ := ak (blk_grown (g := gb248) (o := .cells #[.slice (some ⟨go29, 0, none⟩) x249000_1.length co34, .slice Ao21 y245.length co21] 26 (0, 0)) (bTo BK248.out) hg (Kd.R_ne HO_249000.out BK248.out (by decide))); have n6_ := ak ((by rw [hw]; exact below_set (HB.out) GB29.out : Below w.heap.size w w38)); clear HO_249000; clear HO_249001; clear BK230; clear BK231; clear BK232; clear BK248; clear HB; have HO_249000 := n0_; have HO_249001 := n1_; have BK230 := n2_; have BK231 := n3_; have BK232 := n4_; have BK248 := n5_; have HB := n6_; clear n0_ n1_ n2_ n3_ n4_ n5_ n6_; clear hg hw hp_))
         go_roundg k1
         case measure => have := HK1.out; omega
         case rel => exact ⟨(wrap64 (x6_1 + 1)), (y251), (.slice (some ⟨go29, 0, none⟩) x249000_1.length co34), (by first | rfl | (simp; done) | (simp [*]; done)), H', ⟨by have := HK1.out; omega⟩, ⟨by (with_reducible repeat (first | apply Kd.R_alloc | apply Kd.R_drewN | apply Kd.R_drew)); exact HO_249000.out⟩, ⟨by (with_reducible repeat (first | apply Kd.R_alloc | apply Kd.R_drewN | apply Kd.R_drew)); exact HO_249001.out⟩, ⟨by (with_reducible repeat (first | apply blk_drewN | apply blk_drew | apply blk_alloc)); exact BK230.out⟩, ⟨by (with_reducible repeat (first | apply blk_drewN | apply blk_drew | apply blk_alloc)); exact BK231.out⟩, ⟨by (with_reducible repeat (first | apply blk_drewN | apply blk_drew | apply blk_alloc)); exact BK232.out⟩, ⟨by (with_reducible repeat (first | apply blk_drewN | apply blk_drew | apply blk_alloc)); exact BK248.out⟩, ⟨by repeat (first | (with_reducible first | exact HB.out | apply below_alloc | apply pw_below_drewN | apply below_drew1 | refine below_set ?_ GE230.out | refine below_set ?_ GE231.out | refine below_set ?_ GE232.out | refine below_set ?_ GE248.out) | exact HB.out)⟩⟩
        ·rw [if_neg c28] at H
         have c28b0 : decide (0 ≤ t250) = false := decide_eq_false c28
         clear c28
         have H' := ak H
         clear H
         have hnb39 := NB248_230.out
         have hnc39 := NB230_248.out
         have hnb40 := NB248_231.out
         have hnc40 := NB231_248.out
         have hnb41 := NB248_232.out
         have hnc41 := NB232_248.out
         have hcz42_0 : wr.cell? ⟨gb248, 0, none⟩ = some (u249000) := (blk_cell BK248.out 0).trans rfl
         have hcz42_1 : wr.cell? ⟨gb248, 1, none⟩ = some (.slice Ao21 y245.length co21) := (blk_cell BK248.out 1).trans rfl
         have hfz42_0 := blk_frozen BK248.out 0
         have hfz42_1 := blk_frozen BK248.out 1
         obtain ⟨Ao43, co43, eo43⟩ := Kd.R_slice HO_249000.out
         subst eo43
         try go_wp2
         have n0_ := ak (Kd.R_drew HO_249000.out)
         have n1_ := ak (Kd.R_drew HO_249001.out)
         have n2_ := ak (blk_drew BK230.out)
         have n3_ := ak (blk_drew BK231.out)
         have n4_ := ak (blk_drew BK232.out)
         have n5_ := ak (blk_drew BK248.out)
         have n6_ := ak (below_drew1 HB.out)
         clear HO_249000
         clear HO_249001
         clear BK230
         clear BK231
         clear BK232
         clear BK248
         clear HB
         have HO_249000 := n0_
         have HO_249001 := n1_
         have BK230 := n2_
         have BK231 := n3_
         have BK232 := n4_
         have BK248 := n5_
         have HB := n6_
         clear n0_ n1_ n2_ n3_ n4_ n5_ n6_
         have p249 : 0 ≤ (x6_1 : Int) := of_decide_eq_true (by first | (with_reducible assumption) | assumption)
         have q249 : x6_1 < (x249000_1.length : Int) := of_decide_eq_true (by first | (with_reducible assumption) | assumption)
         obtain ⟨ad249, e249, hx249_0, hx249_1⟩ := at_T37 (Kd.R_reads' HO_249000.out).2.2 x6_1 p249 q249
         cases e249
         replace p249 := eq_true p249
         replace q249 := eq_true q249
         refine start_ (n := 10) (S := fun w' => w'.cell? ⟨gb231, 0, none⟩ = some (.slice A1_0 l1_0.length c1_0) ∧ w'.cell? ⟨gb231, 1, none⟩ = some (.slice A1_1 l1_1.length c1_1) ∧ w'.cell? ⟨gb248, 0, none⟩ = some (.slice (some ad249) x249000_1.length co43) ∧ w'.cell? ⟨gb248, 1, none⟩ = some (.slice Ao21 y245.length co21) ∧ w'.cell? (ad249.add ((x6_1).toNat * 2)) = some (.string ((rd_T37 x249000_1 x6_1).f0)) ∧ w'.cell? ⟨(ad249.add ((x6_1).toNat * 2)).block, (ad249.add ((x6_1).toNat * 2)).off + 1, none⟩ = some (.int .i64 ((rd_T37 x249000_1 x6_1).f1))) (ds := []) #[false, false, false, false, false, false, false, false, false, false] (by kernel_rfl) rfl rfl ⟨(blk_cell BK231.out 0).trans rfl, (blk_cell BK231.out 1).trans rfl, (blk_cell BK248.out 0).trans rfl, (blk_cell BK248.out 1).trans rfl, hx249_0, hx249_1⟩ (fun hHeld => ?_); refine with_tabW spec_MergeReports.tab5 spec_MergeReports.bits5 (fun HT_ HW_ => ?_)
         generalize wr.drew = w44 at HO_249000 HO_249001 BK230 BK231 BK232 BK248 HB hx249_0 hx249_1 hHeld ⊢
         refine pure_ (i := 0) (N := some 28) (v := ?_) (a' := ?_) #[true, false, false, false, false, false, false, false, false, false] rfl rfl (any_of HT_.out (by kernel_rfl)) (fun _ _ _ h => h) (Or.inl ⟨by rfl, ?_⟩) ?_ ?_
         rotate_left
         ·intro w'
          go_simp
          with_reducible rfl
         rotate_left
         ·simp only [Act.put, List.setIfInBounds_toArray, List.set_cons_zero, List.set_cons_succ, i64_w, i32_w]
          rfl
         refine pure_ (i := 2) (N := some 30) (v := ?_) (a' := ?_) #[true, false, true, false, false, false, false, false, false, false] rfl rfl (any_of HT_.out (by kernel_rfl)) (fun _ _ _ h => h) (Or.inl ⟨by rfl, ?_⟩) ?_ ?_
         rotate_left
         ·intro w'
          go_simp
          with_reducible rfl
         rotate_left
         ·simp only [Act.put, List.setIfInBounds_toArray, List.set_cons_zero, List.set_cons_succ, i64_w, i32_w]
          rfl
         refine pure_ (i := 4) (N := some 32) (v := ?_) (a' := ?_) #[true, false, true, false, true, false, false, false, false, false] rfl rfl (any_of HT_.out (by kernel_rfl)) (fun _ _ _ h => h) (Or.inl ⟨by rfl, ?_⟩) ?_ ?_
         rotate_left
         ·intro w'
          go_simp
          with_reducible rfl
         rotate_left
         ·simp only [Act.put, List.setIfInBounds_toArray, List.set_cons_zero, List.set_cons_succ, i64_w, i32_w]
          rfl
         refine take_ (i := 1) (N := some 29) (v := ?_) (a' := ?_) #[true, true, true, false, true, false, false, false, false, false] rfl rfl (take_ofW HT_.out HW_.out (by kernel_rfl)) (fun _ _ _ h => h) (Or.inl ⟨by rfl, ?_⟩) hHeld ?_ ?_
         rotate_left
         ·rintro w' ⟨s0, s1, s2, s3, s4, s5⟩
          go_simp
          with_reducible rfl
         rotate_left
         ·simp only [Act.put, List.setIfInBounds_toArray, List.set_cons_zero, List.set_cons_succ, i64_w, i32_w]
          rfl
         refine take_ (i := 3) (N := some 31) (v := ?_) (a' := ?_) #[true, true, true, true, true, false, false, false, false, false] rfl rfl (take_ofW HT_.out HW_.out (by kernel_rfl)) (fun _ _ _ h => h) (Or.inl ⟨by rfl, ?_⟩) hHeld ?_ ?_
         rotate_left
         ·rintro w' ⟨s0, s1, s2, s3, s4, s5⟩
          go_simp
          with_reducible rfl
         rotate_left
         ·simp only [Act.put, List.setIfInBounds_toArray, List.set_cons_zero, List.set_cons_succ, i64_w, i32_w]
          rfl
         refine pure_ (i := 5) (N := some 33) (v := ?_) (a' := ?_) #[true, true, true, true, true, true, false, false, false, false] rfl rfl (any_of HT_.out (by kernel_rfl)) (fun _ _ _ h => h) (Or.inl ⟨by rfl, ?_⟩) ?_ ?_
         rotate_left
         ·intro w'
          go_simp
          with_reducible rfl
         rotate_left
         ·simp only [Act.put, List.setIfInBounds_toArray, List.set_cons_zero, List.set_cons_succ, i64_w, i32_w]
          rfl
         refine pure_ (i := 6) (N := some 34) (v := ?_) (a' := ?_) #[true, true, true, true, true, true, true, false, false, false] rfl rfl (any_of HT_.out (by kernel_rfl)) (fun _ _ _ h => h) (Or.inl ⟨by rfl, ?_⟩) ?_ ?_
         rotate_left
         ·intro w'
          go_simp
          with_reducible rfl
         rotate_left
         ·simp only [Act.put, List.setIfInBounds_toArray, List.set_cons_zero, List.set_cons_succ, i64_w, i32_w]
          rfl
         refine take_ (i := 7) (N := some 35) (v := ?_) (a' := ?_) #[true, true, true, true, true, true, true, true, false, false] rfl rfl (take_ofW HT_.out HW_.out (by kernel_rfl)) (fun _ _ _ h => h) (Or.inl ⟨by rfl, ?_⟩) hHeld ?_ ?_
         rotate_left
         ·rintro w' ⟨s0, s1, s2, s3, s4, s5⟩
          go_simp
          with_reducible rfl
         rotate_left
         ·simp only [Act.put, List.setIfInBounds_toArray, List.set_cons_zero, List.set_cons_succ, i64_w, i32_w]
          rfl
         refine one_ (i := 8) (N := some 36) #[true, true, true, true, true, true, true, true, true, false] rfl rfl (one_of HT_.out (by kernel_rfl)) (by decide) (fun K hK => ?_)
         refine goes_ Try.func49 (by kernel_rfl) rfl #[.slice A1_0 l1_0.length c1_0, .string ((rd_T37 x249000_1 x6_1).f0)] (by rfl) rfl rfl (by (try simp only [List.map_toArray, List.map_cons, List.map_nil]); first | done | rfl | (simp only [List.length_drop, List.length_take]; rfl)) ?_
         with_reducible refine (spec_outcomeOf.calls k1 _ _ l1_0 ((rd_T37 x249000_1 x6_1).f0) t250 _ ?side1 ?side2 A27.out).mono ?_
         (case side1 => repeat (first | exact (Kd.C_below HR1_0.out HB.out) | (with_reducible refine Kd.C_alloc ?_ _) | (with_reducible refine Kd.C_drewN ?_ _) | (with_reducible refine Kd.C_drew ?_)))
         (case side2 => exact HC1_0.out)
         rintro e w' ⟨rfl, ⟨nd, rfl⟩⟩
         refine ⟨_, rfl, ?_⟩
         refine hK.out _ _ ⟨(blk_cell BK231.out 0).trans rfl, (blk_cell BK231.out 1).trans rfl, (blk_cell BK248.out 0).trans rfl, (blk_cell BK248.out 1).trans rfl, hHeld.2.2.2.2.1, hHeld.2.2.2.2.2⟩ (fun hHeld => ?_)
         clear hK K
         refine norm_ (a' := ?_) ?_ ?_
         rotate_left
         ·show Act.put _ (some 36) _ = _
          simp only [Act.put, List.setIfInBounds_toArray, List.set_cons_zero, List.set_cons_succ, i64_w, i32_w]
          rfl
         refine pure_ (i := 9) (N := some 7) (v := ?_) (a' := ?_) #[true, true, true, true, true, true, true, true, true, true] rfl rfl (any_of HT_.out (by kernel_rfl)) (fun _ _ _ h => h) (Or.inl ⟨by rfl, ?_⟩) ?_ ?_
         rotate_left
         ·intro w'
          go_simp
          with_reducible rfl
         rotate_left
         ·simp only [Act.put, List.setIfInBounds_toArray, List.set_cons_zero, List.set_cons_succ, i64_w, i32_w]
          rfl
         refine done_ (done_of HT_.out (by kernel_rfl)) ?_
         try go_wp2
         go_roundg k1
         case measure => have := HK1.out; omega
         case rel => exact ⟨(wrap64 (x6_1 + 1)), (x249000_1), (.slice (some ad249) x249000_1.length co43), (by first | rfl | (simp; done) | (simp [*]; done)), H', ⟨by have := HK1.out; omega⟩, ⟨by (with_reducible repeat (first | apply Kd.R_alloc | apply Kd.R_drewN | apply Kd.R_drew)); exact HO_249000.out⟩, ⟨by (with_reducible repeat (first | apply Kd.R_alloc | apply Kd.R_drewN | apply Kd.R_drew)); exact HO_249001.out⟩, ⟨by (with_reducible repeat (first | apply blk_drewN | apply blk_drew | apply blk_alloc)); exact BK230.out⟩, ⟨by (with_reducible repeat (first | apply blk_drewN | apply blk_drew | apply blk_alloc)); exact BK231.out⟩, ⟨by (with_reducible repeat (first | apply blk_drewN | apply blk_drew | apply blk_alloc)); exact BK232.out⟩, ⟨by (with_reducible repeat (first | apply blk_drewN | apply blk_drew | apply blk_alloc)); exact BK248.out⟩, ⟨by repeat (first | (with_reducible first | exact HB.out | apply below_alloc | apply pw_below_drewN | apply below_drew1 | refine below_set ?_ GE230.out | refine below_set ?_ GE231.out | refine below_set ?_ GE232.out | refine below_set ?_ GE248.out) | exact HB.out)⟩⟩
       ·rw [if_neg c26] at H
        exact absurd H (by simp)
      ·rw [if_neg c25] at H
       have c25b0 : decide (x6_1 < (x249000_1.length : Int)) = false := decide_eq_false c25
       clear c25
       have H' := ak H
       clear H
       have hnb45 := NB248_230.out
       have hnc45 := NB230_248.out
       have hnb46 := NB248_231.out
       have hnc46 := NB231_248.out
       have hnb47 := NB248_232.out
       have hnc47 := NB232_248.out
       have hcz48_0 : wr.cell? ⟨gb248, 0, none⟩ = some (u249000) := (blk_cell BK248.out 0).trans rfl
       have hcz48_1 : wr.cell? ⟨gb248, 1, none⟩ = some (.slice Ao21 y245.length co21) := (blk_cell BK248.out 1).trans rfl
       have hfz48_0 := blk_frozen BK248.out 0
       have hfz48_1 := blk_frozen BK248.out 1
       obtain ⟨Ao49, co49, eo49⟩ := Kd.R_slice HO_249000.out
       subst eo49
       go_wp2
       go_loopg [8] k1 (fun kq v8 w' => ∃ (x8_2 : Int) (x249000_2 : List (S37)) (u249000 : Value), v8 = .int .i64 x8_2 ∧ Aside0 (spec_MergeReports.l1 kq x8_2 l0_0 l0_1 l1_0 l1_1 x249000_2 y245 = some (r1, r2)) ∧ Aside0 (kq ≤ k1) ∧ Aside0 (Kd.R k37 37 w' w.heap.size (fun _ => True) u249000 x249000_2) ∧ Aside0 (Kd.R Kd.string 9 w' w.heap.size (fun _ => True) (.slice Ao21 y245.length co21) y245) ∧ Aside0 (w'.heap[gb230]? = some (.cells #[(.slice A0_0 l0_0.length c0_0), (.slice A0_1 l0_1.length c0_1)] 26 (0, 0))) ∧ Aside0 (w'.heap[gb231]? = some (.cells #[(.slice A1_0 l1_0.length c1_0), (.slice A1_1 l1_1.length c1_1)] 26 (0, 0))) ∧ Aside0 (w'.heap[gb232]? = some (.cells #[(.slice none 0 0), (.slice none 0 0)] 26 (0, 0))) ∧ Aside0 (w'.heap[gb248]? = some (.cells #[u249000, (.slice Ao21 y245.length co21)] 26 (0, 0))) ∧ Aside0 (Below w.heap.size w w'))
       case atStart => exact ⟨(0), (x249000_1), (.slice Ao49 x249000_1.length co49), (by first | rfl | (simp; done) | (simp [*]; done)), H', ⟨Nat.le_refl _⟩, ⟨by (with_reducible repeat (first | apply Kd.R_alloc | apply Kd.R_drewN | apply Kd.R_drew)); exact HO_249000.out⟩, ⟨by (with_reducible repeat (first | apply Kd.R_alloc | apply Kd.R_drewN | apply Kd.R_drew)); exact HO_249001.out⟩, ⟨by (with_reducible repeat (first | apply blk_drewN | apply blk_drew | apply blk_alloc)); exact BK230.out⟩, ⟨by (with_reducible repeat (first | apply blk_drewN | apply blk_drew | apply blk_alloc)); exact BK231.out⟩, ⟨by (with_reducible repeat (first | apply blk_drewN | apply blk_drew | apply blk_alloc)); exact BK232.out⟩, ⟨by (with_reducible repeat (first | apply blk_drewN | apply blk_drew | apply blk_alloc)); exact BK248.out⟩, ⟨by repeat (first | (with_reducible first | exact HB.out | apply below_alloc | apply pw_below_drewN | apply below_drew1 | refine below_set ?_ GE230.out | refine below_set ?_ GE231.out | refine below_set ?_ GE232.out | refine below_set ?_ GE248.out) | exact HB.out)⟩⟩
       case round =>
        clear H'
        try clear c1
        try clear c2
        try clear p2
        try clear q2
        try clear hx2
        try clear hf2
        try clear c3
        try clear hx3
        try clear hf3
        try clear c4
        try clear c5
        try clear p6
        try clear p24
        try clear q24
        try clear hx24
        try clear c25
        try clear c25b0
        try clear c26
        try clear c26b0
        try clear c28
        try clear c28b0
        try clear c29
        try clear p29
        try clear q29
        try clear hx29
        try clear hf29
        try clear c30
        try clear c31
        try clear c32
        try clear c37
        try clear hx37
        try clear hf37
        try clear c39
        try clear c40
        try clear c41
        try clear c45
        try clear c46
        try clear c47
        try clear c49
        try clear hcz33_0
        try clear hcz33_1
        try clear hcz36_0
        try clear hcz36_1
        try clear hcz42_0
        try clear hcz42_1
        try clear hcz48_0
        try clear hcz48_1
        try clear hfz33_0
        try clear hfz33_1
        try clear hfz36_0
        try clear hfz36_1
        try clear hfz42_0
        try clear hfz42_1
        try clear hfz48_0
        try clear hfz48_1
        try clear hx249_0
        try clear hx249_1
        try clear hx29_0
        try clear hx29_1
        try clear hx37_1
        try clear p2
        try clear p249
        try clear p29
        try clear q249
        try clear q29
        obtain ⟨x8_2, x249000_2, u249000, rfl, HA, HK2, HO_249000, HO_249001, BK230, BK231, BK232, BK248, HB⟩ := hrel
        cases gk with
        | zero => exact absurd HA.out (by simp [spec_MergeReports.l1])
        | succ k2 =>
         have H := HA.out
         clear HA
         simp only [spec_MergeReports.l1] at H
         by_cases c50 : x8_2 < (l1_0.length : Int)
         ·rw [if_pos c50] at H
          have c50b0 : decide (x8_2 < (l1_0.length : Int)) = true := decide_eq_true c50
          clear c50
          by_cases c51 : 0 ≤ x8_2
          ·rw [if_pos c51] at H
           have c51b0 : decide (0 ≤ x8_2) = true := decide_eq_true c51
           clear c51
           replace H := Option.bind_eq_some_iff.mp H
           obtain ⟨t253, A520, H⟩ := H
           replace H : (if t253 < 0 then (if x249000_2.length < 5864062014805 then (spec_MergeReports.l1 k2 (wrap64 (x8_2 + 1)) l0_0 l0_1 l1_0 l1_1 (x249000_2 ++ [(⟨(rd_T37 l1_0 x8_2).f0, (rd_T37 l1_0 x8_2).f1⟩ : S37)]) y245) else (none)) else (spec_MergeReports.l1 k2 (wrap64 (x8_2 + 1)) l0_0 l0_1 l1_0 l1_1 x249000_2 y245)) = some (r1, r2) := H
           have A52 := ak A520
           clear A520
           by_cases c53 : t253 < 0
           ·rw [if_pos c53] at H
            have c53b0 : decide (t253 < 0) = true := decide_eq_true c53
            clear c53
            by_cases c54 : x249000_2.length < 5864062014805
            ·rw [if_pos c54] at H
             have LMc54 := ak c54
             clear c54
             obtain ⟨y255, hy255⟩ : ∃ y_ : List (S37), y_ = (x249000_2 ++ [(⟨(rd_T37 l1_0 x8_2).f0, (rd_T37 l1_0 x8_2).f1⟩ : S37)]) := ⟨_, rfl⟩
             replace H : (spec_MergeReports.l1 k2 (wrap64 (x8_2 + 1)) l0_0 l0_1 l1_0 l1_1 y255 y245) = some (r1, r2) := by first | (rw [hy255]; with_reducible exact H) | (have H2_ := (Option.bind_some _ _).symm.trans H; rw [hy255]; with_reducible exact H2_) | (have H2_ := (Option.bind_some _ _).symm.trans H; with_reducible exact H2_) | with_reducible exact H | (rw [hy255]; exact H) | exact H
             have Ny255 := ak hy255
             clear hy255
             have H' := ak H
             clear H
             have hnb55 := NB231_230.out
             have hnc55 := NB230_231.out
             have hnb56 := NB231_232.out
             have hnc56 := NB232_231.out
             have hnb57 := NB231_248.out
             have hnc57 := NB248_231.out
             have hcz58_0 : wr.cell? ⟨gb231, 0, none⟩ = some (.slice A1_0 l1_0.length c1_0) := (blk_cell BK231.out 0).trans rfl
             have hcz58_1 : wr.cell? ⟨gb231, 1, none⟩ = some (.slice A1_1 l1_1.length c1_1) := (blk_cell BK231.out 1).trans rfl
             have hfz58_0 := blk_frozen BK231.out 0
             have hfz58_1 := blk_frozen BK231.out 1
             try go_wp2
             have n0_ := ak (Kd.R_drew HO_249000.out)
             have n1_ := ak (Kd.R_drew HO_249001.out)
             have n2_ := ak (blk_drew BK230.out)
             have n3_ := ak (blk_drew BK231.out)
             have n4_ := ak (blk_drew BK232.out)
             have n5_ := ak (blk_drew BK248.out)
             have n6_ := ak (below_drew1 HB.out)
             clear HO_249000
             clear HO_249001
             clear BK230
             clear BK231
             clear BK232
             clear BK248
             clear HB
             have HO_249000 := n0_
             have HO_249001 := n1_
             have BK230 := n2_
             have BK231 := n3_
             have BK232 := n4_
             have BK248 := n5_
             have HB := n6_
             clear n0_ n1_ n2_ n3_ n4_ n5_ n6_
             have p252 : 0 ≤ (x8_2 : Int) := of_decide_eq_true (by first | (with_reducible assumption) | assumption)
             have q252 : x8_2 < (l1_0.length : Int) := of_decide_eq_true (by first | (with_reducible assumption) | assumption)
             obtain ⟨ad252, e252, hx252_0, hx252_1⟩ := at_T37 HR1_0.out x8_2 p252 q252
             have hw252_1 := hx252_1
             have hw252_0 := hx252_0
             cases e252
             replace hx252_0 := (HB.out.cell (World.block_lt_of_cell? w _ hx252_0)).trans hx252_0
             replace hx252_1 := (HB.out.cell (World.block_lt_of_cell? w _ hx252_1)).trans hx252_1
             replace p252 := eq_true p252
             replace q252 := eq_true q252
             refine start_ (n := 10) (S := fun w' => w'.cell? ⟨gb230, 0, none⟩ = some (.slice A0_0 l0_0.length c0_0) ∧ w'.cell? ⟨gb230, 1, none⟩ = some (.slice A0_1 l0_1.length c0_1) ∧ w'.cell? ⟨gb231, 0, none⟩ = some (.slice (some ad252) l1_0.length c1_0) ∧ w'.cell? ⟨gb231, 1, none⟩ = some (.slice A1_1 l1_1.length c1_1) ∧ w'.cell? (ad252.add ((x8_2).toNat * 2)) = some (.string ((rd_T37 l1_0 x8_2).f0)) ∧ w'.cell? ⟨(ad252.add ((x8_2).toNat * 2)).block, (ad252.add ((x8_2).toNat * 2)).off + 1, none⟩ = some (.int .i64 ((rd_T37 l1_0 x8_2).f1))) (ds := []) #[false, false, false, false, false, false, false, false, false, false] (by kernel_rfl) rfl rfl ⟨(blk_cell BK230.out 0).trans rfl, (blk_cell BK230.out 1).trans rfl, (blk_cell BK231.out 0).trans rfl, (blk_cell BK231.out 1).trans rfl, ((HB.out.cell (World.block_lt_of_cell? w _ hw252_0)).trans hw252_0), ((HB.out.cell (World.block_lt_of_cell? w _ hw252_1)).trans hw252_1)⟩ (fun hHeld => ?_); refine with_tabW spec_MergeReports.tab11 spec_MergeReports.bits11 (fun HT_ HW_ => ?_)
             generalize wr.drew = w59 at HO_249000 HO_249001 BK230 BK231 BK232 BK248 HB hx252_0 hx252_1 hHeld ⊢
             refine pure_ (i := 0) (N := some 52) (v := ?_) (a' := ?_) #[true, false, false, false, false, false, false, false, false, false] rfl rfl (any_of HT_.out (by kernel_rfl)) (fun _ _ _ h => h) (Or.inl ⟨by rfl, ?_⟩) ?_ ?_
             rotate_left
             ·intro w'
              go_simp
              with_reducible rfl
             rotate_left
             ·simp only [Act.put, List.setIfInBounds_toArray, List.set_cons_zero, List.set_cons_succ, i64_w, i32_w]
              rfl
             refine pure_ (i := 2) (N := some 54) (v := ?_) (a' := ?_) #[true, false, true, false, false, false, false, false, false, false] rfl rfl (any_of HT_.out (by kernel_rfl)) (fun _ _ _ h => h) (Or.inl ⟨by rfl, ?_⟩) ?_ ?_
             rotate_left
             ·intro w'
              go_simp
              with_reducible rfl
             rotate_left
             ·simp only [Act.put, List.setIfInBounds_toArray, List.set_cons_zero, List.set_cons_succ, i64_w, i32_w]
              rfl
             refine pure_ (i := 4) (N := some 56) (v := ?_) (a' := ?_) #[true, false, true, false, true, false, false, false, false, false] rfl rfl (any_of HT_.out (by kernel_rfl)) (fun _ _ _ h => h) (Or.inl ⟨by rfl, ?_⟩) ?_ ?_
             rotate_left
             ·intro w'
              go_simp
              with_reducible rfl
             rotate_left
             ·simp only [Act.put, List.setIfInBounds_toArray, List.set_cons_zero, List.set_cons_succ, i64_w, i32_w]
              rfl
             refine take_ (i := 1) (N := some 53) (v := ?_) (a' := ?_) #[true, true, true, false, true, false, false, false, false, false] rfl rfl (take_ofW HT_.out HW_.out (by kernel_rfl)) (fun _ _ _ h => h) (Or.inl ⟨by rfl, ?_⟩) hHeld ?_ ?_
             rotate_left
             ·rintro w' ⟨s0, s1, s2, s3, s4, s5⟩
              go_simp
              with_reducible rfl
             rotate_left
             ·simp only [Act.put, List.setIfInBounds_toArray, List.set_cons_zero, List.set_cons_succ, i64_w, i32_w]
              rfl
             refine take_ (i := 3) (N := some 55) (v := ?_) (a' := ?_) #[true, true, true, true, true, false, false, false, false, false] rfl rfl (take_ofW HT_.out HW_.out (by kernel_rfl)) (fun _ _ _ h => h) (Or.inl ⟨by rfl, ?_⟩) hHeld ?_ ?_
             rotate_left
             ·rintro w' ⟨s0, s1, s2, s3, s4, s5⟩
              go_simp
              with_reducible rfl
             rotate_left
             ·simp only [Act.put, List.setIfInBounds_toArray, List.set_cons_zero, List.set_cons_succ, i64_w, i32_w]
              rfl
             refine pure_ (i := 5) (N := some 57) (v := ?_) (a' := ?_) #[true, true, true, true, true, true, false, false, false, false] rfl rfl (any_of HT_.out (by kernel_rfl)) (fun _ _ _ h => h) (Or.inl ⟨by rfl, ?_⟩) ?_ ?_
             rotate_left
             ·intro w'
              go_simp
              with_reducible rfl
             rotate_left
             ·simp only [Act.put, List.setIfInBounds_toArray, List.set_cons_zero, List.set_cons_succ, i64_w, i32_w]
              rfl
             refine pure_ (i := 6) (N := some 58) (v := ?_) (a' := ?_) #[true, true, true, true, true, true, true, false, false, false] rfl rfl (any_of HT_.out (by kernel_rfl)) (fun _ _ _ h => h) (Or.inl ⟨by rfl, ?_⟩) ?_ ?_
             rotate_left
             ·intro w'
              go_simp
              with_reducible rfl
             rotate_left
             ·simp only [Act.put, List.setIfInBounds_toArray, List.set_cons_zero, List.set_cons_succ, i64_w, i32_w]
              rfl
             refine take_ (i := 7) (N := some 59) (v := ?_) (a' := ?_) #[true, true, true, true, true, true, true, true, false, false] rfl rfl (take_ofW HT_.out HW_.out (by kernel_rfl)) (fun _ _ _ h => h) (Or.inl ⟨by rfl, ?_⟩) hHeld ?_ ?_
             rotate_left
             ·rintro w' ⟨s0, s1, s2, s3, s4, s5⟩
              go_simp
              with_reducible rfl
             rotate_left
             ·simp only [Act.put, List.setIfInBounds_toArray, List.set_cons_zero, List.set_cons_succ, i64_w, i32_w]
              rfl
             refine one_ (i := 8) (N := some 60) #[true, true, true, true, true, true, true, true, true, false] rfl rfl (one_of HT_.out (by kernel_rfl)) (by decide) (fun K hK => ?_)
             refine goes_ Try.func49 (by kernel_rfl) rfl #[.slice A0_0 l0_0.length c0_0, .string ((rd_T37 l1_0 x8_2).f0)] (by rfl) rfl rfl (by (try simp only [List.map_toArray, List.map_cons, List.map_nil]); first | done | rfl | (simp only [List.length_drop, List.length_take]; rfl)) ?_
             with_reducible refine (spec_outcomeOf.calls k2 _ _ l0_0 ((rd_T37 l1_0 x8_2).f0) t253 _ ?side1 ?side2 A52.out).mono ?_
             (case side1 => repeat (first | exact (Kd.C_below HR0_0.out HB.out) | (with_reducible refine Kd.C_alloc ?_ _) | (with_reducible refine Kd.C_drewN ?_ _) | (with_reducible refine Kd.C_drew ?_)))
             (case side2 => exact HC0_0.out)
             rintro e w' ⟨rfl, ⟨nd, rfl⟩⟩
             refine ⟨_, rfl, ?_⟩
             refine hK.out _ _ ⟨(blk_cell BK230.out 0).trans rfl, (blk_cell BK230.out 1).trans rfl, (blk_cell BK231.out 0).trans rfl, (blk_cell BK231.out 1).trans rfl, ((HB.out.cell (World.block_lt_of_cell? w _ hw252_0)).trans hw252_0), ((HB.out.cell (World.block_lt_of_cell? w _ hw252_1)).trans hw252_1)⟩ (fun hHeld => ?_)
             clear hK K
             refine norm_ (a' := ?_) ?_ ?_
             rotate_left
             ·show Act.put _ (some 60) _ = _
              simp only [Act.put, List.setIfInBounds_toArray, List.set_cons_zero, List.set_cons_succ, i64_w, i32_w]
              rfl
             refine pure_ (i := 9) (N := some 61) (v := ?_) (a' := ?_) #[true, true, true, true, true, true, true, true, true, true] rfl rfl (any_of HT_.out (by kernel_rfl)) (fun _ _ _ h => h) (Or.inl ⟨by rfl, ?_⟩) ?_ ?_
             rotate_left
             ·intro w'
              go_simp
              with_reducible rfl
             rotate_left
             ·simp only [Act.put, List.setIfInBounds_toArray, List.set_cons_zero, List.set_cons_succ, i64_w, i32_w]
              rfl
             refine done_ (done_of HT_.out (by kernel_rfl)) ?_
             try go_wp2
             (try (rw [drewN_self w59]; generalize hq_ : World.drewN w59 _ = w59; have n0_ : Aside0 (Kd.R k37 37 w59 w.heap.size (fun _ => True) u249000 x249000_2) := ⟨by rw [← hq_]; exact (rTo HO_249000.out)⟩; have n1_ : Aside0 (Kd.R Kd.string 9 w59 w.heap.size (fun _ => True) (.slice Ao21 y245.length co21) y245) := ⟨by rw [← hq_]; exact (rTo HO_249001.out)⟩; have n2_ : Aside0 (w59.heap[gb230]? = some (.cells #[.slice A0_0 l0_0.length c0_0, .slice A0_1 l0_1.length c0_1] 26 (0, 0))) := ⟨by rw [← hq_]; exact (bTo BK230.out)⟩; have n3_ : Aside0 (w59.heap[gb231]? = some (.cells #[.slice (some ad252) l1_0.length c1_0, .slice A1_1 l1_1.length c1_1] 26 (0, 0))) := ⟨by rw [← hq_]; exact (bTo BK231.out)⟩; have n4_ : Aside0 (w59.heap[gb232]? = some (.cells #[.slice none 0 0, .slice none 0 0] 26 (0, 0))) := ⟨by rw [← hq_]; exact (bTo BK232.out)⟩; have n5_ : Aside0 (w59.heap[gb248]? = some (.cells #[u249000, .slice Ao21 y245.length co21] 26 (0, 0))) := ⟨by rw [← hq_]; exact (bTo BK248.out)⟩; have n6_ : Aside0 (Below w.heap.size w w59) := ⟨by rw [← hq_]; exact (by repeat (first | (with_reducible first | exact HB.out | apply below_alloc | apply pw_below_drewN | apply below_drew1 | refine below_set ?_ GE230.out | refine below_set ?_ GE231.out | refine below_set ?_ GE232.out | refine below_set ?_ GE248.out) | exact HB.out))⟩; clear HO_249000 HO_249001 BK230 BK231 BK232 BK248 HB hq_; have HO_249000 := n0_; have HO_249001 := n1_; have BK230 := n2_; have BK231 := n3_; have BK232 := n4_; have BK248 := n5_; have HB := n6_; clear n0_ n1_ n2_ n3_ n4_ n5_ n6_))
             have n0_ := ak (Kd.R_drew HO_249000.out)
             have n1_ := ak (Kd.R_drew HO_249001.out)
             have n2_ := ak (blk_drew BK230.out)
             have n3_ := ak (blk_drew BK231.out)
             have n4_ := ak (blk_drew BK232.out)
             have n5_ := ak (blk_drew BK248.out)
             have n6_ := ak (below_drew1 HB.out)
             clear HO_249000
             clear HO_249001
             clear BK230
             clear BK231
             clear BK232
             clear BK248
             clear HB
             have HO_249000 := n0_
             have HO_249001 := n1_
             have BK230 := n2_
             have BK231 := n3_
             have BK232 := n4_
             have BK248 := n5_
             have HB := n6_
             clear n0_ n1_ n2_ n3_ n4_ n5_ n6_
             have p254 : 0 ≤ (x8_2 : Int) := of_decide_eq_true (by first | (with_reducible assumption) | assumption)
             have q254 : x8_2 < (l1_0.length : Int) := of_decide_eq_true (by first | (with_reducible assumption) | assumption)
             obtain ⟨ad254, e254, hx254_0, hx254_1⟩ := at_T37 HR1_0.out x8_2 p254 q254
             have hw254_1 := hx254_1
             have hw254_0 := hx254_0
             obtain rfl : ad252 = ad254 := (by injection e254)
             replace hx254_0 := (HB.out.cell (World.block_lt_of_cell? w _ hx254_0)).trans hx254_0
             replace hx254_1 := (HB.out.cell (World.block_lt_of_cell? w _ hx254_1)).trans hx254_1
             replace p254 := eq_true p254
             replace q254 := eq_true q254
             refine start_ (n := 11) (S := fun w' => w'.cell? ⟨gb248, 0, none⟩ = some (u249000) ∧ w'.cell? ⟨gb248, 1, none⟩ = some (.slice Ao21 y245.length co21) ∧ w'.cell? ⟨gb231, 0, none⟩ = some (.slice (some ad252) l1_0.length c1_0) ∧ w'.cell? ⟨gb231, 1, none⟩ = some (.slice A1_1 l1_1.length c1_1) ∧ w'.cell? (ad252.add ((x8_2).toNat * 2)) = some (.string ((rd_T37 l1_0 x8_2).f0)) ∧ w'.cell? ⟨(ad252.add ((x8_2).toNat * 2)).block, (ad252.add ((x8_2).toNat * 2)).off + 1, none⟩ = some (.int .i64 ((rd_T37 l1_0 x8_2).f1))) (ds := [10]) #[false, false, false, false, false, false, false, false, false, false, false] (by kernel_rfl) rfl rfl ⟨(blk_cell BK248.out 0).trans rfl, (blk_cell BK248.out 1).trans rfl, (blk_cell BK231.out 0).trans rfl, (blk_cell BK231.out 1).trans rfl, ((HB.out.cell (World.block_lt_of_cell? w _ hw254_0)).trans hw254_0), ((HB.out.cell (World.block_lt_of_cell? w _ hw254_1)).trans hw254_1)⟩ (fun hHeld => ?_); refine with_tabW spec_MergeReports.tab12 spec_MergeReports.bits12 (fun HT_ HW_ => ?_)
             generalize w59.drew = w60 at HO_249000 HO_249001 BK230 BK231 BK232 BK248 HB hx254_0 hx254_1 hHeld ⊢
             refine pure_ (i := 0) (N := some 62) (v := ?_) (a' := ?_) #[true, false, false, false, false, false, false, false, false, false, false] rfl rfl (any_of HT_.out (by kernel_rfl)) (fun _ _ _ h => h) (Or.inl ⟨by rfl, ?_⟩) ?_ ?_
             rotate_left
             ·intro w'
              go_simp
              with_reducible rfl
             rotate_left
             ·simp only [Act.put, List.setIfInBounds_toArray, List.set_cons_zero, List.set_cons_succ, i64_w, i32_w]
              rfl
             refine pure_ (i := 2) (N := some 64) (v := ?_) (a' := ?_) #[true, false, true, false, false, false, false, false, false, false, false] rfl rfl (any_of HT_.out (by kernel_rfl)) (fun _ _ _ h => h) (Or.inl ⟨by rfl, ?_⟩) ?_ ?_
             rotate_left
             ·intro w'
              go_simp
              with_reducible rfl
             rotate_left
             ·simp only [Act.put, List.setIfInBounds_toArray, List.set_cons_zero, List.set_cons_succ, i64_w, i32_w]
              rfl
             refine pure_ (i := 4) (N := some 66) (v := ?_) (a' := ?_) #[true, false, true, false, true, false, false, false, false, false, false] rfl rfl (any_of HT_.out (by kernel_rfl)) (fun _ _ _ h => h) (Or.inl ⟨by rfl, ?_⟩) ?_ ?_
             rotate_left
             ·intro w'
              go_simp
              with_reducible rfl
             rotate_left
             ·simp only [Act.put, List.setIfInBounds_toArray, List.set_cons_zero, List.set_cons_succ, i64_w, i32_w]
              rfl
             refine take_ (i := 1) (N := some 63) (v := ?_) (a' := ?_) #[true, true, true, false, true, false, false, false, false, false, false] rfl rfl (take_ofW HT_.out HW_.out (by kernel_rfl)) (fun _ _ _ h => h) (Or.inl ⟨by rfl, ?_⟩) hHeld ?_ ?_
             rotate_left
             ·rintro w' ⟨s0, s1, s2, s3, s4, s5⟩
              go_simp
              with_reducible rfl
             rotate_left
             ·simp only [Act.put, List.setIfInBounds_toArray, List.set_cons_zero, List.set_cons_succ, i64_w, i32_w]
              rfl
             refine take_ (i := 3) (N := some 65) (v := ?_) (a' := ?_) #[true, true, true, true, true, false, false, false, false, false, false] rfl rfl (take_ofW HT_.out HW_.out (by kernel_rfl)) (fun _ _ _ h => h) (Or.inl ⟨by rfl, ?_⟩) hHeld ?_ ?_
             rotate_left
             ·rintro w' ⟨s0, s1, s2, s3, s4, s5⟩
              go_simp
              with_reducible rfl
             rotate_left
             ·simp only [Act.put, List.setIfInBounds_toArray, List.set_cons_zero, List.set_cons_succ, i64_w, i32_w]
              rfl
             refine pure_ (i := 5) (N := some 67) (v := ?_) (a' := ?_) #[true, true, true, true, true, true, false, false, false, false, false] rfl rfl (any_of HT_.out (by kernel_rfl)) (fun _ _ _ h => h) (Or.inl ⟨by rfl, ?_⟩) ?_ ?_
             rotate_left
             ·intro w'
              go_simp
              with_reducible rfl
             rotate_left
             ·simp only [Act.put, List.setIfInBounds_toArray, List.set_cons_zero, List.set_cons_succ, i64_w, i32_w]
              rfl
             refine take_ (i := 6) (N := some 68) (v := ?_) (a' := ?_) #[true, true, true, true, true, true, true, false, false, false, false] rfl rfl (take_ofW HT_.out HW_.out (by kernel_rfl)) (fun _ _ _ h => h) (Or.inl ⟨by rfl, ?_⟩) hHeld ?_ ?_
             rotate_left
             ·rintro w' ⟨s0, s1, s2, s3, s4, s5⟩
              go_simp
              with_reducible rfl
             rotate_left
             ·simp only [Act.put, List.setIfInBounds_toArray, List.set_cons_zero, List.set_cons_succ, i64_w, i32_w]
              rfl
             refine one_ (i := 7) (N := some 69) #[true, true, true, true, true, true, true, true, false, false, false] rfl rfl (one_of HT_.out (by kernel_rfl)) (by decide) (fun K hK => ?_)
             refine value_ (w1 := ?_) (v := ?_) (by rfl) rfl ?_ ?_
             rotate_left 2
             ·go_simp
              constructor
              ·rfl
              ·rfl
             refine hK.out _ _ ⟨(blk_cell (blk_alloc BK248.out _) 0).trans rfl, (blk_cell (blk_alloc BK248.out _) 1).trans rfl, (blk_cell (blk_alloc BK231.out _) 0).trans rfl, (blk_cell (blk_alloc BK231.out _) 1).trans rfl, (World.cell?_alloc_lt _ _ _ (World.block_lt_of_cell? _ _ (((HB.out.cell (World.block_lt_of_cell? w _ hw254_0)).trans hw254_0)))).trans (((HB.out.cell (World.block_lt_of_cell? w _ hw254_0)).trans hw254_0)), (World.cell?_alloc_lt _ _ _ (World.block_lt_of_cell? _ _ (((HB.out.cell (World.block_lt_of_cell? w _ hw254_1)).trans hw254_1)))).trans (((HB.out.cell (World.block_lt_of_cell? w _ hw254_1)).trans hw254_1))⟩ (fun hHeld => ?_)
             clear hK K
             refine norm_ (a' := ?_) ?_ ?_
             rotate_left
             ·show Act.put _ (some 69) _ = _
              simp only [Act.put, List.setIfInBounds_toArray, List.set_cons_zero, List.set_cons_succ, i64_w, i32_w]
              rfl
             refine one_ (i := 8) (N := some 70) #[true, true, true, true, true, true, true, true, true, false, false] rfl rfl (one_of HT_.out (by kernel_rfl)) (by decide) (fun K hK => ?_)
             refine Kd.R_append_step k37 (w0 := w) w.heap.size (by rfl) (.tmp 63) (.tmp 69) 23 37 (.agg #[(.string ⟨#[]⟩), (.int .i64 0)]) 24 rfl Try.underlying23 info37 rfl (by decide) (by omega) u249000 x249000_2 (⟨(rd_T37 l1_0 x8_2).f0, (rd_T37 l1_0 x8_2).f1⟩ : S37) [.string ((rd_T37 l1_0 x8_2).f0), .int .i64 ((rd_T37 l1_0 x8_2).f1)] (fun _ => True) (fun _ => False) rfl rfl ?aP (fun _ hk => hk.elim) ?aF ?aO ?aB ?aS ?aL ?_
             (case aP => exact k37_mkM _ _ _ (⟨(rd_T37 l1_0 x8_2).f0, (rd_T37 l1_0 x8_2).f1⟩ : S37))
             (case aB => exact (by repeat (first | (with_reducible first | exact HB.out | apply below_alloc | apply pw_below_drewN | apply below_drew1 | refine below_set ?_ GE230.out | refine below_set ?_ GE231.out | refine below_set ?_ GE232.out | refine below_set ?_ GE248.out) | exact HB.out)))
             (case aF => exact (fun _ _ => trivial))
             (case aO => exact (rTo HO_249000.out))
             (case aS => exact (below_size (by repeat (first | (with_reducible first | exact HB.out | apply below_alloc | apply pw_below_drewN | apply below_drew1 | refine below_set ?_ GE230.out | refine below_set ?_ GE231.out | refine below_set ?_ GE232.out | refine below_set ?_ GE248.out) | exact HB.out))))
             (case aL => have := LMc54.out; omega)
             intro v256 w61 ho hb hg hat
             rw [← Ny255.out] at ho
             have n0_ := ak (Kd.R_over' (rTo HO_249001.out) (Kd.R_typed (rTo HO_249000.out)) (by decide) hg)
             have n1_ := ak (blk_grown (g := gb230) (o := .cells #[.slice A0_0 l0_0.length c0_0, .slice A0_1 l0_1.length c0_1] 26 (0, 0)) (bTo BK230.out) hg (Kd.R_ne HO_249000.out BK230.out (by decide)))
             have n2_ := ak (blk_grown (g := gb231) (o := .cells #[.slice (some ad252) l1_0.length c1_0, .slice A1_1 l1_1.length c1_1] 26 (0, 0)) (bTo BK231.out) hg (Kd.R_ne HO_249000.out BK231.out (by decide)))
             have n3_ := ak (blk_grown (g := gb232) (o := .cells #[.slice none 0 0, .slice none 0 0] 26 (0, 0)) (bTo BK232.out) hg (Kd.R_ne HO_249000.out BK232.out (by decide)))
             have n4_ := ak (blk_grown (g := gb248) (o := .cells #[u249000, .slice Ao21 y245.length co21] 26 (0, 0)) (bTo BK248.out) hg (Kd.R_ne HO_249000.out BK248.out (by decide)))
             have n5_ := ak (hb)
             have n6_ := ak (ho)
             clear HO_249001
             clear BK230
             clear BK231
             clear BK232
             clear BK248
             clear HB
             clear HO_249000
             have HO_249001 := n0_
             have BK230 := n1_
             have BK231 := n2_
             have BK232 := n3_
             have BK248 := n4_
             have HB := n5_
             have HO257 := n6_
             clear n0_ n1_ n2_ n3_ n4_ n5_ n6_
             clear ho hb hg hat
             obtain ⟨Ao62, co62, eo62⟩ := Kd.R_slice HO257.out
             (first | subst eo62 | (injection eo62 with f1_ f2_ f3_; have f4_ := f1_.symm; have f5_ := f3_.symm; clear f1_ f2_ f3_; subst f4_; subst f5_))
             refine hK.out _ _ ⟨(blk_cell BK248.out 0).trans rfl, (blk_cell BK248.out 1).trans rfl, (blk_cell BK231.out 0).trans rfl, (blk_cell BK231.out 1).trans rfl, ((HB.out.cell (World.block_lt_of_cell? w _ hw254_0)).trans hw254_0), ((HB.out.cell (World.block_lt_of_cell? w _ hw254_1)).trans hw254_1)⟩ (fun hHeld => ?_)
             clear hK K
             refine norm_ (a' := ?_) ?_ ?_
             rotate_left
             ·show Act.put _ (some 70) _ = _
              simp only [Act.put, List.setIfInBounds_toArray, List.set_cons_zero, List.set_cons_succ, i64_w, i32_w]
              rfl
             refine pure_ (i := 9) (N := some 71) (v := ?_) (a' := ?_) #[true, true, true, true, true, true, true, true, true, true, false] rfl rfl (any_of HT_.out (by kernel_rfl)) (fun _ _ _ h => h) (Or.inl ⟨by rfl, ?_⟩) ?_ ?_
             rotate_left
             ·intro w'
              go_simp
              with_reducible rfl
             rotate_left
             ·simp only [Act.put, List.setIfInBounds_toArray, List.set_cons_zero, List.set_cons_succ, i64_w, i32_w]
              rfl
             refine last_ (i := 10) (N := none) #[true, true, true, true, true, true, true, true, true, true, true] rfl rfl (one_of HT_.out (by kernel_rfl)) (by decide) (fun K hK => ?_)
             have hs63 : w61.cell? ⟨gb248, 0, none⟩ = some (u249000) := (blk_cell BK248.out 0).trans rfl
             have hfs63 := blk_frozen BK248.out 0
             have hns63_0 := NB230_248.out
             have hns63_1 := NB231_248.out
             have hns63_2 := NB232_248.out
             have hms63_0 := NB248_230.out
             have hms63_1 := NB248_231.out
             have hms63_2 := NB248_232.out
             refine skip_ (w1 := ?_) (by rfl) rfl ?_ ?_
             rotate_left
             ·go_simp
              rfl
             refine hK.out _ _ ?_
             clear hK K
             refine done_ (done_of HT_.out (by kernel_rfl)) ?_
             try go_wp2
             go_roundg k2
             case measure => have := HK1.out; have := HK2.out; omega
             case rel => exact ⟨(wrap64 (x8_2 + 1)), (y255), (.slice Ao62 y255.length co62), (by first | rfl | (simp; done) | (simp [*]; done)), H', ⟨by have := HK1.out; have := HK2.out; omega⟩, ⟨by (with_reducible repeat (first | apply Kd.R_alloc | apply Kd.R_drewN | apply Kd.R_drew)); exact Kd.R_mono (Kd.R_far (p := ⟨gb248, 0, none⟩) (Kd.R_types HO257.out BK248.out (by decide)) (fun _ hk => hk.2) (.slice Ao62 y255.length co62)) (fun _ hk => trivial)⟩, ⟨by (with_reducible repeat (first | apply Kd.R_alloc | apply Kd.R_drewN | apply Kd.R_drew)); exact Kd.R_mono (Kd.R_far (p := ⟨gb248, 0, none⟩) (Kd.R_types HO_249001.out BK248.out (by decide)) (fun _ hk => hk.2) (.slice Ao62 y255.length co62)) (fun _ hk => trivial)⟩, ⟨by (with_reducible repeat (first | apply blk_drewN | apply blk_drew | apply blk_alloc)); refine blk_far ?_ NB230_248.out _; (with_reducible repeat (first | apply blk_drewN | apply blk_drew | apply blk_alloc)); exact BK230.out⟩, ⟨by (with_reducible repeat (first | apply blk_drewN | apply blk_drew | apply blk_alloc)); refine blk_far ?_ NB231_248.out _; (with_reducible repeat (first | apply blk_drewN | apply blk_drew | apply blk_alloc)); exact BK231.out⟩, ⟨by (with_reducible repeat (first | apply blk_drewN | apply blk_drew | apply blk_alloc)); refine blk_far ?_ NB232_248.out _; (with_reducible repeat (first | apply blk_drewN | apply blk_drew | apply blk_alloc)); exact BK232.out⟩, ⟨by (with_reducible repeat (first | apply blk_drewN | apply blk_drew | apply blk_alloc)); refine blk_put (cs := #[u249000, .slice Ao21 y245.length co21]) ?_ 0 _ rfl; (with_reducible repeat (first | apply blk_drewN | apply blk_drew | apply blk_alloc)); exact BK248.out⟩, ⟨by repeat (first | (with_reducible first | exact HB.out | apply below_alloc | apply pw_below_drewN | apply below_drew1 | refine below_set ?_ GE230.out | refine below_set ?_ GE231.out | refine below_set ?_ GE232.out | refine below_set ?_ GE248.out) | exact HB.out)⟩⟩
            ·rw [if_neg c54] at H
             exact absurd H (by simp)
           ·rw [if_neg c53] at H
            have c53b0 : decide (t253 < 0) = false := decide_eq_false c53
            clear c53
            have H' := ak H
            clear H
            have hnb64 := NB231_230.out
            have hnc64 := NB230_231.out
            have hnb65 := NB231_232.out
            have hnc65 := NB232_231.out
            have hnb66 := NB231_248.out
            have hnc66 := NB248_231.out
            have hcz67_0 : wr.cell? ⟨gb231, 0, none⟩ = some (.slice A1_0 l1_0.length c1_0) := (blk_cell BK231.out 0).trans rfl
            have hcz67_1 : wr.cell? ⟨gb231, 1, none⟩ = some (.slice A1_1 l1_1.length c1_1) := (blk_cell BK231.out 1).trans rfl
            have hfz67_0 := blk_frozen BK231.out 0
            have hfz67_1 := blk_frozen BK231.out 1
            try go_wp2
            have n0_ := ak (Kd.R_drew HO_249000.out)
            have n1_ := ak (Kd.R_drew HO_249001.out)
            have n2_ := ak (blk_drew BK230.out)
            have n3_ := ak (blk_drew BK231.out)
            have n4_ := ak (blk_drew BK232.out)
            have n5_ := ak (blk_drew BK248.out)
            have n6_ := ak (below_drew1 HB.out)
            clear HO_249000
            clear HO_249001
            clear BK230
            clear BK231
            clear BK232
            clear BK248
            clear HB
            have HO_249000 := n0_
            have HO_249001 := n1_
            have BK230 := n2_
            have BK231 := n3_
            have BK232 := n4_
            have BK248 := n5_
            have HB := n6_
            clear n0_ n1_ n2_ n3_ n4_ n5_ n6_
            have p252 : 0 ≤ (x8_2 : Int) := of_decide_eq_true (by first | (with_reducible assumption) | assumption)
            have q252 : x8_2 < (l1_0.length : Int) := of_decide_eq_true (by first | (with_reducible assumption) | assumption)
            obtain ⟨ad252, e252, hx252_0, hx252_1⟩ := at_T37 HR1_0.out x8_2 p252 q252
            have hw252_1 := hx252_1
            have hw252_0 := hx252_0
            cases e252
            replace hx252_0 := (HB.out.cell (World.block_lt_of_cell? w _ hx252_0)).trans hx252_0
            replace hx252_1 := (HB.out.cell (World.block_lt_of_cell? w _ hx252_1)).trans hx252_1
            replace p252 := eq_true p252
            replace q252 := eq_true q252
            refine start_ (n := 10) (S := fun w' => w'.cell? ⟨gb230, 0, none⟩ = some (.slice A0_0 l0_0.length c0_0) ∧ w'.cell? ⟨gb230, 1, none⟩ = some (.slice A0_1 l0_1.length c0_1) ∧ w'.cell? ⟨gb231, 0, none⟩ = some (.slice (some ad252) l1_0.length c1_0) ∧ w'.cell? ⟨gb231, 1, none⟩ = some (.slice A1_1 l1_1.length c1_1) ∧ w'.cell? (ad252.add ((x8_2).toNat * 2)) = some (.string ((rd_T37 l1_0 x8_2).f0)) ∧ w'.cell? ⟨(ad252.add ((x8_2).toNat * 2)).block, (ad252.add ((x8_2).toNat * 2)).off + 1, none⟩ = some (.int .i64 ((rd_T37 l1_0 x8_2).f1))) (ds := []) #[false, false, false, false, false, false, false, false, false, false] (by kernel_rfl) rfl rfl ⟨(blk_cell BK230.out 0).trans rfl, (blk_cell BK230.out 1).trans rfl, (blk_cell BK231.out 0).trans rfl, (blk_cell BK231.out 1).trans rfl, ((HB.out.cell (World.block_lt_of_cell? w _ hw252_0)).trans hw252_0), ((HB.out.cell (World.block_lt_of_cell? w _ hw252_1)).trans hw252_1)⟩ (fun hHeld => ?_); refine with_tabW spec_MergeReports.tab11 spec_MergeReports.bits11 (fun HT_ HW_ => ?_)
            generalize wr.drew = w68 at HO_249000 HO_249001 BK230 BK231 BK232 BK248 HB hx252_0 hx252_1 hHeld ⊢
            refine pure_ (i := 0) (N := some 52) (v := ?_) (a' := ?_) #[true, false, false, false, false, false, false, false, false, false] rfl rfl (any_of HT_.out (by kernel_rfl)) (fun _ _ _ h => h) (Or.inl ⟨by rfl, ?_⟩) ?_ ?_
            rotate_left
            ·intro w'
             go_simp
             with_reducible rfl
            rotate_left
            ·simp only [Act.put, List.setIfInBounds_toArray, List.set_cons_zero, List.set_cons_succ, i64_w, i32_w]
             rfl
            refine pure_ (i := 2) (N := some 54) (v := ?_) (a' := ?_) #[true, false, true, false, false, false, false, false, false, false] rfl rfl (any_of HT_.out (by kernel_rfl)) (fun _ _ _ h => h) (Or.inl ⟨by rfl, ?_⟩) ?_ ?_
            rotate_left
            ·intro w'
             go_simp
             with_reducible rfl
            rotate_left
            ·simp only [Act.put, List.setIfInBounds_toArray, List.set_cons_zero, List.set_cons_succ, i64_w, i32_w]
             rfl
            refine pure_ (i := 4) (N := some 56) (v := ?_) (a' := ?_) #[true, false, true, false, true, false, false, false, false, false] rfl rfl (any_of HT_.out (by kernel_rfl)) (fun _ _ _ h => h) (Or.inl ⟨by rfl, ?_⟩) ?_ ?_
            rotate_left
            ·intro w'
             go_simp
             with_reducible rfl
            rotate_left
            ·simp only [Act.put, List.setIfInBounds_toArray, List.set_cons_zero, List.set_cons_succ, i64_w, i32_w]
             rfl
            refine take_ (i := 1) (N := some 53) (v := ?_) (a' := ?_) #[true, true, true, false, true, false, false, false, false, false] rfl rfl (take_ofW HT_.out HW_.out (by kernel_rfl)) (fun _ _ _ h => h) (Or.inl ⟨by rfl, ?_⟩) hHeld ?_ ?_
            rotate_left
            ·rintro w' ⟨s0, s1, s2, s3, s4, s5⟩
             go_simp
             with_reducible rfl
            rotate_left
            ·simp only [Act.put, List.setIfInBounds_toArray, List.set_cons_zero, List.set_cons_succ, i64_w, i32_w]
             rfl
            refine take_ (i := 3) (N := some 55) (v := ?_) (a' := ?_) #[true, true, true, true, true, false, false, false, false, false] rfl rfl (take_ofW HT_.out HW_.out (by kernel_rfl)) (fun _ _ _ h => h) (Or.inl ⟨by rfl, ?_⟩) hHeld ?_ ?_
            rotate_left
            ·rintro w' ⟨s0, s1, s2, s3, s4, s5⟩
             go_simp
             with_reducible rfl
            rotate_left
            ·simp only [Act.put, List.setIfInBounds_toArray, List.set_cons_zero, List.set_cons_succ, i64_w, i32_w]
             rfl
            refine pure_ (i := 5) (N := some 57) (v := ?_) (a' := ?_) #[true, true, true, true, true, true, false, false, false, false] rfl rfl (any_of HT_.out (by kernel_rfl)) (fun _ _ _ h => h) (Or.inl ⟨by rfl, ?_⟩) ?_ ?_
            rotate_left
            ·intro w'
             go_simp
             with_reducible rfl
            rotate_left
            ·simp only [Act.put, List.setIfInBounds_toArray, List.set_cons_zero, List.set_cons_succ, i64_w, i32_w]
             rfl
            refine pure_ (i := 6) (N := some 58) (v := ?_) (a' := ?_) #[true, true, true, true, true, true, true, false, false, false] rfl rfl (any_of HT_.out (by kernel_rfl)) (fun _ _ _ h => h) (Or.inl ⟨by rfl, ?_⟩) ?_ ?_
            rotate_left
            ·intro w'
             go_simp
             with_reducible rfl
            rotate_left
            ·simp only [Act.put, List.setIfInBounds_toArray, List.set_cons_zero, List.set_cons_succ, i64_w, i32_w]
             rfl
            refine take_ (i := 7) (N := some 59) (v := ?_) (a' := ?_) #[true, true, true, true, true, true, true, true, false, false] rfl rfl (take_ofW HT_.out HW_.out (by kernel_rfl)) (fun _ _ _ h => h) (Or.inl ⟨by rfl, ?_⟩) hHeld ?_ ?_
            rotate_left
            ·rintro w' ⟨s0, s1, s2, s3, s4, s5⟩
             go_simp
             with_reducible rfl
            rotate_left
            ·simp only [Act.put, List.setIfInBounds_toArray, List.set_cons_zero, List.set_cons_succ, i64_w, i32_w]
             rfl
            refine one_ (i := 8) (N := some 60) #[true, true, true, true, true, true, true, true, true, false] rfl rfl (one_of HT_.out (by kernel_rfl)) (by decide) (fun K hK => ?_)
            refine goes_ Try.func49 (by kernel_rfl) rfl #[.slice A0_0 l0_0.length c0_0, .string ((rd_T37 l1_0 x8_2).f0)] (by rfl) rfl rfl (by (try simp only [List.map_toArray, List.map_cons, List.map_nil]); first | done | rfl | (simp only [List.length_drop, List.length_take]; rfl)) ?_
            with_reducible refine (spec_outcomeOf.calls k2 _ _ l0_0 ((rd_T37 l1_0 x8_2).f0) t253 _ ?side1 ?side2 A52.out).mono ?_
            (case side1 => repeat (first | exact (Kd.C_below HR0_0.out HB.out) | (with_reducible refine Kd.C_alloc ?_ _) | (with_reducible refine Kd.C_drewN ?_ _) | (with_reducible refine Kd.C_drew ?_)))
            (case side2 => exact HC0_0.out)
            rintro e w' ⟨rfl, ⟨nd, rfl⟩⟩
            refine ⟨_, rfl, ?_⟩
            refine hK.out _ _ ⟨(blk_cell BK230.out 0).trans rfl, (blk_cell BK230.out 1).trans rfl, (blk_cell BK231.out 0).trans rfl, (blk_cell BK231.out 1).trans rfl, ((HB.out.cell (World.block_lt_of_cell? w _ hw252_0)).trans hw252_0), ((HB.out.cell (World.block_lt_of_cell? w _ hw252_1)).trans hw252_1)⟩ (fun hHeld => ?_)
            clear hK K
            refine norm_ (a' := ?_) ?_ ?_
            rotate_left
            ·show Act.put _ (some 60) _ = _
             simp only [Act.put, List.setIfInBounds_toArray, List.set_cons_zero, List.set_cons_succ, i64_w, i32_w]
             rfl
            refine pure_ (i := 9) (N := some 61) (v := ?_) (a' := ?_) #[true, true, true, true, true, true, true, true, true, true] rfl rfl (any_of HT_.out (by kernel_rfl)) (fun _ _ _ h => h) (Or.inl ⟨by rfl, ?_⟩) ?_ ?_
            rotate_left
            ·intro w'
             go_simp
             with_reducible rfl
            rotate_left
            ·simp only [Act.put, List.setIfInBounds_toArray, List.set_cons_zero, List.set_cons_succ, i64_w, i32_w]
             rfl
            refine done_ (done_of HT_.out (by kernel_rfl)) ?_
            try go_wp2
            go_roundg k2
            case measure => have := HK1.out; have := HK2.out; omega
            case rel => exact ⟨(wrap64 (x8_2 + 1)), (x249000_2), (u249000), (by first | rfl | (simp; done) | (simp [*]; done)), H', ⟨by have := HK1.out; have := HK2.out; omega⟩, ⟨by (with_reducible repeat (first | apply Kd.R_alloc | apply Kd.R_drewN | apply Kd.R_drew)); exact HO_249000.out⟩, ⟨by (with_reducible repeat (first | apply Kd.R_alloc | apply Kd.R_drewN | apply Kd.R_drew)); exact HO_249001.out⟩, ⟨by (with_reducible repeat (first | apply blk_drewN | apply blk_drew | apply blk_alloc)); exact BK230.out⟩, ⟨by (with_reducible repeat (first | apply blk_drewN | apply blk_drew | apply blk_alloc)); exact BK231.out⟩, ⟨by (with_reducible repeat (first | apply blk_drewN | apply blk_drew | apply blk_alloc)); exact BK232.out⟩, ⟨by (with_reducible repeat (first | apply blk_drewN | apply blk_drew | apply blk_alloc)); exact BK248.out⟩, ⟨by repeat (first | (with_reducible first | exact HB.out | apply below_alloc | apply pw_below_drewN | apply below_drew1 | refine below_set ?_ GE230.out | refine below_set ?_ GE231.out | refine below_set ?_ GE232.out | refine below_set ?_ GE248.out) | exact HB.out)⟩⟩
          ·rw [if_neg c51] at H
           exact absurd H (by simp)
         ·rw [if_neg c50] at H
          have c50b0 : decide (x8_2 < (l1_0.length : Int)) = false := decide_eq_false c50
          clear c50
          simp only [Option.some.injEq, Prod.mk.injEq] at H
          obtain ⟨rfl, rfl⟩ := H
          have hnb69 := NB231_230.out
          have hnc69 := NB230_231.out
          have hnb70 := NB231_232.out
          have hnc70 := NB232_231.out
          have hnb71 := NB231_248.out
          have hnc71 := NB248_231.out
          have hcz72_0 : wr.cell? ⟨gb231, 0, none⟩ = some (.slice A1_0 l1_0.length c1_0) := (blk_cell BK231.out 0).trans rfl
          have hcz72_1 : wr.cell? ⟨gb231, 1, none⟩ = some (.slice A1_1 l1_1.length c1_1) := (blk_cell BK231.out 1).trans rfl
          have hfz72_0 := blk_frozen BK231.out 0
          have hfz72_1 := blk_frozen BK231.out 1
          have hnb73 := NB248_230.out
          have hnc73 := NB230_248.out
          have hnb74 := NB248_232.out
          have hnc74 := NB232_248.out
          have hcz75_0 : wr.cell? ⟨gb248, 0, none⟩ = some (u249000) := (blk_cell BK248.out 0).trans rfl
          have hcz75_1 : wr.cell? ⟨gb248, 1, none⟩ = some (.slice Ao21 y245.length co21) := (blk_cell BK248.out 1).trans rfl
          have hfz75_0 := blk_frozen BK248.out 0
          have hfz75_1 := blk_frozen BK248.out 1
          obtain ⟨Ao76, co76, eo76⟩ := Kd.R_slice HO_249000.out
          subst eo76
          have hnb77 := NB232_230.out
          have hnc77 := NB230_232.out
          have hcz78_0 : wr.cell? ⟨gb232, 0, none⟩ = some (.slice none 0 0) := (blk_cell BK232.out 0).trans rfl
          have hcz78_1 : wr.cell? ⟨gb232, 1, none⟩ = some (.slice none 0 0) := (blk_cell BK232.out 1).trans rfl
          have hfz78_0 := blk_frozen BK232.out 0
          have hfz78_1 := blk_frozen BK232.out 1
          go_wp2
          refine bodyPost_ret (results_cell_row rfl _ _ gb232 26 #[.slice Ao76 x249000_2.length co76, .slice Ao21 y245.length co21] (0, 0) _ rfl (by (with_reducible repeat (first | apply blk_drewN | apply blk_drew | apply blk_alloc)); refine blk_put (cs := #[.slice Ao76 x249000_2.length co76, .slice none 0 0]) ?_ 1 _ rfl; (with_reducible repeat (first | apply blk_drewN | apply blk_drew | apply blk_alloc)); refine blk_put (cs := #[.slice none 0 0, .slice none 0 0]) ?_ 0 _ rfl; (with_reducible repeat (first | apply blk_drewN | apply blk_drew | apply blk_alloc)); exact BK232.out) Try.underlying26 rfl (by kernel_rfl)) rfl ?_
          exact ⟨_, _, by first | rfl | (simp [errW_none, errW_some] <;> rfl) | (simp [*, errW_none, errW_some] <;> rfl), by (with_reducible repeat (first | apply Kd.R_alloc | apply Kd.R_drewN | apply Kd.R_drew)); exact Kd.R_mono (Kd.R_far (p := ⟨gb232, 1, none⟩) (Kd.R_far (p := ⟨gb232, 0, none⟩) (Kd.R_types HO_249000.out BK232.out (by decide)) (fun _ hk => hk.2) (.slice Ao76 x249000_2.length co76)) (fun _ hk => hk.2) (.slice Ao21 y245.length co21)) (fun _ hk => trivial), by (with_reducible repeat (first | apply Kd.R_alloc | apply Kd.R_drewN | apply Kd.R_drew)); exact Kd.R_mono (Kd.R_far (p := ⟨gb232, 1, none⟩) (Kd.R_far (p := ⟨gb232, 0, none⟩) (Kd.R_types HO_249001.out BK232.out (by decide)) (fun _ hk => hk.2) (.slice Ao76 x249000_2.length co76)) (fun _ hk => hk.2) (.slice Ao21 y245.length co21)) (fun _ hk => trivial), by repeat (first | (with_reducible first | exact HB.out | apply below_alloc | apply pw_below_drewN | apply below_drew1 | refine below_set ?_ GE230.out | refine below_set ?_ GE231.out | refine below_set ?_ GE232.out | refine below_set ?_ GE248.out) | exact HB.out)⟩
   ·rw [if_neg c5] at H
    exact absurd H (by simp)
  ·rw [if_neg c4] at H
   exact absurd H (by simp)
 ·rw [if_neg c3] at H
  exact absurd H (by simp)

end Go.Proofs.Ytfpoihcpjmkbkaa.OFnMergeReports

-- Written by a program of this session (the kit's printing program with additions of this session's own); Lean checks it.
import Derived.Test.YtfpoihcpjmkbkaaOFnExactMergeReportsx0
import Derived.Test.YtfpoihcpjmkbkaaOFnExactMergeReportsx1
namespace Go.Proofs.Ytfpoihcpjmkbkaa.OFnExactMergeReports
open Go.RowKit Go.Proofs.YtfpoihcpjmkbkaaW.PrintWords Go.Proofs.YtfpoihcpjmkbkaaW.PrintLast Go.Proofs.YtfpoihcpjmkbkaaW.PrintMore
attribute [local go_sem] max2_int min2_int max_two min_two max_three min_three max_four min_four   -- for this text's walks alone
set_option linter.unusedVariables false
set_option linter.unusedSimpArgs false

/-! ### spec_MergeReports: function 21 -/
mutual
def spec_MergeReports.l0 : Nat → Int → List (S37) → List ByteArray → List (S37) → List ByteArray → List (S37) → List ByteArray → Option ((List (S37)) × List ByteArray)
 | 0, _, _, _, _, _, _, _ => none
 | k + 1, x6, x132000, x132001, x133000, x133001, x150000, x150001 => if x6 < (x150000.length : Int) then (if 0 ≤ x6 then ((spec_outcomeOf.f k x133000 ((rd_T37 x150000 x6).f0)).bind fun t151 => (if t151 ≥ 0 then (spec_MergeReports.l0 k (wrap64 (x6 + 1)) x132000 x132001 x133000 x133001 (x150000.set (x6 : Int).toNat (⟨(rd_T37 x150000 x6).f0, t151⟩ : S37)) x150001) else (spec_MergeReports.l0 k (wrap64 (x6 + 1)) x132000 x132001 x133000 x133001 x150000 x150001))) else (none)) else (spec_MergeReports.l1 k 0 x132000 x132001 x133000 x133001 x150000 x150001)
def spec_MergeReports.l1 : Nat → Int → List (S37) → List ByteArray → List (S37) → List ByteArray → List (S37) → List ByteArray → Option ((List (S37)) × List ByteArray)
 | 0, _, _, _, _, _, _, _ => none
 | k + 1, x8, x132000, x132001, x133000, x133001, x150000, x150001 => if x8 < (x133000.length : Int) then (if 0 ≤ x8 then ((spec_outcomeOf.f k x132000 ((rd_T37 x133000 x8).f0)).bind fun t154 => (if t154 < 0 then (if x150000.length < 5864062014805 then (spec_MergeReports.l1 k (wrap64 (x8 + 1)) x132000 x132001 x133000 x133001 (x150000 ++ [(⟨(rd_T37 x133000 x8).f0, (rd_T37 x133000 x8).f1⟩ : S37)]) x150001) else (none)) else (spec_MergeReports.l1 k (wrap64 (x8 + 1)) x132000 x132001 x133000 x133001 x150000 x150001))) else (none)) else (some (x150000, x150001))
end
def spec_MergeReports.f (k : Nat) (l0_0 : List (S37)) (l0_1 : List ByteArray) (l1_0 : List (S37)) (l1_1 : List ByteArray) : Option ((List (S37)) × List ByteArray) := (some (([] : List (S37)) : List (S37))).bind fun y134 => (if y134.length + l0_0.length < 5864062014805 then ((some (([] : List ByteArray) : List ByteArray)).bind fun y140 => (if y140.length + l0_1.length < 8796093022208 then ((some (y140 ++ l0_1 : List ByteArray)).bind fun y143 => (if y143.length + l1_1.length < 8796093022208 then (spec_MergeReports.l0 k 0 l0_0 l0_1 l1_0 l1_1 (y134 ++ l0_0) (y143 ++ l1_1)) else (none))) else (none))) else (none))
theorem spec_MergeReports.mono_l : ∀ k, (∀ y0 y1 y2 y3 y4 y5 y6, LeO (spec_MergeReports.l0 k y0 y1 y2 y3 y4 y5 y6) (spec_MergeReports.l0 (k + 1) y0 y1 y2 y3 y4 y5 y6)) ∧ (∀ y0 y1 y2 y3 y4 y5 y6, LeO (spec_MergeReports.l1 k y0 y1 y2 y3 y4 y5 y6) (spec_MergeReports.l1 (k + 1) y0 y1 y2 y3 y4 y5 y6))
 | 0 => ⟨fun _ _ _ _ _ _ _ r h => by simp [spec_MergeReports.l0] at h, fun _ _ _ _ _ _ _ r h => by simp [spec_MergeReports.l1] at h⟩
 | k + 1 => by
  obtain ⟨ih0, ih1⟩ := spec_MergeReports.mono_l k
  refine ⟨?_, ?_⟩
  ·intro y0 y1 y2 y3 y4 y5 y6
   unfold spec_MergeReports.l0
   repeat' first
   | (with_reducible exact ih0 _ _ _ _ _ _ _)
   | (with_reducible exact ih1 _ _ _ _ _ _ _)
   | (with_reducible exact spec_outcomeOf.mono _ _ _)
   | (with_reducible exact LeO.refl _)
   | (with_reducible exact LeO.none _)
   | (with_reducible refine LeO.ite ?_ ?_)
   | (with_reducible refine LeO.bind ?_ (fun _ => ?_))
   | exact ih0 _ _ _ _ _ _ _
   | exact ih1 _ _ _ _ _ _ _
   | exact spec_outcomeOf.mono _ _ _
   | exact LeO.none _
   | refine LeO.ite ?_ ?_
   | refine LeO.bind ?_ (fun _ => ?_)
  ·intro y0 y1 y2 y3 y4 y5 y6
   unfold spec_MergeReports.l1
   repeat' first
   | (with_reducible exact ih0 _ _ _ _ _ _ _)
   | (with_reducible exact ih1 _ _ _ _ _ _ _)
   | (with_reducible exact spec_outcomeOf.mono _ _ _)
   | (with_reducible exact LeO.refl _)
   | (with_reducible exact LeO.none _)
   | (with_reducible refine LeO.ite ?_ ?_)
   | (with_reducible refine LeO.bind ?_ (fun _ => ?_))
   | exact ih0 _ _ _ _ _ _ _
   | exact ih1 _ _ _ _ _ _ _
   | exact spec_outcomeOf.mono _ _ _
   | exact LeO.none _
   | refine LeO.ite ?_ ?_
   | refine LeO.bind ?_ (fun _ => ?_)
theorem spec_MergeReports.mono : ∀ a0 a1 a2 a3 k, LeO (spec_MergeReports.f k a0 a1 a2 a3) (spec_MergeReports.f (k + 1) a0 a1 a2 a3) := by
 intro a0 a1 a2 a3 k
 obtain ⟨ih0, ih1⟩ := spec_MergeReports.mono_l k
 unfold spec_MergeReports.f
 repeat' first
   | (with_reducible exact ih0 _ _ _ _ _ _ _)
   | (with_reducible exact ih1 _ _ _ _ _ _ _)
   | (with_reducible exact spec_outcomeOf.mono _ _ _)
   | (with_reducible exact LeO.refl _)
   | (with_reducible exact LeO.none _)
   | (with_reducible refine LeO.ite ?_ ?_)
   | (with_reducible refine LeO.bind ?_ (fun _ => ?_))
   | exact ih0 _ _ _ _ _ _ _
   | exact ih1 _ _ _ _ _ _ _
   | exact spec_outcomeOf.mono _ _ _
   | exact LeO.none _
   | refine LeO.ite ?_ ?_
   | refine LeO.bind ?_ (fun _ => ?_)
def spec_MergeReports.T1 : Bool × List (List Nat × List Nat) := (true, [([], []), ([], []), ([1], [1]), ([0, 2], [0, 2]), ([], []), ([], []), ([5], [5]), ([4, 6, 3], [4, 6]), ([], []), ([8], [8]), ([7, 9, 7], [7, 9]), ([3, 10], [3, 10]), ([], []), ([12, 11, 10, 0, 1, 2, 3, 4, 5, 6, 7, 8, 9, 10, 11, 12], [11, 12])])
def spec_MergeReports.B1 : List Nat := [0, 0, 2, 7, 0, 0, 32, 127, 0, 256, 1023, 2047, 0, 8191]
theorem spec_MergeReports.tab1 : rtab .any (opsOf Try.f21 1) = spec_MergeReports.T1 := by kernel_rfl
theorem spec_MergeReports.bits1 : waitsOk spec_MergeReports.T1.2 spec_MergeReports.B1 = true := by kernel_rfl
def spec_MergeReports.T5 : Bool × List (List Nat × List Nat) := (true, [([], []), ([0], [0]), ([], []), ([2], [2]), ([], []), ([3, 4], [3, 4]), ([5], [5]), ([6], [6]), ([1, 7], [1, 7]), ([8, 8, 0, 1, 2, 3, 4, 5, 6, 7, 8], [8])])
def spec_MergeReports.B5 : List Nat := [0, 1, 0, 4, 0, 28, 60, 124, 255, 511]
theorem spec_MergeReports.tab5 : rtab .any (opsOf Try.f21 5) = spec_MergeReports.T5 := by kernel_rfl
theorem spec_MergeReports.bits5 : waitsOk spec_MergeReports.T5.2 spec_MergeReports.B5 = true := by kernel_rfl
def spec_MergeReports.T11 : Bool × List (List Nat × List Nat) := (true, [([], []), ([0], [0]), ([], []), ([2], [2]), ([], []), ([3, 4], [3, 4]), ([5], [5]), ([6], [6]), ([1, 7], [1, 7]), ([8], [8])])
def spec_MergeReports.B11 : List Nat := [0, 1, 0, 4, 0, 28, 60, 124, 255, 511]
theorem spec_MergeReports.tab11 : rtab .any (opsOf Try.f21 11) = spec_MergeReports.T11 := by kernel_rfl
theorem spec_MergeReports.bits11 : waitsOk spec_MergeReports.T11.2 spec_MergeReports.B11 = true := by kernel_rfl
def spec_MergeReports.T12 : Bool × List (List Nat × List Nat) := (true, [([], []), ([0], [0]), ([], []), ([2], [2]), ([], []), ([3, 4], [3, 4]), ([5], [5]), ([6], [6]), ([1, 7], [1, 7]), ([0, 1, 2, 3, 4, 5, 6, 7, 8], []), ([9, 8, 8, 0, 1, 2, 3, 4, 5, 6, 7, 8], [8, 9])])
def spec_MergeReports.B12 : List Nat := [0, 1, 0, 4, 0, 28, 60, 124, 255, 511, 1023]
theorem spec_MergeReports.tab12 : rtab .any (opsOf Try.f21 12) = spec_MergeReports.T12 := by kernel_rfl
theorem spec_MergeReports.bits12 : waitsOk spec_MergeReports.T12.2 spec_MergeReports.B12 = true := by kernel_rfl
set_option maxHeartbeats 8000000 in
set_option maxRecDepth 100000 in
theorem spec_MergeReports.calls (k : Nat) (A0_0 : Option Addr) (c0_0 : Nat) (l0_0 : List (S37)) (A0_1 : Option Addr) (c0_1 : Nat) (l0_1 : List ByteArray) (A1_0 : Option Addr) (c1_0 : Nat) (l1_0 : List (S37)) (A1_1 : Option Addr) (c1_1 : Nat) (l1_1 : List ByteArray) (r1 : List (S37)) (r2 : List ByteArray) (w : World) (hr0_0 : Kd.C k37 w A0_0 l0_0.length l0_0) (hc0_0 : l0_0.length ≤ c0_0) (hr0_1 : Kd.C Kd.string w A0_1 l0_1.length l0_1) (hc0_1 : l0_1.length ≤ c0_1) (hr1_0 : Kd.C k37 w A1_0 l1_0.length l1_0) (hc1_0 : l1_0.length ≤ c1_0) (hr1_1 : Kd.C Kd.string w A1_1 l1_1.length l1_1) (hc1_1 : l1_1.length ≤ c1_1) (h : spec_MergeReports.f k l0_0 l0_1 l1_0 l1_1 = some (r1, r2)) :
  Calls Try.prog 21 #[.agg #[.slice A0_0 l0_0.length c0_0, .slice A0_1 l0_1.length c0_1], .agg #[.slice A1_0 l1_0.length c1_0, .slice A1_1 l1_1.length c1_1]] w fun e w' => ∃ v0_ v1_ : Value, e = .returned (.agg #[v0_, v1_]) ∧ Kd.R k37 37 w' w.heap.size (fun _ => True) v0_ r1 ∧ Kd.R Kd.string 9 w' w.heap.size (fun _ => True) v1_ r2 ∧ Below w.heap.size w w' := by
 have hu26 := Try.underlying26
 have hu37 := Try.underlying37
 have HR0_0 := ak hr0_0
 have HC0_0 := ak hc0_0
 clear hr0_0 hc0_0
 have HR0_1 := ak hr0_1
 have HC0_1 := ak hc0_1
 clear hr0_1 hc0_1
 have HR1_0 := ak hr1_0
 have HC1_0 := ak hc1_0
 clear hr1_0 hc1_0
 have HR1_1 := ak hr1_1
 have HC1_1 := ak hc1_1
 clear hr1_1 hc1_1
 have HB := ak (Below.refl w.heap.size w)
 have H : ((some (([] : List (S37)) : List (S37))).bind fun y134 => (if y134.length + l0_0.length < 5864062014805 then ((some (([] : List ByteArray) : List ByteArray)).bind fun y140 => (if y140.length + l0_1.length < 8796093022208 then ((some (y140 ++ l0_1 : List ByteArray)).bind fun y143 => (if y143.length + l1_1.length < 8796093022208 then (spec_MergeReports.l0 k 0 l0_0 l0_1 l1_0 l1_1 (y134 ++ l0_0) (y143 ++ l1_1)) else (none))) else (none))) else (none))) = some (r1, r2) := h
 clear h
 obtain ⟨y134, hy134⟩ : ∃ y_ : List (S37), y_ = (([] : List (S37))) := ⟨_, rfl⟩
 replace H : (if y134.length + l0_0.length < 5864062014805 then ((some (([] : List ByteArray) : List ByteArray)).bind fun y140 => (if y140.length + l0_1.length < 8796093022208 then ((some (y140 ++ l0_1 : List ByteArray)).bind fun y143 => (if y143.length + l1_1.length < 8796093022208 then (spec_MergeReports.l0 k 0 l0_0 l0_1 l1_0 l1_1 (y134 ++ l0_0) (y143 ++ l1_1)) else (none))) else (none))) else (none)) = some (r1, r2) := by first | (rw [hy134]; with_reducible exact H) | (have H2_ := (Option.bind_some _ _).symm.trans H; rw [hy134]; with_reducible exact H2_) | (have H2_ := (Option.bind_some _ _).symm.trans H; with_reducible exact H2_) | with_reducible exact H | (rw [hy134]; exact H) | exact H
 have Ny134 := ak hy134
 clear hy134
 by_cases c3 : y134.length + l0_0.length < 5864062014805
 ·rw [if_pos c3] at H
  have LMc3 := ak c3
  clear c3
  obtain ⟨y137, hy137⟩ : ∃ y_ : List (S37), y_ = (y134 ++ l0_0) := ⟨_, rfl⟩
  replace H : ((some (([] : List ByteArray) : List ByteArray)).bind fun y140 => (if y140.length + l0_1.length < 8796093022208 then ((some (y140 ++ l0_1 : List ByteArray)).bind fun y143 => (if y143.length + l1_1.length < 8796093022208 then (spec_MergeReports.l0 k 0 l0_0 l0_1 l1_0 l1_1 y137 (y143 ++ l1_1)) else (none))) else (none))) = some (r1, r2) := by first | (rw [hy137]; with_reducible exact H) | (have H2_ := (Option.bind_some _ _).symm.trans H; rw [hy137]; with_reducible exact H2_) | (have H2_ := (Option.bind_some _ _).symm.trans H; with_reducible exact H2_) | with_reducible exact H | (rw [hy137]; exact H) | exact H
  have Ny137 := ak hy137
  clear hy137
  obtain ⟨y140, hy140⟩ : ∃ y_ : List ByteArray, y_ = (([] : List ByteArray)) := ⟨_, rfl⟩
  replace H : (if y140.length + l0_1.length < 8796093022208 then ((some (y140 ++ l0_1 : List ByteArray)).bind fun y143 => (if y143.length + l1_1.length < 8796093022208 then (spec_MergeReports.l0 k 0 l0_0 l0_1 l1_0 l1_1 y137 (y143 ++ l1_1)) else (none))) else (none)) = some (r1, r2) := by first | (rw [hy140]; with_reducible exact H) | (have H2_ := (Option.bind_some _ _).symm.trans H; rw [hy140]; with_reducible exact H2_) | (have H2_ := (Option.bind_some _ _).symm.trans H; with_reducible exact H2_) | with_reducible exact H | (rw [hy140]; exact H) | exact H
  have Ny140 := ak hy140
  clear hy140
  by_cases c4 : y140.length + l0_1.length < 8796093022208
  ·rw [if_pos c4] at H
   have LMc4 := ak c4
   clear c4
   obtain ⟨y143, hy143⟩ : ∃ y_ : List ByteArray, y_ = (y140 ++ l0_1) := ⟨_, rfl⟩
   replace H : (if y143.length + l1_1.length < 8796093022208 then (spec_MergeReports.l0 k 0 l0_0 l0_1 l1_0 l1_1 y137 (y143 ++ l1_1)) else (none)) = some (r1, r2) := by first | (rw [hy143]; with_reducible exact H) | (have H2_ := (Option.bind_some _ _).symm.trans H; rw [hy143]; with_reducible exact H2_) | (have H2_ := (Option.bind_some _ _).symm.trans H; with_reducible exact H2_) | with_reducible exact H | (rw [hy143]; exact H) | exact H
   have Ny143 := ak hy143
   clear hy143
   by_cases c5 : y143.length + l1_1.length < 8796093022208
   ·rw [if_pos c5] at H
    have LMc5 := ak c5
    clear c5
    obtain ⟨y146, hy146⟩ : ∃ y_ : List ByteArray, y_ = (y143 ++ l1_1) := ⟨_, rfl⟩
    replace H : (spec_MergeReports.l0 k 0 l0_0 l0_1 l1_0 l1_1 y137 y146) = some (r1, r2) := by first | (rw [hy146]; with_reducible exact H) | (have H2_ := (Option.bind_some _ _).symm.trans H; rw [hy146]; with_reducible exact H2_) | (have H2_ := (Option.bind_some _ _).symm.trans H; with_reducible exact H2_) | with_reducible exact H | (rw [hy146]; exact H) | exact H
    have Ny146 := ak hy146
    clear hy146
    have H' := ak H
    clear H
    go_enter Try.func21, Try.ntmps21
    try go_wp2_with (first | ((with_reducible refine gate_dst (N := 2) rfl ?_); refine box_event ?hg (N := 2) ?hd (cs := #[.slice A0_0 l0_0.length c0_0, .slice A0_1 l0_1.length c0_1]) (t := 26) ?hr ?_; (case hd => rfl); (case hg => rfl); (case hr => first | (go_simp; done) | (go_simp; rfl)); intro gb131 hg w6 hbox hb; have n0_ := ak (below_step (by repeat (first | (with_reducible first | exact HB.out | apply below_alloc | apply pw_below_drewN | apply below_drew1) | exact HB.out)) hb); have n1_ := ak (hbox); have n2_ := ak ((by rw [hg]; exact (below_size (by repeat (first | (with_reducible first | exact HB.out | apply below_alloc | apply pw_below_drewN | apply below_drew1) | exact HB.out))) : w.heap.size ≤ gb131)); have n3_ := ak ((by rw [hg]; exact (below_size (by repeat (first | (with_reducible first | exact HB.out | apply below_alloc | apply pw_below_drewN | apply below_drew1) | exact HB.out))) : w.heap.size ≤ gb131)); clear HB; have HB := n0_; have BK131 := n1_; have GW131 := n2_; have GE131 := n3_; clear n0_ n1_ n2_ n3_; clear hb hbox hg) | ((with_reducible refine gate_dst (N := 3) rfl ?_); refine box_event ?hg (N := 3) ?hd (cs := #[.slice A1_0 l1_0.length c1_0, .slice A1_1 l1_1.length c1_1]) (t := 26) ?hr ?_; (case hd => rfl); (case hg => rfl); (case hr => first | (go_simp; done) | (go_simp; rfl)); intro gb132 hg w7 hbox hb; have n0_ := ak (blk_below (g := gb131) (o := .cells #[.slice A0_0 l0_0.length c0_0, .slice A0_1 l0_1.length c0_1] 26 (0, 0)) (bTo BK131.out) hb); have n1_ := ak (below_step (by repeat (first | (with_reducible first | exact HB.out | apply below_alloc | apply pw_below_drewN | apply below_drew1 | refine below_set ?_ GE131.out) | exact HB.out)) hb); have n2_ := ak (hbox); have n3_ := ak ((by rw [hg]; exact (below_size (by repeat (first | (with_reducible first | exact HB.out | apply below_alloc | apply pw_below_drewN | apply below_drew1 | refine below_set ?_ GE131.out) | exact HB.out))) : w.heap.size ≤ gb132)); have n4_ := ak ((by rw [hg]; exact (below_size (by repeat (first | (with_reducible first | exact HB.out | apply below_alloc | apply pw_below_drewN | apply below_drew1 | refine below_set ?_ GE131.out) | exact HB.out))) : w.heap.size ≤ gb132)); have n5_ := ak ((by rw [hg]; exact Nat.ne_of_lt (blk_lt (g := gb131) (o := .cells #[.slice A0_0 l0_0.length c0_0, .slice A0_1 l0_1.length c0_1] 26 (0, 0)) (bTo BK131.out)) : gb131 ≠ gb132)); have n6_ := ak ((by rw [hg]; exact Nat.ne_of_gt (blk_lt (g := gb131) (o := .cells #[.slice A0_0 l0_0.length c0_0, .slice A0_1 l0_1.length c0_1] 26 (0, 0)) (bTo BK131.out)) : gb132 ≠ gb131)); clear BK131; clear HB; have BK131 := n0_; have HB := n1_; have BK132 := n2_; have GW132 := n3_; have GE132 := n4_; have NB131_132 := n5_; have NB132_131 := n6_; clear n0_ n1_ n2_ n3_ n4_ n5_ n6_; clear hb hbox hg) | ((with_reducible refine gate_dst (N := 4) rfl ?_); refine box_event ?hg (N := 4) ?hd (cs := #[.slice none 0 0, .slice none 0 0]) (t := 26) ?hr ?_; (case hd => rfl); (case hg => rfl); (case hr => first | (go_simp; done) | (go_simp; rfl)); intro gb133 hg w8 hbox hb; have n0_ := ak (blk_below (g := gb131) (o := .cells #[.slice A0_0 l0_0.length c0_0, .slice A0_1 l0_1.length c0_1] 26 (0, 0)) (bTo BK131.out) hb); have n1_ := ak (blk_below (g := gb132) (o := .cells #[.slice A1_0 l1_0.length c1_0, .slice A1_1 l1_1.length c1_1] 26 (0, 0)) (bTo BK132.out) hb); have n2_ := ak (below_step (by repeat (first | (with_reducible first | exact HB.out | apply below_alloc | apply pw_below_drewN | apply below_drew1 | refine below_set ?_ GE131.out | refine below_set ?_ GE132.out) | exact HB.out)) hb); have n3_ := ak (hbox); have n4_ := ak ((by rw [hg]; exact (below_size (by repeat (first | (with_reducible first | exact HB.out | apply below_alloc | apply pw_below_drewN | apply below_drew1 | refine below_set ?_ GE131.out | refine below_set ?_ GE132.out) | exact HB.out))) : w.heap.size ≤ gb133)); have n5_ := ak ((by rw [hg]; exact (below_size (by repeat (first | (with_reducible first | exact HB.out | apply below_alloc | apply pw_below_drewN | apply below_drew1 | refine below_set ?_ GE131.out | refine below_set ?_ GE132.out) | exact HB.out))) : w.heap.size ≤ gb133)); have n6_ := ak ((by rw [hg]; exact Nat.ne_of_lt (blk_lt (g := gb131) (o := .cells #[.slice A0_0 l0_0.length c0_0, .slice A0_1 l0_1.length c0_1] 26 (0, 0)) (bTo BK131.out)) : gb131 ≠ gb133)); have n7_ := ak ((by rw [hg]; exact Nat.ne_of_gt (blk_lt (g := gb131) (o := .cells #[.slice A0_0 l0_0.length c0_0, .slice A0_1 l0_1.length c0_1] 26 (0, 0)) (bTo BK131.out)) : gb133 ≠ gb131)); have n8_ := ak ((by rw [hg]; exact Nat.ne_of_lt (blk_lt (g := gb132) (o := .cells #[.slice A1_0 l1_0.length c1_0, .slice A1_1 l1_1.length c1_1] 26 (0, 0)) (bTo BK132.out)) : gb132 ≠ gb133)); have n9_ := ak ((by rw [hg]; exact Nat.ne_of_gt (blk_lt (g := gb132) (o := .cells #[.slice A1_0 l1_0.length c1_0, .slice A1_1 l1_1.length c1_1] 26 (0, 0)) (bTo BK132.out)) : gb133 ≠ gb132)); clear BK131; clear BK132; clear HB; have BK131 := n0_; have BK132 := n1_; have HB := n2_; have BK133 := n3_; have GW133 := n4_; have GE133 := n5_; have NB131_133 := n6_; have NB133_131 := n7_; have NB132_133 := n8_; have NB133_132 := n9_; clear n0_ n1_ n2_ n3_ n4_ n5_ n6_ n7_ n8_ n9_; clear hb hbox hg))
    have n0_ := ak (blk_drew BK131.out)
    have n1_ := ak (blk_drew BK132.out)
    have n2_ := ak (blk_drew BK133.out)
    have n3_ := ak (below_drew1 HB.out)
    clear BK131
    clear BK132
    clear BK133
    clear HB
    have BK131 := n0_
    have BK132 := n1_
    have BK133 := n2_
    have HB := n3_
    clear n0_ n1_ n2_ n3_
    refine start_ (n := 14) (S := fun w' => w'.cell? ⟨gb131, 0, none⟩ = some (.slice A0_0 l0_0.length c0_0) ∧ w'.cell? ⟨gb131, 1, none⟩ = some (.slice A0_1 l0_1.length c0_1) ∧ w'.cell? ⟨gb132, 0, none⟩ = some (.slice A1_0 l1_0.length c1_0) ∧ w'.cell? ⟨gb132, 1, none⟩ = some (.slice A1_1 l1_1.length c1_1)) (ds := []) #[false, false, false, false, false, false, false, false, false, false, false, false, false, false] (by kernel_rfl) rfl rfl ⟨(blk_cell BK131.out 0).trans rfl, (blk_cell BK131.out 1).trans rfl, (blk_cell BK132.out 0).trans rfl, (blk_cell BK132.out 1).trans rfl⟩ (fun hHeld => ?_); refine with_tabW spec_MergeReports.tab1 spec_MergeReports.bits1 (fun HT_ HW_ => ?_)
    generalize w8.drew = w9 at BK131 BK132 BK133 HB hHeld ⊢
    refine pure_ (i := 1) (N := some 10) (v := ?_) (a' := ?_) #[false, true, false, false, false, false, false, false, false, false, false, false, false, false] rfl rfl (any_of HT_.out (by kernel_rfl)) (fun _ _ _ h => h) (Or.inl ⟨by rfl, ?_⟩) ?_ ?_
    rotate_left
    ·intro w'
     go_simp
     with_reducible rfl
    rotate_left
    ·simp only [Act.put, List.setIfInBounds_toArray, List.set_cons_zero, List.set_cons_succ, i64_w, i32_w]
     rfl
    refine pure_ (i := 5) (N := some 14) (v := ?_) (a' := ?_) #[false, true, false, false, false, true, false, false, false, false, false, false, false, false] rfl rfl (any_of HT_.out (by kernel_rfl)) (fun _ _ _ h => h) (Or.inl ⟨by rfl, ?_⟩) ?_ ?_
    rotate_left
    ·intro w'
     go_simp
     with_reducible rfl
    rotate_left
    ·simp only [Act.put, List.setIfInBounds_toArray, List.set_cons_zero, List.set_cons_succ, i64_w, i32_w]
     rfl
    refine pure_ (i := 8) (N := some 17) (v := ?_) (a' := ?_) #[false, true, false, false, false, true, false, false, true, false, false, false, false, false] rfl rfl (any_of HT_.out (by kernel_rfl)) (fun _ _ _ h => h) (Or.inl ⟨by rfl, ?_⟩) ?_ ?_
    rotate_left
    ·intro w'
     go_simp
     with_reducible rfl
    rotate_left
    ·simp only [Act.put, List.setIfInBounds_toArray, List.set_cons_zero, List.set_cons_succ, i64_w, i32_w]
     rfl
    refine take_ (i := 2) (N := some 11) (v := ?_) (a' := ?_) #[false, true, true, false, false, true, false, false, true, false, false, false, false, false] rfl rfl (take_ofW HT_.out HW_.out (by kernel_rfl)) (fun _ _ _ h => h) (Or.inl ⟨by rfl, ?_⟩) hHeld ?_ ?_
    rotate_left
    ·rintro w' ⟨s0, s1, s2, s3⟩
     go_simp
     with_reducible rfl
    rotate_left
    ·simp only [Act.put, List.setIfInBounds_toArray, List.set_cons_zero, List.set_cons_succ, i64_w, i32_w]
     rfl
    refine take_ (i := 6) (N := some 15) (v := ?_) (a' := ?_) #[false, true, true, false, false, true, true, false, true, false, false, false, false, false] rfl rfl (take_ofW HT_.out HW_.out (by kernel_rfl)) (fun _ _ _ h => h) (Or.inl ⟨by rfl, ?_⟩) hHeld ?_ ?_
    rotate_left
    ·rintro w' ⟨s0, s1, s2, s3⟩
     go_simp
     with_reducible rfl
    rotate_left
    ·simp only [Act.put, List.setIfInBounds_toArray, List.set_cons_zero, List.set_cons_succ, i64_w, i32_w]
     rfl
    refine take_ (i := 9) (N := some 18) (v := ?_) (a' := ?_) #[false, true, true, false, false, true, true, false, true, true, false, false, false, false] rfl rfl (take_ofW HT_.out HW_.out (by kernel_rfl)) (fun _ _ _ h => h) (Or.inl ⟨by rfl, ?_⟩) hHeld ?_ ?_
    rotate_left
    ·rintro w' ⟨s0, s1, s2, s3⟩
     go_simp
     with_reducible rfl
    rotate_left
    ·simp only [Act.put, List.setIfInBounds_toArray, List.set_cons_zero, List.set_cons_succ, i64_w, i32_w]
     rfl
    refine join_ (σ := Value × Value × Value × Value × Value × Nat) 1 #[true, true, true, true, true, true, true, true, true, true, true, true, true, false] (fun s_ => [(9, s_.1), (12, s_.2.1), (13, s_.2.2.1), (16, s_.2.2.2.1), (19, s_.2.2.2.2.1), (5, .pointer (some ⟨s_.2.2.2.2.2, 0, none⟩)), (20, .agg #[s_.2.1, s_.2.2.2.2.1])]) (fun s_ w' => (w'.cell? ⟨gb131, 0, none⟩ = some (.slice A0_0 l0_0.length c0_0) ∧ w'.cell? ⟨gb131, 1, none⟩ = some (.slice A0_1 l0_1.length c0_1) ∧ w'.cell? ⟨gb132, 0, none⟩ = some (.slice A1_0 l1_0.length c1_0) ∧ w'.cell? ⟨gb132, 1, none⟩ = some (.slice A1_1 l1_1.length c1_1)) ∧ (Kd.R k37 37 w' w.heap.size (fun _ => True) s_.2.1 y137) ∧ (Kd.R Kd.string 9 w' w.heap.size (fun _ => True) s_.2.2.2.2.1 y146) ∧ (w'.heap[gb131]? = some (.cells #[.slice A0_0 l0_0.length c0_0, .slice A0_1 l0_1.length c0_1] 26 (0, 0))) ∧ (w'.heap[gb132]? = some (.cells #[.slice A1_0 l1_0.length c1_0, .slice A1_1 l1_1.length c1_1] 26 (0, 0))) ∧ (w'.heap[gb133]? = some (.cells #[.slice none 0 0, .slice none 0 0] 26 (0, 0))) ∧ (w'.heap[s_.2.2.2.2.2]? = some (.cells #[.slice none 0 0, .slice none 0 0] 26 (0, 0))) ∧ (w.heap.size ≤ s_.2.2.2.2.2) ∧ (w.heap.size ≤ s_.2.2.2.2.2) ∧ (gb131 ≠ s_.2.2.2.2.2) ∧ (s_.2.2.2.2.2 ≠ gb131) ∧ (gb132 ≠ s_.2.2.2.2.2) ∧ (s_.2.2.2.2.2 ≠ gb132) ∧ (gb133 ≠ s_.2.2.2.2.2) ∧ (s_.2.2.2.2.2 ≠ gb133) ∧ (Below w.heap.size w w')) ?_ ?_
    rotate_left
    ·intro hJ0_3_4_7_10_12
     refine join_ (σ := Value × Value × Value × Value × Value) 2 #[true, true, true, true, true, true, true, true, true, true, true, true, false, false] (fun s_ => [(9, s_.1), (12, s_.2.1), (13, s_.2.2.1), (16, s_.2.2.2.1), (19, s_.2.2.2.2), (20, .agg #[s_.2.1, s_.2.2.2.2])]) (fun s_ w' => (w'.cell? ⟨gb131, 0, none⟩ = some (.slice A0_0 l0_0.length c0_0) ∧ w'.cell? ⟨gb131, 1, none⟩ = some (.slice A0_1 l0_1.length c0_1) ∧ w'.cell? ⟨gb132, 0, none⟩ = some (.slice A1_0 l1_0.length c1_0) ∧ w'.cell? ⟨gb132, 1, none⟩ = some (.slice A1_1 l1_1.length c1_1)) ∧ (Kd.R k37 37 w' w.heap.size (fun _ => True) s_.2.1 y137) ∧ (Kd.R Kd.string 9 w' w.heap.size (fun _ => True) s_.2.2.2.2 y146) ∧ (w'.heap[gb131]? = some (.cells #[.slice A0_0 l0_0.length c0_0, .slice A0_1 l0_1.length c0_1] 26 (0, 0))) ∧ (w'.heap[gb132]? = some (.cells #[.slice A1_0 l1_0.length c1_0, .slice A1_1 l1_1.length c1_1] 26 (0, 0))) ∧ (w'.heap[gb133]? = some (.cells #[.slice none 0 0, .slice none 0 0] 26 (0, 0))) ∧ (Below w.heap.size w w')) ?_ ?_
     rotate_left
     ·intro hJ0_3_4_7_10
      refine join_ (σ := Value × Value × Value × Value × Nat) 3 #[true, true, true, true, true, true, true, true, true, true, false, false, true, false] (fun s_ => [(9, s_.1), (12, s_.2.1), (13, s_.2.2.1), (16, s_.2.2.2.1), (5, .pointer (some ⟨s_.2.2.2.2, 0, none⟩))]) (fun s_ w' => (w'.cell? ⟨gb131, 0, none⟩ = some (.slice A0_0 l0_0.length c0_0) ∧ w'.cell? ⟨gb131, 1, none⟩ = some (.slice A0_1 l0_1.length c0_1) ∧ w'.cell? ⟨gb132, 0, none⟩ = some (.slice A1_0 l1_0.length c1_0) ∧ w'.cell? ⟨gb132, 1, none⟩ = some (.slice A1_1 l1_1.length c1_1)) ∧ (Kd.R k37 37 w' w.heap.size (fun _ => True) s_.2.1 y137) ∧ (Kd.R Kd.string 9 w' w.heap.size (fun _ => True) s_.2.2.2.1 y143) ∧ (w'.heap[gb131]? = some (.cells #[.slice A0_0 l0_0.length c0_0, .slice A0_1 l0_1.length c0_1] 26 (0, 0))) ∧ (w'.heap[gb132]? = some (.cells #[.slice A1_0 l1_0.length c1_0, .slice A1_1 l1_1.length c1_1] 26 (0, 0))) ∧ (w'.heap[gb133]? = some (.cells #[.slice none 0 0, .slice none 0 0] 26 (0, 0))) ∧ (w'.heap[s_.2.2.2.2]? = some (.cells #[.slice none 0 0, .slice none 0 0] 26 (0, 0))) ∧ (w.heap.size ≤ s_.2.2.2.2) ∧ (w.heap.size ≤ s_.2.2.2.2) ∧ (gb131 ≠ s_.2.2.2.2) ∧ (s_.2.2.2.2 ≠ gb131) ∧ (gb132 ≠ s_.2.2.2.2) ∧ (s_.2.2.2.2 ≠ gb132) ∧ (gb133 ≠ s_.2.2.2.2) ∧ (s_.2.2.2.2 ≠ gb133) ∧ (Below w.heap.size w w')) ?_ ?_
      rotate_left
      ·intro hJ0_3_4_7_12
       refine join_ (σ := Value × Value × Value × Value) 4 #[true, true, true, true, true, true, true, true, true, true, false, false, false, false] (fun s_ => [(9, s_.1), (12, s_.2.1), (13, s_.2.2.1), (16, s_.2.2.2)]) (fun s_ w' => (w'.cell? ⟨gb131, 0, none⟩ = some (.slice A0_0 l0_0.length c0_0) ∧ w'.cell? ⟨gb131, 1, none⟩ = some (.slice A0_1 l0_1.length c0_1) ∧ w'.cell? ⟨gb132, 0, none⟩ = some (.slice A1_0 l1_0.length c1_0) ∧ w'.cell? ⟨gb132, 1, none⟩ = some (.slice A1_1 l1_1.length c1_1)) ∧ (Kd.R k37 37 w' w.heap.size (fun _ => True) s_.2.1 y137) ∧ (Kd.R Kd.string 9 w' w.heap.size (fun _ => True) s_.2.2.2 y143) ∧ (w'.heap[gb131]? = some (.cells #[.slice A0_0 l0_0.length c0_0, .slice A0_1 l0_1.length c0_1] 26 (0, 0))) ∧ (w'.heap[gb132]? = some (.cells #[.slice A1_0 l1_0.length c1_0, .slice A1_1 l1_1.length c1_1] 26 (0, 0))) ∧ (w'.heap[gb133]? = some (.cells #[.slice none 0 0, .slice none 0 0] 26 (0, 0))) ∧ (Below w.heap.size w w')) ?_ ?_
       rotate_left
       ·intro hJ0_3_4_7
        refine join_ (σ := Value × Value × Value × Nat) 4 #[true, true, true, true, true, true, true, false, true, true, false, false, true, false] (fun s_ => [(9, s_.1), (12, s_.2.1), (13, s_.2.2.1), (5, .pointer (some ⟨s_.2.2.2, 0, none⟩))]) (fun s_ w' => (w'.cell? ⟨gb131, 0, none⟩ = some (.slice A0_0 l0_0.length c0_0) ∧ w'.cell? ⟨gb131, 1, none⟩ = some (.slice A0_1 l0_1.length c0_1) ∧ w'.cell? ⟨gb132, 0, none⟩ = some (.slice A1_0 l1_0.length c1_0) ∧ w'.cell? ⟨gb132, 1, none⟩ = some (.slice A1_1 l1_1.length c1_1)) ∧ (Kd.R k37 37 w' w.heap.size (fun _ => True) s_.2.1 y137) ∧ (Kd.R Kd.string 9 w' w.heap.size (fun _ => True) s_.2.2.1 y140) ∧ (w'.heap[gb131]? = some (.cells #[.slice A0_0 l0_0.length c0_0, .slice A0_1 l0_1.length c0_1] 26 (0, 0))) ∧ (w'.heap[gb132]? = some (.cells #[.slice A1_0 l1_0.length c1_0, .slice A1_1 l1_1.length c1_1] 26 (0, 0))) ∧ (w'.heap[gb133]? = some (.cells #[.slice none 0 0, .slice none 0 0] 26 (0, 0))) ∧ (w'.heap[s_.2.2.2]? = some (.cells #[.slice none 0 0, .slice none 0 0] 26 (0, 0))) ∧ (w.heap.size ≤ s_.2.2.2) ∧ (w.heap.size ≤ s_.2.2.2) ∧ (gb131 ≠ s_.2.2.2) ∧ (s_.2.2.2 ≠ gb131) ∧ (gb132 ≠ s_.2.2.2) ∧ (s_.2.2.2 ≠ gb132) ∧ (gb133 ≠ s_.2.2.2) ∧ (s_.2.2.2 ≠ gb133) ∧ (Below w.heap.size w w')) ?_ ?_
        rotate_left
        ·intro hJ0_3_4_12
         refine join_ (σ := Value × Value × Value) 5 #[true, true, true, true, true, true, true, false, true, true, false, false, false, false] (fun s_ => [(9, s_.1), (12, s_.2.1), (13, s_.2.2)]) (fun s_ w' => (w'.cell? ⟨gb131, 0, none⟩ = some (.slice A0_0 l0_0.length c0_0) ∧ w'.cell? ⟨gb131, 1, none⟩ = some (.slice A0_1 l0_1.length c0_1) ∧ w'.cell? ⟨gb132, 0, none⟩ = some (.slice A1_0 l1_0.length c1_0) ∧ w'.cell? ⟨gb132, 1, none⟩ = some (.slice A1_1 l1_1.length c1_1)) ∧ (Kd.R k37 37 w' w.heap.size (fun _ => True) s_.2.1 y137) ∧ (Kd.R Kd.string 9 w' w.heap.size (fun _ => True) s_.2.2 y140) ∧ (w'.heap[gb131]? = some (.cells #[.slice A0_0 l0_0.length c0_0, .slice A0_1 l0_1.length c0_1] 26 (0, 0))) ∧ (w'.heap[gb132]? = some (.cells #[.slice A1_0 l1_0.length c1_0, .slice A1_1 l1_1.length c1_1] 26 (0, 0))) ∧ (w'.heap[gb133]? = some (.cells #[.slice none 0 0, .slice none 0 0] 26 (0, 0))) ∧ (Below w.heap.size w w')) ?_ ?_
         rotate_left
         ·intro hJ0_3_4
          refine join_ (σ := Value × Value × Nat) 5 #[true, true, true, true, false, true, true, false, true, true, false, false, true, false] (fun s_ => [(9, s_.1), (12, s_.2.1), (5, .pointer (some ⟨s_.2.2, 0, none⟩))]) (fun s_ w' => (w'.cell? ⟨gb131, 0, none⟩ = some (.slice A0_0 l0_0.length c0_0) ∧ w'.cell? ⟨gb131, 1, none⟩ = some (.slice A0_1 l0_1.length c0_1) ∧ w'.cell? ⟨gb132, 0, none⟩ = some (.slice A1_0 l1_0.length c1_0) ∧ w'.cell? ⟨gb132, 1, none⟩ = some (.slice A1_1 l1_1.length c1_1)) ∧ (Kd.R k37 37 w' w.heap.size (fun _ => True) s_.2.1 y137) ∧ (w'.heap[gb131]? = some (.cells #[.slice A0_0 l0_0.length c0_0, .slice A0_1 l0_1.length c0_1] 26 (0, 0))) ∧ (w'.heap[gb132]? = some (.cells #[.slice A1_0 l1_0.length c1_0, .slice A1_1 l1_1.length c1_1] 26 (0, 0))) ∧ (w'.heap[gb133]? = some (.cells #[.slice none 0 0, .slice none 0 0] 26 (0, 0))) ∧ (w'.heap[s_.2.2]? = some (.cells #[.slice none 0 0, .slice none 0 0] 26 (0, 0))) ∧ (w.heap.size ≤ s_.2.2) ∧ (w.heap.size ≤ s_.2.2) ∧ (gb131 ≠ s_.2.2) ∧ (s_.2.2 ≠ gb131) ∧ (gb132 ≠ s_.2.2) ∧ (s_.2.2 ≠ gb132) ∧ (gb133 ≠ s_.2.2) ∧ (s_.2.2 ≠ gb133) ∧ (Below w.heap.size w w')) ?_ ?_
          rotate_left
          ·intro hJ0_3_12
           refine join_ (σ := Value × Value × Nat) 5 #[true, true, true, false, true, true, true, false, true, true, false, false, true, false] (fun s_ => [(9, s_.1), (13, s_.2.1), (5, .pointer (some ⟨s_.2.2, 0, none⟩))]) (fun s_ w' => (w'.cell? ⟨gb131, 0, none⟩ = some (.slice A0_0 l0_0.length c0_0) ∧ w'.cell? ⟨gb131, 1, none⟩ = some (.slice A0_1 l0_1.length c0_1) ∧ w'.cell? ⟨gb132, 0, none⟩ = some (.slice A1_0 l1_0.length c1_0) ∧ w'.cell? ⟨gb132, 1, none⟩ = some (.slice A1_1 l1_1.length c1_1)) ∧ (Kd.R k37 37 w' w.heap.size (fun _ => True) s_.1 y134) ∧ (Kd.R Kd.string 9 w' w.heap.size (fun _ => True) s_.2.1 y140) ∧ (w'.heap[gb131]? = some (.cells #[.slice A0_0 l0_0.length c0_0, .slice A0_1 l0_1.length c0_1] 26 (0, 0))) ∧ (w'.heap[gb132]? = some (.cells #[.slice A1_0 l1_0.length c1_0, .slice A1_1 l1_1.length c1_1] 26 (0, 0))) ∧ (w'.heap[gb133]? = some (.cells #[.slice none 0 0, .slice none 0 0] 26 (0, 0))) ∧ (w'.heap[s_.2.2]? = some (.cells #[.slice none 0 0, .slice none 0 0] 26 (0, 0))) ∧ (w.heap.size ≤ s_.2.2) ∧ (w.heap.size ≤ s_.2.2) ∧ (gb131 ≠ s_.2.2) ∧ (s_.2.2 ≠ gb131) ∧ (gb132 ≠ s_.2.2) ∧ (s_.2.2 ≠ gb132) ∧ (gb133 ≠ s_.2.2) ∧ (s_.2.2 ≠ gb133) ∧ (Below w.heap.size w w')) ?_ ?_
           rotate_left
           ·intro hJ0_4_12
            refine join_ (σ := Value × Value) 6 #[true, true, true, true, false, true, true, false, true, true, false, false, false, false] (fun s_ => [(9, s_.1), (12, s_.2)]) (fun s_ w' => (w'.cell? ⟨gb131, 0, none⟩ = some (.slice A0_0 l0_0.length c0_0) ∧ w'.cell? ⟨gb131, 1, none⟩ = some (.slice A0_1 l0_1.length c0_1) ∧ w'.cell? ⟨gb132, 0, none⟩ = some (.slice A1_0 l1_0.length c1_0) ∧ w'.cell? ⟨gb132, 1, none⟩ = some (.slice A1_1 l1_1.length c1_1)) ∧ (Kd.R k37 37 w' w.heap.size (fun _ => True) s_.2 y137) ∧ (w'.heap[gb131]? = some (.cells #[.slice A0_0 l0_0.length c0_0, .slice A0_1 l0_1.length c0_1] 26 (0, 0))) ∧ (w'.heap[gb132]? = some (.cells #[.slice A1_0 l1_0.length c1_0, .slice A1_1 l1_1.length c1_1] 26 (0, 0))) ∧ (w'.heap[gb133]? = some (.cells #[.slice none 0 0, .slice none 0 0] 26 (0, 0))) ∧ (Below w.heap.size w w')) ?_ ?_
            rotate_left
            ·intro hJ0_3
             refine join_ (σ := Value × Value) 6 #[true, true, true, false, true, true, true, false, true, true, false, false, false, false] (fun s_ => [(9, s_.1), (13, s_.2)]) (fun s_ w' => (w'.cell? ⟨gb131, 0, none⟩ = some (.slice A0_0 l0_0.length c0_0) ∧ w'.cell? ⟨gb131, 1, none⟩ = some (.slice A0_1 l0_1.length c0_1) ∧ w'.cell? ⟨gb132, 0, none⟩ = some (.slice A1_0 l1_0.length c1_0) ∧ w'.cell? ⟨gb132, 1, none⟩ = some (.slice A1_1 l1_1.length c1_1)) ∧ (Kd.R k37 37 w' w.heap.size (fun _ => True) s_.1 y134) ∧ (Kd.R Kd.string 9 w' w.heap.size (fun _ => True) s_.2 y140) ∧ (w'.heap[gb131]? = some (.cells #[.slice A0_0 l0_0.length c0_0, .slice A0_1 l0_1.length c0_1] 26 (0, 0))) ∧ (w'.heap[gb132]? = some (.cells #[.slice A1_0 l1_0.length c1_0, .slice A1_1 l1_1.length c1_1] 26 (0, 0))) ∧ (w'.heap[gb133]? = some (.cells #[.slice none 0 0, .slice none 0 0] 26 (0, 0))) ∧ (Below w.heap.size w w')) ?_ ?_
             rotate_left
             ·intro hJ0_4
              refine join_ (σ := Value × Nat) 6 #[true, true, true, false, false, true, true, false, true, true, false, false, true, false] (fun s_ => [(9, s_.1), (5, .pointer (some ⟨s_.2, 0, none⟩))]) (fun s_ w' => (w'.cell? ⟨gb131, 0, none⟩ = some (.slice A0_0 l0_0.length c0_0) ∧ w'.cell? ⟨gb131, 1, none⟩ = some (.slice A0_1 l0_1.length c0_1) ∧ w'.cell? ⟨gb132, 0, none⟩ = some (.slice A1_0 l1_0.length c1_0) ∧ w'.cell? ⟨gb132, 1, none⟩ = some (.slice A1_1 l1_1.length c1_1)) ∧ (Kd.R k37 37 w' w.heap.size (fun _ => True) s_.1 y134) ∧ (w'.heap[gb131]? = some (.cells #[.slice A0_0 l0_0.length c0_0, .slice A0_1 l0_1.length c0_1] 26 (0, 0))) ∧ (w'.heap[gb132]? = some (.cells #[.slice A1_0 l1_0.length c1_0, .slice A1_1 l1_1.length c1_1] 26 (0, 0))) ∧ (w'.heap[gb133]? = some (.cells #[.slice none 0 0, .slice none 0 0] 26 (0, 0))) ∧ (w'.heap[s_.2]? = some (.cells #[.slice none 0 0, .slice none 0 0] 26 (0, 0))) ∧ (w.heap.size ≤ s_.2) ∧ (w.heap.size ≤ s_.2) ∧ (gb131 ≠ s_.2) ∧ (s_.2 ≠ gb131) ∧ (gb132 ≠ s_.2) ∧ (s_.2 ≠ gb132) ∧ (gb133 ≠ s_.2) ∧ (s_.2 ≠ gb133) ∧ (Below w.heap.size w w')) ?_ ?_
              rotate_left
              ·intro hJ0_12
               refine join_ (σ := Value × Nat) 6 #[false, true, true, false, true, true, true, false, true, true, false, false, true, false] (fun s_ => [(13, s_.1), (5, .pointer (some ⟨s_.2, 0, none⟩))]) (fun s_ w' => (w'.cell? ⟨gb131, 0, none⟩ = some (.slice A0_0 l0_0.length c0_0) ∧ w'.cell? ⟨gb131, 1, none⟩ = some (.slice A0_1 l0_1.length c0_1) ∧ w'.cell? ⟨gb132, 0, none⟩ = some (.slice A1_0 l1_0.length c1_0) ∧ w'.cell? ⟨gb132, 1, none⟩ = some (.slice A1_1 l1_1.length c1_1)) ∧ (Kd.R Kd.string 9 w' w.heap.size (fun _ => True) s_.1 y140) ∧ (w'.heap[gb131]? = some (.cells #[.slice A0_0 l0_0.length c0_0, .slice A0_1 l0_1.length c0_1] 26 (0, 0))) ∧ (w'.heap[gb132]? = some (.cells #[.slice A1_0 l1_0.length c1_0, .slice A1_1 l1_1.length c1_1] 26 (0, 0))) ∧ (w'.heap[gb133]? = some (.cells #[.slice none 0 0, .slice none 0 0] 26 (0, 0))) ∧ (w'.heap[s_.2]? = some (.cells #[.slice none 0 0, .slice none 0 0] 26 (0, 0))) ∧ (w.heap.size ≤ s_.2) ∧ (w.heap.size ≤ s_.2) ∧ (gb131 ≠ s_.2) ∧ (s_.2 ≠ gb131) ∧ (gb132 ≠ s_.2) ∧ (s_.2 ≠ gb132) ∧ (gb133 ≠ s_.2) ∧ (s_.2 ≠ gb133) ∧ (Below w.heap.size w w')) ?_ ?_
               rotate_left
               ·intro hJ4_12
                refine join_ (σ := Value) 7 #[true, true, true, false, false, true, true, false, true, true, false, false, false, false] (fun s_ => [(9, s_)]) (fun s_ w' => (w'.cell? ⟨gb131, 0, none⟩ = some (.slice A0_0 l0_0.length c0_0) ∧ w'.cell? ⟨gb131, 1, none⟩ = some (.slice A0_1 l0_1.length c0_1) ∧ w'.cell? ⟨gb132, 0, none⟩ = some (.slice A1_0 l1_0.length c1_0) ∧ w'.cell? ⟨gb132, 1, none⟩ = some (.slice A1_1 l1_1.length c1_1)) ∧ (Kd.R k37 37 w' w.heap.size (fun _ => True) s_ y134) ∧ (w'.heap[gb131]? = some (.cells #[.slice A0_0 l0_0.length c0_0, .slice A0_1 l0_1.length c0_1] 26 (0, 0))) ∧ (w'.heap[gb132]? = some (.cells #[.slice A1_0 l1_0.length c1_0, .slice A1_1 l1_1.length c1_1] 26 (0, 0))) ∧ (w'.heap[gb133]? = some (.cells #[.slice none 0 0, .slice none 0 0] 26 (0, 0))) ∧ (Below w.heap.size w w')) ?_ ?_
                rotate_left
                ·intro hJ0
                 refine join_ (σ := Value) 7 #[false, true, true, false, true, true, true, false, true, true, false, false, false, false] (fun s_ => [(13, s_)]) (fun s_ w' => (w'.cell? ⟨gb131, 0, none⟩ = some (.slice A0_0 l0_0.length c0_0) ∧ w'.cell? ⟨gb131, 1, none⟩ = some (.slice A0_1 l0_1.length c0_1) ∧ w'.cell? ⟨gb132, 0, none⟩ = some (.slice A1_0 l1_0.length c1_0) ∧ w'.cell? ⟨gb132, 1, none⟩ = some (.slice A1_1 l1_1.length c1_1)) ∧ (Kd.R Kd.string 9 w' w.heap.size (fun _ => True) s_ y140) ∧ (w'.heap[gb131]? = some (.cells #[.slice A0_0 l0_0.length c0_0, .slice A0_1 l0_1.length c0_1] 26 (0, 0))) ∧ (w'.heap[gb132]? = some (.cells #[.slice A1_0 l1_0.length c1_0, .slice A1_1 l1_1.length c1_1] 26 (0, 0))) ∧ (w'.heap[gb133]? = some (.cells #[.slice none 0 0, .slice none 0 0] 26 (0, 0))) ∧ (Below w.heap.size w w')) ?_ ?_
                 rotate_left
                 ·intro hJ4
                  refine join_ (σ := Nat) 7 #[false, true, true, false, false, true, true, false, true, true, false, false, true, false] (fun s_ => [(5, .pointer (some ⟨s_, 0, none⟩))]) (fun s_ w' => (w'.cell? ⟨gb131, 0, none⟩ = some (.slice A0_0 l0_0.length c0_0) ∧ w'.cell? ⟨gb131, 1, none⟩ = some (.slice A0_1 l0_1.length c0_1) ∧ w'.cell? ⟨gb132, 0, none⟩ = some (.slice A1_0 l1_0.length c1_0) ∧ w'.cell? ⟨gb132, 1, none⟩ = some (.slice A1_1 l1_1.length c1_1)) ∧ (w'.heap[gb131]? = some (.cells #[.slice A0_0 l0_0.length c0_0, .slice A0_1 l0_1.length c0_1] 26 (0, 0))) ∧ (w'.heap[gb132]? = some (.cells #[.slice A1_0 l1_0.length c1_0, .slice A1_1 l1_1.length c1_1] 26 (0, 0))) ∧ (w'.heap[gb133]? = some (.cells #[.slice none 0 0, .slice none 0 0] 26 (0, 0))) ∧ (w'.heap[s_]? = some (.cells #[.slice none 0 0, .slice none 0 0] 26 (0, 0))) ∧ (w.heap.size ≤ s_) ∧ (w.heap.size ≤ s_) ∧ (gb131 ≠ s_) ∧ (s_ ≠ gb131) ∧ (gb132 ≠ s_) ∧ (s_ ≠ gb132) ∧ (gb133 ≠ s_) ∧ (s_ ≠ gb133) ∧ (Below w.heap.size w w')) ?_ ?_
                  rotate_left
                  ·intro hJ12
                   refine three_ (i := 0) (j := 4) (k := 12) (Ni := some 9) (Nj := some 13) (Nk := some 5) #[true, true, true, false, false, true, true, false, true, true, false, false, false, false] #[false, true, true, false, true, true, true, false, true, true, false, false, false, false] #[false, true, true, false, false, true, true, false, true, true, false, false, true, false] rfl rfl rfl rfl rfl rfl (three_of HT_.out (by kernel_rfl)) (by decide) (by decide) (by decide) (fun K hK => ?_) (fun K hK => ?_) (fun K hK => ?_)
                   ·skip
                    refine Kd.R_lit_step k37 _ 37 ?hg (N := 9) ?hd (xs := ([] : List (S37))) (inner := []) (ok := fun _ => True) (okp := fun _ => True) ?hr ?hp (fun _ hk => hk) trivial (Below.refl _ _) (Nat.le_refl _) (by simp) ?_; (case hd => rfl); (case hg => rfl); (case hr => first | (go_simp; done) | (go_simp; rfl)); (case hp => exact (Reps.none _ _))
                    intro v135 w10 ho11 hb hg_ hnew_
                    clear hg_ hnew_
                    (first | rw [← Ny134.out] at ho11 | (simp only [Int.reduceToNat] at ho11; rw [← Ny134.out] at ho11))
                    have n0_ := ak (Kd.R_lower ho11 (below_size (by repeat (first | (with_reducible first | exact HB.out | apply below_alloc | apply pw_below_drewN | apply below_drew1 | refine below_set ?_ GE131.out | refine below_set ?_ GE132.out | refine below_set ?_ GE133.out) | exact HB.out))))
                    have n1_ := ak (blk_below (g := gb131) (o := .cells #[.slice A0_0 l0_0.length c0_0, .slice A0_1 l0_1.length c0_1] 26 (0, 0)) (bTo BK131.out) hb)
                    have n2_ := ak (blk_below (g := gb132) (o := .cells #[.slice A1_0 l1_0.length c1_0, .slice A1_1 l1_1.length c1_1] 26 (0, 0)) (bTo BK132.out) hb)
                    have n3_ := ak (blk_below (g := gb133) (o := .cells #[.slice none 0 0, .slice none 0 0] 26 (0, 0)) (bTo BK133.out) hb)
                    have n4_ := ak (below_step (by repeat (first | (with_reducible first | exact HB.out | apply below_alloc | apply pw_below_drewN | apply below_drew1 | refine below_set ?_ GE131.out | refine below_set ?_ GE132.out | refine below_set ?_ GE133.out) | exact HB.out)) hb)
                    clear BK131
                    clear BK132
                    clear BK133
                    clear HB
                    have HO136 := n0_
                    have BK131 := n1_
                    have BK132 := n2_
                    have BK133 := n3_
                    have HB := n4_
                    clear n0_ n1_ n2_ n3_ n4_
                    clear hb ho11
                    refine hK.out _ _ ⟨(blk_cell BK131.out 0).trans rfl, (blk_cell BK131.out 1).trans rfl, (blk_cell BK132.out 0).trans rfl, (blk_cell BK132.out 1).trans rfl⟩ (fun hHeld => ?_)
                    clear hK K
                    refine norm_ (a' := ?_) ?_ ?_
                    rotate_left
                    ·show Act.put _ (some 9) _ = _
                     simp only [Act.put, List.setIfInBounds_toArray, List.set_cons_zero, List.set_cons_succ, i64_w, i32_w]
                     rfl
                    exact norm_ (by first | (simp only [putAll, Act.put, List.setIfInBounds_toArray, List.set_cons_zero, List.set_cons_succ]; done) | (simp only [putAll, Act.put, List.setIfInBounds_toArray, List.set_cons_zero, List.set_cons_succ]; rfl)) (hJ0 (v135) _ ⟨hHeld, (rTo HO136.out), (bTo BK131.out), (bTo BK132.out), (bTo BK133.out), (by repeat (first | (with_reducible first | exact HB.out | apply below_alloc | apply pw_below_drewN | apply below_drew1 | refine below_set ?_ GE131.out | refine below_set ?_ GE132.out | refine below_set ?_ GE133.out) | exact HB.out))⟩)
                   ·skip
                    refine Kd.R_lit_step Kd.string _ 9 ?hg (N := 13) ?hd (xs := ([] : List ByteArray)) (inner := []) (ok := fun _ => True) (okp := fun _ => True) ?hr ?hp (fun _ hk => hk) trivial (Below.refl _ _) (Nat.le_refl _) (by simp) ?_; (case hd => rfl); (case hg => rfl); (case hr => first | (go_simp; done) | (go_simp; rfl)); (case hp => exact (Reps.none _ _))
                    intro v141 w10 ho11 hb hg_ hnew_
                    clear hg_ hnew_
                    (first | rw [← Ny140.out] at ho11 | (simp only [Int.reduceToNat] at ho11; rw [← Ny140.out] at ho11))
                    have n0_ := ak (Kd.R_lower ho11 (below_size (by repeat (first | (with_reducible first | exact HB.out | apply below_alloc | apply pw_below_drewN | apply below_drew1 | refine below_set ?_ GE131.out | refine below_set ?_ GE132.out | refine below_set ?_ GE133.out) | exact HB.out))))
                    have n1_ := ak (blk_below (g := gb131) (o := .cells #[.slice A0_0 l0_0.length c0_0, .slice A0_1 l0_1.length c0_1] 26 (0, 0)) (bTo BK131.out) hb)
                    have n2_ := ak (blk_below (g := gb132) (o := .cells #[.slice A1_0 l1_0.length c1_0, .slice A1_1 l1_1.length c1_1] 26 (0, 0)) (bTo BK132.out) hb)
                    have n3_ := ak (blk_below (g := gb133) (o := .cells #[.slice none 0 0, .slice none 0 0] 26 (0, 0)) (bTo BK133.out) hb)
                    have n4_ := ak (below_step (by repeat (first | (with_reducible first | exact HB.out | apply below_alloc | apply pw_below_drewN | apply below_drew1 | refine below_set ?_ GE131.out | refine below_set ?_ GE132.out | refine below_set ?_ GE133.out) | exact HB.out)) hb)
                    clear BK131
                    clear BK132
                    clear BK133
                    clear HB
                    have HO142 := n0_
                    have BK131 := n1_
                    have BK132 := n2_
                    have BK133 := n3_
                    have HB := n4_
                    clear n0_ n1_ n2_ n3_ n4_
                    clear hb ho11
                    refine hK.out _ _ ⟨(blk_cell BK131.out 0).trans rfl, (blk_cell BK131.out 1).trans rfl, (blk_cell BK132.out 0).trans rfl, (blk_cell BK132.out 1).trans rfl⟩ (fun hHeld => ?_)
                    clear hK K
                    refine norm_ (a' := ?_) ?_ ?_
                    rotate_left
                    ·show Act.put _ (some 13) _ = _
                     simp only [Act.put, List.setIfInBounds_toArray, List.set_cons_zero, List.set_cons_succ, i64_w, i32_w]
                     rfl
                    exact norm_ (by first | (simp only [putAll, Act.put, List.setIfInBounds_toArray, List.set_cons_zero, List.set_cons_succ]; done) | (simp only [putAll, Act.put, List.setIfInBounds_toArray, List.set_cons_zero, List.set_cons_succ]; rfl)) (hJ4 (v141) _ ⟨hHeld, (rTo HO142.out), (bTo BK131.out), (bTo BK132.out), (bTo BK133.out), (by repeat (first | (with_reducible first | exact HB.out | apply below_alloc | apply pw_below_drewN | apply below_drew1 | refine below_set ?_ GE131.out | refine below_set ?_ GE132.out | refine below_set ?_ GE133.out) | exact HB.out))⟩)
                   ·skip
                    refine box_step ?hg (N := 5) ?hd (cs := #[.slice none 0 0, .slice none 0 0]) (t := 26) ?hr ?_; (case hd => rfl); (case hg => rfl); (case hr => first | (go_simp; done) | (go_simp; rfl))
                    intro gb149 hg w10 hbox hb
                    have n0_ := ak (blk_below (g := gb131) (o := .cells #[.slice A0_0 l0_0.length c0_0, .slice A0_1 l0_1.length c0_1] 26 (0, 0)) (bTo BK131.out) hb)
                    have n1_ := ak (blk_below (g := gb132) (o := .cells #[.slice A1_0 l1_0.length c1_0, .slice A1_1 l1_1.length c1_1] 26 (0, 0)) (bTo BK132.out) hb)
                    have n2_ := ak (blk_below (g := gb133) (o := .cells #[.slice none 0 0, .slice none 0 0] 26 (0, 0)) (bTo BK133.out) hb)
                    have n3_ := ak (below_step (by repeat (first | (with_reducible first | exact HB.out | apply below_alloc | apply pw_below_drewN | apply below_drew1 | refine below_set ?_ GE131.out | refine below_set ?_ GE132.out | refine below_set ?_ GE133.out) | exact HB.out)) hb)
                    have n4_ := ak (hbox)
                    have n5_ := ak ((by rw [hg]; exact (below_size (by repeat (first | (with_reducible first | exact HB.out | apply below_alloc | apply pw_below_drewN | apply below_drew1 | refine below_set ?_ GE131.out | refine below_set ?_ GE132.out | refine below_set ?_ GE133.out) | exact HB.out))) : w.heap.size ≤ gb149))
                    have n6_ := ak ((by rw [hg]; exact (below_size (by repeat (first | (with_reducible first | exact HB.out | apply below_alloc | apply pw_below_drewN | apply below_drew1 | refine below_set ?_ GE131.out | refine below_set ?_ GE132.out | refine below_set ?_ GE133.out) | exact HB.out))) : w.heap.size ≤ gb149))
                    have n7_ := ak ((by rw [hg]; exact Nat.ne_of_lt (blk_lt (g := gb131) (o := .cells #[.slice A0_0 l0_0.length c0_0, .slice A0_1 l0_1.length c0_1] 26 (0, 0)) (bTo BK131.out)) : gb131 ≠ gb149))
                    have n8_ := ak ((by rw [hg]; exact Nat.ne_of_gt (blk_lt (g := gb131) (o := .cells #[.slice A0_0 l0_0.length c0_0, .slice A0_1 l0_1.length c0_1] 26 (0, 0)) (bTo BK131.out)) : gb149 ≠ gb131))
                    have n9_ := ak ((by rw [hg]; exact Nat.ne_of_lt (blk_lt (g := gb132) (o := .cells #[.slice A1_0 l1_0.length c1_0, .slice A1_1 l1_1.length c1_1] 26 (0, 0)) (bTo BK132.out)) : gb132 ≠ gb149))
                    have n10_ := ak ((by rw [hg]; exact Nat.ne_of_gt (blk_lt (g := gb132) (o := .cells #[.slice A1_0 l1_0.length c1_0, .slice A1_1 l1_1.length c1_1] 26 (0, 0)) (bTo BK132.out)) : gb149 ≠ gb132))
                    have n11_ := ak ((by rw [hg]; exact Nat.ne_of_lt (blk_lt (g := gb133) (o := .cells #[.slice none 0 0, .slice none 0 0] 26 (0, 0)) (bTo BK133.out)) : gb133 ≠ gb149))
                    have n12_ := ak ((by rw [hg]; exact Nat.ne_of_gt (blk_lt (g := gb133) (o := .cells #[.slice none 0 0, .slice none 0 0] 26 (0, 0)) (bTo BK133.out)) : gb149 ≠ gb133))
                    clear BK131
                    clear BK132
                    clear BK133
                    clear HB
                    have BK131 := n0_
                    have BK132 := n1_
                    have BK133 := n2_
                    have HB := n3_
                    have BK149 := n4_
                    have GW149 := n5_
                    have GE149 := n6_
                    have NB131_149 := n7_
                    have NB149_131 := n8_
                    have NB132_149 := n9_
                    have NB149_132 := n10_
                    have NB133_149 := n11_
                    have NB149_133 := n12_
                    clear n0_ n1_ n2_ n3_ n4_ n5_ n6_ n7_ n8_ n9_ n10_ n11_ n12_
                    clear hb hbox hg
                    refine hK.out _ _ ⟨(blk_cell BK131.out 0).trans rfl, (blk_cell BK131.out 1).trans rfl, (blk_cell BK132.out 0).trans rfl, (blk_cell BK132.out 1).trans rfl⟩ (fun hHeld => ?_)
                    clear hK K
                    refine norm_ (a' := ?_) ?_ ?_
                    rotate_left
                    ·show Act.put _ (some 5) _ = _
                     simp only [Act.put, List.setIfInBounds_toArray, List.set_cons_zero, List.set_cons_succ, i64_w, i32_w]
                     rfl
                    exact norm_ (by first | (simp only [putAll, Act.put, List.setIfInBounds_toArray, List.set_cons_zero, List.set_cons_succ]; done) | (simp only [putAll, Act.put, List.setIfInBounds_toArray, List.set_cons_zero, List.set_cons_succ]; rfl)) (hJ12 (gb149) _ ⟨hHeld, (bTo BK131.out), (bTo BK132.out), (bTo BK133.out), (bTo BK149.out), GW149.out, GE149.out, NB131_149.out, NB149_131.out, NB132_149.out, NB149_132.out, NB133_149.out, NB149_133.out, (by repeat (first | (with_reducible first | exact HB.out | apply below_alloc | apply pw_below_drewN | apply below_drew1 | refine below_set ?_ GE131.out | refine below_set ?_ GE132.out | refine below_set ?_ GE133.out | refine below_set ?_ GE149.out) | exact HB.out))⟩)
                  ·skip
                   rintro gb149 w11 ⟨hS_, h0_, h1_, h2_, h3_, h4_, h5_, h6_, h7_, h8_, h9_, h10_, h11_, h12_⟩
                   have n0_ : Aside0 (w11.heap[gb131]? = some (.cells #[.slice A0_0 l0_0.length c0_0, .slice A0_1 l0_1.length c0_1] 26 (0, 0))) := ⟨h0_⟩
                   have n1_ : Aside0 (w11.heap[gb132]? = some (.cells #[.slice A1_0 l1_0.length c1_0, .slice A1_1 l1_1.length c1_1] 26 (0, 0))) := ⟨h1_⟩
                   have n2_ : Aside0 (w11.heap[gb133]? = some (.cells #[.slice none 0 0, .slice none 0 0] 26 (0, 0))) := ⟨h2_⟩
                   have n3_ : Aside0 (w11.heap[gb149]? = some (.cells #[.slice none 0 0, .slice none 0 0] 26 (0, 0))) := ⟨h3_⟩
                   have n4_ : Aside0 (w.heap.size ≤ gb149) := ⟨h4_⟩
                   have n5_ : Aside0 (w.heap.size ≤ gb149) := ⟨h5_⟩
                   have n6_ : Aside0 (gb131 ≠ gb149) := ⟨h6_⟩
                   have n7_ : Aside0 (gb149 ≠ gb131) := ⟨h7_⟩
                   have n8_ : Aside0 (gb132 ≠ gb149) := ⟨h8_⟩
                   have n9_ : Aside0 (gb149 ≠ gb132) := ⟨h9_⟩
                   have n10_ : Aside0 (gb133 ≠ gb149) := ⟨h10_⟩
                   have n11_ : Aside0 (gb149 ≠ gb133) := ⟨h11_⟩
                   have n12_ : Aside0 (Below w.heap.size w w11) := ⟨h12_⟩
                   clear BK131
                   clear BK132
                   clear BK133
                   clear HB
                   clear h0_ h1_ h2_ h3_ h4_ h5_ h6_ h7_ h8_ h9_ h10_ h11_ h12_
                   have BK131 := n0_
                   have BK132 := n1_
                   have BK133 := n2_
                   have BK149 := n3_
                   have GW149 := n4_
                   have GE149 := n5_
                   have NB131_149 := n6_
                   have NB149_131 := n7_
                   have NB132_149 := n8_
                   have NB149_132 := n9_
                   have NB133_149 := n10_
                   have NB149_133 := n11_
                   have HB := n12_
                   clear n0_ n1_ n2_ n3_ n4_ n5_ n6_ n7_ n8_ n9_ n10_ n11_ n12_
                   have hHeld : w11.cell? ⟨gb131, 0, none⟩ = some (.slice A0_0 l0_0.length c0_0) ∧ w11.cell? ⟨gb131, 1, none⟩ = some (.slice A0_1 l0_1.length c0_1) ∧ w11.cell? ⟨gb132, 0, none⟩ = some (.slice A1_0 l1_0.length c1_0) ∧ w11.cell? ⟨gb132, 1, none⟩ = some (.slice A1_1 l1_1.length c1_1) := hS_
                   refine norm_ (a' := ?_) ?_ ?_
                   rotate_left
                   ·simp only [putAll, Act.put, List.setIfInBounds_toArray, List.set_cons_zero, List.set_cons_succ]
                    rfl
                   refine two_ (i := 0) (j := 4) (Ni := some 9) (Nj := some 13) #[true, true, true, false, false, true, true, false, true, true, false, false, true, false] #[false, true, true, false, true, true, true, false, true, true, false, false, true, false] rfl rfl rfl rfl (two_of HT_.out (by kernel_rfl)) (by decide) (by decide) (fun K hK => ?_) (fun K hK => ?_)
                   ·skip
                    refine Kd.R_lit_step k37 _ 37 ?hg (N := 9) ?hd (xs := ([] : List (S37))) (inner := []) (ok := fun _ => True) (okp := fun _ => True) ?hr ?hp (fun _ hk => hk) trivial (Below.refl _ _) (Nat.le_refl _) (by simp) ?_; (case hd => rfl); (case hg => rfl); (case hr => first | (go_simp; done) | (go_simp; rfl)); (case hp => exact (Reps.none _ _))
                    intro v135 w12 ho13 hb hg_ hnew_
                    clear hg_ hnew_
                    (first | rw [← Ny134.out] at ho13 | (simp only [Int.reduceToNat] at ho13; rw [← Ny134.out] at ho13))
                    have n0_ := ak (Kd.R_lower ho13 (below_size (by repeat (first | (with_reducible first | exact HB.out | apply below_alloc | apply pw_below_drewN | apply below_drew1 | refine below_set ?_ GE131.out | refine below_set ?_ GE132.out | refine below_set ?_ GE133.out | refine below_set ?_ GE149.out) | exact HB.out))))
                    have n1_ := ak (blk_below (g := gb131) (o := .cells #[.slice A0_0 l0_0.length c0_0, .slice A0_1 l0_1.length c0_1] 26 (0, 0)) (bTo BK131.out) hb)
                    have n2_ := ak (blk_below (g := gb132) (o := .cells #[.slice A1_0 l1_0.length c1_0, .slice A1_1 l1_1.length c1_1] 26 (0, 0)) (bTo BK132.out) hb)
                    have n3_ := ak (blk_below (g := gb133) (o := .cells #[.slice none 0 0, .slice none 0 0] 26 (0, 0)) (bTo BK133.out) hb)
                    have n4_ := ak (blk_below (g := gb149) (o := .cells #[.slice none 0 0, .slice none 0 0] 26 (0, 0)) (bTo BK149.out) hb)
                    have n5_ := ak (below_step (by repeat (first | (with_reducible first | exact HB.out | apply below_alloc | apply pw_below_drewN | apply below_drew1 | refine below_set ?_ GE131.out | refine below_set ?_ GE132.out | refine below_set ?_ GE133.out | refine below_set ?_ GE149.out) | exact HB.out)) hb)
                    clear BK131
                    clear BK132
                    clear BK133
                    clear BK149
                    clear HB
                    have HO136 := n0_
                    have BK131 := n1_
                    have BK132 := n2_
                    have BK133 := n3_
                    have BK149 := n4_
                    have HB := n5_
                    clear n0_ n1_ n2_ n3_ n4_ n5_
                    clear hb ho13
                    refine hK.out _ _ ⟨(blk_cell BK131.out 0).trans rfl, (blk_cell BK131.out 1).trans rfl, (blk_cell BK132.out 0).trans rfl, (blk_cell BK132.out 1).trans rfl⟩ (fun hHeld => ?_)
                    clear hK K
                    refine norm_ (a' := ?_) ?_ ?_
                    rotate_left
                    ·show Act.put _ (some 9) _ = _
                     simp only [Act.put, List.setIfInBounds_toArray, List.set_cons_zero, List.set_cons_succ, i64_w, i32_w]
                     rfl
                    exact norm_ (by first | (simp only [putAll, Act.put, List.setIfInBounds_toArray, List.set_cons_zero, List.set_cons_succ]; done) | (simp only [putAll, Act.put, List.setIfInBounds_toArray, List.set_cons_zero, List.set_cons_succ]; rfl)) (hJ0_12 (v135, gb149) _ ⟨hHeld, (rTo HO136.out), (bTo BK131.out), (bTo BK132.out), (bTo BK133.out), (bTo BK149.out), GW149.out, GE149.out, NB131_149.out, NB149_131.out, NB132_149.out, NB149_132.out, NB133_149.out, NB149_133.out, (by repeat (first | (with_reducible first | exact HB.out | apply below_alloc | apply pw_below_drewN | apply below_drew1 | refine below_set ?_ GE131.out | refine below_set ?_ GE132.out | refine below_set ?_ GE133.out | refine below_set ?_ GE149.out) | exact HB.out))⟩)
                   ·skip
                    refine Kd.R_lit_step Kd.string _ 9 ?hg (N := 13) ?hd (xs := ([] : List ByteArray)) (inner := []) (ok := fun _ => True) (okp := fun _ => True) ?hr ?hp (fun _ hk => hk) trivial (Below.refl _ _) (Nat.le_refl _) (by simp) ?_; (case hd => rfl); (case hg => rfl); (case hr => first | (go_simp; done) | (go_simp; rfl)); (case hp => exact (Reps.none _ _))
                    intro v141 w12 ho13 hb hg_ hnew_
                    clear hg_ hnew_
                    (first | rw [← Ny140.out] at ho13 | (simp only [Int.reduceToNat] at ho13; rw [← Ny140.out] at ho13))
                    have n0_ := ak (Kd.R_lower ho13 (below_size (by repeat (first | (with_reducible first | exact HB.out | apply below_alloc | apply pw_below_drewN | apply below_drew1 | refine below_set ?_ GE131.out | refine below_set ?_ GE132.out | refine below_set ?_ GE133.out | refine below_set ?_ GE149.out) | exact HB.out))))
                    have n1_ := ak (blk_below (g := gb131) (o := .cells #[.slice A0_0 l0_0.length c0_0, .slice A0_1 l0_1.length c0_1] 26 (0, 0)) (bTo BK131.out) hb)
                    have n2_ := ak (blk_below (g := gb132) (o := .cells #[.slice A1_0 l1_0.length c1_0, .slice A1_1 l1_1.length c1_1] 26 (0, 0)) (bTo BK132.out) hb)
                    have n3_ := ak (blk_below (g := gb133) (o := .cells #[.slice none 0 0, .slice none 0 0] 26 (0, 0)) (bTo BK133.out) hb)
                    have n4_ := ak (blk_below (g := gb149) (o := .cells #[.slice none 0 0, .slice none 0 0] 26 (0, 0)) (bTo BK149.out) hb)
                    have n5_ := ak (below_step (by repeat (first | (with_reducible first | exact HB.out | apply below_alloc | apply pw_below_drewN | apply below_drew1 | refine below_set ?_ GE131.out | refine below_set ?_ GE132.out | refine below_set ?_ GE133.out | refine below_set ?_ GE149.out) | exact HB.out)) hb)
                    clear BK131
                    clear BK132
                    clear BK133
                    clear BK149
                    clear HB
                    have HO142 := n0_
                    have BK131 := n1_
                    have BK132 := n2_
                    have BK133 := n3_
                    have BK149 := n4_
                    have HB := n5_
                    clear n0_ n1_ n2_ n3_ n4_ n5_
                    clear hb ho13
                    refine hK.out _ _ ⟨(blk_cell BK131.out 0).trans rfl, (blk_cell BK131.out 1).trans rfl, (blk_cell BK132.out 0).trans rfl, (blk_cell BK132.out 1).trans rfl⟩ (fun hHeld => ?_)
                    clear hK K
                    refine norm_ (a' := ?_) ?_ ?_
                    rotate_left
                    ·show Act.put _ (some 13) _ = _
                     simp only [Act.put, List.setIfInBounds_toArray, List.set_cons_zero, List.set_cons_succ, i64_w, i32_w]
                     rfl
                    exact norm_ (by first | (simp only [putAll, Act.put, List.setIfInBounds_toArray, List.set_cons_zero, List.set_cons_succ]; done) | (simp only [putAll, Act.put, List.setIfInBounds_toArray, List.set_cons_zero, List.set_cons_succ]; rfl)) (hJ4_12 (v141, gb149) _ ⟨hHeld, (rTo HO142.out), (bTo BK131.out), (bTo BK132.out), (bTo BK133.out), (bTo BK149.out), GW149.out, GE149.out, NB131_149.out, NB149_131.out, NB132_149.out, NB149_132.out, NB133_149.out, NB149_133.out, (by repeat (first | (with_reducible first | exact HB.out | apply below_alloc | apply pw_below_drewN | apply below_drew1 | refine below_set ?_ GE131.out | refine below_set ?_ GE132.out | refine below_set ?_ GE133.out | refine below_set ?_ GE149.out) | exact HB.out))⟩)
                 ·skip
                  rintro v141 w12 ⟨hS_, h0_, h1_, h2_, h3_, h4_⟩
                  have n0_ : Aside0 (Kd.R Kd.string 9 w12 w.heap.size (fun _ => True) v141 y140) := ⟨h0_⟩
                  have n1_ : Aside0 (w12.heap[gb131]? = some (.cells #[.slice A0_0 l0_0.length c0_0, .slice A0_1 l0_1.length c0_1] 26 (0, 0))) := ⟨h1_⟩
                  have n2_ : Aside0 (w12.heap[gb132]? = some (.cells #[.slice A1_0 l1_0.length c1_0, .slice A1_1 l1_1.length c1_1] 26 (0, 0))) := ⟨h2_⟩
                  have n3_ : Aside0 (w12.heap[gb133]? = some (.cells #[.slice none 0 0, .slice none 0 0] 26 (0, 0))) := ⟨h3_⟩
                  have n4_ : Aside0 (Below w.heap.size w w12) := ⟨h4_⟩
                  clear BK131
                  clear BK132
                  clear BK133
                  clear HB
                  clear h0_ h1_ h2_ h3_ h4_
                  have HO142 := n0_
                  have BK131 := n1_
                  have BK132 := n2_
                  have BK133 := n3_
                  have HB := n4_
                  clear n0_ n1_ n2_ n3_ n4_
                  have hHeld : w12.cell? ⟨gb131, 0, none⟩ = some (.slice A0_0 l0_0.length c0_0) ∧ w12.cell? ⟨gb131, 1, none⟩ = some (.slice A0_1 l0_1.length c0_1) ∧ w12.cell? ⟨gb132, 0, none⟩ = some (.slice A1_0 l1_0.length c1_0) ∧ w12.cell? ⟨gb132, 1, none⟩ = some (.slice A1_1 l1_1.length c1_1) := hS_
                  refine norm_ (a' := ?_) ?_ ?_
                  rotate_left
                  ·simp only [putAll, Act.put, List.setIfInBounds_toArray, List.set_cons_zero, List.set_cons_succ]
                   rfl
                  refine two_ (i := 0) (j := 12) (Ni := some 9) (Nj := some 5) #[true, true, true, false, true, true, true, false, true, true, false, false, false, false] #[false, true, true, false, true, true, true, false, true, true, false, false, true, false] rfl rfl rfl rfl (two_of HT_.out (by kernel_rfl)) (by decide) (by decide) (fun K hK => ?_) (fun K hK => ?_)
                  ·skip
                   refine Kd.R_lit_step k37 _ 37 ?hg (N := 9) ?hd (xs := ([] : List (S37))) (inner := []) (ok := fun _ => True) (okp := fun _ => True) ?hr ?hp (fun _ hk => hk) trivial (Below.refl _ _) (Nat.le_refl _) (by simp) ?_; (case hd => rfl); (case hg => rfl); (case hr => first | (go_simp; done) | (go_simp; rfl)); (case hp => exact (Reps.none _ _))
                   intro v135 w13 ho14 hb hg_ hnew_
                   clear hg_ hnew_
                   (first | rw [← Ny134.out] at ho14 | (simp only [Int.reduceToNat] at ho14; rw [← Ny134.out] at ho14))
                   have n0_ := ak (Kd.R_below (rTo HO142.out) hb)
                   have n1_ := ak (Kd.R_lower ho14 (below_size (by repeat (first | (with_reducible first | exact HB.out | apply below_alloc | apply pw_below_drewN | apply below_drew1 | refine below_set ?_ GE131.out | refine below_set ?_ GE132.out | refine below_set ?_ GE133.out) | exact HB.out))))
                   have n2_ := ak (blk_below (g := gb131) (o := .cells #[.slice A0_0 l0_0.length c0_0, .slice A0_1 l0_1.length c0_1] 26 (0, 0)) (bTo BK131.out) hb)
                   have n3_ := ak (blk_below (g := gb132) (o := .cells #[.slice A1_0 l1_0.length c1_0, .slice A1_1 l1_1.length c1_1] 26 (0, 0)) (bTo BK132.out) hb)
                   have n4_ := ak (blk_below (g := gb133) (o := .cells #[.slice none 0 0, .slice none 0 0] 26 (0, 0)) (bTo BK133.out) hb)
                   have n5_ := ak (below_step (by repeat (first | (with_reducible first | exact HB.out | apply below_alloc | apply pw_below_drewN | apply below_drew1 | refine below_set ?_ GE131.out | refine below_set ?_ GE132.out | refine below_set ?_ GE133.out) | exact HB.out)) hb)
                   clear HO142
                   clear BK131
                   clear BK132
                   clear BK133
                   clear HB
                   have HO142 := n0_
                   have HO136 := n1_
                   have BK131 := n2_
                   have BK132 := n3_
                   have BK133 := n4_
                   have HB := n5_
                   clear n0_ n1_ n2_ n3_ n4_ n5_
                   clear hb ho14
                   refine hK.out _ _ ⟨(blk_cell BK131.out 0).trans rfl, (blk_cell BK131.out 1).trans rfl, (blk_cell BK132.out 0).trans rfl, (blk_cell BK132.out 1).trans rfl⟩ (fun hHeld => ?_)
                   clear hK K
                   refine norm_ (a' := ?_) ?_ ?_
                   rotate_left
                   ·show Act.put _ (some 9) _ = _
                    simp only [Act.put, List.setIfInBounds_toArray, List.set_cons_zero, List.set_cons_succ, i64_w, i32_w]
                    rfl
                   exact norm_ (by first | (simp only [putAll, Act.put, List.setIfInBounds_toArray, List.set_cons_zero, List.set_cons_succ]; done) | (simp only [putAll, Act.put, List.setIfInBounds_toArray, List.set_cons_zero, List.set_cons_succ]; rfl)) (hJ0_4 (v135, v141) _ ⟨hHeld, (rTo HO136.out), (rTo HO142.out), (bTo BK131.out), (bTo BK132.out), (bTo BK133.out), (by repeat (first | (with_reducible first | exact HB.out | apply below_alloc | apply pw_below_drewN | apply below_drew1 | refine below_set ?_ GE131.out | refine below_set ?_ GE132.out | refine below_set ?_ GE133.out) | exact HB.out))⟩)
                  ·skip
                   refine box_step ?hg (N := 5) ?hd (cs := #[.slice none 0 0, .slice none 0 0]) (t := 26) ?hr ?_; (case hd => rfl); (case hg => rfl); (case hr => first | (go_simp; done) | (go_simp; rfl))
                   intro gb149 hg w13 hbox hb
                   have n0_ := ak (Kd.R_below (rTo HO142.out) hb)
                   have n1_ := ak (blk_below (g := gb131) (o := .cells #[.slice A0_0 l0_0.length c0_0, .slice A0_1 l0_1.length c0_1] 26 (0, 0)) (bTo BK131.out) hb)
                   have n2_ := ak (blk_below (g := gb132) (o := .cells #[.slice A1_0 l1_0.length c1_0, .slice A1_1 l1_1.length c1_1] 26 (0, 0)) (bTo BK132.out) hb)
                   have n3_ := ak (blk_below (g := gb133) (o := .cells #[.slice none 0 0, .slice none 0 0] 26 (0, 0)) (bTo BK133.out) hb)
                   have n4_ := ak (below_step (by repeat (first | (with_reducible first | exact HB.out | apply below_alloc | apply pw_below_drewN | apply below_drew1 | refine below_set ?_ GE131.out | refine below_set ?_ GE132.out | refine below_set ?_ GE133.out) | exact HB.out)) hb)
                   have n5_ := ak (hbox)
                   have n6_ := ak ((by rw [hg]; exact (below_size (by repeat (first | (with_reducible first | exact HB.out | apply below_alloc | apply pw_below_drewN | apply below_drew1 | refine below_set ?_ GE131.out | refine below_set ?_ GE132.out | refine below_set ?_ GE133.out) | exact HB.out))) : w.heap.size ≤ gb149))
                   have n7_ := ak ((by rw [hg]; exact (below_size (by repeat (first | (with_reducible first | exact HB.out | apply below_alloc | apply pw_below_drewN | apply below_drew1 | refine below_set ?_ GE131.out | refine below_set ?_ GE132.out | refine below_set ?_ GE133.out) | exact HB.out))) : w.heap.size ≤ gb149))
                   have n8_ := ak ((by rw [hg]; exact Nat.ne_of_lt (blk_lt (g := gb131) (o := .cells #[.slice A0_0 l0_0.length c0_0, .slice A0_1 l0_1.length c0_1] 26 (0, 0)) (bTo BK131.out)) : gb131 ≠ gb149))
                   have n9_ := ak ((by rw [hg]; exact Nat.ne_of_gt (blk_lt (g := gb131) (o := .cells #[.slice A0_0 l0_0.length c0_0, .slice A0_1 l0_1.length c0_1] 26 (0, 0)) (bTo BK131.out)) : gb149 ≠ gb131))
                   have n10_ := ak ((by rw [hg]; exact Nat.ne_of_lt (blk_lt (g := gb132) (o := .cells #[.slice A1_0 l1_0.length c1_0, .slice A1_1 l1_1.length c1_1] 26 (0, 0)) (bTo BK132.out)) : gb132 ≠ gb149))
                   have n11_ := ak ((by rw [hg]; exact Nat.ne_of_gt (blk_lt (g := gb132) (o := .cells #[.slice A1_0 l1_0.length c1_0, .slice A1_1 l1_1.length c1_1] 26 (0, 0)) (bTo BK132.out)) : gb149 ≠ gb132))
                   have n12_ := ak ((by rw [hg]; exact Nat.ne_of_lt (blk_lt (g := gb133) (o := .cells #[.slice none 0 0, .slice none 0 0] 26 (0, 0)) (bTo BK133.out)) : gb133 ≠ gb149))
                   have n13_ := ak ((by rw [hg]; exact Nat.ne_of_gt (blk_lt (g := gb133) (o := .cells #[.slice none 0 0, .slice none 0 0] 26 (0, 0)) (bTo BK133.out)) : gb149 ≠ gb133))
                   clear HO142
                   clear BK131
                   clear BK132
                   clear BK133
                   clear HB
                   have HO142 := n0_
                   have BK131 := n1_
                   have BK132 := n2_
                   have BK133 := n3_
                   have HB := n4_
                   have BK149 := n5_
                   have GW149 := n6_
                   have GE149 := n7_
                   have NB131_149 := n8_
                   have NB149_131 := n9_
                   have NB132_149 := n10_
                   have NB149_132 := n11_
                   have NB133_149 := n12_
                   have NB149_133 := n13_
                   clear n0_ n1_ n2_ n3_ n4_ n5_ n6_ n7_ n8_ n9_ n10_ n11_ n12_ n13_
                   clear hb hbox hg
                   refine hK.out _ _ ⟨(blk_cell BK131.out 0).trans rfl, (blk_cell BK131.out 1).trans rfl, (blk_cell BK132.out 0).trans rfl, (blk_cell BK132.out 1).trans rfl⟩ (fun hHeld => ?_)
                   clear hK K
                   refine norm_ (a' := ?_) ?_ ?_
                   rotate_left
                   ·show Act.put _ (some 5) _ = _
                    simp only [Act.put, List.setIfInBounds_toArray, List.set_cons_zero, List.set_cons_succ, i64_w, i32_w]
                    rfl
                   exact norm_ (by first | (simp only [putAll, Act.put, List.setIfInBounds_toArray, List.set_cons_zero, List.set_cons_succ]; done) | (simp only [putAll, Act.put, List.setIfInBounds_toArray, List.set_cons_zero, List.set_cons_succ]; rfl)) (hJ4_12 (v141, gb149) _ ⟨hHeld, (rTo HO142.out), (bTo BK131.out), (bTo BK132.out), (bTo BK133.out), (bTo BK149.out), GW149.out, GE149.out, NB131_149.out, NB149_131.out, NB132_149.out, NB149_132.out, NB133_149.out, NB149_133.out, (by repeat (first | (with_reducible first | exact HB.out | apply below_alloc | apply pw_below_drewN | apply below_drew1 | refine below_set ?_ GE131.out | refine below_set ?_ GE132.out | refine below_set ?_ GE133.out | refine below_set ?_ GE149.out) | exact HB.out))⟩)
                ·skip
                 rintro v135 w12 ⟨hS_, h0_, h1_, h2_, h3_, h4_⟩
                 have n0_ : Aside0 (Kd.R k37 37 w12 w.heap.size (fun _ => True) v135 y134) := ⟨h0_⟩
                 have n1_ : Aside0 (w12.heap[gb131]? = some (.cells #[.slice A0_0 l0_0.length c0_0, .slice A0_1 l0_1.length c0_1] 26 (0, 0))) := ⟨h1_⟩
                 have n2_ : Aside0 (w12.heap[gb132]? = some (.cells #[.slice A1_0 l1_0.length c1_0, .slice A1_1 l1_1.length c1_1] 26 (0, 0))) := ⟨h2_⟩
                 have n3_ : Aside0 (w12.heap[gb133]? = some (.cells #[.slice none 0 0, .slice none 0 0] 26 (0, 0))) := ⟨h3_⟩
                 have n4_ : Aside0 (Below w.heap.size w w12) := ⟨h4_⟩
                 clear BK131
                 clear BK132
                 clear BK133
                 clear HB
                 clear h0_ h1_ h2_ h3_ h4_
                 have HO136 := n0_
                 have BK131 := n1_
                 have BK132 := n2_
                 have BK133 := n3_
                 have HB := n4_
                 clear n0_ n1_ n2_ n3_ n4_
                 have hHeld : w12.cell? ⟨gb131, 0, none⟩ = some (.slice A0_0 l0_0.length c0_0) ∧ w12.cell? ⟨gb131, 1, none⟩ = some (.slice A0_1 l0_1.length c0_1) ∧ w12.cell? ⟨gb132, 0, none⟩ = some (.slice A1_0 l1_0.length c1_0) ∧ w12.cell? ⟨gb132, 1, none⟩ = some (.slice A1_1 l1_1.length c1_1) := hS_
                 refine norm_ (a' := ?_) ?_ ?_
                 rotate_left
                 ·simp only [putAll, Act.put, List.setIfInBounds_toArray, List.set_cons_zero, List.set_cons_succ]
                  rfl
                 refine three_ (i := 3) (j := 4) (k := 12) (Ni := some 12) (Nj := some 13) (Nk := some 5) #[true, true, true, true, false, true, true, false, true, true, false, false, false, false] #[true, true, true, false, true, true, true, false, true, true, false, false, false, false] #[true, true, true, false, false, true, true, false, true, true, false, false, true, false] rfl rfl rfl rfl rfl rfl (three_of HT_.out (by kernel_rfl)) (by decide) (by decide) (by decide) (fun K hK => ?_) (fun K hK => ?_) (fun K hK => ?_)
                 ·skip
                  refine Kd.R_append_rows_step k37 (w0 := w) w.heap.size (by rfl) (.tmp 9) (.tmp 11) 23 37 (.agg #[(.string ⟨#[]⟩), (.int .i64 0)]) 24 rfl Try.underlying23 info37 rfl (by decide) (by omega) v135 y134 l0_0 _ _ _ (fun _ => True) (fun _ => False) rfl rfl ?aO ?aR (fun _ _ h => h) (fun _ h => h.elim) ?aF ?aB ?aS ?aL ?_
                  (case aR => repeat (first | exact (Kd.C_below HR0_0.out HB.out) | (with_reducible refine Kd.C_alloc ?_ _) | (with_reducible refine Kd.C_drewN ?_ _) | (with_reducible refine Kd.C_drew ?_)))
                  (case aB => exact (by repeat (first | (with_reducible first | exact HB.out | apply below_alloc | apply pw_below_drewN | apply below_drew1 | refine below_set ?_ GE131.out | refine below_set ?_ GE132.out | refine below_set ?_ GE133.out) | exact HB.out)))
                  (case aF => exact (fun _ _ => trivial))
                  (case aO => exact (rTo HO136.out))
                  (case aS => exact (below_size (by repeat (first | (with_reducible first | exact HB.out | apply below_alloc | apply pw_below_drewN | apply below_drew1 | refine below_set ?_ GE131.out | refine below_set ?_ GE132.out | refine below_set ?_ GE133.out) | exact HB.out))))
                  (case aL => have := LMc3.out; omega)
                  intro v138 w13 ho hb hg hat
                  rw [← Ny137.out] at ho
                  have n0_ := ak (blk_grown (g := gb131) (o := .cells #[.slice A0_0 l0_0.length c0_0, .slice A0_1 l0_1.length c0_1] 26 (0, 0)) (bTo BK131.out) hg (Kd.R_ne HO136.out BK131.out (by decide)))
                  have n1_ := ak (blk_grown (g := gb132) (o := .cells #[.slice A1_0 l1_0.length c1_0, .slice A1_1 l1_1.length c1_1] 26 (0, 0)) (bTo BK132.out) hg (Kd.R_ne HO136.out BK132.out (by decide)))
                  have n2_ := ak (blk_grown (g := gb133) (o := .cells #[.slice none 0 0, .slice none 0 0] 26 (0, 0)) (bTo BK133.out) hg (Kd.R_ne HO136.out BK133.out (by decide)))
                  have n3_ := ak (hb)
                  have n4_ := ak (ho)
                  clear BK131
                  clear BK132
                  clear BK133
                  clear HB
                  clear HO136
                  have BK131 := n0_
                  have BK132 := n1_
                  have BK133 := n2_
                  have HB := n3_
                  have HO139 := n4_
                  clear n0_ n1_ n2_ n3_ n4_
                  clear ho hb hg hat
                  refine hK.out _ _ ⟨(blk_cell BK131.out 0).trans rfl, (blk_cell BK131.out 1).trans rfl, (blk_cell BK132.out 0).trans rfl, (blk_cell BK132.out 1).trans rfl⟩ (fun hHeld => ?_)
                  clear hK K
                  refine norm_ (a' := ?_) ?_ ?_
                  rotate_left
                  ·show Act.put _ (some 12) _ = _
                   simp only [Act.put, List.setIfInBounds_toArray, List.set_cons_zero, List.set_cons_succ, i64_w, i32_w]
                   rfl
                  exact norm_ (by first | (simp only [putAll, Act.put, List.setIfInBounds_toArray, List.set_cons_zero, List.set_cons_succ]; done) | (simp only [putAll, Act.put, List.setIfInBounds_toArray, List.set_cons_zero, List.set_cons_succ]; rfl)) (hJ0_3 (v135, v138) _ ⟨hHeld, (rTo HO139.out), (bTo BK131.out), (bTo BK132.out), (bTo BK133.out), (by repeat (first | (with_reducible first | exact HB.out | apply below_alloc | apply pw_below_drewN | apply below_drew1 | refine below_set ?_ GE131.out | refine below_set ?_ GE132.out | refine below_set ?_ GE133.out) | exact HB.out))⟩)
                 ·skip
                  refine Kd.R_lit_step Kd.string _ 9 ?hg (N := 13) ?hd (xs := ([] : List ByteArray)) (inner := []) (ok := fun _ => True) (okp := fun _ => True) ?hr ?hp (fun _ hk => hk) trivial (Below.refl _ _) (Nat.le_refl _) (by simp) ?_; (case hd => rfl); (case hg => rfl); (case hr => first | (go_simp; done) | (go_simp; rfl)); (case hp => exact (Reps.none _ _))
                  intro v141 w13 ho14 hb hg_ hnew_
                  clear hg_ hnew_
                  (first | rw [← Ny140.out] at ho14 | (simp only [Int.reduceToNat] at ho14; rw [← Ny140.out] at ho14))
                  have n0_ := ak (Kd.R_below (rTo HO136.out) hb)
                  have n1_ := ak (Kd.R_lower ho14 (below_size (by repeat (first | (with_reducible first | exact HB.out | apply below_alloc | apply pw_below_drewN | apply below_drew1 | refine below_set ?_ GE131.out | refine below_set ?_ GE132.out | refine below_set ?_ GE133.out) | exact HB.out))))
                  have n2_ := ak (blk_below (g := gb131) (o := .cells #[.slice A0_0 l0_0.length c0_0, .slice A0_1 l0_1.length c0_1] 26 (0, 0)) (bTo BK131.out) hb)
                  have n3_ := ak (blk_below (g := gb132) (o := .cells #[.slice A1_0 l1_0.length c1_0, .slice A1_1 l1_1.length c1_1] 26 (0, 0)) (bTo BK132.out) hb)
                  have n4_ := ak (blk_below (g := gb133) (o := .cells #[.slice none 0 0, .slice none 0 0] 26 (0, 0)) (bTo BK133.out) hb)
                  have n5_ := ak (below_step (by repeat (first | (with_reducible first | exact HB.out | apply below_alloc | apply pw_below_drewN | apply below_drew1 | refine below_set ?_ GE131.out | refine below_set ?_ GE132.out | refine below_set ?_ GE133.out) | exact HB.out)) hb)
                  clear HO136
                  clear BK131
                  clear BK132
                  clear BK133
                  clear HB
                  have HO136 := n0_
                  have HO142 := n1_
                  have BK131 := n2_
                  have BK132 := n3_
                  have BK133 := n4_
                  have HB := n5_
                  clear n0_ n1_ n2_ n3_ n4_ n5_
                  clear hb ho14
                  refine hK.out _ _ ⟨(blk_cell BK131.out 0).trans rfl, (blk_cell BK131.out 1).trans rfl, (blk_cell BK132.out 0).trans rfl, (blk_cell BK132.out 1).trans rfl⟩ (fun hHeld => ?_)
                  clear hK K
                  refine norm_ (a' := ?_) ?_ ?_
                  rotate_left
                  ·show Act.put _ (some 13) _ = _
                   simp only [Act.put, List.setIfInBounds_toArray, List.set_cons_zero, List.set_cons_succ, i64_w, i32_w]
                   rfl
                  exact norm_ (by first | (simp only [putAll, Act.put, List.setIfInBounds_toArray, List.set_cons_zero, List.set_cons_succ]; done) | (simp only [putAll, Act.put, List.setIfInBounds_toArray, List.set_cons_zero, List.set_cons_succ]; rfl)) (hJ0_4 (v135, v141) _ ⟨hHeld, (rTo HO136.out), (rTo HO142.out), (bTo BK131.out), (bTo BK132.out), (bTo BK133.out), (by repeat (first | (with_reducible first | exact HB.out | apply below_alloc | apply pw_below_drewN | apply below_drew1 | refine below_set ?_ GE131.out | refine below_set ?_ GE132.out | refine below_set ?_ GE133.out) | exact HB.out))⟩)
                 ·skip
                  refine box_step ?hg (N := 5) ?hd (cs := #[.slice none 0 0, .slice none 0 0]) (t := 26) ?hr ?_; (case hd => rfl); (case hg => rfl); (case hr => first | (go_simp; done) | (go_simp; rfl))
                  intro gb149 hg w13 hbox hb
                  have n0_ := ak (Kd.R_below (rTo HO136.out) hb)
                  have n1_ := ak (blk_below (g := gb131) (o := .cells #[.slice A0_0 l0_0.length c0_0, .slice A0_1 l0_1.length c0_1] 26 (0, 0)) (bTo BK131.out) hb)
                  have n2_ := ak (blk_below (g := gb132) (o := .cells #[.slice A1_0 l1_0.length c1_0, .slice A1_1 l1_1.length c1_1] 26 (0, 0)) (bTo BK132.out) hb)
                  have n3_ := ak (blk_below (g := gb133) (o := .cells #[.slice none 0 0, .slice none 0 0] 26 (0, 0)) (bTo BK133.out) hb)
                  have n4_ := ak (below_step (by repeat (first | (with_reducible first | exact HB.out | apply below_alloc | apply pw_below_drewN | apply below_drew1 | refine below_set ?_ GE131.out | refine below_set ?_ GE132.out | refine below_set ?_ GE133.out) | exact HB.out)) hb)
                  have n5_ := ak (hbox)
                  have n6_ := ak ((by rw [hg]; exact (below_size (by repeat (first | (with_reducible first | exact HB.out | apply below_alloc | apply pw_below_drewN | apply below_drew1 | refine below_set ?_ GE131.out | refine below_set ?_ GE132.out | refine below_set ?_ GE133.out) | exact HB.out))) : w.heap.size ≤ gb149))
                  have n7_ := ak ((by rw [hg]; exact (below_size (by repeat (first | (with_reducible first | exact HB.out | apply below_alloc | apply pw_below_drewN | apply below_drew1 | refine below_set ?_ GE131.out | refine below_set ?_ GE132.out | refine below_set ?_ GE133.out) | exact HB.out))) : w.heap.size ≤ gb149))
                  have n8_ := ak ((by rw [hg]; exact Nat.ne_of_lt (blk_lt (g := gb131) (o := .cells #[.slice A0_0 l0_0.length c0_0, .slice A0_1 l0_1.length c0_1] 26 (0, 0)) (bTo BK131.out)) : gb131 ≠ gb149))
                  have n9_ := ak ((by rw [hg]; exact Nat.ne_of_gt (blk_lt (g := gb131) (o := .cells #[.slice A0_0 l0_0.length c0_0, .slice A0_1 l0_1.length c0_1] 26 (0, 0)) (bTo BK131.out)) : gb149 ≠ gb131))
                  have n10_ := ak ((by rw [hg]; exact Nat.ne_of_lt (blk_lt (g := gb132) (o := .cells #[.slice A1_0 l1_0.length c1_0, .slice A1_1 l1_1.length c1_1] 26 (0, 0)) (bTo BK132.out)) : gb132 ≠ gb149))
                  have n11_ := ak ((by rw [hg]; exact Nat.ne_of_gt (blk_lt (g := gb132) (o := .cells #[.slice A1_0 l1_0.length c1_0, .slice A1_1 l1_1.length c1_1] 26 (0, 0)) (bTo BK132.out)) : gb149 ≠ gb132))
                  have n12_ := ak ((by rw [hg]; exact Nat.ne_of_lt (blk_lt (g := gb133) (o := .cells #[.slice none 0 0, .slice none 0 0] 26 (0, 0)) (bTo BK133.out)) : gb133 ≠ gb149))
                  have n13_ := ak ((by rw [hg]; exact Nat.ne_of_gt (blk_lt (g := gb133) (o := .cells #[.slice none 0 0, .slice none 0 0] 26 (0, 0)) (bTo BK133.out)) : gb149 ≠ gb133))
                  clear HO136
                  clear BK131
                  clear BK132
                  clear BK133
                  clear HB
                  have HO136 := n0_
                  have BK131 := n1_
                  have BK132 := n2_
                  have BK133 := n3_
                  have HB := n4_
                  have BK149 := n5_
                  have GW149 := n6_
                  have GE149 := n7_
                  have NB131_149 := n8_
                  have NB149_131 := n9_
                  have NB132_149 := n10_
                  have NB149_132 := n11_
                  have NB133_149 := n12_
                  have NB149_133 := n13_
                  clear n0_ n1_ n2_ n3_ n4_ n5_ n6_ n7_ n8_ n9_ n10_ n11_ n12_ n13_
                  clear hb hbox hg
                  refine hK.out _ _ ⟨(blk_cell BK131.out 0).trans rfl, (blk_cell BK131.out 1).trans rfl, (blk_cell BK132.out 0).trans rfl, (blk_cell BK132.out 1).trans rfl⟩ (fun hHeld => ?_)
                  clear hK K
                  refine norm_ (a' := ?_) ?_ ?_
                  rotate_left
                  ·show Act.put _ (some 5) _ = _
                   simp only [Act.put, List.setIfInBounds_toArray, List.set_cons_zero, List.set_cons_succ, i64_w, i32_w]
                   rfl
                  exact norm_ (by first | (simp only [putAll, Act.put, List.setIfInBounds_toArray, List.set_cons_zero, List.set_cons_succ]; done) | (simp only [putAll, Act.put, List.setIfInBounds_toArray, List.set_cons_zero, List.set_cons_succ]; rfl)) (hJ0_12 (v135, gb149) _ ⟨hHeld, (rTo HO136.out), (bTo BK131.out), (bTo BK132.out), (bTo BK133.out), (bTo BK149.out), GW149.out, GE149.out, NB131_149.out, NB149_131.out, NB132_149.out, NB149_132.out, NB133_149.out, NB149_133.out, (by repeat (first | (with_reducible first | exact HB.out | apply below_alloc | apply pw_below_drewN | apply below_drew1 | refine below_set ?_ GE131.out | refine below_set ?_ GE132.out | refine below_set ?_ GE133.out | refine below_set ?_ GE149.out) | exact HB.out))⟩)
               ·skip
                rintro ⟨v141, gb149⟩ w13 ⟨hS_, h0_, h1_, h2_, h3_, h4_, h5_, h6_, h7_, h8_, h9_, h10_, h11_, h12_, h13_⟩
                have n0_ : Aside0 (Kd.R Kd.string 9 w13 w.heap.size (fun _ => True) v141 y140) := ⟨h0_⟩
                have n1_ : Aside0 (w13.heap[gb131]? = some (.cells #[.slice A0_0 l0_0.length c0_0, .slice A0_1 l0_1.length c0_1] 26 (0, 0))) := ⟨h1_⟩
                have n2_ : Aside0 (w13.heap[gb132]? = some (.cells #[.slice A1_0 l1_0.length c1_0, .slice A1_1 l1_1.length c1_1] 26 (0, 0))) := ⟨h2_⟩
                have n3_ : Aside0 (w13.heap[gb133]? = some (.cells #[.slice none 0 0, .slice none 0 0] 26 (0, 0))) := ⟨h3_⟩
                have n4_ : Aside0 (w13.heap[gb149]? = some (.cells #[.slice none 0 0, .slice none 0 0] 26 (0, 0))) := ⟨h4_⟩
                have n5_ : Aside0 (w.heap.size ≤ gb149) := ⟨h5_⟩
                have n6_ : Aside0 (w.heap.size ≤ gb149) := ⟨h6_⟩
                have n7_ : Aside0 (gb131 ≠ gb149) := ⟨h7_⟩
                have n8_ : Aside0 (gb149 ≠ gb131) := ⟨h8_⟩
                have n9_ : Aside0 (gb132 ≠ gb149) := ⟨h9_⟩
                have n10_ : Aside0 (gb149 ≠ gb132) := ⟨h10_⟩
                have n11_ : Aside0 (gb133 ≠ gb149) := ⟨h11_⟩
                have n12_ : Aside0 (gb149 ≠ gb133) := ⟨h12_⟩
                have n13_ : Aside0 (Below w.heap.size w w13) := ⟨h13_⟩
                clear BK131
                clear BK132
                clear BK133
                clear HB
                clear h0_ h1_ h2_ h3_ h4_ h5_ h6_ h7_ h8_ h9_ h10_ h11_ h12_ h13_
                have HO142 := n0_
                have BK131 := n1_
                have BK132 := n2_
                have BK133 := n3_
                have BK149 := n4_
                have GW149 := n5_
                have GE149 := n6_
                have NB131_149 := n7_
                have NB149_131 := n8_
                have NB132_149 := n9_
                have NB149_132 := n10_
                have NB133_149 := n11_
                have NB149_133 := n12_
                have HB := n13_
                clear n0_ n1_ n2_ n3_ n4_ n5_ n6_ n7_ n8_ n9_ n10_ n11_ n12_ n13_
                have hHeld : w13.cell? ⟨gb131, 0, none⟩ = some (.slice A0_0 l0_0.length c0_0) ∧ w13.cell? ⟨gb131, 1, none⟩ = some (.slice A0_1 l0_1.length c0_1) ∧ w13.cell? ⟨gb132, 0, none⟩ = some (.slice A1_0 l1_0.length c1_0) ∧ w13.cell? ⟨gb132, 1, none⟩ = some (.slice A1_1 l1_1.length c1_1) := hS_
                refine norm_ (a' := ?_) ?_ ?_
                rotate_left
                ·simp only [putAll, Act.put, List.setIfInBounds_toArray, List.set_cons_zero, List.set_cons_succ]
                 rfl
                refine one_ (i := 0) (N := some 9) #[true, true, true, false, true, true, true, false, true, true, false, false, true, false] rfl rfl (one_of HT_.out (by kernel_rfl)) (by decide) (fun K hK => ?_)
                refine Kd.R_lit_step k37 _ 37 ?hg (N := 9) ?hd (xs := ([] : List (S37))) (inner := []) (ok := fun _ => True) (okp := fun _ => True) ?hr ?hp (fun _ hk => hk) trivial (Below.refl _ _) (Nat.le_refl _) (by simp) ?_; (case hd => rfl); (case hg => rfl); (case hr => first | (go_simp; done) | (go_simp; rfl)); (case hp => exact (Reps.none _ _))
                intro v135 w14 ho15 hb hg_ hnew_
                clear hg_ hnew_
                (first | rw [← Ny134.out] at ho15 | (simp only [Int.reduceToNat] at ho15; rw [← Ny134.out] at ho15))
                have n0_ := ak (Kd.R_below (rTo HO142.out) hb)
                have n1_ := ak (Kd.R_lower ho15 (below_size (by repeat (first | (with_reducible first | exact HB.out | apply below_alloc | apply pw_below_drewN | apply below_drew1 | refine below_set ?_ GE131.out | refine below_set ?_ GE132.out | refine below_set ?_ GE133.out | refine below_set ?_ GE149.out) | exact HB.out))))
                have n2_ := ak (blk_below (g := gb131) (o := .cells #[.slice A0_0 l0_0.length c0_0, .slice A0_1 l0_1.length c0_1] 26 (0, 0)) (bTo BK131.out) hb)
                have n3_ := ak (blk_below (g := gb132) (o := .cells #[.slice A1_0 l1_0.length c1_0, .slice A1_1 l1_1.length c1_1] 26 (0, 0)) (bTo BK132.out) hb)
                have n4_ := ak (blk_below (g := gb133) (o := .cells #[.slice none 0 0, .slice none 0 0] 26 (0, 0)) (bTo BK133.out) hb)
                have n5_ := ak (blk_below (g := gb149) (o := .cells #[.slice none 0 0, .slice none 0 0] 26 (0, 0)) (bTo BK149.out) hb)
                have n6_ := ak (below_step (by repeat (first | (with_reducible first | exact HB.out | apply below_alloc | apply pw_below_drewN | apply below_drew1 | refine below_set ?_ GE131.out | refine below_set ?_ GE132.out | refine below_set ?_ GE133.out | refine below_set ?_ GE149.out) | exact HB.out)) hb)
                clear HO142
                clear BK131
                clear BK132
                clear BK133
                clear BK149
                clear HB
                have HO142 := n0_
                have HO136 := n1_
                have BK131 := n2_
                have BK132 := n3_
                have BK133 := n4_
                have BK149 := n5_
                have HB := n6_
                clear n0_ n1_ n2_ n3_ n4_ n5_ n6_
                clear hb ho15
                refine hK.out _ _ ⟨(blk_cell BK131.out 0).trans rfl, (blk_cell BK131.out 1).trans rfl, (blk_cell BK132.out 0).trans rfl, (blk_cell BK132.out 1).trans rfl⟩ (fun hHeld => ?_)
                clear hK K
                refine norm_ (a' := ?_) ?_ ?_
                rotate_left
                ·show Act.put _ (some 9) _ = _
                 simp only [Act.put, List.setIfInBounds_toArray, List.set_cons_zero, List.set_cons_succ, i64_w, i32_w]
                 rfl
                exact norm_ (by first | (simp only [putAll, Act.put, List.setIfInBounds_toArray, List.set_cons_zero, List.set_cons_succ]; done) | (simp only [putAll, Act.put, List.setIfInBounds_toArray, List.set_cons_zero, List.set_cons_succ]; rfl)) (hJ0_4_12 (v135, v141, gb149) _ ⟨hHeld, (rTo HO136.out), (rTo HO142.out), (bTo BK131.out), (bTo BK132.out), (bTo BK133.out), (bTo BK149.out), GW149.out, GE149.out, NB131_149.out, NB149_131.out, NB132_149.out, NB149_132.out, NB133_149.out, NB149_133.out, (by repeat (first | (with_reducible first | exact HB.out | apply below_alloc | apply pw_below_drewN | apply below_drew1 | refine below_set ?_ GE131.out | refine below_set ?_ GE132.out | refine below_set ?_ GE133.out | refine below_set ?_ GE149.out) | exact HB.out))⟩)
              ·skip
               rintro ⟨v135, gb149⟩ w13 ⟨hS_, h0_, h1_, h2_, h3_, h4_, h5_, h6_, h7_, h8_, h9_, h10_, h11_, h12_, h13_⟩
               have n0_ : Aside0 (Kd.R k37 37 w13 w.heap.size (fun _ => True) v135 y134) := ⟨h0_⟩
               have n1_ : Aside0 (w13.heap[gb131]? = some (.cells #[.slice A0_0 l0_0.length c0_0, .slice A0_1 l0_1.length c0_1] 26 (0, 0))) := ⟨h1_⟩
               have n2_ : Aside0 (w13.heap[gb132]? = some (.cells #[.slice A1_0 l1_0.length c1_0, .slice A1_1 l1_1.length c1_1] 26 (0, 0))) := ⟨h2_⟩
               have n3_ : Aside0 (w13.heap[gb133]? = some (.cells #[.slice none 0 0, .slice none 0 0] 26 (0, 0))) := ⟨h3_⟩
               have n4_ : Aside0 (w13.heap[gb149]? = some (.cells #[.slice none 0 0, .slice none 0 0] 26 (0, 0))) := ⟨h4_⟩
               have n5_ : Aside0 (w.heap.size ≤ gb149) := ⟨h5_⟩
               have n6_ : Aside0 (w.heap.size ≤ gb149) := ⟨h6_⟩
               have n7_ : Aside0 (gb131 ≠ gb149) := ⟨h7_⟩
               have n8_ : Aside0 (gb149 ≠ gb131) := ⟨h8_⟩
               have n9_ : Aside0 (gb132 ≠ gb149) := ⟨h9_⟩
               have n10_ : Aside0 (gb149 ≠ gb132) := ⟨h10_⟩
               have n11_ : Aside0 (gb133 ≠ gb149) := ⟨h11_⟩
               have n12_ : Aside0 (gb149 ≠ gb133) := ⟨h12_⟩
               have n13_ : Aside0 (Below w.heap.size w w13) := ⟨h13_⟩
               clear BK131
               clear BK132
               clear BK133
               clear HB
               clear h0_ h1_ h2_ h3_ h4_ h5_ h6_ h7_ h8_ h9_ h10_ h11_ h12_ h13_
               have HO136 := n0_
               have BK131 := n1_
               have BK132 := n2_
               have BK133 := n3_
               have BK149 := n4_
               have GW149 := n5_
               have GE149 := n6_
               have NB131_149 := n7_
               have NB149_131 := n8_
               have NB132_149 := n9_
               have NB149_132 := n10_
               have NB133_149 := n11_
               have NB149_133 := n12_
               have HB := n13_
               clear n0_ n1_ n2_ n3_ n4_ n5_ n6_ n7_ n8_ n9_ n10_ n11_ n12_ n13_
               have hHeld : w13.cell? ⟨gb131, 0, none⟩ = some (.slice A0_0 l0_0.length c0_0) ∧ w13.cell? ⟨gb131, 1, none⟩ = some (.slice A0_1 l0_1.length c0_1) ∧ w13.cell? ⟨gb132, 0, none⟩ = some (.slice A1_0 l1_0.length c1_0) ∧ w13.cell? ⟨gb132, 1, none⟩ = some (.slice A1_1 l1_1.length c1_1) := hS_
               refine norm_ (a' := ?_) ?_ ?_
               rotate_left
               ·simp only [putAll, Act.put, List.setIfInBounds_toArray, List.set_cons_zero, List.set_cons_succ]
                rfl
               refine two_ (i := 3) (j := 4) (Ni := some 12) (Nj := some 13) #[true, true, true, true, false, true, true, false, true, true, false, false, true, false] #[true, true, true, false, true, true, true, false, true, true, false, false, true, false] rfl rfl rfl rfl (two_of HT_.out (by kernel_rfl)) (by decide) (by decide) (fun K hK => ?_) (fun K hK => ?_)
               ·skip
                refine Kd.R_append_rows_step k37 (w0 := w) w.heap.size (by rfl) (.tmp 9) (.tmp 11) 23 37 (.agg #[(.string ⟨#[]⟩), (.int .i64 0)]) 24 rfl Try.underlying23 info37 rfl (by decide) (by omega) v135 y134 l0_0 _ _ _ (fun _ => True) (fun _ => False) rfl rfl ?aO ?aR (fun _ _ h => h) (fun _ h => h.elim) ?aF ?aB ?aS ?aL ?_
                (case aR => repeat (first | exact (Kd.C_below HR0_0.out HB.out) | (with_reducible refine Kd.C_alloc ?_ _) | (with_reducible refine Kd.C_drewN ?_ _) | (with_reducible refine Kd.C_drew ?_)))
                (case aB => exact (by repeat (first | (with_reducible first | exact HB.out | apply below_alloc | apply pw_below_drewN | apply below_drew1 | refine below_set ?_ GE131.out | refine below_set ?_ GE132.out | refine below_set ?_ GE133.out | refine below_set ?_ GE149.out) | exact HB.out)))
                (case aF => exact (fun _ _ => trivial))
                (case aO => exact (rTo HO136.out))
                (case aS => exact (below_size (by repeat (first | (with_reducible first | exact HB.out | apply below_alloc | apply pw_below_drewN | apply below_drew1 | refine below_set ?_ GE131.out | refine below_set ?_ GE132.out | refine below_set ?_ GE133.out | refine below_set ?_ GE149.out) | exact HB.out))))
                (case aL => have := LMc3.out; omega)
                intro v138 w14 ho hb hg hat
                rw [← Ny137.out] at ho
                have n0_ := ak (blk_grown (g := gb131) (o := .cells #[.slice A0_0 l0_0.length c0_0, .slice A0_1 l0_1.length c0_1] 26 (0, 0)) (bTo BK131.out) hg (Kd.R_ne HO136.out BK131.out (by decide)))
                have n1_ := ak (blk_grown (g := gb132) (o := .cells #[.slice A1_0 l1_0.length c1_0, .slice A1_1 l1_1.length c1_1] 26 (0, 0)) (bTo BK132.out) hg (Kd.R_ne HO136.out BK132.out (by decide)))
                have n2_ := ak (blk_grown (g := gb133) (o := .cells #[.slice none 0 0, .slice none 0 0] 26 (0, 0)) (bTo BK133.out) hg (Kd.R_ne HO136.out BK133.out (by decide)))
                have n3_ := ak (blk_grown (g := gb149) (o := .cells #[.slice none 0 0, .slice none 0 0] 26 (0, 0)) (bTo BK149.out) hg (Kd.R_ne HO136.out BK149.out (by decide)))
                have n4_ := ak (hb)
                have n5_ := ak (ho)
                clear BK131
                clear BK132
                clear BK133
                clear BK149
                clear HB
                clear HO136
                have BK131 := n0_
                have BK132 := n1_
                have BK133 := n2_
                have BK149 := n3_
                have HB := n4_
                have HO139 := n5_
                clear n0_ n1_ n2_ n3_ n4_ n5_
                clear ho hb hg hat
                refine hK.out _ _ ⟨(blk_cell BK131.out 0).trans rfl, (blk_cell BK131.out 1).trans rfl, (blk_cell BK132.out 0).trans rfl, (blk_cell BK132.out 1).trans rfl⟩ (fun hHeld => ?_)
                clear hK K
                refine norm_ (a' := ?_) ?_ ?_
                rotate_left
                ·show Act.put _ (some 12) _ = _
                 simp only [Act.put, List.setIfInBounds_toArray, List.set_cons_zero, List.set_cons_succ, i64_w, i32_w]
                 rfl
                exact norm_ (by first | (simp only [putAll, Act.put, List.setIfInBounds_toArray, List.set_cons_zero, List.set_cons_succ]; done) | (simp only [putAll, Act.put, List.setIfInBounds_toArray, List.set_cons_zero, List.set_cons_succ]; rfl)) (hJ0_3_12 (v135, v138, gb149) _ ⟨hHeld, (rTo HO139.out), (bTo BK131.out), (bTo BK132.out), (bTo BK133.out), (bTo BK149.out), GW149.out, GE149.out, NB131_149.out, NB149_131.out, NB132_149.out, NB149_132.out, NB133_149.out, NB149_133.out, (by repeat (first | (with_reducible first | exact HB.out | apply below_alloc | apply pw_below_drewN | apply below_drew1 | refine below_set ?_ GE131.out | refine below_set ?_ GE132.out | refine below_set ?_ GE133.out | refine below_set ?_ GE149.out) | exact HB.out))⟩)
               ·skip
                refine Kd.R_lit_step Kd.string _ 9 ?hg (N := 13) ?hd (xs := ([] : List ByteArray)) (inner := []) (ok := fun _ => True) (okp := fun _ => True) ?hr ?hp (fun _ hk => hk) trivial (Below.refl _ _) (Nat.le_refl _) (by simp) ?_; (case hd => rfl); (case hg => rfl); (case hr => first | (go_simp; done) | (go_simp; rfl)); (case hp => exact (Reps.none _ _))
                intro v141 w14 ho15 hb hg_ hnew_
                clear hg_ hnew_
                (first | rw [← Ny140.out] at ho15 | (simp only [Int.reduceToNat] at ho15; rw [← Ny140.out] at ho15))
                have n0_ := ak (Kd.R_below (rTo HO136.out) hb)
                have n1_ := ak (Kd.R_lower ho15 (below_size (by repeat (first | (with_reducible first | exact HB.out | apply below_alloc | apply pw_below_drewN | apply below_drew1 | refine below_set ?_ GE131.out | refine below_set ?_ GE132.out | refine below_set ?_ GE133.out | refine below_set ?_ GE149.out) | exact HB.out))))
                have n2_ := ak (blk_below (g := gb131) (o := .cells #[.slice A0_0 l0_0.length c0_0, .slice A0_1 l0_1.length c0_1] 26 (0, 0)) (bTo BK131.out) hb)
                have n3_ := ak (blk_below (g := gb132) (o := .cells #[.slice A1_0 l1_0.length c1_0, .slice A1_1 l1_1.length c1_1] 26 (0, 0)) (bTo BK132.out) hb)
                have n4_ := ak (blk_below (g := gb133) (o := .cells #[.slice none 0 0, .slice none 0 0] 26 (0, 0)) (bTo BK133.out) hb)
                have n5_ := ak (blk_below (g := gb149) (o := .cells #[.slice none 0 0, .slice none 0 0] 26 (0, 0)) (bTo BK149.out) hb)
                have n6_ := ak (below_step (by repeat (first | (with_reducible first | exact HB.out | apply below_alloc | apply pw_below_drewN | apply below_drew1 | refine below_set ?_ GE131.out | refine below_set ?_ GE132.out | refine below_set ?_ GE133.out | refine below_set ?_ GE149.out) | exact HB.out)) hb)
                clear HO136
                clear BK131
                clear BK132
                clear BK133
                clear BK149
                clear HB
                have HO136 := n0_
                have HO142 := n1_
                have BK131 := n2_
                have BK132 := n3_
                have BK133 := n4_
                have BK149 := n5_
                have HB := n6_
                clear n0_ n1_ n2_ n3_ n4_ n5_ n6_
                clear hb ho15
                refine hK.out _ _ ⟨(blk_cell BK131.out 0).trans rfl, (blk_cell BK131.out 1).trans rfl, (blk_cell BK132.out 0).trans rfl, (blk_cell BK132.out 1).trans rfl⟩ (fun hHeld => ?_)
                clear hK K
                refine norm_ (a' := ?_) ?_ ?_
                rotate_left
                ·show Act.put _ (some 13) _ = _
                 simp only [Act.put, List.setIfInBounds_toArray, List.set_cons_zero, List.set_cons_succ, i64_w, i32_w]
                 rfl
                exact norm_ (by first | (simp only [putAll, Act.put, List.setIfInBounds_toArray, List.set_cons_zero, List.set_cons_succ]; done) | (simp only [putAll, Act.put, List.setIfInBounds_toArray, List.set_cons_zero, List.set_cons_succ]; rfl)) (hJ0_4_12 (v135, v141, gb149) _ ⟨hHeld, (rTo HO136.out), (rTo HO142.out), (bTo BK131.out), (bTo BK132.out), (bTo BK133.out), (bTo BK149.out), GW149.out, GE149.out, NB131_149.out, NB149_131.out, NB132_149.out, NB149_132.out, NB133_149.out, NB149_133.out, (by repeat (first | (with_reducible first | exact HB.out | apply below_alloc | apply pw_below_drewN | apply below_drew1 | refine below_set ?_ GE131.out | refine below_set ?_ GE132.out | refine below_set ?_ GE133.out | refine below_set ?_ GE149.out) | exact HB.out))⟩)
             ·skip
              rintro ⟨v135, v141⟩ w14 ⟨hS_, h0_, h1_, h2_, h3_, h4_, h5_⟩
              have n0_ : Aside0 (Kd.R k37 37 w14 w.heap.size (fun _ => True) v135 y134) := ⟨h0_⟩
              have n1_ : Aside0 (Kd.R Kd.string 9 w14 w.heap.size (fun _ => True) v141 y140) := ⟨h1_⟩
              have n2_ : Aside0 (w14.heap[gb131]? = some (.cells #[.slice A0_0 l0_0.length c0_0, .slice A0_1 l0_1.length c0_1] 26 (0, 0))) := ⟨h2_⟩
              have n3_ : Aside0 (w14.heap[gb132]? = some (.cells #[.slice A1_0 l1_0.length c1_0, .slice A1_1 l1_1.length c1_1] 26 (0, 0))) := ⟨h3_⟩
              have n4_ : Aside0 (w14.heap[gb133]? = some (.cells #[.slice none 0 0, .slice none 0 0] 26 (0, 0))) := ⟨h4_⟩
              have n5_ : Aside0 (Below w.heap.size w w14) := ⟨h5_⟩
              clear BK131
              clear BK132
              clear BK133
              clear HB
              clear h0_ h1_ h2_ h3_ h4_ h5_
              have HO136 := n0_
              have HO142 := n1_
              have BK131 := n2_
              have BK132 := n3_
              have BK133 := n4_
              have HB := n5_
              clear n0_ n1_ n2_ n3_ n4_ n5_
              have hHeld : w14.cell? ⟨gb131, 0, none⟩ = some (.slice A0_0 l0_0.length c0_0) ∧ w14.cell? ⟨gb131, 1, none⟩ = some (.slice A0_1 l0_1.length c0_1) ∧ w14.cell? ⟨gb132, 0, none⟩ = some (.slice A1_0 l1_0.length c1_0) ∧ w14.cell? ⟨gb132, 1, none⟩ = some (.slice A1_1 l1_1.length c1_1) := hS_
              refine norm_ (a' := ?_) ?_ ?_
              rotate_left
              ·simp only [putAll, Act.put, List.setIfInBounds_toArray, List.set_cons_zero, List.set_cons_succ]
               rfl
              refine two_ (i := 3) (j := 12) (Ni := some 12) (Nj := some 5) #[true, true, true, true, true, true, true, false, true, true, false, false, false, false] #[true, true, true, false, true, true, true, false, true, true, false, false, true, false] rfl rfl rfl rfl (two_of HT_.out (by kernel_rfl)) (by decide) (by decide) (fun K hK => ?_) (fun K hK => ?_)
              ·skip
               refine Kd.R_append_rows_step k37 (w0 := w) w.heap.size (by rfl) (.tmp 9) (.tmp 11) 23 37 (.agg #[(.string ⟨#[]⟩), (.int .i64 0)]) 24 rfl Try.underlying23 info37 rfl (by decide) (by omega) v135 y134 l0_0 _ _ _ (fun _ => True) (fun _ => False) rfl rfl ?aO ?aR (fun _ _ h => h) (fun _ h => h.elim) ?aF ?aB ?aS ?aL ?_
               (case aR => repeat (first | exact (Kd.C_below HR0_0.out HB.out) | (with_reducible refine Kd.C_alloc ?_ _) | (with_reducible refine Kd.C_drewN ?_ _) | (with_reducible refine Kd.C_drew ?_)))
               (case aB => exact (by repeat (first | (with_reducible first | exact HB.out | apply below_alloc | apply pw_below_drewN | apply below_drew1 | refine below_set ?_ GE131.out | refine below_set ?_ GE132.out | refine below_set ?_ GE133.out) | exact HB.out)))
               (case aF => exact (fun _ _ => trivial))
               (case aO => exact (rTo HO136.out))
               (case aS => exact (below_size (by repeat (first | (with_reducible first | exact HB.out | apply below_alloc | apply pw_below_drewN | apply below_drew1 | refine below_set ?_ GE131.out | refine below_set ?_ GE132.out | refine below_set ?_ GE133.out) | exact HB.out))))
               (case aL => have := LMc3.out; omega)
               intro v138 w15 ho hb hg hat
               rw [← Ny137.out] at ho
               have n0_ := ak (blk_grown (g := gb131) (o := .cells #[.slice A0_0 l0_0.length c0_0, .slice A0_1 l0_1.length c0_1] 26 (0, 0)) (bTo BK131.out) hg (Kd.R_ne HO136.out BK131.out (by decide)))
               have n1_ := ak (blk_grown (g := gb132) (o := .cells #[.slice A1_0 l1_0.length c1_0, .slice A1_1 l1_1.length c1_1] 26 (0, 0)) (bTo BK132.out) hg (Kd.R_ne HO136.out BK132.out (by decide)))
               have n2_ := ak (blk_grown (g := gb133) (o := .cells #[.slice none 0 0, .slice none 0 0] 26 (0, 0)) (bTo BK133.out) hg (Kd.R_ne HO136.out BK133.out (by decide)))
               have n3_ := ak (Kd.R_over' (rTo HO142.out) (Kd.R_typed (rTo HO136.out)) (by decide) hg)
               have n4_ := ak (hb)
               have n5_ := ak (ho)
               clear BK131
               clear BK132
               clear BK133
               clear HO142
               clear HB
               clear HO136
               have BK131 := n0_
               have BK132 := n1_
               have BK133 := n2_
               have HO142 := n3_
               have HB := n4_
               have HO139 := n5_
               clear n0_ n1_ n2_ n3_ n4_ n5_
               clear ho hb hg hat
               refine hK.out _ _ ⟨(blk_cell BK131.out 0).trans rfl, (blk_cell BK131.out 1).trans rfl, (blk_cell BK132.out 0).trans rfl, (blk_cell BK132.out 1).trans rfl⟩ (fun hHeld => ?_)
               clear hK K
               refine norm_ (a' := ?_) ?_ ?_
               rotate_left
               ·show Act.put _ (some 12) _ = _
                simp only [Act.put, List.setIfInBounds_toArray, List.set_cons_zero, List.set_cons_succ, i64_w, i32_w]
                rfl
               exact norm_ (by first | (simp only [putAll, Act.put, List.setIfInBounds_toArray, List.set_cons_zero, List.set_cons_succ]; done) | (simp only [putAll, Act.put, List.setIfInBounds_toArray, List.set_cons_zero, List.set_cons_succ]; rfl)) (hJ0_3_4 (v135, v138, v141) _ ⟨hHeld, (rTo HO139.out), (rTo HO142.out), (bTo BK131.out), (bTo BK132.out), (bTo BK133.out), (by repeat (first | (with_reducible first | exact HB.out | apply below_alloc | apply pw_below_drewN | apply below_drew1 | refine below_set ?_ GE131.out | refine below_set ?_ GE132.out | refine below_set ?_ GE133.out) | exact HB.out))⟩)
              ·skip
               refine box_step ?hg (N := 5) ?hd (cs := #[.slice none 0 0, .slice none 0 0]) (t := 26) ?hr ?_; (case hd => rfl); (case hg => rfl); (case hr => first | (go_simp; done) | (go_simp; rfl))
               intro gb149 hg w15 hbox hb
               have n0_ := ak (Kd.R_below (rTo HO136.out) hb)
               have n1_ := ak (Kd.R_below (rTo HO142.out) hb)
               have n2_ := ak (blk_below (g := gb131) (o := .cells #[.slice A0_0 l0_0.length c0_0, .slice A0_1 l0_1.length c0_1] 26 (0, 0)) (bTo BK131.out) hb)
               have n3_ := ak (blk_below (g := gb132) (o := .cells #[.slice A1_0 l1_0.length c1_0, .slice A1_1 l1_1.length c1_1] 26 (0, 0)) (bTo BK132.out) hb)
               have n4_ := ak (blk_below (g := gb133) (o := .cells #[.slice none 0 0, .slice none 0 0] 26 (0, 0)) (bTo BK133.out) hb)
               have n5_ := ak (below_step (by repeat (first | (with_reducible first | exact HB.out | apply below_alloc | apply pw_below_drewN | apply below_drew1 | refine below_set ?_ GE131.out | refine below_set ?_ GE132.out | refine below_set ?_ GE133.out) | exact HB.out)) hb)
               have n6_ := ak (hbox)
               have n7_ := ak ((by rw [hg]; exact (below_size (by repeat (first | (with_reducible first | exact HB.out | apply below_alloc | apply pw_below_drewN | apply below_drew1 | refine below_set ?_ GE131.out | refine below_set ?_ GE132.out | refine below_set ?_ GE133.out) | exact HB.out))) : w.heap.size ≤ gb149))
               have n8_ := ak ((by rw [hg]; exact (below_size (by repeat (first | (with_reducible first | exact HB.out | apply below_alloc | apply pw_below_drewN | apply below_drew1 | refine below_set ?_ GE131.out | refine below_set ?_ GE132.out | refine below_set ?_ GE133.out) | exact HB.out))) : w.heap.size ≤ gb149))
               have n9_ := ak ((by rw [hg]; exact Nat.ne_of_lt (blk_lt (g := gb131) (o := .cells #[.slice A0_0 l0_0.length c0_0, .slice A0_1 l0_1.length c0_1] 26 (0, 0)) (bTo BK131.out)) : gb131 ≠ gb149))
               have n10_ := ak ((by rw [hg]; exact Nat.ne_of_gt (blk_lt (g := gb131) (o := .cells #[.slice A0_0 l0_0.length c0_0, .slice A0_1 l0_1.length c0_1] 26 (0, 0)) (bTo BK131.out)) : gb149 ≠ gb131))
               have n11_ := ak ((by rw [hg]; exact Nat.ne_of_lt (blk_lt (g := gb132) (o := .cells #[.slice A1_0 l1_0.length c1_0, .slice A1_1 l1_1.length c1_1] 26 (0, 0)) (bTo BK132.out)) : gb132 ≠ gb149))
               have n12_ := ak ((by rw [hg]; exact Nat.ne_of_gt (blk_lt (g := gb132) (o := .cells #[.slice A1_0 l1_0.length c1_0, .slice A1_1 l1_1.length c1_1] 26 (0, 0)) (bTo BK132.out)) : gb149 ≠ gb132))
               have n13_ := ak ((by rw [hg]; exact Nat.ne_of_lt (blk_lt (g := gb133) (o := .cells #[.slice none 0 0, .slice none 0 0] 26 (0, 0)) (bTo BK133.out)) : gb133 ≠ gb149))
               have n14_ := ak ((by rw [hg]; exact Nat.ne_of_gt (blk_lt (g := gb133) (o := .cells #[.slice none 0 0, .slice none 0 0] 26 (0, 0)) (bTo BK133.out)) : gb149 ≠ gb133))
               clear HO136
               clear HO142
               clear BK131
               clear BK132
               clear BK133
               clear HB
               have HO136 := n0_
               have HO142 := n1_
               have BK131 := n2_
               have BK132 := n3_
               have BK133 := n4_
               have HB := n5_
               have BK149 := n6_
               have GW149 := n7_
               have GE149 := n8_
               have NB131_149 := n9_
               have NB149_131 := n10_
               have NB132_149 := n11_
               have NB149_132 := n12_
               have NB133_149 := n13_
               have NB149_133 := n14_
               clear n0_ n1_ n2_ n3_ n4_ n5_ n6_ n7_ n8_ n9_ n10_ n11_ n12_ n13_ n14_
               clear hb hbox hg
               refine hK.out _ _ ⟨(blk_cell BK131.out 0).trans rfl, (blk_cell BK131.out 1).trans rfl, (blk_cell BK132.out 0).trans rfl, (blk_cell BK132.out 1).trans rfl⟩ (fun hHeld => ?_)
               clear hK K
               refine norm_ (a' := ?_) ?_ ?_
               rotate_left
               ·show Act.put _ (some 5) _ = _
                simp only [Act.put, List.setIfInBounds_toArray, List.set_cons_zero, List.set_cons_succ, i64_w, i32_w]
                rfl
               exact norm_ (by first | (simp only [putAll, Act.put, List.setIfInBounds_toArray, List.set_cons_zero, List.set_cons_succ]; done) | (simp only [putAll, Act.put, List.setIfInBounds_toArray, List.set_cons_zero, List.set_cons_succ]; rfl)) (hJ0_4_12 (v135, v141, gb149) _ ⟨hHeld, (rTo HO136.out), (rTo HO142.out), (bTo BK131.out), (bTo BK132.out), (bTo BK133.out), (bTo BK149.out), GW149.out, GE149.out, NB131_149.out, NB149_131.out, NB132_149.out, NB149_132.out, NB133_149.out, NB149_133.out, (by repeat (first | (with_reducible first | exact HB.out | apply below_alloc | apply pw_below_drewN | apply below_drew1 | refine below_set ?_ GE131.out | refine below_set ?_ GE132.out | refine below_set ?_ GE133.out | refine below_set ?_ GE149.out) | exact HB.out))⟩)
            ·skip
             rintro ⟨v135, v138⟩ w13 ⟨hS_, h0_, h1_, h2_, h3_, h4_⟩
             have n0_ : Aside0 (Kd.R k37 37 w13 w.heap.size (fun _ => True) v138 y137) := ⟨h0_⟩
             have n1_ : Aside0 (w13.heap[gb131]? = some (.cells #[.slice A0_0 l0_0.length c0_0, .slice A0_1 l0_1.length c0_1] 26 (0, 0))) := ⟨h1_⟩
             have n2_ : Aside0 (w13.heap[gb132]? = some (.cells #[.slice A1_0 l1_0.length c1_0, .slice A1_1 l1_1.length c1_1] 26 (0, 0))) := ⟨h2_⟩
             have n3_ : Aside0 (w13.heap[gb133]? = some (.cells #[.slice none 0 0, .slice none 0 0] 26 (0, 0))) := ⟨h3_⟩
             have n4_ : Aside0 (Below w.heap.size w w13) := ⟨h4_⟩
             clear BK131
             clear BK132
             clear BK133
             clear HB
             clear h0_ h1_ h2_ h3_ h4_
             have HO139 := n0_
             have BK131 := n1_
             have BK132 := n2_
             have BK133 := n3_
             have HB := n4_
             clear n0_ n1_ n2_ n3_ n4_
             have hHeld : w13.cell? ⟨gb131, 0, none⟩ = some (.slice A0_0 l0_0.length c0_0) ∧ w13.cell? ⟨gb131, 1, none⟩ = some (.slice A0_1 l0_1.length c0_1) ∧ w13.cell? ⟨gb132, 0, none⟩ = some (.slice A1_0 l1_0.length c1_0) ∧ w13.cell? ⟨gb132, 1, none⟩ = some (.slice A1_1 l1_1.length c1_1) := hS_
             refine norm_ (a' := ?_) ?_ ?_
             rotate_left
             ·simp only [putAll, Act.put, List.setIfInBounds_toArray, List.set_cons_zero, List.set_cons_succ]
              rfl
             refine two_ (i := 4) (j := 12) (Ni := some 13) (Nj := some 5) #[true, true, true, true, true, true, true, false, true, true, false, false, false, false] #[true, true, true, true, false, true, true, false, true, true, false, false, true, false] rfl rfl rfl rfl (two_of HT_.out (by kernel_rfl)) (by decide) (by decide) (fun K hK => ?_) (fun K hK => ?_)
             ·skip
              refine Kd.R_lit_step Kd.string _ 9 ?hg (N := 13) ?hd (xs := ([] : List ByteArray)) (inner := []) (ok := fun _ => True) (okp := fun _ => True) ?hr ?hp (fun _ hk => hk) trivial (Below.refl _ _) (Nat.le_refl _) (by simp) ?_; (case hd => rfl); (case hg => rfl); (case hr => first | (go_simp; done) | (go_simp; rfl)); (case hp => exact (Reps.none _ _))
              intro v141 w14 ho15 hb hg_ hnew_
              clear hg_ hnew_
              (first | rw [← Ny140.out] at ho15 | (simp only [Int.reduceToNat] at ho15; rw [← Ny140.out] at ho15))
              have n0_ := ak (Kd.R_below (rTo HO139.out) hb)
              have n1_ := ak (Kd.R_lower ho15 (below_size (by repeat (first | (with_reducible first | exact HB.out | apply below_alloc | apply pw_below_drewN | apply below_drew1 | refine below_set ?_ GE131.out | refine below_set ?_ GE132.out | refine below_set ?_ GE133.out) | exact HB.out))))
              have n2_ := ak (blk_below (g := gb131) (o := .cells #[.slice A0_0 l0_0.length c0_0, .slice A0_1 l0_1.length c0_1] 26 (0, 0)) (bTo BK131.out) hb)
              have n3_ := ak (blk_below (g := gb132) (o := .cells #[.slice A1_0 l1_0.length c1_0, .slice A1_1 l1_1.length c1_1] 26 (0, 0)) (bTo BK132.out) hb)
              have n4_ := ak (blk_below (g := gb133) (o := .cells #[.slice none 0 0, .slice none 0 0] 26 (0, 0)) (bTo BK133.out) hb)
              have n5_ := ak (below_step (by repeat (first | (with_reducible first | exact HB.out | apply below_alloc | apply pw_below_drewN | apply below_drew1 | refine below_set ?_ GE131.out | refine below_set ?_ GE132.out | refine below_set ?_ GE133.out) | exact HB.out)) hb)
              clear HO139
              clear BK131
              clear BK132
              clear BK133
              clear HB
              have HO139 := n0_
              have HO142 := n1_
              have BK131 := n2_
              have BK132 := n3_
              have BK133 := n4_
              have HB := n5_
              clear n0_ n1_ n2_ n3_ n4_ n5_
              clear hb ho15
              refine hK.out _ _ ⟨(blk_cell BK131.out 0).trans rfl, (blk_cell BK131.out 1).trans rfl, (blk_cell BK132.out 0).trans rfl, (blk_cell BK132.out 1).trans rfl⟩ (fun hHeld => ?_)
              clear hK K
              refine norm_ (a' := ?_) ?_ ?_
              rotate_left
              ·show Act.put _ (some 13) _ = _
               simp only [Act.put, List.setIfInBounds_toArray, List.set_cons_zero, List.set_cons_succ, i64_w, i32_w]
               rfl
              exact norm_ (by first | (simp only [putAll, Act.put, List.setIfInBounds_toArray, List.set_cons_zero, List.set_cons_succ]; done) | (simp only [putAll, Act.put, List.setIfInBounds_toArray, List.set_cons_zero, List.set_cons_succ]; rfl)) (hJ0_3_4 (v135, v138, v141) _ ⟨hHeld, (rTo HO139.out), (rTo HO142.out), (bTo BK131.out), (bTo BK132.out), (bTo BK133.out), (by repeat (first | (with_reducible first | exact HB.out | apply below_alloc | apply pw_below_drewN | apply below_drew1 | refine below_set ?_ GE131.out | refine below_set ?_ GE132.out | refine below_set ?_ GE133.out) | exact HB.out))⟩)
             ·skip
              refine box_step ?hg (N := 5) ?hd (cs := #[.slice none 0 0, .slice none 0 0]) (t := 26) ?hr ?_; (case hd => rfl); (case hg => rfl); (case hr => first | (go_simp; done) | (go_simp; rfl))
              intro gb149 hg w14 hbox hb
              have n0_ := ak (Kd.R_below (rTo HO139.out) hb)
              have n1_ := ak (blk_below (g := gb131) (o := .cells #[.slice A0_0 l0_0.length c0_0, .slice A0_1 l0_1.length c0_1] 26 (0, 0)) (bTo BK131.out) hb)
              have n2_ := ak (blk_below (g := gb132) (o := .cells #[.slice A1_0 l1_0.length c1_0, .slice A1_1 l1_1.length c1_1] 26 (0, 0)) (bTo BK132.out) hb)
              have n3_ := ak (blk_below (g := gb133) (o := .cells #[.slice none 0 0, .slice none 0 0] 26 (0, 0)) (bTo BK133.out) hb)
              have n4_ := ak (below_step (by repeat (first | (with_reducible first | exact HB.out | apply below_alloc | apply pw_below_drewN | apply below_drew1 | refine below_set ?_ GE131.out | refine below_set ?_ GE132.out | refine below_set ?_ GE133.out) | exact HB.out)) hb)
              have n5_ := ak (hbox)
              have n6_ := ak ((by rw [hg]; exact (below_size (by repeat (first | (with_reducible first | exact HB.out | apply below_alloc | apply pw_below_drewN | apply below_drew1 | refine below_set ?_ GE131.out | refine below_set ?_ GE132.out | refine below_set ?_ GE133.out) | exact HB.out))) : w.heap.size ≤ gb149))
              have n7_ := ak ((by rw [hg]; exact (below_size (by repeat (first | (with_reducible first | exact HB.out | apply below_alloc | apply pw_below_drewN | apply below_drew1 | refine below_set ?_ GE131.out | refine below_set ?_ GE132.out | refine below_set ?_ GE133.out) | exact HB.out))) : w.heap.size ≤ gb149))
              have n8_ := ak ((by rw [hg]; exact Nat.ne_of_lt (blk_lt (g := gb131) (o := .cells #[.slice A0_0 l0_0.length c0_0, .slice A0_1 l0_1.length c0_1] 26 (0, 0)) (bTo BK131.out)) : gb131 ≠ gb149))
              have n9_ := ak ((by rw [hg]; exact Nat.ne_of_gt (blk_lt (g := gb131) (o := .cells #[.slice A0_0 l0_0.length c0_0, .slice A0_1 l0_1.length c0_1] 26 (0, 0)) (bTo BK131.out)) : gb149 ≠ gb131))
              have n10_ := ak ((by rw [hg]; exact Nat.ne_of_lt (blk_lt (g := gb132) (o := .cells #[.slice A1_0 l1_0.length c1_0, .slice A1_1 l1_1.length c1_1] 26 (0, 0)) (bTo BK132.out)) : gb132 ≠ gb149))
              have n11_ := ak ((by rw [hg]; exact Nat.ne_of_gt (blk_lt (g := gb132) (o := .cells #[.slice A1_0 l1_0.length c1_0, .slice A1_1 l1_1.length c1_1] 26 (0, 0)) (bTo BK132.out)) : gb149 ≠ gb132))
              have n12_ := ak ((by rw [hg]; exact Nat.ne_of_lt (blk_lt (g := gb133) (o := .cells #[.slice none 0 0, .slice none 0 0] 26 (0, 0)) (bTo BK133.out)) : gb133 ≠ gb149))
              have n13_ := ak ((by rw [hg]; exact Nat.ne_of_gt (blk_lt (g := gb133) (o := .cells #[.slice none 0 0, .slice none 0 0] 26 (0, 0)) (bTo BK133.out)) : gb149 ≠ gb133))
              clear HO139
              clear BK131
              clear BK132
              clear BK133
              clear HB
              have HO139 := n0_
              have BK131 := n1_
              have BK132 := n2_
              have BK133 := n3_
              have HB := n4_
              have BK149 := n5_
              have GW149 := n6_
              have GE149 := n7_
              have NB131_149 := n8_
              have NB149_131 := n9_
              have NB132_149 := n10_
              have NB149_132 := n11_
              have NB133_149 := n12_
              have NB149_133 := n13_
              clear n0_ n1_ n2_ n3_ n4_ n5_ n6_ n7_ n8_ n9_ n10_ n11_ n12_ n13_
              clear hb hbox hg
              refine hK.out _ _ ⟨(blk_cell BK131.out 0).trans rfl, (blk_cell BK131.out 1).trans rfl, (blk_cell BK132.out 0).trans rfl, (blk_cell BK132.out 1).trans rfl⟩ (fun hHeld => ?_)
              clear hK K
              refine norm_ (a' := ?_) ?_ ?_
              rotate_left
              ·show Act.put _ (some 5) _ = _
               simp only [Act.put, List.setIfInBounds_toArray, List.set_cons_zero, List.set_cons_succ, i64_w, i32_w]
               rfl
              exact norm_ (by first | (simp only [putAll, Act.put, List.setIfInBounds_toArray, List.set_cons_zero, List.set_cons_succ]; done) | (simp only [putAll, Act.put, List.setIfInBounds_toArray, List.set_cons_zero, List.set_cons_succ]; rfl)) (hJ0_3_12 (v135, v138, gb149) _ ⟨hHeld, (rTo HO139.out), (bTo BK131.out), (bTo BK132.out), (bTo BK133.out), (bTo BK149.out), GW149.out, GE149.out, NB131_149.out, NB149_131.out, NB132_149.out, NB149_132.out, NB133_149.out, NB149_133.out, (by repeat (first | (with_reducible first | exact HB.out | apply below_alloc | apply pw_below_drewN | apply below_drew1 | refine below_set ?_ GE131.out | refine below_set ?_ GE132.out | refine below_set ?_ GE133.out | refine below_set ?_ GE149.out) | exact HB.out))⟩)
           ·skip
            rintro ⟨v135, v141, gb149⟩ w15 ⟨hS_, h0_, h1_, h2_, h3_, h4_, h5_, h6_, h7_, h8_, h9_, h10_, h11_, h12_, h13_, h14_⟩
            have n0_ : Aside0 (Kd.R k37 37 w15 w.heap.size (fun _ => True) v135 y134) := ⟨h0_⟩
            have n1_ : Aside0 (Kd.R Kd.string 9 w15 w.heap.size (fun _ => True) v141 y140) := ⟨h1_⟩
            have n2_ : Aside0 (w15.heap[gb131]? = some (.cells #[.slice A0_0 l0_0.length c0_0, .slice A0_1 l0_1.length c0_1] 26 (0, 0))) := ⟨h2_⟩
            have n3_ : Aside0 (w15.heap[gb132]? = some (.cells #[.slice A1_0 l1_0.length c1_0, .slice A1_1 l1_1.length c1_1] 26 (0, 0))) := ⟨h3_⟩
            have n4_ : Aside0 (w15.heap[gb133]? = some (.cells #[.slice none 0 0, .slice none 0 0] 26 (0, 0))) := ⟨h4_⟩
            have n5_ : Aside0 (w15.heap[gb149]? = some (.cells #[.slice none 0 0, .slice none 0 0] 26 (0, 0))) := ⟨h5_⟩
            have n6_ : Aside0 (w.heap.size ≤ gb149) := ⟨h6_⟩
            have n7_ : Aside0 (w.heap.size ≤ gb149) := ⟨h7_⟩
            have n8_ : Aside0 (gb131 ≠ gb149) := ⟨h8_⟩
            have n9_ : Aside0 (gb149 ≠ gb131) := ⟨h9_⟩
            have n10_ : Aside0 (gb132 ≠ gb149) := ⟨h10_⟩
            have n11_ : Aside0 (gb149 ≠ gb132) := ⟨h11_⟩
            have n12_ : Aside0 (gb133 ≠ gb149) := ⟨h12_⟩
            have n13_ : Aside0 (gb149 ≠ gb133) := ⟨h13_⟩
            have n14_ : Aside0 (Below w.heap.size w w15) := ⟨h14_⟩
            clear BK131
            clear BK132
            clear BK133
            clear HB
            clear h0_ h1_ h2_ h3_ h4_ h5_ h6_ h7_ h8_ h9_ h10_ h11_ h12_ h13_ h14_
            have HO136 := n0_
            have HO142 := n1_
            have BK131 := n2_
            have BK132 := n3_
            have BK133 := n4_
            have BK149 := n5_
            have GW149 := n6_
            have GE149 := n7_
            have NB131_149 := n8_
            have NB149_131 := n9_
            have NB132_149 := n10_
            have NB149_132 := n11_
            have NB133_149 := n12_
            have NB149_133 := n13_
            have HB := n14_
            clear n0_ n1_ n2_ n3_ n4_ n5_ n6_ n7_ n8_ n9_ n10_ n11_ n12_ n13_ n14_
            have hHeld : w15.cell? ⟨gb131, 0, none⟩ = some (.slice A0_0 l0_0.length c0_0) ∧ w15.cell? ⟨gb131, 1, none⟩ = some (.slice A0_1 l0_1.length c0_1) ∧ w15.cell? ⟨gb132, 0, none⟩ = some (.slice A1_0 l1_0.length c1_0) ∧ w15.cell? ⟨gb132, 1, none⟩ = some (.slice A1_1 l1_1.length c1_1) := hS_
            refine norm_ (a' := ?_) ?_ ?_
            rotate_left
            ·simp only [putAll, Act.put, List.setIfInBounds_toArray, List.set_cons_zero, List.set_cons_succ]
             rfl
            refine one_ (i := 3) (N := some 12) #[true, true, true, true, true, true, true, false, true, true, false, false, true, false] rfl rfl (one_of HT_.out (by kernel_rfl)) (by decide) (fun K hK => ?_)
            refine Kd.R_append_rows_step k37 (w0 := w) w.heap.size (by rfl) (.tmp 9) (.tmp 11) 23 37 (.agg #[(.string ⟨#[]⟩), (.int .i64 0)]) 24 rfl Try.underlying23 info37 rfl (by decide) (by omega) v135 y134 l0_0 _ _ _ (fun _ => True) (fun _ => False) rfl rfl ?aO ?aR (fun _ _ h => h) (fun _ h => h.elim) ?aF ?aB ?aS ?aL ?_
            (case aR => repeat (first | exact (Kd.C_below HR0_0.out HB.out) | (with_reducible refine Kd.C_alloc ?_ _) | (with_reducible refine Kd.C_drewN ?_ _) | (with_reducible refine Kd.C_drew ?_)))
            (case aB => exact (by repeat (first | (with_reducible first | exact HB.out | apply below_alloc | apply pw_below_drewN | apply below_drew1 | refine below_set ?_ GE131.out | refine below_set ?_ GE132.out | refine below_set ?_ GE133.out | refine below_set ?_ GE149.out) | exact HB.out)))
            (case aF => exact (fun _ _ => trivial))
            (case aO => exact (rTo HO136.out))
            (case aS => exact (below_size (by repeat (first | (with_reducible first | exact HB.out | apply below_alloc | apply pw_below_drewN | apply below_drew1 | refine below_set ?_ GE131.out | refine below_set ?_ GE132.out | refine below_set ?_ GE133.out | refine below_set ?_ GE149.out) | exact HB.out))))
            (case aL => have := LMc3.out; omega)
            intro v138 w16 ho hb hg hat
            rw [← Ny137.out] at ho
            have n0_ := ak (blk_grown (g := gb131) (o := .cells #[.slice A0_0 l0_0.length c0_0, .slice A0_1 l0_1.length c0_1] 26 (0, 0)) (bTo BK131.out) hg (Kd.R_ne HO136.out BK131.out (by decide)))
            have n1_ := ak (blk_grown (g := gb132) (o := .cells #[.slice A1_0 l1_0.length c1_0, .slice A1_1 l1_1.length c1_1] 26 (0, 0)) (bTo BK132.out) hg (Kd.R_ne HO136.out BK132.out (by decide)))
            have n2_ := ak (blk_grown (g := gb133) (o := .cells #[.slice none 0 0, .slice none 0 0] 26 (0, 0)) (bTo BK133.out) hg (Kd.R_ne HO136.out BK133.out (by decide)))
            have n3_ := ak (Kd.R_over' (rTo HO142.out) (Kd.R_typed (rTo HO136.out)) (by decide) hg)
            have n4_ := ak (blk_grown (g := gb149) (o := .cells #[.slice none 0 0, .slice none 0 0] 26 (0, 0)) (bTo BK149.out) hg (Kd.R_ne HO136.out BK149.out (by decide)))
            have n5_ := ak (hb)
            have n6_ := ak (ho)
            clear BK131
            clear BK132
            clear BK133
            clear HO142
            clear BK149
            clear HB
            clear HO136
            have BK131 := n0_
            have BK132 := n1_
            have BK133 := n2_
            have HO142 := n3_
            have BK149 := n4_
            have HB := n5_
            have HO139 := n6_
            clear n0_ n1_ n2_ n3_ n4_ n5_ n6_
            clear ho hb hg hat
            refine hK.out _ _ ⟨(blk_cell BK131.out 0).trans rfl, (blk_cell BK131.out 1).trans rfl, (blk_cell BK132.out 0).trans rfl, (blk_cell BK132.out 1).trans rfl⟩ (fun hHeld => ?_)
            clear hK K
            refine norm_ (a' := ?_) ?_ ?_
            rotate_left
            ·show Act.put _ (some 12) _ = _
             simp only [Act.put, List.setIfInBounds_toArray, List.set_cons_zero, List.set_cons_succ, i64_w, i32_w]
             rfl
            exact norm_ (by first | (simp only [putAll, Act.put, List.setIfInBounds_toArray, List.set_cons_zero, List.set_cons_succ]; done) | (simp only [putAll, Act.put, List.setIfInBounds_toArray, List.set_cons_zero, List.set_cons_succ]; rfl)) (hJ0_3_4_12 (v135, v138, v141, gb149) _ ⟨hHeld, (rTo HO139.out), (rTo HO142.out), (bTo BK131.out), (bTo BK132.out), (bTo BK133.out), (bTo BK149.out), GW149.out, GE149.out, NB131_149.out, NB149_131.out, NB132_149.out, NB149_132.out, NB133_149.out, NB149_133.out, (by repeat (first | (with_reducible first | exact HB.out | apply below_alloc | apply pw_below_drewN | apply below_drew1 | refine below_set ?_ GE131.out | refine below_set ?_ GE132.out | refine below_set ?_ GE133.out | refine below_set ?_ GE149.out) | exact HB.out))⟩)
          ·skip
           rintro ⟨v135, v138, gb149⟩ w14 ⟨hS_, h0_, h1_, h2_, h3_, h4_, h5_, h6_, h7_, h8_, h9_, h10_, h11_, h12_, h13_⟩
           have n0_ : Aside0 (Kd.R k37 37 w14 w.heap.size (fun _ => True) v138 y137) := ⟨h0_⟩
           have n1_ : Aside0 (w14.heap[gb131]? = some (.cells #[.slice A0_0 l0_0.length c0_0, .slice A0_1 l0_1.length c0_1] 26 (0, 0))) := ⟨h1_⟩
           have n2_ : Aside0 (w14.heap[gb132]? = some (.cells #[.slice A1_0 l1_0.length c1_0, .slice A1_1 l1_1.length c1_1] 26 (0, 0))) := ⟨h2_⟩
           have n3_ : Aside0 (w14.heap[gb133]? = some (.cells #[.slice none 0 0, .slice none 0 0] 26 (0, 0))) := ⟨h3_⟩
           have n4_ : Aside0 (w14.heap[gb149]? = some (.cells #[.slice none 0 0, .slice none 0 0] 26 (0, 0))) := ⟨h4_⟩
           have n5_ : Aside0 (w.heap.size ≤ gb149) := ⟨h5_⟩
           have n6_ : Aside0 (w.heap.size ≤ gb149) := ⟨h6_⟩
           have n7_ : Aside0 (gb131 ≠ gb149) := ⟨h7_⟩
           have n8_ : Aside0 (gb149 ≠ gb131) := ⟨h8_⟩
           have n9_ : Aside0 (gb132 ≠ gb149) := ⟨h9_⟩
           have n10_ : Aside0 (gb149 ≠ gb132) := ⟨h10_⟩
           have n11_ : Aside0 (gb133 ≠ gb149) := ⟨h11_⟩
           have n12_ : Aside0 (gb149 ≠ gb133) := ⟨h12_⟩
           have n13_ : Aside0 (Below w.heap.size w w14) := ⟨h13_⟩
           clear BK131
           clear BK132
           clear BK133
           clear HB
           clear h0_ h1_ h2_ h3_ h4_ h5_ h6_ h7_ h8_ h9_ h10_ h11_ h12_ h13_
           have HO139 := n0_
           have BK131 := n1_
           have BK132 := n2_
           have BK133 := n3_
           have BK149 := n4_
           have GW149 := n5_
           have GE149 := n6_
           have NB131_149 := n7_
           have NB149_131 := n8_
           have NB132_149 := n9_
           have NB149_132 := n10_
           have NB133_149 := n11_
           have NB149_133 := n12_
           have HB := n13_
           clear n0_ n1_ n2_ n3_ n4_ n5_ n6_ n7_ n8_ n9_ n10_ n11_ n12_ n13_
           have hHeld : w14.cell? ⟨gb131, 0, none⟩ = some (.slice A0_0 l0_0.length c0_0) ∧ w14.cell? ⟨gb131, 1, none⟩ = some (.slice A0_1 l0_1.length c0_1) ∧ w14.cell? ⟨gb132, 0, none⟩ = some (.slice A1_0 l1_0.length c1_0) ∧ w14.cell? ⟨gb132, 1, none⟩ = some (.slice A1_1 l1_1.length c1_1) := hS_
           refine norm_ (a' := ?_) ?_ ?_
           rotate_left
           ·simp only [putAll, Act.put, List.setIfInBounds_toArray, List.set_cons_zero, List.set_cons_succ]
            rfl
           refine one_ (i := 4) (N := some 13) #[true, true, true, true, true, true, true, false, true, true, false, false, true, false] rfl rfl (one_of HT_.out (by kernel_rfl)) (by decide) (fun K hK => ?_)
           refine Kd.R_lit_step Kd.string _ 9 ?hg (N := 13) ?hd (xs := ([] : List ByteArray)) (inner := []) (ok := fun _ => True) (okp := fun _ => True) ?hr ?hp (fun _ hk => hk) trivial (Below.refl _ _) (Nat.le_refl _) (by simp) ?_; (case hd => rfl); (case hg => rfl); (case hr => first | (go_simp; done) | (go_simp; rfl)); (case hp => exact (Reps.none _ _))
           intro v141 w15 ho16 hb hg_ hnew_
           clear hg_ hnew_
           (first | rw [← Ny140.out] at ho16 | (simp only [Int.reduceToNat] at ho16; rw [← Ny140.out] at ho16))
           have n0_ := ak (Kd.R_below (rTo HO139.out) hb)
           have n1_ := ak (Kd.R_lower ho16 (below_size (by repeat (first | (with_reducible first | exact HB.out | apply below_alloc | apply pw_below_drewN | apply below_drew1 | refine below_set ?_ GE131.out | refine below_set ?_ GE132.out | refine below_set ?_ GE133.out | refine below_set ?_ GE149.out) | exact HB.out))))
           have n2_ := ak (blk_below (g := gb131) (o := .cells #[.slice A0_0 l0_0.length c0_0, .slice A0_1 l0_1.length c0_1] 26 (0, 0)) (bTo BK131.out) hb)
           have n3_ := ak (blk_below (g := gb132) (o := .cells #[.slice A1_0 l1_0.length c1_0, .slice A1_1 l1_1.length c1_1] 26 (0, 0)) (bTo BK132.out) hb)
           have n4_ := ak (blk_below (g := gb133) (o := .cells #[.slice none 0 0, .slice none 0 0] 26 (0, 0)) (bTo BK133.out) hb)
           have n5_ := ak (blk_below (g := gb149) (o := .cells #[.slice none 0 0, .slice none 0 0] 26 (0, 0)) (bTo BK149.out) hb)
           have n6_ := ak (below_step (by repeat (first | (with_reducible first | exact HB.out | apply below_alloc | apply pw_below_drewN | apply below_drew1 | refine below_set ?_ GE131.out | refine below_set ?_ GE132.out | refine below_set ?_ GE133.out | refine below_set ?_ GE149.out) | exact HB.out)) hb)
           clear HO139
           clear BK131
           clear BK132
           clear BK133
           clear BK149
           clear HB
           have HO139 := n0_
           have HO142 := n1_
           have BK131 := n2_
           have BK132 := n3_
           have BK133 := n4_
           have BK149 := n5_
           have HB := n6_
           clear n0_ n1_ n2_ n3_ n4_ n5_ n6_
           clear hb ho16
           refine hK.out _ _ ⟨(blk_cell BK131.out 0).trans rfl, (blk_cell BK131.out 1).trans rfl, (blk_cell BK132.out 0).trans rfl, (blk_cell BK132.out 1).trans rfl⟩ (fun hHeld => ?_)
           clear hK K
           refine norm_ (a' := ?_) ?_ ?_
           rotate_left
           ·show Act.put _ (some 13) _ = _
            simp only [Act.put, List.setIfInBounds_toArray, List.set_cons_zero, List.set_cons_succ, i64_w, i32_w]
            rfl
           exact norm_ (by first | (simp only [putAll, Act.put, List.setIfInBounds_toArray, List.set_cons_zero, List.set_cons_succ]; done) | (simp only [putAll, Act.put, List.setIfInBounds_toArray, List.set_cons_zero, List.set_cons_succ]; rfl)) (hJ0_3_4_12 (v135, v138, v141, gb149) _ ⟨hHeld, (rTo HO139.out), (rTo HO142.out), (bTo BK131.out), (bTo BK132.out), (bTo BK133.out), (bTo BK149.out), GW149.out, GE149.out, NB131_149.out, NB149_131.out, NB132_149.out, NB149_132.out, NB133_149.out, NB149_133.out, (by repeat (first | (with_reducible first | exact HB.out | apply below_alloc | apply pw_below_drewN | apply below_drew1 | refine below_set ?_ GE131.out | refine below_set ?_ GE132.out | refine below_set ?_ GE133.out | refine below_set ?_ GE149.out) | exact HB.out))⟩)
         ·skip
          rintro ⟨v135, v138, v141⟩ w15 ⟨hS_, h0_, h1_, h2_, h3_, h4_, h5_⟩
          have n0_ : Aside0 (Kd.R k37 37 w15 w.heap.size (fun _ => True) v138 y137) := ⟨h0_⟩
          have n1_ : Aside0 (Kd.R Kd.string 9 w15 w.heap.size (fun _ => True) v141 y140) := ⟨h1_⟩
          have n2_ : Aside0 (w15.heap[gb131]? = some (.cells #[.slice A0_0 l0_0.length c0_0, .slice A0_1 l0_1.length c0_1] 26 (0, 0))) := ⟨h2_⟩
          have n3_ : Aside0 (w15.heap[gb132]? = some (.cells #[.slice A1_0 l1_0.length c1_0, .slice A1_1 l1_1.length c1_1] 26 (0, 0))) := ⟨h3_⟩
          have n4_ : Aside0 (w15.heap[gb133]? = some (.cells #[.slice none 0 0, .slice none 0 0] 26 (0, 0))) := ⟨h4_⟩
          have n5_ : Aside0 (Below w.heap.size w w15) := ⟨h5_⟩
          clear BK131
          clear BK132
          clear BK133
          clear HB
          clear h0_ h1_ h2_ h3_ h4_ h5_
          have HO139 := n0_
          have HO142 := n1_
          have BK131 := n2_
          have BK132 := n3_
          have BK133 := n4_
          have HB := n5_
          clear n0_ n1_ n2_ n3_ n4_ n5_
          have hHeld : w15.cell? ⟨gb131, 0, none⟩ = some (.slice A0_0 l0_0.length c0_0) ∧ w15.cell? ⟨gb131, 1, none⟩ = some (.slice A0_1 l0_1.length c0_1) ∧ w15.cell? ⟨gb132, 0, none⟩ = some (.slice A1_0 l1_0.length c1_0) ∧ w15.cell? ⟨gb132, 1, none⟩ = some (.slice A1_1 l1_1.length c1_1) := hS_
          refine norm_ (a' := ?_) ?_ ?_
          rotate_left
          ·simp only [putAll, Act.put, List.setIfInBounds_toArray, List.set_cons_zero, List.set_cons_succ]
           rfl
          refine two_ (i := 7) (j := 12) (Ni := some 16) (Nj := some 5) #[true, true, true, true, true, true, true, true, true, true, false, false, false, false] #[true, true, true, true, true, true, true, false, true, true, false, false, true, false] rfl rfl rfl rfl (two_of HT_.out (by kernel_rfl)) (by decide) (by decide) (fun K hK => ?_) (fun K hK => ?_)
          ·skip
           refine Kd.R_append_rows_step Kd.string (w0 := w) w.heap.size (by rfl) (.tmp 13) (.tmp 15) 24 9 (.string ⟨#[]⟩) 16 rfl Try.underlying24 info9 rfl (by decide) (by omega) v141 y140 l0_1 _ _ _ (fun _ => True) (fun _ => False) rfl rfl ?aO ?aR (fun _ _ h => h) (fun _ h => h.elim) ?aF ?aB ?aS ?aL ?_
           (case aR => repeat (first | exact (Kd.C_below HR0_1.out HB.out) | (with_reducible refine Kd.C_alloc ?_ _) | (with_reducible refine Kd.C_drewN ?_ _) | (with_reducible refine Kd.C_drew ?_)))
           (case aB => exact (by repeat (first | (with_reducible first | exact HB.out | apply below_alloc | apply pw_below_drewN | apply below_drew1 | refine below_set ?_ GE131.out | refine below_set ?_ GE132.out | refine below_set ?_ GE133.out) | exact HB.out)))
           (case aF => exact (fun _ _ => trivial))
           (case aO => exact (rTo HO142.out))
           (case aS => exact (below_size (by repeat (first | (with_reducible first | exact HB.out | apply below_alloc | apply pw_below_drewN | apply below_drew1 | refine below_set ?_ GE131.out | refine below_set ?_ GE132.out | refine below_set ?_ GE133.out) | exact HB.out))))
           (case aL => have := LMc4.out; omega)
           intro v144 w16 ho hb hg hat
           rw [← Ny143.out] at ho
           have n0_ := ak (blk_grown (g := gb131) (o := .cells #[.slice A0_0 l0_0.length c0_0, .slice A0_1 l0_1.length c0_1] 26 (0, 0)) (bTo BK131.out) hg (Kd.R_ne HO142.out BK131.out (by decide)))
           have n1_ := ak (blk_grown (g := gb132) (o := .cells #[.slice A1_0 l1_0.length c1_0, .slice A1_1 l1_1.length c1_1] 26 (0, 0)) (bTo BK132.out) hg (Kd.R_ne HO142.out BK132.out (by decide)))
           have n2_ := ak (blk_grown (g := gb133) (o := .cells #[.slice none 0 0, .slice none 0 0] 26 (0, 0)) (bTo BK133.out) hg (Kd.R_ne HO142.out BK133.out (by decide)))
           have n3_ := ak (Kd.R_over' (rTo HO139.out) (Kd.R_typed (rTo HO142.out)) (by decide) hg)
           have n4_ := ak (hb)
           have n5_ := ak (ho)
           clear BK131
           clear BK132
           clear BK133
           clear HO139
           clear HB
           clear HO142
           have BK131 := n0_
           have BK132 := n1_
           have BK133 := n2_
           have HO139 := n3_
           have HB := n4_
           have HO145 := n5_
           clear n0_ n1_ n2_ n3_ n4_ n5_
           clear ho hb hg hat
           refine hK.out _ _ ⟨(blk_cell BK131.out 0).trans rfl, (blk_cell BK131.out 1).trans rfl, (blk_cell BK132.out 0).trans rfl, (blk_cell BK132.out 1).trans rfl⟩ (fun hHeld => ?_)
           clear hK K
           refine norm_ (a' := ?_) ?_ ?_
           rotate_left
           ·show Act.put _ (some 16) _ = _
            simp only [Act.put, List.setIfInBounds_toArray, List.set_cons_zero, List.set_cons_succ, i64_w, i32_w]
            rfl
           exact norm_ (by first | (simp only [putAll, Act.put, List.setIfInBounds_toArray, List.set_cons_zero, List.set_cons_succ]; done) | (simp only [putAll, Act.put, List.setIfInBounds_toArray, List.set_cons_zero, List.set_cons_succ]; rfl)) (hJ0_3_4_7 (v135, v138, v141, v144) _ ⟨hHeld, (rTo HO139.out), (rTo HO145.out), (bTo BK131.out), (bTo BK132.out), (bTo BK133.out), (by repeat (first | (with_reducible first | exact HB.out | apply below_alloc | apply pw_below_drewN | apply below_drew1 | refine below_set ?_ GE131.out | refine below_set ?_ GE132.out | refine below_set ?_ GE133.out) | exact HB.out))⟩)
          ·skip
           refine box_step ?hg (N := 5) ?hd (cs := #[.slice none 0 0, .slice none 0 0]) (t := 26) ?hr ?_; (case hd => rfl); (case hg => rfl); (case hr => first | (go_simp; done) | (go_simp; rfl))
           intro gb149 hg w16 hbox hb
           have n0_ := ak (Kd.R_below (rTo HO139.out) hb)
           have n1_ := ak (Kd.R_below (rTo HO142.out) hb)
           have n2_ := ak (blk_below (g := gb131) (o := .cells #[.slice A0_0 l0_0.length c0_0, .slice A0_1 l0_1.length c0_1] 26 (0, 0)) (bTo BK131.out) hb)
           have n3_ := ak (blk_below (g := gb132) (o := .cells #[.slice A1_0 l1_0.length c1_0, .slice A1_1 l1_1.length c1_1] 26 (0, 0)) (bTo BK132.out) hb)
           have n4_ := ak (blk_below (g := gb133) (o := .cells #[.slice none 0 0, .slice none 0 0] 26 (0, 0)) (bTo BK133.out) hb)
           have n5_ := ak (below_step (by repeat (first | (with_reducible first | exact HB.out | apply below_alloc | apply pw_below_drewN | apply below_drew1 | refine below_set ?_ GE131.out | refine below_set ?_ GE132.out | refine below_set ?_ GE133.out) | exact HB.out)) hb)
           have n6_ := ak (hbox)
           have n7_ := ak ((by rw [hg]; exact (below_size (by repeat (first | (with_reducible first | exact HB.out | apply below_alloc | apply pw_below_drewN | apply below_drew1 | refine below_set ?_ GE131.out | refine below_set ?_ GE132.out | refine below_set ?_ GE133.out) | exact HB.out))) : w.heap.size ≤ gb149))
           have n8_ := ak ((by rw [hg]; exact (below_size (by repeat (first | (with_reducible first | exact HB.out | apply below_alloc | apply pw_below_drewN | apply below_drew1 | refine below_set ?_ GE131.out | refine below_set ?_ GE132.out | refine below_set ?_ GE133.out) | exact HB.out))) : w.heap.size ≤ gb149))
           have n9_ := ak ((by rw [hg]; exact Nat.ne_of_lt (blk_lt (g := gb131) (o := .cells #[.slice A0_0 l0_0.length c0_0, .slice A0_1 l0_1.length c0_1] 26 (0, 0)) (bTo BK131.out)) : gb131 ≠ gb149))
           have n10_ := ak ((by rw [hg]; exact Nat.ne_of_gt (blk_lt (g := gb131) (o := .cells #[.slice A0_0 l0_0.length c0_0, .slice A0_1 l0_1.length c0_1] 26 (0, 0)) (bTo BK131.out)) : gb149 ≠ gb131))
           have n11_ := ak ((by rw [hg]; exact Nat.ne_of_lt (blk_lt (g := gb132) (o := .cells #[.slice A1_0 l1_0.length c1_0, .slice A1_1 l1_1.length c1_1] 26 (0, 0)) (bTo BK132.out)) : gb132 ≠ gb149))
           have n12_ := ak ((by rw [hg]; exact Nat.ne_of_gt (blk_lt (g := gb132) (o := .cells #[.slice A1_0 l1_0.length c1_0, .slice A1_1 l1_1.length c1_1] 26 (0, 0)) (bTo BK132.out)) : gb149 ≠ gb132))
           have n13_ := ak ((by rw [hg]; exact Nat.ne_of_lt (blk_lt (g := gb133) (o := .cells #[.slice none 0 0, .slice none 0 0] 26 (0, 0)) (bTo BK133.out)) : gb133 ≠ gb149))
           have n14_ := ak ((by rw [hg]; exact Nat.ne_of_gt (blk_lt (g := gb133) (o := .cells #[.slice none 0 0, .slice none 0 0] 26 (0, 0)) (bTo BK133.out)) : gb149 ≠ gb133))
           clear HO139
           clear HO142
           clear BK131
           clear BK132
           clear BK133
           clear HB
           have HO139 := n0_
           have HO142 := n1_
           have BK131 := n2_
           have BK132 := n3_
           have BK133 := n4_
           have HB := n5_
           have BK149 := n6_
           have GW149 := n7_
           have GE149 := n8_
           have NB131_149 := n9_
           have NB149_131 := n10_
           have NB132_149 := n11_
           have NB149_132 := n12_
           have NB133_149 := n13_
           have NB149_133 := n14_
           clear n0_ n1_ n2_ n3_ n4_ n5_ n6_ n7_ n8_ n9_ n10_ n11_ n12_ n13_ n14_
           clear hb hbox hg
           refine hK.out _ _ ⟨(blk_cell BK131.out 0).trans rfl, (blk_cell BK131.out 1).trans rfl, (blk_cell BK132.out 0).trans rfl, (blk_cell BK132.out 1).trans rfl⟩ (fun hHeld => ?_)
           clear hK K
           refine norm_ (a' := ?_) ?_ ?_
           rotate_left
           ·show Act.put _ (some 5) _ = _
            simp only [Act.put, List.setIfInBounds_toArray, List.set_cons_zero, List.set_cons_succ, i64_w, i32_w]
            rfl
           exact norm_ (by first | (simp only [putAll, Act.put, List.setIfInBounds_toArray, List.set_cons_zero, List.set_cons_succ]; done) | (simp only [putAll, Act.put, List.setIfInBounds_toArray, List.set_cons_zero, List.set_cons_succ]; rfl)) (hJ0_3_4_12 (v135, v138, v141, gb149) _ ⟨hHeld, (rTo HO139.out), (rTo HO142.out), (bTo BK131.out), (bTo BK132.out), (bTo BK133.out), (bTo BK149.out), GW149.out, GE149.out, NB131_149.out, NB149_131.out, NB132_149.out, NB149_132.out, NB133_149.out, NB149_133.out, (by repeat (first | (with_reducible first | exact HB.out | apply below_alloc | apply pw_below_drewN | apply below_drew1 | refine below_set ?_ GE131.out | refine below_set ?_ GE132.out | refine below_set ?_ GE133.out | refine below_set ?_ GE149.out) | exact HB.out))⟩)
        ·skip
         rintro ⟨v135, v138, v141, gb149⟩ w16 ⟨hS_, h0_, h1_, h2_, h3_, h4_, h5_, h6_, h7_, h8_, h9_, h10_, h11_, h12_, h13_, h14_⟩
         have n0_ : Aside0 (Kd.R k37 37 w16 w.heap.size (fun _ => True) v138 y137) := ⟨h0_⟩
         have n1_ : Aside0 (Kd.R Kd.string 9 w16 w.heap.size (fun _ => True) v141 y140) := ⟨h1_⟩
         have n2_ : Aside0 (w16.heap[gb131]? = some (.cells #[.slice A0_0 l0_0.length c0_0, .slice A0_1 l0_1.length c0_1] 26 (0, 0))) := ⟨h2_⟩
         have n3_ : Aside0 (w16.heap[gb132]? = some (.cells #[.slice A1_0 l1_0.length c1_0, .slice A1_1 l1_1.length c1_1] 26 (0, 0))) := ⟨h3_⟩
         have n4_ : Aside0 (w16.heap[gb133]? = some (.cells #[.slice none 0 0, .slice none 0 0] 26 (0, 0))) := ⟨h4_⟩
         have n5_ : Aside0 (w16.heap[gb149]? = some (.cells #[.slice none 0 0, .slice none 0 0] 26 (0, 0))) := ⟨h5_⟩
         have n6_ : Aside0 (w.heap.size ≤ gb149) := ⟨h6_⟩
         have n7_ : Aside0 (w.heap.size ≤ gb149) := ⟨h7_⟩
         have n8_ : Aside0 (gb131 ≠ gb149) := ⟨h8_⟩
         have n9_ : Aside0 (gb149 ≠ gb131) := ⟨h9_⟩
         have n10_ : Aside0 (gb132 ≠ gb149) := ⟨h10_⟩
         have n11_ : Aside0 (gb149 ≠ gb132) := ⟨h11_⟩
         have n12_ : Aside0 (gb133 ≠ gb149) := ⟨h12_⟩
         have n13_ : Aside0 (gb149 ≠ gb133) := ⟨h13_⟩
         have n14_ : Aside0 (Below w.heap.size w w16) := ⟨h14_⟩
         clear BK131
         clear BK132
         clear BK133
         clear HB
         clear h0_ h1_ h2_ h3_ h4_ h5_ h6_ h7_ h8_ h9_ h10_ h11_ h12_ h13_ h14_
         have HO139 := n0_
         have HO142 := n1_
         have BK131 := n2_
         have BK132 := n3_
         have BK133 := n4_
         have BK149 := n5_
         have GW149 := n6_
         have GE149 := n7_
         have NB131_149 := n8_
         have NB149_131 := n9_
         have NB132_149 := n10_
         have NB149_132 := n11_
         have NB133_149 := n12_
         have NB149_133 := n13_
         have HB := n14_
         clear n0_ n1_ n2_ n3_ n4_ n5_ n6_ n7_ n8_ n9_ n10_ n11_ n12_ n13_ n14_
         have hHeld : w16.cell? ⟨gb131, 0, none⟩ = some (.slice A0_0 l0_0.length c0_0) ∧ w16.cell? ⟨gb131, 1, none⟩ = some (.slice A0_1 l0_1.length c0_1) ∧ w16.cell? ⟨gb132, 0, none⟩ = some (.slice A1_0 l1_0.length c1_0) ∧ w16.cell? ⟨gb132, 1, none⟩ = some (.slice A1_1 l1_1.length c1_1) := hS_
         refine norm_ (a' := ?_) ?_ ?_
         rotate_left
         ·simp only [putAll, Act.put, List.setIfInBounds_toArray, List.set_cons_zero, List.set_cons_succ]
          rfl
         refine one_ (i := 7) (N := some 16) #[true, true, true, true, true, true, true, true, true, true, false, false, true, false] rfl rfl (one_of HT_.out (by kernel_rfl)) (by decide) (fun K hK => ?_)
         refine Kd.R_append_rows_step Kd.string (w0 := w) w.heap.size (by rfl) (.tmp 13) (.tmp 15) 24 9 (.string ⟨#[]⟩) 16 rfl Try.underlying24 info9 rfl (by decide) (by omega) v141 y140 l0_1 _ _ _ (fun _ => True) (fun _ => False) rfl rfl ?aO ?aR (fun _ _ h => h) (fun _ h => h.elim) ?aF ?aB ?aS ?aL ?_
         (case aR => repeat (first | exact (Kd.C_below HR0_1.out HB.out) | (with_reducible refine Kd.C_alloc ?_ _) | (with_reducible refine Kd.C_drewN ?_ _) | (with_reducible refine Kd.C_drew ?_)))
         (case aB => exact (by repeat (first | (with_reducible first | exact HB.out | apply below_alloc | apply pw_below_drewN | apply below_drew1 | refine below_set ?_ GE131.out | refine below_set ?_ GE132.out | refine below_set ?_ GE133.out | refine below_set ?_ GE149.out) | exact HB.out)))
         (case aF => exact (fun _ _ => trivial))
         (case aO => exact (rTo HO142.out))
         (case aS => exact (below_size (by repeat (first | (with_reducible first | exact HB.out | apply below_alloc | apply pw_below_drewN | apply below_drew1 | refine below_set ?_ GE131.out | refine below_set ?_ GE132.out | refine below_set ?_ GE133.out | refine below_set ?_ GE149.out) | exact HB.out))))
         (case aL => have := LMc4.out; omega)
         intro v144 w17 ho hb hg hat
         rw [← Ny143.out] at ho
         have n0_ := ak (blk_grown (g := gb131) (o := .cells #[.slice A0_0 l0_0.length c0_0, .slice A0_1 l0_1.length c0_1] 26 (0, 0)) (bTo BK131.out) hg (Kd.R_ne HO142.out BK131.out (by decide)))
         have n1_ := ak (blk_grown (g := gb132) (o := .cells #[.slice A1_0 l1_0.length c1_0, .slice A1_1 l1_1.length c1_1] 26 (0, 0)) (bTo BK132.out) hg (Kd.R_ne HO142.out BK132.out (by decide)))
         have n2_ := ak (blk_grown (g := gb133) (o := .cells #[.slice none 0 0, .slice none 0 0] 26 (0, 0)) (bTo BK133.out) hg (Kd.R_ne HO142.out BK133.out (by decide)))
         have n3_ := ak (Kd.R_over' (rTo HO139.out) (Kd.R_typed (rTo HO142.out)) (by decide) hg)
         have n4_ := ak (blk_grown (g := gb149) (o := .cells #[.slice none 0 0, .slice none 0 0] 26 (0, 0)) (bTo BK149.out) hg (Kd.R_ne HO142.out BK149.out (by decide)))
         have n5_ := ak (hb)
         have n6_ := ak (ho)
         clear BK131
         clear BK132
         clear BK133
         clear HO139
         clear BK149
         clear HB
         clear HO142
         have BK131 := n0_
         have BK132 := n1_
         have BK133 := n2_
         have HO139 := n3_
         have BK149 := n4_
         have HB := n5_
         have HO145 := n6_
         clear n0_ n1_ n2_ n3_ n4_ n5_ n6_
         clear ho hb hg hat
         refine hK.out _ _ ⟨(blk_cell BK131.out 0).trans rfl, (blk_cell BK131.out 1).trans rfl, (blk_cell BK132.out 0).trans rfl, (blk_cell BK132.out 1).trans rfl⟩ (fun hHeld => ?_)
         clear hK K
         refine norm_ (a' := ?_) ?_ ?_
         rotate_left
         ·show Act.put _ (some 16) _ = _
          simp only [Act.put, List.setIfInBounds_toArray, List.set_cons_zero, List.set_cons_succ, i64_w, i32_w]
          rfl
         exact norm_ (by first | (simp only [putAll, Act.put, List.setIfInBounds_toArray, List.set_cons_zero, List.set_cons_succ]; done) | (simp only [putAll, Act.put, List.setIfInBounds_toArray, List.set_cons_zero, List.set_cons_succ]; rfl)) (hJ0_3_4_7_12 (v135, v138, v141, v144, gb149) _ ⟨hHeld, (rTo HO139.out), (rTo HO145.out), (bTo BK131.out), (bTo BK132.out), (bTo BK133.out), (bTo BK149.out), GW149.out, GE149.out, NB131_149.out, NB149_131.out, NB132_149.out, NB149_132.out, NB133_149.out, NB149_133.out, (by repeat (first | (with_reducible first | exact HB.out | apply below_alloc | apply pw_below_drewN | apply below_drew1 | refine below_set ?_ GE131.out | refine below_set ?_ GE132.out | refine below_set ?_ GE133.out | refine below_set ?_ GE149.out) | exact HB.out))⟩)
       ·skip
        rintro ⟨v135, v138, v141, v144⟩ w16 ⟨hS_, h0_, h1_, h2_, h3_, h4_, h5_⟩
        have n0_ : Aside0 (Kd.R k37 37 w16 w.heap.size (fun _ => True) v138 y137) := ⟨h0_⟩
        have n1_ : Aside0 (Kd.R Kd.string 9 w16 w.heap.size (fun _ => True) v144 y143) := ⟨h1_⟩
        have n2_ : Aside0 (w16.heap[gb131]? = some (.cells #[.slice A0_0 l0_0.length c0_0, .slice A0_1 l0_1.length c0_1] 26 (0, 0))) := ⟨h2_⟩
        have n3_ : Aside0 (w16.heap[gb132]? = some (.cells #[.slice A1_0 l1_0.length c1_0, .slice A1_1 l1_1.length c1_1] 26 (0, 0))) := ⟨h3_⟩
        have n4_ : Aside0 (w16.heap[gb133]? = some (.cells #[.slice none 0 0, .slice none 0 0] 26 (0, 0))) := ⟨h4_⟩
        have n5_ : Aside0 (Below w.heap.size w w16) := ⟨h5_⟩
        clear BK131
        clear BK132
        clear BK133
        clear HB
        clear h0_ h1_ h2_ h3_ h4_ h5_
        have HO139 := n0_
        have HO145 := n1_
        have BK131 := n2_
        have BK132 := n3_
        have BK133 := n4_
        have HB := n5_
        clear n0_ n1_ n2_ n3_ n4_ n5_
        have hHeld : w16.cell? ⟨gb131, 0, none⟩ = some (.slice A0_0 l0_0.length c0_0) ∧ w16.cell? ⟨gb131, 1, none⟩ = some (.slice A0_1 l0_1.length c0_1) ∧ w16.cell? ⟨gb132, 0, none⟩ = some (.slice A1_0 l1_0.length c1_0) ∧ w16.cell? ⟨gb132, 1, none⟩ = some (.slice A1_1 l1_1.length c1_1) := hS_
        refine norm_ (a' := ?_) ?_ ?_
        rotate_left
        ·simp only [putAll, Act.put, List.setIfInBounds_toArray, List.set_cons_zero, List.set_cons_succ]
         rfl
        refine two_ (i := 10) (j := 12) (Ni := some 19) (Nj := some 5) #[true, true, true, true, true, true, true, true, true, true, true, false, false, false] #[true, true, true, true, true, true, true, true, true, true, false, false, true, false] rfl rfl rfl rfl (two_of HT_.out (by kernel_rfl)) (by decide) (by decide) (fun K hK => ?_) (fun K hK => ?_)
        ·skip
         refine Kd.R_append_rows_step Kd.string (w0 := w) w.heap.size (by rfl) (.tmp 16) (.tmp 18) 24 9 (.string ⟨#[]⟩) 16 rfl Try.underlying24 info9 rfl (by decide) (by omega) v144 y143 l1_1 _ _ _ (fun _ => True) (fun _ => False) rfl rfl ?aO ?aR (fun _ _ h => h) (fun _ h => h.elim) ?aF ?aB ?aS ?aL ?_
         (case aR => repeat (first | exact (Kd.C_below HR1_1.out HB.out) | (with_reducible refine Kd.C_alloc ?_ _) | (with_reducible refine Kd.C_drewN ?_ _) | (with_reducible refine Kd.C_drew ?_)))
         (case aB => exact (by repeat (first | (with_reducible first | exact HB.out | apply below_alloc | apply pw_below_drewN | apply below_drew1 | refine below_set ?_ GE131.out | refine below_set ?_ GE132.out | refine below_set ?_ GE133.out) | exact HB.out)))
         (case aF => exact (fun _ _ => trivial))
         (case aO => exact (rTo HO145.out))
         (case aS => exact (below_size (by repeat (first | (with_reducible first | exact HB.out | apply below_alloc | apply pw_below_drewN | apply below_drew1 | refine below_set ?_ GE131.out | refine below_set ?_ GE132.out | refine below_set ?_ GE133.out) | exact HB.out))))
         (case aL => have := LMc5.out; omega)
         intro v147 w17 ho hb hg hat
         rw [← Ny146.out] at ho
         have n0_ := ak (blk_grown (g := gb131) (o := .cells #[.slice A0_0 l0_0.length c0_0, .slice A0_1 l0_1.length c0_1] 26 (0, 0)) (bTo BK131.out) hg (Kd.R_ne HO145.out BK131.out (by decide)))
         have n1_ := ak (blk_grown (g := gb132) (o := .cells #[.slice A1_0 l1_0.length c1_0, .slice A1_1 l1_1.length c1_1] 26 (0, 0)) (bTo BK132.out) hg (Kd.R_ne HO145.out BK132.out (by decide)))
         have n2_ := ak (blk_grown (g := gb133) (o := .cells #[.slice none 0 0, .slice none 0 0] 26 (0, 0)) (bTo BK133.out) hg (Kd.R_ne HO145.out BK133.out (by decide)))
         have n3_ := ak (Kd.R_over' (rTo HO139.out) (Kd.R_typed (rTo HO145.out)) (by decide) hg)
         have n4_ := ak (hb)
         have n5_ := ak (ho)
         clear BK131
         clear BK132
         clear BK133
         clear HO139
         clear HB
         clear HO145
         have BK131 := n0_
         have BK132 := n1_
         have BK133 := n2_
         have HO139 := n3_
         have HB := n4_
         have HO148 := n5_
         clear n0_ n1_ n2_ n3_ n4_ n5_
         clear ho hb hg hat
         obtain ⟨Ao18, co18, eo18⟩ := Kd.R_slice HO148.out
         (first | subst eo18 | (injection eo18 with f1_ f2_ f3_; have f4_ := f1_.symm; have f5_ := f3_.symm; clear f1_ f2_ f3_; subst f4_; subst f5_))
         obtain ⟨Ao19, co19, eo19⟩ := Kd.R_slice HO139.out
         (first | subst eo19 | (injection eo19 with f1_ f2_ f3_; have f4_ := f1_.symm; have f5_ := f3_.symm; clear f1_ f2_ f3_; subst f4_; subst f5_))
         refine hK.out _ _ ⟨(blk_cell BK131.out 0).trans rfl, (blk_cell BK131.out 1).trans rfl, (blk_cell BK132.out 0).trans rfl, (blk_cell BK132.out 1).trans rfl⟩ (fun hHeld => ?_)
         clear hK K
         refine norm_ (a' := ?_) ?_ ?_
         rotate_left
         ·show Act.put _ (some 19) _ = _
          simp only [Act.put, List.setIfInBounds_toArray, List.set_cons_zero, List.set_cons_succ, i64_w, i32_w]
          rfl
         refine pure_ (i := 11) (N := some 20) (v := ?_) (a' := ?_) #[true, true, true, true, true, true, true, true, true, true, true, true, false, false] rfl rfl (any_of HT_.out (by kernel_rfl)) (fun _ _ _ h => h) (Or.inl ⟨by rfl, ?_⟩) ?_ ?_
         rotate_left
         ·intro w'
          go_simp
          with_reducible rfl
         rotate_left
         ·simp only [Act.put, List.setIfInBounds_toArray, List.set_cons_zero, List.set_cons_succ, i64_w, i32_w]
          rfl
         exact norm_ (by first | (simp only [putAll, Act.put, List.setIfInBounds_toArray, List.set_cons_zero, List.set_cons_succ]; done) | (simp only [putAll, Act.put, List.setIfInBounds_toArray, List.set_cons_zero, List.set_cons_succ]; rfl)) (hJ0_3_4_7_10 (v135, .slice Ao19 y137.length co19, v141, v144, .slice Ao18 y146.length co18) _ ⟨hHeld, (rTo HO139.out), (rTo HO148.out), (bTo BK131.out), (bTo BK132.out), (bTo BK133.out), (by repeat (first | (with_reducible first | exact HB.out | apply below_alloc | apply pw_below_drewN | apply below_drew1 | refine below_set ?_ GE131.out | refine below_set ?_ GE132.out | refine below_set ?_ GE133.out) | exact HB.out))⟩)
        ·skip
         refine box_step ?hg (N := 5) ?hd (cs := #[.slice none 0 0, .slice none 0 0]) (t := 26) ?hr ?_; (case hd => rfl); (case hg => rfl); (case hr => first | (go_simp; done) | (go_simp; rfl))
         intro gb149 hg w17 hbox hb
         have n0_ := ak (Kd.R_below (rTo HO139.out) hb)
         have n1_ := ak (Kd.R_below (rTo HO145.out) hb)
         have n2_ := ak (blk_below (g := gb131) (o := .cells #[.slice A0_0 l0_0.length c0_0, .slice A0_1 l0_1.length c0_1] 26 (0, 0)) (bTo BK131.out) hb)
         have n3_ := ak (blk_below (g := gb132) (o := .cells #[.slice A1_0 l1_0.length c1_0, .slice A1_1 l1_1.length c1_1] 26 (0, 0)) (bTo BK132.out) hb)
         have n4_ := ak (blk_below (g := gb133) (o := .cells #[.slice none 0 0, .slice none 0 0] 26 (0, 0)) (bTo BK133.out) hb)
         have n5_ := ak (below_step (by repeat (first | (with_reducible first | exact HB.out | apply below_alloc | apply pw_below_drewN | apply below_drew1 | refine below_set ?_ GE131.out | refine below_set ?_ GE132.out | refine below_set ?_ GE133.out) | exact HB.out)) hb)
         have n6_ := ak (hbox)
         have n7_ := ak ((by rw [hg]; exact (below_size (by repeat (first | (with_reducible first | exact HB.out | apply below_alloc | apply pw_below_drewN | apply below_drew1 | refine below_set ?_ GE131.out | refine below_set ?_ GE132.out | refine below_set ?_ GE133.out) | exact HB.out))) : w.heap.size ≤ gb149))
         have n8_ := ak ((by rw [hg]; exact (below_size (by repeat (first | (with_reducible first | exact HB.out | apply below_alloc | apply pw_below_drewN | apply below_drew1 | refine below_set ?_ GE131.out | refine below_set ?_ GE132.out | refine below_set ?_ GE133.out) | exact HB.out))) : w.heap.size ≤ gb149))
         have n9_ := ak ((by rw [hg]; exact Nat.ne_of_lt (blk_lt (g := gb131) (o := .cells #[.slice A0_0 l0_0.length c0_0, .slice A0_1 l0_1.length c0_1] 26 (0, 0)) (bTo BK131.out)) : gb131 ≠ gb149))
         have n10_ := ak ((by rw [hg]; exact Nat.ne_of_gt (blk_lt (g := gb131) (o := .cells #[.slice A0_0 l0_0.length c0_0, .slice A0_1 l0_1.length c0_1] 26 (0, 0)) (bTo BK131.out)) : gb149 ≠ gb131))
         have n11_ := ak ((by rw [hg]; exact Nat.ne_of_lt (blk_lt (g := gb132) (o := .cells #[.slice A1_0 l1_0.length c1_0, .slice A1_1 l1_1.length c1_1] 26 (0, 0)) (bTo BK132.out)) : gb132 ≠ gb149))
         have n12_ := ak ((by rw [hg]; exact Nat.ne_of_gt (blk_lt (g := gb132) (o := .cells #[.slice A1_0 l1_0.length c1_0, .slice A1_1 l1_1.length c1_1] 26 (0, 0)) (bTo BK132.out)) : gb149 ≠ gb132))
         have n13_ := ak ((by rw [hg]; exact Nat.ne_of_lt (blk_lt (g := gb133) (o := .cells #[.slice none 0 0, .slice none 0 0] 26 (0, 0)) (bTo BK133.out)) : gb133 ≠ gb149))
         have n14_ := ak ((by rw [hg]; exact Nat.ne_of_gt (blk_lt (g := gb133) (o := .cells #[.slice none 0 0, .slice none 0 0] 26 (0, 0)) (bTo BK133.out)) : gb149 ≠ gb133))
         clear HO139
         clear HO145
         clear BK131
         clear BK132
         clear BK133
         clear HB
         have HO139 := n0_
         have HO145 := n1_
         have BK131 := n2_
         have BK132 := n3_
         have BK133 := n4_
         have HB := n5_
         have BK149 := n6_
         have GW149 := n7_
         have GE149 := n8_
         have NB131_149 := n9_
         have NB149_131 := n10_
         have NB132_149 := n11_
         have NB149_132 := n12_
         have NB133_149 := n13_
         have NB149_133 := n14_
         clear n0_ n1_ n2_ n3_ n4_ n5_ n6_ n7_ n8_ n9_ n10_ n11_ n12_ n13_ n14_
         clear hb hbox hg
         refine hK.out _ _ ⟨(blk_cell BK131.out 0).trans rfl, (blk_cell BK131.out 1).trans rfl, (blk_cell BK132.out 0).trans rfl, (blk_cell BK132.out 1).trans rfl⟩ (fun hHeld => ?_)
         clear hK K
         refine norm_ (a' := ?_) ?_ ?_
         rotate_left
         ·show Act.put _ (some 5) _ = _
          simp only [Act.put, List.setIfInBounds_toArray, List.set_cons_zero, List.set_cons_succ, i64_w, i32_w]
          rfl
         exact norm_ (by first | (simp only [putAll, Act.put, List.setIfInBounds_toArray, List.set_cons_zero, List.set_cons_succ]; done) | (simp only [putAll, Act.put, List.setIfInBounds_toArray, List.set_cons_zero, List.set_cons_succ]; rfl)) (hJ0_3_4_7_12 (v135, v138, v141, v144, gb149) _ ⟨hHeld, (rTo HO139.out), (rTo HO145.out), (bTo BK131.out), (bTo BK132.out), (bTo BK133.out), (bTo BK149.out), GW149.out, GE149.out, NB131_149.out, NB149_131.out, NB132_149.out, NB149_132.out, NB133_149.out, NB149_133.out, (by repeat (first | (with_reducible first | exact HB.out | apply below_alloc | apply pw_below_drewN | apply below_drew1 | refine below_set ?_ GE131.out | refine below_set ?_ GE132.out | refine below_set ?_ GE133.out | refine below_set ?_ GE149.out) | exact HB.out))⟩)
      ·skip
       rintro ⟨v135, v138, v141, v144, gb149⟩ w17 ⟨hS_, h0_, h1_, h2_, h3_, h4_, h5_, h6_, h7_, h8_, h9_, h10_, h11_, h12_, h13_, h14_⟩
       have n0_ : Aside0 (Kd.R k37 37 w17 w.heap.size (fun _ => True) v138 y137) := ⟨h0_⟩
       have n1_ : Aside0 (Kd.R Kd.string 9 w17 w.heap.size (fun _ => True) v144 y143) := ⟨h1_⟩
       have n2_ : Aside0 (w17.heap[gb131]? = some (.cells #[.slice A0_0 l0_0.length c0_0, .slice A0_1 l0_1.length c0_1] 26 (0, 0))) := ⟨h2_⟩
       have n3_ : Aside0 (w17.heap[gb132]? = some (.cells #[.slice A1_0 l1_0.length c1_0, .slice A1_1 l1_1.length c1_1] 26 (0, 0))) := ⟨h3_⟩
       have n4_ : Aside0 (w17.heap[gb133]? = some (.cells #[.slice none 0 0, .slice none 0 0] 26 (0, 0))) := ⟨h4_⟩
       have n5_ : Aside0 (w17.heap[gb149]? = some (.cells #[.slice none 0 0, .slice none 0 0] 26 (0, 0))) := ⟨h5_⟩
       have n6_ : Aside0 (w.heap.size ≤ gb149) := ⟨h6_⟩
       have n7_ : Aside0 (w.heap.size ≤ gb149) := ⟨h7_⟩
       have n8_ : Aside0 (gb131 ≠ gb149) := ⟨h8_⟩
       have n9_ : Aside0 (gb149 ≠ gb131) := ⟨h9_⟩
       have n10_ : Aside0 (gb132 ≠ gb149) := ⟨h10_⟩
       have n11_ : Aside0 (gb149 ≠ gb132) := ⟨h11_⟩
       have n12_ : Aside0 (gb133 ≠ gb149) := ⟨h12_⟩
       have n13_ : Aside0 (gb149 ≠ gb133) := ⟨h13_⟩
       have n14_ : Aside0 (Below w.heap.size w w17) := ⟨h14_⟩
       clear BK131
       clear BK132
       clear BK133
       clear HB
       clear h0_ h1_ h2_ h3_ h4_ h5_ h6_ h7_ h8_ h9_ h10_ h11_ h12_ h13_ h14_
       have HO139 := n0_
       have HO145 := n1_
       have BK131 := n2_
       have BK132 := n3_
       have BK133 := n4_
       have BK149 := n5_
       have GW149 := n6_
       have GE149 := n7_
       have NB131_149 := n8_
       have NB149_131 := n9_
       have NB132_149 := n10_
       have NB149_132 := n11_
       have NB133_149 := n12_
       have NB149_133 := n13_
       have HB := n14_
       clear n0_ n1_ n2_ n3_ n4_ n5_ n6_ n7_ n8_ n9_ n10_ n11_ n12_ n13_ n14_
       have hHeld : w17.cell? ⟨gb131, 0, none⟩ = some (.slice A0_0 l0_0.length c0_0) ∧ w17.cell? ⟨gb131, 1, none⟩ = some (.slice A0_1 l0_1.length c0_1) ∧ w17.cell? ⟨gb132, 0, none⟩ = some (.slice A1_0 l1_0.length c1_0) ∧ w17.cell? ⟨gb132, 1, none⟩ = some (.slice A1_1 l1_1.length c1_1) := hS_
       refine norm_ (a' := ?_) ?_ ?_
       rotate_left
       ·simp only [putAll, Act.put, List.setIfInBounds_toArray, List.set_cons_zero, List.set_cons_succ]
        rfl
       refine one_ (i := 10) (N := some 19) #[true, true, true, true, true, true, true, true, true, true, true, false, true, false] rfl rfl (one_of HT_.out (by kernel_rfl)) (by decide) (fun K hK => ?_)
       refine Kd.R_append_rows_step Kd.string (w0 := w) w.heap.size (by rfl) (.tmp 16) (.tmp 18) 24 9 (.string ⟨#[]⟩) 16 rfl Try.underlying24 info9 rfl (by decide) (by omega) v144 y143 l1_1 _ _ _ (fun _ => True) (fun _ => False) rfl rfl ?aO ?aR (fun _ _ h => h) (fun _ h => h.elim) ?aF ?aB ?aS ?aL ?_
       (case aR => repeat (first | exact (Kd.C_below HR1_1.out HB.out) | (with_reducible refine Kd.C_alloc ?_ _) | (with_reducible refine Kd.C_drewN ?_ _) | (with_reducible refine Kd.C_drew ?_)))
       (case aB => exact (by repeat (first | (with_reducible first | exact HB.out | apply below_alloc | apply pw_below_drewN | apply below_drew1 | refine below_set ?_ GE131.out | refine below_set ?_ GE132.out | refine below_set ?_ GE133.out | refine below_set ?_ GE149.out) | exact HB.out)))
       (case aF => exact (fun _ _ => trivial))
       (case aO => exact (rTo HO145.out))
       (case aS => exact (below_size (by repeat (first | (with_reducible first | exact HB.out | apply below_alloc | apply pw_below_drewN | apply below_drew1 | refine below_set ?_ GE131.out | refine below_set ?_ GE132.out | refine below_set ?_ GE133.out | refine below_set ?_ GE149.out) | exact HB.out))))
       (case aL => have := LMc5.out; omega)
       intro v147 w18 ho hb hg hat
       rw [← Ny146.out] at ho
       have n0_ := ak (blk_grown (g := gb131) (o := .cells #[.slice A0_0 l0_0.length c0_0, .slice A0_1 l0_1.length c0_1] 26 (0, 0)) (bTo BK131.out) hg (Kd.R_ne HO145.out BK131.out (by decide)))
       have n1_ := ak (blk_grown (g := gb132) (o := .cells #[.slice A1_0 l1_0.length c1_0, .slice A1_1 l1_1.length c1_1] 26 (0, 0)) (bTo BK132.out) hg (Kd.R_ne HO145.out BK132.out (by decide)))
       have n2_ := ak (blk_grown (g := gb133) (o := .cells #[.slice none 0 0, .slice none 0 0] 26 (0, 0)) (bTo BK133.out) hg (Kd.R_ne HO145.out BK133.out (by decide)))
       have n3_ := ak (Kd.R_over' (rTo HO139.out) (Kd.R_typed (rTo HO145.out)) (by decide) hg)
       have n4_ := ak (blk_grown (g := gb149) (o := .cells #[.slice none 0 0, .slice none 0 0] 26 (0, 0)) (bTo BK149.out) hg (Kd.R_ne HO145.out BK149.out (by decide)))
       have n5_ := ak (hb)
       have n6_ := ak (ho)
       clear BK131
       clear BK132
       clear BK133
       clear HO139
       clear BK149
       clear HB
       clear HO145
       have BK131 := n0_
       have BK132 := n1_
       have BK133 := n2_
       have HO139 := n3_
       have BK149 := n4_
       have HB := n5_
       have HO148 := n6_
       clear n0_ n1_ n2_ n3_ n4_ n5_ n6_
       clear ho hb hg hat
       obtain ⟨Ao19, co19, eo19⟩ := Kd.R_slice HO148.out
       (first | subst eo19 | (injection eo19 with f1_ f2_ f3_; have f4_ := f1_.symm; have f5_ := f3_.symm; clear f1_ f2_ f3_; subst f4_; subst f5_))
       obtain ⟨Ao20, co20, eo20⟩ := Kd.R_slice HO139.out
       (first | subst eo20 | (injection eo20 with f1_ f2_ f3_; have f4_ := f1_.symm; have f5_ := f3_.symm; clear f1_ f2_ f3_; subst f4_; subst f5_))
       refine hK.out _ _ ⟨(blk_cell BK131.out 0).trans rfl, (blk_cell BK131.out 1).trans rfl, (blk_cell BK132.out 0).trans rfl, (blk_cell BK132.out 1).trans rfl⟩ (fun hHeld => ?_)
       clear hK K
       refine norm_ (a' := ?_) ?_ ?_
       rotate_left
       ·show Act.put _ (some 19) _ = _
        simp only [Act.put, List.setIfInBounds_toArray, List.set_cons_zero, List.set_cons_succ, i64_w, i32_w]
        rfl
       refine pure_ (i := 11) (N := some 20) (v := ?_) (a' := ?_) #[true, true, true, true, true, true, true, true, true, true, true, true, true, false] rfl rfl (any_of HT_.out (by kernel_rfl)) (fun _ _ _ h => h) (Or.inl ⟨by rfl, ?_⟩) ?_ ?_
       rotate_left
       ·intro w'
        go_simp
        with_reducible rfl
       rotate_left
       ·simp only [Act.put, List.setIfInBounds_toArray, List.set_cons_zero, List.set_cons_succ, i64_w, i32_w]
        rfl
       exact norm_ (by first | (simp only [putAll, Act.put, List.setIfInBounds_toArray, List.set_cons_zero, List.set_cons_succ]; done) | (simp only [putAll, Act.put, List.setIfInBounds_toArray, List.set_cons_zero, List.set_cons_succ]; rfl)) (hJ0_3_4_7_10_12 (v135, .slice Ao20 y137.length co20, v141, v144, .slice Ao19 y146.length co19, gb149) _ ⟨hHeld, (rTo HO139.out), (rTo HO148.out), (bTo BK131.out), (bTo BK132.out), (bTo BK133.out), (bTo BK149.out), GW149.out, GE149.out, NB131_149.out, NB149_131.out, NB132_149.out, NB149_132.out, NB133_149.out, NB149_133.out, (by repeat (first | (with_reducible first | exact HB.out | apply below_alloc | apply pw_below_drewN | apply below_drew1 | refine below_set ?_ GE131.out | refine below_set ?_ GE132.out | refine below_set ?_ GE133.out | refine below_set ?_ GE149.out) | exact HB.out))⟩)
     ·skip
      rintro ⟨v135, v138, v141, v144, v147⟩ w19 ⟨hS_, h0_, h1_, h2_, h3_, h4_, h5_⟩
      have n0_ : Aside0 (Kd.R k37 37 w19 w.heap.size (fun _ => True) v138 y137) := ⟨h0_⟩
      have n1_ : Aside0 (Kd.R Kd.string 9 w19 w.heap.size (fun _ => True) v147 y146) := ⟨h1_⟩
      have n2_ : Aside0 (w19.heap[gb131]? = some (.cells #[.slice A0_0 l0_0.length c0_0, .slice A0_1 l0_1.length c0_1] 26 (0, 0))) := ⟨h2_⟩
      have n3_ : Aside0 (w19.heap[gb132]? = some (.cells #[.slice A1_0 l1_0.length c1_0, .slice A1_1 l1_1.length c1_1] 26 (0, 0))) := ⟨h3_⟩
      have n4_ : Aside0 (w19.heap[gb133]? = some (.cells #[.slice none 0 0, .slice none 0 0] 26 (0, 0))) := ⟨h4_⟩
      have n5_ : Aside0 (Below w.heap.size w w19) := ⟨h5_⟩
      clear BK131
      clear BK132
      clear BK133
      clear HB
      clear h0_ h1_ h2_ h3_ h4_ h5_
      have HO139 := n0_
      have HO148 := n1_
      have BK131 := n2_
      have BK132 := n3_
      have BK133 := n4_
      have HB := n5_
      clear n0_ n1_ n2_ n3_ n4_ n5_
      have hHeld : w19.cell? ⟨gb131, 0, none⟩ = some (.slice A0_0 l0_0.length c0_0) ∧ w19.cell? ⟨gb131, 1, none⟩ = some (.slice A0_1 l0_1.length c0_1) ∧ w19.cell? ⟨gb132, 0, none⟩ = some (.slice A1_0 l1_0.length c1_0) ∧ w19.cell? ⟨gb132, 1, none⟩ = some (.slice A1_1 l1_1.length c1_1) := hS_
      obtain ⟨Ao20, co20, eo20⟩ := Kd.R_slice HO148.out
      (first | subst eo20 | (injection eo20 with f1_ f2_ f3_; have f4_ := f1_.symm; have f5_ := f3_.symm; clear f1_ f2_ f3_; subst f4_; subst f5_))
      obtain ⟨Ao21, co21, eo21⟩ := Kd.R_slice HO139.out
      (first | subst eo21 | (injection eo21 with f1_ f2_ f3_; have f4_ := f1_.symm; have f5_ := f3_.symm; clear f1_ f2_ f3_; subst f4_; subst f5_))
      refine norm_ (a' := ?_) ?_ ?_
      rotate_left
      ·simp only [putAll, Act.put, List.setIfInBounds_toArray, List.set_cons_zero, List.set_cons_succ]
       rfl
      refine one_ (i := 12) (N := some 5) #[true, true, true, true, true, true, true, true, true, true, true, true, true, false] rfl rfl (one_of HT_.out (by kernel_rfl)) (by decide) (fun K hK => ?_)
      refine box_step ?hg (N := 5) ?hd (cs := #[.slice none 0 0, .slice none 0 0]) (t := 26) ?hr ?_; (case hd => rfl); (case hg => rfl); (case hr => first | (go_simp; done) | (go_simp; rfl))
      intro gb149 hg w22 hbox hb
      have n0_ := ak (Kd.R_below (rTo HO139.out) hb)
      have n1_ := ak (Kd.R_below (rTo HO148.out) hb)
      have n2_ := ak (blk_below (g := gb131) (o := .cells #[.slice A0_0 l0_0.length c0_0, .slice A0_1 l0_1.length c0_1] 26 (0, 0)) (bTo BK131.out) hb)
      have n3_ := ak (blk_below (g := gb132) (o := .cells #[.slice A1_0 l1_0.length c1_0, .slice A1_1 l1_1.length c1_1] 26 (0, 0)) (bTo BK132.out) hb)
      have n4_ := ak (blk_below (g := gb133) (o := .cells #[.slice none 0 0, .slice none 0 0] 26 (0, 0)) (bTo BK133.out) hb)
      have n5_ := ak (below_step (by repeat (first | (with_reducible first | exact HB.out | apply below_alloc | apply pw_below_drewN | apply below_drew1 | refine below_set ?_ GE131.out | refine below_set ?_ GE132.out | refine below_set ?_ GE133.out) | exact HB.out)) hb)
      have n6_ := ak (hbox)
      have n7_ := ak ((by rw [hg]; exact (below_size (by repeat (first | (with_reducible first | exact HB.out | apply below_alloc | apply pw_below_drewN | apply below_drew1 | refine below_set ?_ GE131.out | refine below_set ?_ GE132.out | refine below_set ?_ GE133.out) | exact HB.out))) : w.heap.size ≤ gb149))
      have n8_ := ak ((by rw [hg]; exact (below_size (by repeat (first | (with_reducible first | exact HB.out | apply below_alloc | apply pw_below_drewN | apply below_drew1 | refine below_set ?_ GE131.out | refine below_set ?_ GE132.out | refine below_set ?_ GE133.out) | exact HB.out))) : w.heap.size ≤ gb149))
      have n9_ := ak ((by rw [hg]; exact Nat.ne_of_lt (blk_lt (g := gb131) (o := .cells #[.slice A0_0 l0_0.length c0_0, .slice A0_1 l0_1.length c0_1] 26 (0, 0)) (bTo BK131.out)) : gb131 ≠ gb149))
      have n10_ := ak ((by rw [hg]; exact Nat.ne_of_gt (blk_lt (g := gb131) (o := .cells #[.slice A0_0 l0_0.length c0_0, .slice A0_1 l0_1.length c0_1] 26 (0, 0)) (bTo BK131.out)) : gb149 ≠ gb131))
      have n11_ := ak ((by rw [hg]; exact Nat.ne_of_lt (blk_lt (g := gb132) (o := .cells #[.slice A1_0 l1_0.length c1_0, .slice A1_1 l1_1.length c1_1] 26 (0, 0)) (bTo BK132.out)) : gb132 ≠ gb149))
      have n12_ := ak ((by rw [hg]; exact Nat.ne_of_gt (blk_lt (g := gb132) (o := .cells #[.slice A1_0 l1_0.length c1_0, .slice A1_1 l1_1.length c1_1] 26 (0, 0)) (bTo BK132.out)) : gb149 ≠ gb132))
      have n13_ := ak ((by rw [hg]; exact Nat.ne_of_lt (blk_lt (g := gb133) (o := .cells #[.slice none 0 0, .slice none 0 0] 26 (0, 0)) (bTo BK133.out)) : gb133 ≠ gb149))
      have n14_ := ak ((by rw [hg]; exact Nat.ne_of_gt (blk_lt (g := gb133) (o := .cells #[.slice none 0 0, .slice none 0 0] 26 (0, 0)) (bTo BK133.out)) : gb149 ≠ gb133))
      clear HO139
      clear HO148
      clear BK131
      clear BK132
      clear BK133
      clear HB
      have HO139 := n0_
      have HO148 := n1_
      have BK131 := n2_
      have BK132 := n3_
      have BK133 := n4_
      have HB := n5_
      have BK149 := n6_
      have GW149 := n7_
      have GE149 := n8_
      have NB131_149 := n9_
      have NB149_131 := n10_
      have NB132_149 := n11_
      have NB149_132 := n12_
      have NB133_149 := n13_
      have NB149_133 := n14_
      clear n0_ n1_ n2_ n3_ n4_ n5_ n6_ n7_ n8_ n9_ n10_ n11_ n12_ n13_ n14_
      clear hb hbox hg
      refine hK.out _ _ ⟨(blk_cell BK131.out 0).trans rfl, (blk_cell BK131.out 1).trans rfl, (blk_cell BK132.out 0).trans rfl, (blk_cell BK132.out 1).trans rfl⟩ (fun hHeld => ?_)
      clear hK K
      refine norm_ (a' := ?_) ?_ ?_
      rotate_left
      ·show Act.put _ (some 5) _ = _
       simp only [Act.put, List.setIfInBounds_toArray, List.set_cons_zero, List.set_cons_succ, i64_w, i32_w]
       rfl
      exact norm_ (by first | (simp only [putAll, Act.put, List.setIfInBounds_toArray, List.set_cons_zero, List.set_cons_succ]; done) | (simp only [putAll, Act.put, List.setIfInBounds_toArray, List.set_cons_zero, List.set_cons_succ]; rfl)) (hJ0_3_4_7_10_12 (v135, .slice Ao21 y137.length co21, v141, v144, .slice Ao20 y146.length co20, gb149) _ ⟨hHeld, (rTo HO139.out), (rTo HO148.out), (bTo BK131.out), (bTo BK132.out), (bTo BK133.out), (bTo BK149.out), GW149.out, GE149.out, NB131_149.out, NB149_131.out, NB132_149.out, NB149_132.out, NB133_149.out, NB149_133.out, (by repeat (first | (with_reducible first | exact HB.out | apply below_alloc | apply pw_below_drewN | apply below_drew1 | refine below_set ?_ GE131.out | refine below_set ?_ GE132.out | refine below_set ?_ GE133.out | refine below_set ?_ GE149.out) | exact HB.out))⟩)
    rintro ⟨v135, v138, v141, v144, v147, gb149⟩ w20 ⟨hS_, h0_, h1_, h2_, h3_, h4_, h5_, h6_, h7_, h8_, h9_, h10_, h11_, h12_, h13_, h14_⟩
    have n0_ : Aside0 (Kd.R k37 37 w20 w.heap.size (fun _ => True) v138 y137) := ⟨h0_⟩
    have n1_ : Aside0 (Kd.R Kd.string 9 w20 w.heap.size (fun _ => True) v147 y146) := ⟨h1_⟩
    have n2_ : Aside0 (w20.heap[gb131]? = some (.cells #[.slice A0_0 l0_0.length c0_0, .slice A0_1 l0_1.length c0_1] 26 (0, 0))) := ⟨h2_⟩
    have n3_ : Aside0 (w20.heap[gb132]? = some (.cells #[.slice A1_0 l1_0.length c1_0, .slice A1_1 l1_1.length c1_1] 26 (0, 0))) := ⟨h3_⟩
    have n4_ : Aside0 (w20.heap[gb133]? = some (.cells #[.slice none 0 0, .slice none 0 0] 26 (0, 0))) := ⟨h4_⟩
    have n5_ : Aside0 (w20.heap[gb149]? = some (.cells #[.slice none 0 0, .slice none 0 0] 26 (0, 0))) := ⟨h5_⟩
    have n6_ : Aside0 (w.heap.size ≤ gb149) := ⟨h6_⟩
    have n7_ : Aside0 (w.heap.size ≤ gb149) := ⟨h7_⟩
    have n8_ : Aside0 (gb131 ≠ gb149) := ⟨h8_⟩
    have n9_ : Aside0 (gb149 ≠ gb131) := ⟨h9_⟩
    have n10_ : Aside0 (gb132 ≠ gb149) := ⟨h10_⟩
    have n11_ : Aside0 (gb149 ≠ gb132) := ⟨h11_⟩
    have n12_ : Aside0 (gb133 ≠ gb149) := ⟨h12_⟩
    have n13_ : Aside0 (gb149 ≠ gb133) := ⟨h13_⟩
    have n14_ : Aside0 (Below w.heap.size w w20) := ⟨h14_⟩
    clear BK131
    clear BK132
    clear BK133
    clear HB
    clear h0_ h1_ h2_ h3_ h4_ h5_ h6_ h7_ h8_ h9_ h10_ h11_ h12_ h13_ h14_
    have HO139 := n0_
    have HO148 := n1_
    have BK131 := n2_
    have BK132 := n3_
    have BK133 := n4_
    have BK149 := n5_
    have GW149 := n6_
    have GE149 := n7_
    have NB131_149 := n8_
    have NB149_131 := n9_
    have NB132_149 := n10_
    have NB149_132 := n11_
    have NB133_149 := n12_
    have NB149_133 := n13_
    have HB := n14_
    clear n0_ n1_ n2_ n3_ n4_ n5_ n6_ n7_ n8_ n9_ n10_ n11_ n12_ n13_ n14_
    have hHeld : w20.cell? ⟨gb131, 0, none⟩ = some (.slice A0_0 l0_0.length c0_0) ∧ w20.cell? ⟨gb131, 1, none⟩ = some (.slice A0_1 l0_1.length c0_1) ∧ w20.cell? ⟨gb132, 0, none⟩ = some (.slice A1_0 l1_0.length c1_0) ∧ w20.cell? ⟨gb132, 1, none⟩ = some (.slice A1_1 l1_1.length c1_1) := hS_
    obtain ⟨Ao21, co21, eo21⟩ := Kd.R_slice HO148.out
    (first | subst eo21 | (injection eo21 with f1_ f2_ f3_; have f4_ := f1_.symm; have f5_ := f3_.symm; clear f1_ f2_ f3_; subst f4_; subst f5_))
    obtain ⟨Ao22, co22, eo22⟩ := Kd.R_slice HO139.out
    (first | subst eo22 | (injection eo22 with f1_ f2_ f3_; have f4_ := f1_.symm; have f5_ := f3_.symm; clear f1_ f2_ f3_; subst f4_; subst f5_))
    refine norm_ (a' := ?_) ?_ ?_
    rotate_left
    ·simp only [putAll, Act.put, List.setIfInBounds_toArray, List.set_cons_zero, List.set_cons_succ]
     rfl
    refine one_ (i := 13) (N := none) #[true, true, true, true, true, true, true, true, true, true, true, true, true, true] rfl rfl (one_of HT_.out (by kernel_rfl)) (by decide) (fun K hK => ?_)
    have hs23 : w20.cell? ⟨gb149, 0, none⟩ = some (.slice none 0 0) := (blk_cell BK149.out 0).trans rfl
    have hfs23 := blk_frozen BK149.out 0
    have hns23_0 := NB131_149.out
    have hns23_1 := NB132_149.out
    have hns23_2 := NB133_149.out
    have hms23_0 := NB149_131.out
    have hms23_1 := NB149_132.out
    have hms23_2 := NB149_133.out
    have hs24 : w20.cell? ⟨gb149, 1, none⟩ = some (.slice none 0 0) := (blk_cell BK149.out 1).trans rfl
    have hfs24 := blk_frozen BK149.out 1
    have hns24_0 := NB131_149.out
    have hns24_1 := NB132_149.out
    have hns24_2 := NB133_149.out
    have hms24_0 := NB149_131.out
    have hms24_1 := NB149_132.out
    have hms24_2 := NB149_133.out
    refine skip_ (w1 := ?_) (by rfl) rfl ?_ ?_
    rotate_left
    ·go_simp
     rfl
    refine hK.out _ _ ⟨((cell_far (p := ⟨gb149, _, none⟩) NB131_149.out _).trans (((cell_far (p := ⟨gb149, _, none⟩) NB131_149.out _).trans (hHeld.1)))), ((cell_far (p := ⟨gb149, _, none⟩) NB131_149.out _).trans (((cell_far (p := ⟨gb149, _, none⟩) NB131_149.out _).trans (hHeld.2.1)))), ((cell_far (p := ⟨gb149, _, none⟩) NB132_149.out _).trans (((cell_far (p := ⟨gb149, _, none⟩) NB132_149.out _).trans (hHeld.2.2.1)))), ((cell_far (p := ⟨gb149, _, none⟩) NB132_149.out _).trans (((cell_far (p := ⟨gb149, _, none⟩) NB132_149.out _).trans (hHeld.2.2.2))))⟩ (fun hHeld => ?_)
    clear hK K
    refine done_ (done_of HT_.out (by kernel_rfl)) ?_
    try go_wp2
    go_loopg [6] k (fun kq v6 w' => ∃ (x6_1 : Int) (x150000_1 : List (S37)) (u150000 : Value), v6 = .int .i64 x6_1 ∧ Aside0 (spec_MergeReports.l0 kq x6_1 l0_0 l0_1 l1_0 l1_1 x150000_1 y146 = some (r1, r2)) ∧ Aside0 (kq ≤ k) ∧ Aside0 (Kd.R k37 37 w' w.heap.size (fun _ => True) u150000 x150000_1) ∧ Aside0 (Kd.R Kd.string 9 w' w.heap.size (fun _ => True) (.slice Ao21 y146.length co21) y146) ∧ Aside0 (w'.heap[gb131]? = some (.cells #[(.slice A0_0 l0_0.length c0_0), (.slice A0_1 l0_1.length c0_1)] 26 (0, 0))) ∧ Aside0 (w'.heap[gb132]? = some (.cells #[(.slice A1_0 l1_0.length c1_0), (.slice A1_1 l1_1.length c1_1)] 26 (0, 0))) ∧ Aside0 (w'.heap[gb133]? = some (.cells #[(.slice none 0 0), (.slice none 0 0)] 26 (0, 0))) ∧ Aside0 (w'.heap[gb149]? = some (.cells #[u150000, (.slice Ao21 y146.length co21)] 26 (0, 0))) ∧ Aside0 (Below w.heap.size w w'))
    case atStart => exact ⟨(0), (y137), (.slice Ao22 y137.length co22), (by first | rfl | (simp; done) | (simp [*]; done)), H', ⟨Nat.le_refl _⟩, ⟨by (with_reducible repeat (first | apply Kd.R_alloc | apply Kd.R_drewN | apply Kd.R_drew)); exact Kd.R_mono (Kd.R_far (p := ⟨gb149, 1, none⟩) (Kd.R_far (p := ⟨gb149, 0, none⟩) (Kd.R_types HO139.out BK149.out (by decide)) (fun _ hk => hk.2) (.slice Ao22 y137.length co22)) (fun _ hk => hk.2) (.slice Ao21 y146.length co21)) (fun _ hk => trivial)⟩, ⟨by (with_reducible repeat (first | apply Kd.R_alloc | apply Kd.R_drewN | apply Kd.R_drew)); exact Kd.R_mono (Kd.R_far (p := ⟨gb149, 1, none⟩) (Kd.R_far (p := ⟨gb149, 0, none⟩) (Kd.R_types HO148.out BK149.out (by decide)) (fun _ hk => hk.2) (.slice Ao22 y137.length co22)) (fun _ hk => hk.2) (.slice Ao21 y146.length co21)) (fun _ hk => trivial)⟩, ⟨by (with_reducible repeat (first | apply blk_drewN | apply blk_drew | apply blk_alloc)); refine blk_far ?_ NB131_149.out _; (with_reducible repeat (first | apply blk_drewN | apply blk_drew | apply blk_alloc)); refine blk_far ?_ NB131_149.out _; (with_reducible repeat (first | apply blk_drewN | apply blk_drew | apply blk_alloc)); exact BK131.out⟩, ⟨by (with_reducible repeat (first | apply blk_drewN | apply blk_drew | apply blk_alloc)); refine blk_far ?_ NB132_149.out _; (with_reducible repeat (first | apply blk_drewN | apply blk_drew | apply blk_alloc)); refine blk_far ?_ NB132_149.out _; (with_reducible repeat (first | apply blk_drewN | apply blk_drew | apply blk_alloc)); exact BK132.out⟩, ⟨by (with_reducible repeat (first | apply blk_drewN | apply blk_drew | apply blk_alloc)); refine blk_far ?_ NB133_149.out _; (with_reducible repeat (first | apply blk_drewN | apply blk_drew | apply blk_alloc)); refine blk_far ?_ NB133_149.out _; (with_reducible repeat (first | apply blk_drewN | apply blk_drew | apply blk_alloc)); exact BK133.out⟩, ⟨by (with_reducible repeat (first | apply blk_drewN | apply blk_drew | apply blk_alloc)); refine blk_put (cs := #[.slice Ao22 y137.length co22, .slice none 0 0]) ?_ 1 _ rfl; (with_reducible repeat (first | apply blk_drewN | apply blk_drew | apply blk_alloc)); refine blk_put (cs := #[.slice none 0 0, .slice none 0 0]) ?_ 0 _ rfl; (with_reducible repeat (first | apply blk_drewN | apply blk_drew | apply blk_alloc)); exact BK149.out⟩, ⟨by repeat (first | (with_reducible first | exact HB.out | apply below_alloc | apply pw_below_drewN | apply below_drew1 | refine below_set ?_ GE131.out | refine below_set ?_ GE132.out | refine below_set ?_ GE133.out | refine below_set ?_ GE149.out) | exact HB.out)⟩⟩
    case round =>
     clear H'
     try clear c1
     try clear p2
     try clear c4
     try clear c5
     obtain ⟨x6_1, x150000_1, u150000, rfl, HA, HK1, HO_150000, HO_150001, BK131, BK132, BK133, BK149, HB⟩ := hrel
     cases gk with
     | zero => exact absurd HA.out (by simp [spec_MergeReports.l0])
     | succ k1 =>
      have H := HA.out
      clear HA
      simp only [spec_MergeReports.l0] at H
      by_cases c25 : x6_1 < (x150000_1.length : Int)
      ·rw [if_pos c25] at H
       have c25b0 : decide (x6_1 < (x150000_1.length : Int)) = true := decide_eq_true c25
       clear c25
       by_cases c26 : 0 ≤ x6_1
       ·rw [if_pos c26] at H
        have c26b0 : decide (0 ≤ x6_1) = true := decide_eq_true c26
        clear c26
        replace H := Option.bind_eq_some_iff.mp H
        obtain ⟨t151, A270, H⟩ := H
        replace H : (if t151 ≥ 0 then (spec_MergeReports.l0 k1 (wrap64 (x6_1 + 1)) l0_0 l0_1 l1_0 l1_1 (x150000_1.set (x6_1 : Int).toNat (⟨(rd_T37 x150000_1 x6_1).f0, t151⟩ : S37)) y146) else (spec_MergeReports.l0 k1 (wrap64 (x6_1 + 1)) l0_0 l0_1 l1_0 l1_1 x150000_1 y146)) = some (r1, r2) := H
        have A27 := ak A270
        clear A270
        by_cases c28 : t151 ≥ 0
        ·rw [if_pos c28] at H
         have c28b0 : decide (0 ≤ t151) = true := decide_eq_true c28
         clear c28
         obtain ⟨y152, hy152⟩ : ∃ y_ : List (S37), y_ = (x150000_1.set (x6_1 : Int).toNat (⟨(rd_T37 x150000_1 x6_1).f0, t151⟩ : S37)) := ⟨_, rfl⟩
         replace H : (spec_MergeReports.l0 k1 (wrap64 (x6_1 + 1)) l0_0 l0_1 l1_0 l1_1 y152 y146) = some (r1, r2) := by first | (rw [hy152]; with_reducible exact H) | (have H2_ := (Option.bind_some _ _).symm.trans H; rw [hy152]; with_reducible exact H2_) | (have H2_ := (Option.bind_some _ _).symm.trans H; with_reducible exact H2_) | with_reducible exact H | (rw [hy152]; exact H) | exact H
         have Ny152 := ak hy152
         clear hy152
         have H' := ak H
         clear H
         have hnb30 := NB149_131.out
         have hnc30 := NB131_149.out
         have hnb31 := NB149_132.out
         have hnc31 := NB132_149.out
         have hnb32 := NB149_133.out
         have hnc32 := NB133_149.out
         have hcz33_0 : wr.cell? ⟨gb149, 0, none⟩ = some (u150000) := (blk_cell BK149.out 0).trans rfl
         have hcz33_1 : wr.cell? ⟨gb149, 1, none⟩ = some (.slice Ao21 y146.length co21) := (blk_cell BK149.out 1).trans rfl
         have hfz33_0 := blk_frozen BK149.out 0
         have hfz33_1 := blk_frozen BK149.out 1
         obtain ⟨Ao34, co34, eo34⟩ := Kd.R_slice HO_150000.out
         subst eo34
         try go_wp2
         have n0_ := ak (Kd.R_drew HO_150000.out)
         have n1_ := ak (Kd.R_drew HO_150001.out)
         have n2_ := ak (blk_drew BK131.out)
         have n3_ := ak (blk_drew BK132.out)
         have n4_ := ak (blk_drew BK133.out)
         have n5_ := ak (blk_drew BK149.out)
         have n6_ := ak (below_drew1 HB.out)
         clear HO_150000
         clear HO_150001
         clear BK131
         clear BK132
         clear BK133
         clear BK149
         clear HB
         have HO_150000 := n0_
         have HO_150001 := n1_
         have BK131 := n2_
         have BK132 := n3_
         have BK133 := n4_
         have BK149 := n5_
         have HB := n6_
         clear n0_ n1_ n2_ n3_ n4_ n5_ n6_
         have p150 : 0 ≤ (x6_1 : Int) := of_decide_eq_true (by first | (with_reducible assumption) | assumption)
         have q150 : x6_1 < (x150000_1.length : Int) := of_decide_eq_true (by first | (with_reducible assumption) | assumption)
         obtain ⟨ad150, e150, hx150_0, hx150_1⟩ := at_T37 (Kd.R_reads' HO_150000.out).2.2 x6_1 p150 q150
         cases e150
         replace p150 := eq_true p150
         replace q150 := eq_true q150
         refine start_ (n := 10) (S := fun w' => w'.cell? ⟨gb132, 0, none⟩ = some (.slice A1_0 l1_0.length c1_0) ∧ w'.cell? ⟨gb132, 1, none⟩ = some (.slice A1_1 l1_1.length c1_1) ∧ w'.cell? ⟨gb149, 0, none⟩ = some (.slice (some ad150) x150000_1.length co34) ∧ w'.cell? ⟨gb149, 1, none⟩ = some (.slice Ao21 y146.length co21) ∧ w'.cell? (ad150.add ((x6_1).toNat * 2)) = some (.string ((rd_T37 x150000_1 x6_1).f0)) ∧ w'.cell? ⟨(ad150.add ((x6_1).toNat * 2)).block, (ad150.add ((x6_1).toNat * 2)).off + 1, none⟩ = some (.int .i64 ((rd_T37 x150000_1 x6_1).f1))) (ds := []) #[false, false, false, false, false, false, false, false, false, false] (by kernel_rfl) rfl rfl ⟨(blk_cell BK132.out 0).trans rfl, (blk_cell BK132.out 1).trans rfl, (blk_cell BK149.out 0).trans rfl, (blk_cell BK149.out 1).trans rfl, hx150_0, hx150_1⟩ (fun hHeld => ?_); refine with_tabW spec_MergeReports.tab5 spec_MergeReports.bits5 (fun HT_ HW_ => ?_)
         generalize wr.drew = w35 at HO_150000 HO_150001 BK131 BK132 BK133 BK149 HB hx150_0 hx150_1 hHeld ⊢
         refine pure_ (i := 0) (N := some 28) (v := ?_) (a' := ?_) #[true, false, false, false, false, false, false, false, false, false] rfl rfl (any_of HT_.out (by kernel_rfl)) (fun _ _ _ h => h) (Or.inl ⟨by rfl, ?_⟩) ?_ ?_
         rotate_left
         ·intro w'
          go_simp
          with_reducible rfl
         rotate_left
         ·simp only [Act.put, List.setIfInBounds_toArray, List.set_cons_zero, List.set_cons_succ, i64_w, i32_w]
          rfl
         refine pure_ (i := 2) (N := some 30) (v := ?_) (a' := ?_) #[true, false, true, false, false, false, false, false, false, false] rfl rfl (any_of HT_.out (by kernel_rfl)) (fun _ _ _ h => h) (Or.inl ⟨by rfl, ?_⟩) ?_ ?_
         rotate_left
         ·intro w'
          go_simp
          with_reducible rfl
         rotate_left
         ·simp only [Act.put, List.setIfInBounds_toArray, List.set_cons_zero, List.set_cons_succ, i64_w, i32_w]
          rfl
         refine pure_ (i := 4) (N := some 32) (v := ?_) (a' := ?_) #[true, false, true, false, true, false, false, false, false, false] rfl rfl (any_of HT_.out (by kernel_rfl)) (fun _ _ _ h => h) (Or.inl ⟨by rfl, ?_⟩) ?_ ?_
         rotate_left
         ·intro w'
          go_simp
          with_reducible rfl
         rotate_left
         ·simp only [Act.put, List.setIfInBounds_toArray, List.set_cons_zero, List.set_cons_succ, i64_w, i32_w]
          rfl
         refine take_ (i := 1) (N := some 29) (v := ?_) (a' := ?_) #[true, true, true, false, true, false, false, false, false, false] rfl rfl (take_ofW HT_.out HW_.out (by kernel_rfl)) (fun _ _ _ h => h) (Or.inl ⟨by rfl, ?_⟩) hHeld ?_ ?_
         rotate_left
         ·rintro w' ⟨s0, s1, s2, s3, s4, s5⟩
          go_simp
          with_reducible rfl
         rotate_left
         ·simp only [Act.put, List.setIfInBounds_toArray, List.set_cons_zero, List.set_cons_succ, i64_w, i32_w]
          rfl
         refine take_ (i := 3) (N := some 31) (v := ?_) (a' := ?_) #[true, true, true, true, true, false, false, false, false, false] rfl rfl (take_ofW HT_.out HW_.out (by kernel_rfl)) (fun _ _ _ h => h) (Or.inl ⟨by rfl, ?_⟩) hHeld ?_ ?_
         rotate_left
         ·rintro w' ⟨s0, s1, s2, s3, s4, s5⟩
          go_simp
          with_reducible rfl
         rotate_left
         ·simp only [Act.put, List.setIfInBounds_toArray, List.set_cons_zero, List.set_cons_succ, i64_w, i32_w]
          rfl
         refine pure_ (i := 5) (N := some 33) (v := ?_) (a' := ?_) #[true, true, true, true, true, true, false, false, false, false] rfl rfl (any_of HT_.out (by kernel_rfl)) (fun _ _ _ h => h) (Or.inl ⟨by rfl, ?_⟩) ?_ ?_
         rotate_left
         ·intro w'
          go_simp
          with_reducible rfl
         rotate_left
         ·simp only [Act.put, List.setIfInBounds_toArray, List.set_cons_zero, List.set_cons_succ, i64_w, i32_w]
          rfl
         refine pure_ (i := 6) (N := some 34) (v := ?_) (a' := ?_) #[true, true, true, true, true, true, true, false, false, false] rfl rfl (any_of HT_.out (by kernel_rfl)) (fun _ _ _ h => h) (Or.inl ⟨by rfl, ?_⟩) ?_ ?_
         rotate_left
         ·intro w'
          go_simp
          with_reducible rfl
         rotate_left
         ·simp only [Act.put, List.setIfInBounds_toArray, List.set_cons_zero, List.set_cons_succ, i64_w, i32_w]
          rfl
         refine take_ (i := 7) (N := some 35) (v := ?_) (a' := ?_) #[true, true, true, true, true, true, true, true, false, false] rfl rfl (take_ofW HT_.out HW_.out (by kernel_rfl)) (fun _ _ _ h => h) (Or.inl ⟨by rfl, ?_⟩) hHeld ?_ ?_
         rotate_left
         ·rintro w' ⟨s0, s1, s2, s3, s4, s5⟩
          go_simp
          with_reducible rfl
         rotate_left
         ·simp only [Act.put, List.setIfInBounds_toArray, List.set_cons_zero, List.set_cons_succ, i64_w, i32_w]
          rfl
         refine one_ (i := 8) (N := some 36) #[true, true, true, true, true, true, true, true, true, false] rfl rfl (one_of HT_.out (by kernel_rfl)) (by decide) (fun K hK => ?_)
         refine goes_ Try.func49 (by kernel_rfl) rfl #[.slice A1_0 l1_0.length c1_0, .string ((rd_T37 x150000_1 x6_1).f0)] (by rfl) rfl rfl (by (try simp only [List.map_toArray, List.map_cons, List.map_nil]); first | done | rfl | (simp only [List.length_drop, List.length_take]; rfl)) ?_
         with_reducible refine (spec_outcomeOf.calls k1 _ _ l1_0 ((rd_T37 x150000_1 x6_1).f0) t151 _ ?side1 ?side2 A27.out).mono ?_
         (case side1 => repeat (first | exact (Kd.C_below HR1_0.out HB.out) | (with_reducible refine Kd.C_alloc ?_ _) | (with_reducible refine Kd.C_drewN ?_ _) | (with_reducible refine Kd.C_drew ?_)))
         (case side2 => exact HC1_0.out)
         rintro e w' ⟨rfl, ⟨nd, rfl⟩⟩
         refine ⟨_, rfl, ?_⟩
         refine hK.out _ _ ⟨(blk_cell BK132.out 0).trans rfl, (blk_cell BK132.out 1).trans rfl, (blk_cell BK149.out 0).trans rfl, (blk_cell BK149.out 1).trans rfl, hHeld.2.2.2.2.1, hHeld.2.2.2.2.2⟩ (fun hHeld => ?_)
         clear hK K
         refine norm_ (a' := ?_) ?_ ?_
         rotate_left
         ·show Act.put _ (some 36) _ = _
          simp only [Act.put, List.setIfInBounds_toArray, List.set_cons_zero, List.set_cons_succ, i64_w, i32_w]
          rfl
         refine pure_ (i := 9) (N := some 7) (v := ?_) (a' := ?_) #[true, true, true, true, true, true, true, true, true, true] rfl rfl (any_of HT_.out (by kernel_rfl)) (fun _ _ _ h => h) (Or.inl ⟨by rfl, ?_⟩) ?_ ?_
         rotate_left
         ·intro w'
          go_simp
          with_reducible rfl
         rotate_left
         ·simp only [Act.put, List.setIfInBounds_toArray, List.set_cons_zero, List.set_cons_succ, i64_w, i32_w]
          rfl
         refine done_ (done_of HT_.out (by kernel_rfl)) ?_
         have n0_ := ak (Kd.R_drewN HO_150000.out nd)
         have n1_ := ak (Kd.R_drewN HO_150001.out nd)
         have n2_ := ak (blk_drewN BK131.out nd)
         have n3_ := ak (blk_drewN BK132.out nd)
         have n4_ := ak (blk_drewN BK133.out nd)
         have n5_ := ak (blk_drewN BK149.out nd)
         have n6_ := ak (pw_below_drewN HB.out nd)
         clear HO_150000 HO_150001 BK131 BK132 BK133 BK149 HB
         generalize World.drewN w35 nd = w35 at n0_ n1_ n2_ n3_ n4_ n5_ n6_ ⊢
         have HO_150000 := n0_
         have HO_150001 := n1_
         have BK131 := n2_
         have BK132 := n3_
         have BK133 := n4_
         have BK149 := n5_
         have HB := n6_
         clear n0_ n1_ n2_ n3_ n4_ n5_ n6_
         have hcz36_0 : w35.cell? ⟨gb149, 0, none⟩ = some (.slice (some ad150) x150000_1.length co34) := (blk_cell BK149.out 0).trans rfl
         have hcz36_1 : w35.cell? ⟨gb149, 1, none⟩ = some (.slice Ao21 y146.length co21) := (blk_cell BK149.out 1).trans rfl
         have hfz36_0 := blk_frozen BK149.out 0
         have hfz36_1 := blk_frozen BK149.out 1
         have p29 : 0 ≤ (x6_1 : Int) := of_decide_eq_true (by first | (with_reducible assumption) | assumption)
         have q29 : (x6_1 : Int) < ((x150000_1.length : Int) : Int) := of_decide_eq_true (by first | (with_reducible assumption) | assumption)
         obtain ⟨go29, co29, eo29, gb29, gl29, cl29, HG29⟩ := Kd.R_form HO_150000.out (by omega)
         (first | cases eo29 | (injection eo29 with ea_ en_ ec_; (first | subst ea_ | (injection ea_ with ea_; subst ea_)); subst ec_; clear en_))
         have GB29 := ak gb29
         have GG29 := ak HG29
         clear gb29 gl29 HG29
         (first | simp only [add_plain] at hx150_0 | skip)
         (first | simp only [add_plain] at hx150_1 | skip)
         obtain ⟨ce29, hcl29, hM29, hcc29, hfr29⟩ := Kd.R_elem HO_150000.out z37 (x6_1 : Int) p29 q29
         obtain rfl := k37_openM hM29
         have hx29_0 : w35.cell? ⟨go29, (x6_1 : Int).toNat * 2, none⟩ = some (.string ((rd_T37 x150000_1 x6_1).f0)) := hcc29 0 _ rfl
         have hx29_1 : w35.cell? ⟨go29, (x6_1 : Int).toNat * 2 + 1, none⟩ = some (.int .i64 ((rd_T37 x150000_1 x6_1).f1)) := hcc29 1 _ rfl
         have hf29_0 : w35.frozen? ⟨go29, (x6_1 : Int).toNat * 2, none⟩ = false := hfr29 0
         have hf29_1 : w35.frozen? ⟨go29, (x6_1 : Int).toNat * 2 + 1, none⟩ = false := hfr29 1
         clear hcl29 hcc29 hfr29 hM29
         replace p29 := eq_true p29
         replace q29 := eq_true q29
         have HX37 := ak (show Kd.R k37 37 w35 w.heap.size (fun _ => True) (.slice (some ⟨go29, 0, none⟩) x150000_1.length co34) x150000_1 from (rTo HO_150000.out))
         obtain ⟨ce37, hcl37, hM37, hcc37, hfr37⟩ := Kd.R_elem HX37.out z37 (x6_1 : Int) (of_decide_eq_true (by first | (with_reducible assumption) | assumption)) (by have h_ : (x6_1 : Int) < ((x150000_1.length : Int) : Int) := of_decide_eq_true (by first | (with_reducible assumption) | assumption); first | exact h_ | (have e_ := (Kd.R_reads' HO_150000.out).1; omega) | simpa using h_)
         obtain rfl := k37_openM hM37
         have HP37 := Kd.R_seg HX37.out (x6_1 : Int) (of_decide_eq_true (by first | (with_reducible assumption) | assumption)) (by have h_ : (x6_1 : Int) < ((x150000_1.length : Int) : Int) := of_decide_eq_true (by first | (with_reducible assumption) | assumption); first | exact h_ | (have e_ := (Kd.R_reads' HO_150000.out).1; omega) | simpa using h_) (seg := [.int .i64 t151]) (j := 1) hcl37 hcc37 (show 2 ≤ 2 from by decide) (x' := (⟨(rd_T37 x150000_1 x6_1).f0, t151⟩ : S37)) (k37_mkM _ _ _ (⟨(rd_T37 x150000_1 x6_1).f0, t151⟩ : S37) ) (fun _ hk => hk)
         have hx37_1 := hcc37 1 _ rfl
         (try simp only [show (k37).sz = 2 from rfl, Nat.mul_one, Nat.add_zero] at hx37_1)
         have hf37_1 := hfr37 1
         (try simp only [show (k37).sz = 2 from rfl, Nat.mul_one, Nat.add_zero] at hf37_1)
         clear hcl37 hcc37 hfr37 hM37
         try go_wp2_with (first | ((with_reducible refine gate_store (t := 3) (p := 44) rfl ?_); refine store_event (t := 3) (p := 44) (v := ?vo_w38) (w1 := (w35.setCell ⟨go29, (x6_1 : Int).toNat * 2 + 1, none⟩ (.int .i64 t151))) ?hg ?ho ?hn ?hr ?_; (case ho => rfl); (case hg => rfl); (case hn => rfl); (case hr => first | (go_simp; done) | (go_simp; rfl)); intro w38 hw; have hg : w35.grownBy w38 (some go29) := (by rw [hw]; exact HP37.2); have hp_ : Kd.R k37 37 w38 w.heap.size (fun _ => True) (.slice (some ⟨go29, 0, none⟩) x150000_1.length co34) y152 := (by rw [hw, Ny152.out]; exact HP37.1); clear HP37; have n0_ := ak (hp_); have n1_ := ak (Kd.R_over' (v := (.slice (some ⟨go29, 0, none⟩) x150000_1.length co34)) (rTo HO_150001.out) (Kd.R_typed HO_150000.out) (by decide) hg); have n2_ := ak (blk_grown (g := gb131) (o := .cells #[.slice A0_0 l0_0.length c0_0, .slice A0_1 l0_1.length c0_1] 26 (0, 0)) (bTo BK131.out) hg (Kd.R_ne HO_150000.out BK131.out (by decide))); have n3_ := ak (blk_grown (g := gb132) (o := .cells #[.slice A1_0 l1_0.length c1_0, .slice A1_1 l1_1.length c1_1] 26 (0, 0)) (bTo BK132.out) hg (Kd.R_ne HO_150000.out BK132.out (by decide))); have n4_ := ak (blk_grown (g := gb133) (o := .cells #[.slice none 0 0, .slice none 0 0] 26 (0, 0)) (bTo BK133.out) hg (Kd.R_ne HO_150000.out BK133.out (by decide))); have n5_ := ak (blk_grown (g := gb149) (o := .cells #[.slice (some ⟨go29, 0, none⟩) x150000_1.length co34, .slice Ao21 y146.length co21] 26 (0, 0)) (bTo BK149.out) hg (Kd.R_ne HO_150000.out BK149.out (by decide))); have n6_ := ak ((by rw [hw]; exact below_set (HB.out) GB29.out : Below w.heap.size w w38)); clear HO_150000; clear HO_150001; clear BK131; clear BK132; clear BK133; clear BK149; clear HB; have HO_150000 := n0_; have HO_150001 := n1_; have BK131 := n2_; have BK132 := n3_; have BK133 := n4_; have BK149 := n5_; have HB := n6_; clear n0_ n1_ n2_ n3_ n4_ n5_ n6_; clear hg hw hp_))
         go_roundg k1
         case measure => have := HK1.out; omega
         case rel => exact ⟨(wrap64 (x6_1 + 1)), (y152), (.slice (some ⟨go29, 0, none⟩) x150000_1.length co34), (by first | rfl | (simp; done) | (simp [*]; done)), H', ⟨by have := HK1.out; omega⟩, ⟨by (with_reducible repeat (first | apply Kd.R_alloc | apply Kd.R_drewN | apply Kd.R_drew)); exact HO_150000.out⟩, ⟨by (with_reducible repeat (first | apply Kd.R_alloc | apply Kd.R_drewN | apply Kd.R_drew)); exact HO_150001.out⟩, ⟨by (with_reducible repeat (first | apply blk_drewN | apply blk_drew | apply blk_alloc)); exact BK131.out⟩, ⟨by (with_reducible repeat (first | apply blk_drewN | apply blk_drew | apply blk_alloc)); exact BK132.out⟩, ⟨by (with_reducible repeat (first | apply blk_drewN | apply blk_drew | apply blk_alloc)); exact BK133.out⟩, ⟨by (with_reducible repeat (first | apply blk_drewN | apply blk_drew | apply blk_alloc)); exact BK149.out⟩, ⟨by repeat (first | (with_reducible first | exact HB.out | apply below_alloc | apply pw_below_drewN | apply below_drew1 | refine below_set ?_ GE131.out | refine below_set ?_ GE132.out | refine below_set ?_ GE133.out | refine below_set ?_ GE149.out) | exact HB.out)⟩⟩
        ·rw [if_neg c28] at H
         have c28b0 : decide (0 ≤ t151) = false := decide_eq_false c28
         clear c28
         have H' := ak H
         clear H
         have hnb39 := NB149_131.out
         have hnc39 := NB131_149.out
         have hnb40 := NB149_132.out
         have hnc40 := NB132_149.out
         have hnb41 := NB149_133.out
         have hnc41 := NB133_149.out
         have hcz42_0 : wr.cell? ⟨gb149, 0, none⟩ = some (u150000) := (blk_cell BK149.out 0).trans rfl
         have hcz42_1 : wr.cell? ⟨gb149, 1, none⟩ = some (.slice Ao21 y146.length co21) := (blk_cell BK149.out 1).trans rfl
         have hfz42_0 := blk_frozen BK149.out 0
         have hfz42_1 := blk_frozen BK149.out 1
         obtain ⟨Ao43, co43, eo43⟩ := Kd.R_slice HO_150000.out
         subst eo43
         try go_wp2
         have n0_ := ak (Kd.R_drew HO_150000.out)
         have n1_ := ak (Kd.R_drew HO_150001.out)
         have n2_ := ak (blk_drew BK131.out)
         have n3_ := ak (blk_drew BK132.out)
         have n4_ := ak (blk_drew BK133.out)
         have n5_ := ak (blk_drew BK149.out)
         have n6_ := ak (below_drew1 HB.out)
         clear HO_150000
         clear HO_150001
         clear BK131
         clear BK132
         clear BK133
         clear BK149
         clear HB
         have HO_150000 := n0_
         have HO_150001 := n1_
         have BK131 := n2_
         have BK132 := n3_
         have BK133 := n4_
         have BK149 := n5_
         have HB := n6_
         clear n0_ n1_ n2_ n3_ n4_ n5_ n6_
         have p150 : 0 ≤ (x6_1 : Int) := of_decide_eq_true (by first | (with_reducible assumption) | assumption)
         have q150 : x6_1 < (x150000_1.length : Int) := of_decide_eq_true (by first | (with_reducible assumption) | assumption)
         obtain ⟨ad150, e150, hx150_0, hx150_1⟩ := at_T37 (Kd.R_reads' HO_150000.out).2.2 x6_1 p150 q150
         cases e150
         replace p150 := eq_true p150
         replace q150 := eq_true q150
         refine start_ (n := 10) (S := fun w' => w'.cell? ⟨gb132, 0, none⟩ = some (.slice A1_0 l1_0.length c1_0) ∧ w'.cell? ⟨gb132, 1, none⟩ = some (.slice A1_1 l1_1.length c1_1) ∧ w'.cell? ⟨gb149, 0, none⟩ = some (.slice (some ad150) x150000_1.length co43) ∧ w'.cell? ⟨gb149, 1, none⟩ = some (.slice Ao21 y146.length co21) ∧ w'.cell? (ad150.add ((x6_1).toNat * 2)) = some (.string ((rd_T37 x150000_1 x6_1).f0)) ∧ w'.cell? ⟨(ad150.add ((x6_1).toNat * 2)).block, (ad150.add ((x6_1).toNat * 2)).off + 1, none⟩ = some (.int .i64 ((rd_T37 x150000_1 x6_1).f1))) (ds := []) #[false, false, false, false, false, false, false, false, false, false] (by kernel_rfl) rfl rfl ⟨(blk_cell BK132.out 0).trans rfl, (blk_cell BK132.out 1).trans rfl, (blk_cell BK149.out 0).trans rfl, (blk_cell BK149.out 1).trans rfl, hx150_0, hx150_1⟩ (fun hHeld => ?_); refine with_tabW spec_MergeReports.tab5 spec_MergeReports.bits5 (fun HT_ HW_ => ?_)
         generalize wr.drew = w44 at HO_150000 HO_150001 BK131 BK132 BK133 BK149 HB hx150_0 hx150_1 hHeld ⊢
         refine pure_ (i := 0) (N := some 28) (v := ?_) (a' := ?_) #[true, false, false, false, false, false, false, false, false, false] rfl rfl (any_of HT_.out (by kernel_rfl)) (fun _ _ _ h => h) (Or.inl ⟨by rfl, ?_⟩) ?_ ?_
         rotate_left
         ·intro w'
          go_simp
          with_reducible rfl
         rotate_left
         ·simp only [Act.put, List.setIfInBounds_toArray, List.set_cons_zero, List.set_cons_succ, i64_w, i32_w]
          rfl
         refine pure_ (i := 2) (N := some 30) (v := ?_) (a' := ?_) #[true, false, true, false, false, false, false, false, false, false] rfl rfl (any_of HT_.out (by kernel_rfl)) (fun _ _ _ h => h) (Or.inl ⟨by rfl, ?_⟩) ?_ ?_
         rotate_left
         ·intro w'
          go_simp
          with_reducible rfl
         rotate_left
         ·simp only [Act.put, List.setIfInBounds_toArray, List.set_cons_zero, List.set_cons_succ, i64_w, i32_w]
          rfl
         refine pure_ (i := 4) (N := some 32) (v := ?_) (a' := ?_) #[true, false, true, false, true, false, false, false, false, false] rfl rfl (any_of HT_.out (by kernel_rfl)) (fun _ _ _ h => h) (Or.inl ⟨by rfl, ?_⟩) ?_ ?_
         rotate_left
         ·intro w'
          go_simp
          with_reducible rfl
         rotate_left
         ·simp only [Act.put, List.setIfInBounds_toArray, List.set_cons_zero, List.set_cons_succ, i64_w, i32_w]
          rfl
         refine take_ (i := 1) (N := some 29) (v := ?_) (a' := ?_) #[true, true, true, false, true, false, false, false, false, false] rfl rfl (take_ofW HT_.out HW_.out (by kernel_rfl)) (fun _ _ _ h => h) (Or.inl ⟨by rfl, ?_⟩) hHeld ?_ ?_
         rotate_left
         ·rintro w' ⟨s0, s1, s2, s3, s4, s5⟩
          go_simp
          with_reducible rfl
         rotate_left
         ·simp only [Act.put, List.setIfInBounds_toArray, List.set_cons_zero, List.set_cons_succ, i64_w, i32_w]
          rfl
         refine take_ (i := 3) (N := some 31) (v := ?_) (a' := ?_) #[true, true, true, true, true, false, false, false, false, false] rfl rfl (take_ofW HT_.out HW_.out (by kernel_rfl)) (fun _ _ _ h => h) (Or.inl ⟨by rfl, ?_⟩) hHeld ?_ ?_
         rotate_left
         ·rintro w' ⟨s0, s1, s2, s3, s4, s5⟩
          go_simp
          with_reducible rfl
         rotate_left
         ·simp only [Act.put, List.setIfInBounds_toArray, List.set_cons_zero, List.set_cons_succ, i64_w, i32_w]
          rfl
         refine pure_ (i := 5) (N := some 33) (v := ?_) (a' := ?_) #[true, true, true, true, true, true, false, false, false, false] rfl rfl (any_of HT_.out (by kernel_rfl)) (fun _ _ _ h => h) (Or.inl ⟨by rfl, ?_⟩) ?_ ?_
         rotate_left
         ·intro w'
          go_simp
          with_reducible rfl
         rotate_left
         ·simp only [Act.put, List.setIfInBounds_toArray, List.set_cons_zero, List.set_cons_succ, i64_w, i32_w]
          rfl
         refine pure_ (i := 6) (N := some 34) (v := ?_) (a' := ?_) #[true, true, true, true, true, true, true, false, false, false] rfl rfl (any_of HT_.out (by kernel_rfl)) (fun _ _ _ h => h) (Or.inl ⟨by rfl, ?_⟩) ?_ ?_
         rotate_left
         ·intro w'
          go_simp
          with_reducible rfl
         rotate_left
         ·simp only [Act.put, List.setIfInBounds_toArray, List.set_cons_zero, List.set_cons_succ, i64_w, i32_w]
          rfl
         refine take_ (i := 7) (N := some 35) (v := ?_) (a' := ?_) #[true, true, true, true, true, true, true, true, false, false] rfl rfl (take_ofW HT_.out HW_.out (by kernel_rfl)) (fun _ _ _ h => h) (Or.inl ⟨by rfl, ?_⟩) hHeld ?_ ?_
         rotate_left
         ·rintro w' ⟨s0, s1, s2, s3, s4, s5⟩
          go_simp
          with_reducible rfl
         rotate_left
         ·simp only [Act.put, List.setIfInBounds_toArray, List.set_cons_zero, List.set_cons_succ, i64_w, i32_w]
          rfl
         refine one_ (i := 8) (N := some 36) #[true, true, true, true, true, true, true, true, true, false] rfl rfl (one_of HT_.out (by kernel_rfl)) (by decide) (fun K hK => ?_)
         refine goes_ Try.func49 (by kernel_rfl) rfl #[.slice A1_0 l1_0.length c1_0, .string ((rd_T37 x150000_1 x6_1).f0)] (by rfl) rfl rfl (by (try simp only [List.map_toArray, List.map_cons, List.map_nil]); first | done | rfl | (simp only [List.length_drop, List.length_take]; rfl)) ?_
         with_reducible refine (spec_outcomeOf.calls k1 _ _ l1_0 ((rd_T37 x150000_1 x6_1).f0) t151 _ ?side1 ?side2 A27.out).mono ?_
         (case side1 => repeat (first | exact (Kd.C_below HR1_0.out HB.out) | (with_reducible refine Kd.C_alloc ?_ _) | (with_reducible refine Kd.C_drewN ?_ _) | (with_reducible refine Kd.C_drew ?_)))
         (case side2 => exact HC1_0.out)
         rintro e w' ⟨rfl, ⟨nd, rfl⟩⟩
         refine ⟨_, rfl, ?_⟩
         refine hK.out _ _ ⟨(blk_cell BK132.out 0).trans rfl, (blk_cell BK132.out 1).trans rfl, (blk_cell BK149.out 0).trans rfl, (blk_cell BK149.out 1).trans rfl, hHeld.2.2.2.2.1, hHeld.2.2.2.2.2⟩ (fun hHeld => ?_)
         clear hK K
         refine norm_ (a' := ?_) ?_ ?_
         rotate_left
         ·show Act.put _ (some 36) _ = _
          simp only [Act.put, List.setIfInBounds_toArray, List.set_cons_zero, List.set_cons_succ, i64_w, i32_w]
          rfl
         refine pure_ (i := 9) (N := some 7) (v := ?_) (a' := ?_) #[true, true, true, true, true, true, true, true, true, true] rfl rfl (any_of HT_.out (by kernel_rfl)) (fun _ _ _ h => h) (Or.inl ⟨by rfl, ?_⟩) ?_ ?_
         rotate_left
         ·intro w'
          go_simp
          with_reducible rfl
         rotate_left
         ·simp only [Act.put, List.setIfInBounds_toArray, List.set_cons_zero, List.set_cons_succ, i64_w, i32_w]
          rfl
         refine done_ (done_of HT_.out (by kernel_rfl)) ?_
         try go_wp2
         go_roundg k1
         case measure => have := HK1.out; omega
         case rel => exact ⟨(wrap64 (x6_1 + 1)), (x150000_1), (.slice (some ad150) x150000_1.length co43), (by first | rfl | (simp; done) | (simp [*]; done)), H', ⟨by have := HK1.out; omega⟩, ⟨by (with_reducible repeat (first | apply Kd.R_alloc | apply Kd.R_drewN | apply Kd.R_drew)); exact HO_150000.out⟩, ⟨by (with_reducible repeat (first | apply Kd.R_alloc | apply Kd.R_drewN | apply Kd.R_drew)); exact HO_150001.out⟩, ⟨by (with_reducible repeat (first | apply blk_drewN | apply blk_drew | apply blk_alloc)); exact BK131.out⟩, ⟨by (with_reducible repeat (first | apply blk_drewN | apply blk_drew | apply blk_alloc)); exact BK132.out⟩, ⟨by (with_reducible repeat (first | apply blk_drewN | apply blk_drew | apply blk_alloc)); exact BK133.out⟩, ⟨by (with_reducible repeat (first | apply blk_drewN | apply blk_drew | apply blk_alloc)); exact BK149.out⟩, ⟨by repeat (first | (with_reducible first | exact HB.out | apply below_alloc | apply pw_below_drewN | apply below_drew1 | refine below_set ?_ GE131.out | refine below_set ?_ GE132.out | refine below_set ?_ GE133.out | refine below_set ?_ GE149.out) | exact HB.out)⟩⟩
       ·rw [if_neg c26] at H
        exact absurd H (by simp)
      ·rw [if_neg c25] at H
       have c25b0 : decide (x6_1 < (x150000_1.length : Int)) = false := decide_eq_false c25
       clear c25
       have H' := ak H
       clear H
       have hnb45 := NB149_131.out
       have hnc45 := NB131_149.out
       have hnb46 := NB149_132.out
       have hnc46 := NB132_149.out
       have hnb47 := NB149_133.out
       have hnc47 := NB133_149.out
       have hcz48_0 : wr.cell? ⟨gb149, 0, none⟩ = some (u150000) := (blk_cell BK149.out 0).trans rfl
       have hcz48_1 : wr.cell? ⟨gb149, 1, none⟩ = some (.slice Ao21 y146.length co21) := (blk_cell BK149.out 1).trans rfl
       have hfz48_0 := blk_frozen BK149.out 0
       have hfz48_1 := blk_frozen BK149.out 1
       obtain ⟨Ao49, co49, eo49⟩ := Kd.R_slice HO_150000.out
       subst eo49
       go_wp2
       go_loopg [8] k1 (fun kq v8 w' => ∃ (x8_2 : Int) (x150000_2 : List (S37)) (u150000 : Value), v8 = .int .i64 x8_2 ∧ Aside0 (spec_MergeReports.l1 kq x8_2 l0_0 l0_1 l1_0 l1_1 x150000_2 y146 = some (r1, r2)) ∧ Aside0 (kq ≤ k1) ∧ Aside0 (Kd.R k37 37 w' w.heap.size (fun _ => True) u150000 x150000_2) ∧ Aside0 (Kd.R Kd.string 9 w' w.heap.size (fun _ => True) (.slice Ao21 y146.length co21) y146) ∧ Aside0 (w'.heap[gb131]? = some (.cells #[(.slice A0_0 l0_0.length c0_0), (.slice A0_1 l0_1.length c0_1)] 26 (0, 0))) ∧ Aside0 (w'.heap[gb132]? = some (.cells #[(.slice A1_0 l1_0.length c1_0), (.slice A1_1 l1_1.length c1_1)] 26 (0, 0))) ∧ Aside0 (w'.heap[gb133]? = some (.cells #[(.slice none 0 0), (.slice none 0 0)] 26 (0, 0))) ∧ Aside0 (w'.heap[gb149]? = some (.cells #[u150000, (.slice Ao21 y146.length co21)] 26 (0, 0))) ∧ Aside0 (Below w.heap.size w w'))
       case atStart => exact ⟨(0), (x150000_1), (.slice Ao49 x150000_1.length co49), (by first | rfl | (simp; done) | (simp [*]; done)), H', ⟨Nat.le_refl _⟩, ⟨by (with_reducible repeat (first | apply Kd.R_alloc | apply Kd.R_drewN | apply Kd.R_drew)); exact HO_150000.out⟩, ⟨by (with_reducible repeat (first | apply Kd.R_alloc | apply Kd.R_drewN | apply Kd.R_drew)); exact HO_150001.out⟩, ⟨by (with_reducible repeat (first | apply blk_drewN | apply blk_drew | apply blk_alloc)); exact BK131.out⟩, ⟨by (with_reducible repeat (first | apply blk_drewN | apply blk_drew | apply blk_alloc)); exact BK132.out⟩, ⟨by (with_reducible repeat (first | apply blk_drewN | apply blk_drew | apply blk_alloc)); exact BK133.out⟩, ⟨by (with_reducible repeat (first | apply blk_drewN | apply blk_drew | apply blk_alloc)); exact BK149.out⟩, ⟨by repeat (first | (with_reducible first | exact HB.out | apply below_alloc | apply pw_below_drewN | apply below_drew1 | refine below_set ?_ GE131.out | refine below_set ?_ GE132.out | refine below_set ?_ GE133.out | refine below_set ?_ GE149.out) | exact HB.out)⟩⟩
       case round =>
        clear H'
        try clear c1
        try clear p1
        try clear q1
        try clear hx1
        try clear c2
        try clear p2
        try clear q2
        try clear hx2
        try clear hf2
        try clear c3
        try clear hx3
        try clear hf3
        try clear c4
        try clear c5
        try clear p6
        try clear p15
        try clear q15
        try clear hx15
        try clear c25
        try clear c25b0
        try clear c26
        try clear c26b0
        try clear c28
        try clear c28b0
        try clear c29
        try clear p29
        try clear q29
        try clear hx29
        try clear hf29
        try clear c30
        try clear c31
        try clear c32
        try clear c37
        try clear hx37
        try clear hf37
        try clear c39
        try clear c40
        try clear c41
        try clear c45
        try clear c46
        try clear c47
        try clear c49
        try clear hcz33_0
        try clear hcz33_1
        try clear hcz36_0
        try clear hcz36_1
        try clear hcz42_0
        try clear hcz42_1
        try clear hcz48_0
        try clear hcz48_1
        try clear hfz33_0
        try clear hfz33_1
        try clear hfz36_0
        try clear hfz36_1
        try clear hfz42_0
        try clear hfz42_1
        try clear hfz48_0
        try clear hfz48_1
        try clear hx150_0
        try clear hx150_1
        try clear hx29_0
        try clear hx29_1
        try clear hx37_1
        try clear p150
        try clear p2
        try clear p29
        try clear q150
        try clear q29
        obtain ⟨x8_2, x150000_2, u150000, rfl, HA, HK2, HO_150000, HO_150001, BK131, BK132, BK133, BK149, HB⟩ := hrel
        cases gk with
        | zero => exact absurd HA.out (by simp [spec_MergeReports.l1])
        | succ k2 =>
         have H := HA.out
         clear HA
         simp only [spec_MergeReports.l1] at H
         by_cases c50 : x8_2 < (l1_0.length : Int)
         ·rw [if_pos c50] at H
          have c50b0 : decide (x8_2 < (l1_0.length : Int)) = true := decide_eq_true c50
          clear c50
          by_cases c51 : 0 ≤ x8_2
          ·rw [if_pos c51] at H
           have c51b0 : decide (0 ≤ x8_2) = true := decide_eq_true c51
           clear c51
           replace H := Option.bind_eq_some_iff.mp H
           obtain ⟨t154, A520, H⟩ := H
           replace H : (if t154 < 0 then (if x150000_2.length < 5864062014805 then (spec_MergeReports.l1 k2 (wrap64 (x8_2 + 1)) l0_0 l0_1 l1_0 l1_1 (x150000_2 ++ [(⟨(rd_T37 l1_0 x8_2).f0, (rd_T37 l1_0 x8_2).f1⟩ : S37)]) y146) else (none)) else (spec_MergeReports.l1 k2 (wrap64 (x8_2 + 1)) l0_0 l0_1 l1_0 l1_1 x150000_2 y146)) = some (r1, r2) := H
           have A52 := ak A520
           clear A520
           by_cases c53 : t154 < 0
           ·rw [if_pos c53] at H
            have c53b0 : decide (t154 < 0) = true := decide_eq_true c53
            clear c53
            by_cases c54 : x150000_2.length < 5864062014805
            ·rw [if_pos c54] at H
             have LMc54 := ak c54
             clear c54
             obtain ⟨y156, hy156⟩ : ∃ y_ : List (S37), y_ = (x150000_2 ++ [(⟨(rd_T37 l1_0 x8_2).f0, (rd_T37 l1_0 x8_2).f1⟩ : S37)]) := ⟨_, rfl⟩
             replace H : (spec_MergeReports.l1 k2 (wrap64 (x8_2 + 1)) l0_0 l0_1 l1_0 l1_1 y156 y146) = some (r1, r2) := by first | (rw [hy156]; with_reducible exact H) | (have H2_ := (Option.bind_some _ _).symm.trans H; rw [hy156]; with_reducible exact H2_) | (have H2_ := (Option.bind_some _ _).symm.trans H; with_reducible exact H2_) | with_reducible exact H | (rw [hy156]; exact H) | exact H
             have Ny156 := ak hy156
             clear hy156
             have H' := ak H
             clear H
             have hnb55 := NB132_131.out
             have hnc55 := NB131_132.out
             have hnb56 := NB132_133.out
             have hnc56 := NB133_132.out
             have hnb57 := NB132_149.out
             have hnc57 := NB149_132.out
             have hcz58_0 : wr.cell? ⟨gb132, 0, none⟩ = some (.slice A1_0 l1_0.length c1_0) := (blk_cell BK132.out 0).trans rfl
             have hcz58_1 : wr.cell? ⟨gb132, 1, none⟩ = some (.slice A1_1 l1_1.length c1_1) := (blk_cell BK132.out 1).trans rfl
             have hfz58_0 := blk_frozen BK132.out 0
             have hfz58_1 := blk_frozen BK132.out 1
             try go_wp2
             have n0_ := ak (Kd.R_drew HO_150000.out)
             have n1_ := ak (Kd.R_drew HO_150001.out)
             have n2_ := ak (blk_drew BK131.out)
             have n3_ := ak (blk_drew BK132.out)
             have n4_ := ak (blk_drew BK133.out)
             have n5_ := ak (blk_drew BK149.out)
             have n6_ := ak (below_drew1 HB.out)
             clear HO_150000
             clear HO_150001
             clear BK131
             clear BK132
             clear BK133
             clear BK149
             clear HB
             have HO_150000 := n0_
             have HO_150001 := n1_
             have BK131 := n2_
             have BK132 := n3_
             have BK133 := n4_
             have BK149 := n5_
             have HB := n6_
             clear n0_ n1_ n2_ n3_ n4_ n5_ n6_
             have p153 : 0 ≤ (x8_2 : Int) := of_decide_eq_true (by first | (with_reducible assumption) | assumption)
             have q153 : x8_2 < (l1_0.length : Int) := of_decide_eq_true (by first | (with_reducible assumption) | assumption)
             obtain ⟨ad153, e153, hx153_0, hx153_1⟩ := at_T37 HR1_0.out x8_2 p153 q153
             have hw153_1 := hx153_1
             have hw153_0 := hx153_0
             cases e153
             replace hx153_0 := (HB.out.cell (World.block_lt_of_cell? w _ hx153_0)).trans hx153_0
             replace hx153_1 := (HB.out.cell (World.block_lt_of_cell? w _ hx153_1)).trans hx153_1
             replace p153 := eq_true p153
             replace q153 := eq_true q153
             refine start_ (n := 10) (S := fun w' => w'.cell? ⟨gb131, 0, none⟩ = some (.slice A0_0 l0_0.length c0_0) ∧ w'.cell? ⟨gb131, 1, none⟩ = some (.slice A0_1 l0_1.length c0_1) ∧ w'.cell? ⟨gb132, 0, none⟩ = some (.slice (some ad153) l1_0.length c1_0) ∧ w'.cell? ⟨gb132, 1, none⟩ = some (.slice A1_1 l1_1.length c1_1) ∧ w'.cell? (ad153.add ((x8_2).toNat * 2)) = some (.string ((rd_T37 l1_0 x8_2).f0)) ∧ w'.cell? ⟨(ad153.add ((x8_2).toNat * 2)).block, (ad153.add ((x8_2).toNat * 2)).off + 1, none⟩ = some (.int .i64 ((rd_T37 l1_0 x8_2).f1))) (ds := []) #[false, false, false, false, false, false, false, false, false, false] (by kernel_rfl) rfl rfl ⟨(blk_cell BK131.out 0).trans rfl, (blk_cell BK131.out 1).trans rfl, (blk_cell BK132.out 0).trans rfl, (blk_cell BK132.out 1).trans rfl, ((HB.out.cell (World.block_lt_of_cell? w _ hw153_0)).trans hw153_0), ((HB.out.cell (World.block_lt_of_cell? w _ hw153_1)).trans hw153_1)⟩ (fun hHeld => ?_); refine with_tabW spec_MergeReports.tab11 spec_MergeReports.bits11 (fun HT_ HW_ => ?_)
             generalize wr.drew = w59 at HO_150000 HO_150001 BK131 BK132 BK133 BK149 HB hx153_0 hx153_1 hHeld ⊢
             refine pure_ (i := 0) (N := some 52) (v := ?_) (a' := ?_) #[true, false, false, false, false, false, false, false, false, false] rfl rfl (any_of HT_.out (by kernel_rfl)) (fun _ _ _ h => h) (Or.inl ⟨by rfl, ?_⟩) ?_ ?_
             rotate_left
             ·intro w'
              go_simp
              with_reducible rfl
             rotate_left
             ·simp only [Act.put, List.setIfInBounds_toArray, List.set_cons_zero, List.set_cons_succ, i64_w, i32_w]
              rfl
             refine pure_ (i := 2) (N := some 54) (v := ?_) (a' := ?_) #[true, false, true, false, false, false, false, false, false, false] rfl rfl (any_of HT_.out (by kernel_rfl)) (fun _ _ _ h => h) (Or.inl ⟨by rfl, ?_⟩) ?_ ?_
             rotate_left
             ·intro w'
              go_simp
              with_reducible rfl
             rotate_left
             ·simp only [Act.put, List.setIfInBounds_toArray, List.set_cons_zero, List.set_cons_succ, i64_w, i32_w]
              rfl
             refine pure_ (i := 4) (N := some 56) (v := ?_) (a' := ?_) #[true, false, true, false, true, false, false, false, false, false] rfl rfl (any_of HT_.out (by kernel_rfl)) (fun _ _ _ h => h) (Or.inl ⟨by rfl, ?_⟩) ?_ ?_
             rotate_left
             ·intro w'
              go_simp
              with_reducible rfl
             rotate_left
             ·simp only [Act.put, List.setIfInBounds_toArray, List.set_cons_zero, List.set_cons_succ, i64_w, i32_w]
              rfl
             refine take_ (i := 1) (N := some 53) (v := ?_) (a' := ?_) #[true, true, true, false, true, false, false, false, false, false] rfl rfl (take_ofW HT_.out HW_.out (by kernel_rfl)) (fun _ _ _ h => h) (Or.inl ⟨by rfl, ?_⟩) hHeld ?_ ?_
             rotate_left
             ·rintro w' ⟨s0, s1, s2, s3, s4, s5⟩
              go_simp
              with_reducible rfl
             rotate_left
             ·simp only [Act.put, List.setIfInBounds_toArray, List.set_cons_zero, List.set_cons_succ, i64_w, i32_w]
              rfl
             refine take_ (i := 3) (N := some 55) (v := ?_) (a' := ?_) #[true, true, true, true, true, false, false, false, false, false] rfl rfl (take_ofW HT_.out HW_.out (by kernel_rfl)) (fun _ _ _ h => h) (Or.inl ⟨by rfl, ?_⟩) hHeld ?_ ?_
             rotate_left
             ·rintro w' ⟨s0, s1, s2, s3, s4, s5⟩
              go_simp
              with_reducible rfl
             rotate_left
             ·simp only [Act.put, List.setIfInBounds_toArray, List.set_cons_zero, List.set_cons_succ, i64_w, i32_w]
              rfl
             refine pure_ (i := 5) (N := some 57) (v := ?_) (a' := ?_) #[true, true, true, true, true, true, false, false, false, false] rfl rfl (any_of HT_.out (by kernel_rfl)) (fun _ _ _ h => h) (Or.inl ⟨by rfl, ?_⟩) ?_ ?_
             rotate_left
             ·intro w'
              go_simp
              with_reducible rfl
             rotate_left
             ·simp only [Act.put, List.setIfInBounds_toArray, List.set_cons_zero, List.set_cons_succ, i64_w, i32_w]
              rfl
             refine pure_ (i := 6) (N := some 58) (v := ?_) (a' := ?_) #[true, true, true, true, true, true, true, false, false, false] rfl rfl (any_of HT_.out (by kernel_rfl)) (fun _ _ _ h => h) (Or.inl ⟨by rfl, ?_⟩) ?_ ?_
             rotate_left
             ·intro w'
              go_simp
              with_reducible rfl
             rotate_left
             ·simp only [Act.put, List.setIfInBounds_toArray, List.set_cons_zero, List.set_cons_succ, i64_w, i32_w]
              rfl
             refine take_ (i := 7) (N := some 59) (v := ?_) (a' := ?_) #[true, true, true, true, true, true, true, true, false, false] rfl rfl (take_ofW HT_.out HW_.out (by kernel_rfl)) (fun _ _ _ h => h) (Or.inl ⟨by rfl, ?_⟩) hHeld ?_ ?_
             rotate_left
             ·rintro w' ⟨s0, s1, s2, s3, s4, s5⟩
              go_simp
              with_reducible rfl
             rotate_left
             ·simp only [Act.put, List.setIfInBounds_toArray, List.set_cons_zero, List.set_cons_succ, i64_w, i32_w]
              rfl
             refine one_ (i := 8) (N := some 60) #[true, true, true, true, true, true, true, true, true, false] rfl rfl (one_of HT_.out (by kernel_rfl)) (by decide) (fun K hK => ?_)
             refine goes_ Try.func49 (by kernel_rfl) rfl #[.slice A0_0 l0_0.length c0_0, .string ((rd_T37 l1_0 x8_2).f0)] (by rfl) rfl rfl (by (try simp only [List.map_toArray, List.map_cons, List.map_nil]); first | done | rfl | (simp only [List.length_drop, List.length_take]; rfl)) ?_
             with_reducible refine (spec_outcomeOf.calls k2 _ _ l0_0 ((rd_T37 l1_0 x8_2).f0) t154 _ ?side1 ?side2 A52.out).mono ?_
             (case side1 => repeat (first | exact (Kd.C_below HR0_0.out HB.out) | (with_reducible refine Kd.C_alloc ?_ _) | (with_reducible refine Kd.C_drewN ?_ _) | (with_reducible refine Kd.C_drew ?_)))
             (case side2 => exact HC0_0.out)
             rintro e w' ⟨rfl, ⟨nd, rfl⟩⟩
             refine ⟨_, rfl, ?_⟩
             refine hK.out _ _ ⟨(blk_cell BK131.out 0).trans rfl, (blk_cell BK131.out 1).trans rfl, (blk_cell BK132.out 0).trans rfl, (blk_cell BK132.out 1).trans rfl, ((HB.out.cell (World.block_lt_of_cell? w _ hw153_0)).trans hw153_0), ((HB.out.cell (World.block_lt_of_cell? w _ hw153_1)).trans hw153_1)⟩ (fun hHeld => ?_)
             clear hK K
             refine norm_ (a' := ?_) ?_ ?_
             rotate_left
             ·show Act.put _ (some 60) _ = _
              simp only [Act.put, List.setIfInBounds_toArray, List.set_cons_zero, List.set_cons_succ, i64_w, i32_w]
              rfl
             refine pure_ (i := 9) (N := some 61) (v := ?_) (a' := ?_) #[true, true, true, true, true, true, true, true, true, true] rfl rfl (any_of HT_.out (by kernel_rfl)) (fun _ _ _ h => h) (Or.inl ⟨by rfl, ?_⟩) ?_ ?_
             rotate_left
             ·intro w'
              go_simp
              with_reducible rfl
             rotate_left
             ·simp only [Act.put, List.setIfInBounds_toArray, List.set_cons_zero, List.set_cons_succ, i64_w, i32_w]
              rfl
             refine done_ (done_of HT_.out (by kernel_rfl)) ?_
             try go_wp2
             (try (rw [drewN_self w59]; generalize hq_ : World.drewN w59 _ = w59; have n0_ : Aside0 (Kd.R k37 37 w59 w.heap.size (fun _ => True) u150000 x150000_2) := ⟨by rw [← hq_]; exact (rTo HO_150000.out)⟩; have n1_ : Aside0 (Kd.R Kd.string 9 w59 w.heap.size (fun _ => True) (.slice Ao21 y146.length co21) y146) := ⟨by rw [← hq_]; exact (rTo HO_150001.out)⟩; have n2_ : Aside0 (w59.heap[gb131]? = some (.cells #[.slice A0_0 l0_0.length c0_0, .slice A0_1 l0_1.length c0_1] 26 (0, 0))) := ⟨by rw [← hq_]; exact (bTo BK131.out)⟩; have n3_ : Aside0 (w59.heap[gb132]? = some (.cells #[.slice (some ad153) l1_0.length c1_0, .slice A1_1 l1_1.length c1_1] 26 (0, 0))) := ⟨by rw [← hq_]; exact (bTo BK132.out)⟩; have n4_ : Aside0 (w59.heap[gb133]? = some (.cells #[.slice none 0 0, .slice none 0 0] 26 (0, 0))) := ⟨by rw [← hq_]; exact (bTo BK133.out)⟩; have n5_ : Aside0 (w59.heap[gb149]? = some (.cells #[u150000, .slice Ao21 y146.length co21] 26 (0, 0))) := ⟨by rw [← hq_]; exact (bTo BK149.out)⟩; have n6_ : Aside0 (Below w.heap.size w w59) := ⟨by rw [← hq_]; exact (by repeat (first | (with_reducible first | exact HB.out | apply below_alloc | apply pw_below_drewN | apply below_drew1 | refine below_set ?_ GE131.out | refine below_set ?_ GE132.out | refine below_set ?_ GE133.out | refine below_set ?_ GE149.out) | exact HB.out))⟩; clear HO_150000 HO_150001 BK131 BK132 BK133 BK149 HB hq_; have HO_150000 := n0_; have HO_150001 := n1_; have BK131 := n2_; have BK132 := n3_; have BK133 := n4_; have BK149 := n5_; have HB := n6_; clear n0_ n1_ n2_ n3_ n4_ n5_ n6_))
             have n0_ := ak (Kd.R_drew HO_150000.out)
             have n1_ := ak (Kd.R_drew HO_150001.out)
             have n2_ := ak (blk_drew BK131.out)
             have n3_ := ak (blk_drew BK132.out)
             have n4_ := ak (blk_drew BK133.out)
             have n5_ := ak (blk_drew BK149.out)
             have n6_ := ak (below_drew1 HB.out)
             clear HO_150000
             clear HO_150001
             clear BK131
             clear BK132
             clear BK133
             clear BK149
             clear HB
             have HO_150000 := n0_
             have HO_150001 := n1_
             have BK131 := n2_
             have BK132 := n3_
             have BK133 := n4_
             have BK149 := n5_
             have HB := n6_
             clear n0_ n1_ n2_ n3_ n4_ n5_ n6_
             have p155 : 0 ≤ (x8_2 : Int) := of_decide_eq_true (by first | (with_reducible assumption) | assumption)
             have q155 : x8_2 < (l1_0.length : Int) := of_decide_eq_true (by first | (with_reducible assumption) | assumption)
             obtain ⟨ad155, e155, hx155_0, hx155_1⟩ := at_T37 HR1_0.out x8_2 p155 q155
             have hw155_1 := hx155_1
             have hw155_0 := hx155_0
             obtain rfl : ad153 = ad155 := (by injection e155)
             replace hx155_0 := (HB.out.cell (World.block_lt_of_cell? w _ hx155_0)).trans hx155_0
             replace hx155_1 := (HB.out.cell (World.block_lt_of_cell? w _ hx155_1)).trans hx155_1
             replace p155 := eq_true p155
             replace q155 := eq_true q155
             refine start_ (n := 11) (S := fun w' => w'.cell? ⟨gb149, 0, none⟩ = some (u150000) ∧ w'.cell? ⟨gb149, 1, none⟩ = some (.slice Ao21 y146.length co21) ∧ w'.cell? ⟨gb132, 0, none⟩ = some (.slice (some ad153) l1_0.length c1_0) ∧ w'.cell? ⟨gb132, 1, none⟩ = some (.slice A1_1 l1_1.length c1_1) ∧ w'.cell? (ad153.add ((x8_2).toNat * 2)) = some (.string ((rd_T37 l1_0 x8_2).f0)) ∧ w'.cell? ⟨(ad153.add ((x8_2).toNat * 2)).block, (ad153.add ((x8_2).toNat * 2)).off + 1, none⟩ = some (.int .i64 ((rd_T37 l1_0 x8_2).f1))) (ds := [10]) #[false, false, false, false, false, false, false, false, false, false, false] (by kernel_rfl) rfl rfl ⟨(blk_cell BK149.out 0).trans rfl, (blk_cell BK149.out 1).trans rfl, (blk_cell BK132.out 0).trans rfl, (blk_cell BK132.out 1).trans rfl, ((HB.out.cell (World.block_lt_of_cell? w _ hw155_0)).trans hw155_0), ((HB.out.cell (World.block_lt_of_cell? w _ hw155_1)).trans hw155_1)⟩ (fun hHeld => ?_); refine with_tabW spec_MergeReports.tab12 spec_MergeReports.bits12 (fun HT_ HW_ => ?_)
             generalize w59.drew = w60 at HO_150000 HO_150001 BK131 BK132 BK133 BK149 HB hx155_0 hx155_1 hHeld ⊢
             refine pure_ (i := 0) (N := some 62) (v := ?_) (a' := ?_) #[true, false, false, false, false, false, false, false, false, false, false] rfl rfl (any_of HT_.out (by kernel_rfl)) (fun _ _ _ h => h) (Or.inl ⟨by rfl, ?_⟩) ?_ ?_
             rotate_left
             ·intro w'
              go_simp
              with_reducible rfl
             rotate_left
             ·simp only [Act.put, List.setIfInBounds_toArray, List.set_cons_zero, List.set_cons_succ, i64_w, i32_w]
              rfl
             refine pure_ (i := 2) (N := some 64) (v := ?_) (a' := ?_) #[true, false, true, false, false, false, false, false, false, false, false] rfl rfl (any_of HT_.out (by kernel_rfl)) (fun _ _ _ h => h) (Or.inl ⟨by rfl, ?_⟩) ?_ ?_
             rotate_left
             ·intro w'
              go_simp
              with_reducible rfl
             rotate_left
             ·simp only [Act.put, List.setIfInBounds_toArray, List.set_cons_zero, List.set_cons_succ, i64_w, i32_w]
              rfl
             refine pure_ (i := 4) (N := some 66) (v := ?_) (a' := ?_) #[true, false, true, false, true, false, false, false, false, false, false] rfl rfl (any_of HT_.out (by kernel_rfl)) (fun _ _ _ h => h) (Or.inl ⟨by rfl, ?_⟩) ?_ ?_
             rotate_left
             ·intro w'
              go_simp
              with_reducible rfl
             rotate_left
             ·simp only [Act.put, List.setIfInBounds_toArray, List.set_cons_zero, List.set_cons_succ, i64_w, i32_w]
              rfl
             refine take_ (i := 1) (N := some 63) (v := ?_) (a' := ?_) #[true, true, true, false, true, false, false, false, false, false, false] rfl rfl (take_ofW HT_.out HW_.out (by kernel_rfl)) (fun _ _ _ h => h) (Or.inl ⟨by rfl, ?_⟩) hHeld ?_ ?_
             rotate_left
             ·rintro w' ⟨s0, s1, s2, s3, s4, s5⟩
              go_simp
              with_reducible rfl
             rotate_left
             ·simp only [Act.put, List.setIfInBounds_toArray, List.set_cons_zero, List.set_cons_succ, i64_w, i32_w]
              rfl
             refine take_ (i := 3) (N := some 65) (v := ?_) (a' := ?_) #[true, true, true, true, true, false, false, false, false, false, false] rfl rfl (take_ofW HT_.out HW_.out (by kernel_rfl)) (fun _ _ _ h => h) (Or.inl ⟨by rfl, ?_⟩) hHeld ?_ ?_
             rotate_left
             ·rintro w' ⟨s0, s1, s2, s3, s4, s5⟩
              go_simp
              with_reducible rfl
             rotate_left
             ·simp only [Act.put, List.setIfInBounds_toArray, List.set_cons_zero, List.set_cons_succ, i64_w, i32_w]
              rfl
             refine pure_ (i := 5) (N := some 67) (v := ?_) (a' := ?_) #[true, true, true, true, true, true, false, false, false, false, false] rfl rfl (any_of HT_.out (by kernel_rfl)) (fun _ _ _ h => h) (Or.inl ⟨by rfl, ?_⟩) ?_ ?_
             rotate_left
             ·intro w'
              go_simp
              with_reducible rfl
             rotate_left
             ·simp only [Act.put, List.setIfInBounds_toArray, List.set_cons_zero, List.set_cons_succ, i64_w, i32_w]
              rfl
             refine take_ (i := 6) (N := some 68) (v := ?_) (a' := ?_) #[true, true, true, true, true, true, true, false, false, false, false] rfl rfl (take_ofW HT_.out HW_.out (by kernel_rfl)) (fun _ _ _ h => h) (Or.inl ⟨by rfl, ?_⟩) hHeld ?_ ?_
             rotate_left
             ·rintro w' ⟨s0, s1, s2, s3, s4, s5⟩
              go_simp
              with_reducible rfl
             rotate_left
             ·simp only [Act.put, List.setIfInBounds_toArray, List.set_cons_zero, List.set_cons_succ, i64_w, i32_w]
              rfl
             refine one_ (i := 7) (N := some 69) #[true, true, true, true, true, true, true, true, false, false, false] rfl rfl (one_of HT_.out (by kernel_rfl)) (by decide) (fun K hK => ?_)
             refine value_ (w1 := ?_) (v := ?_) (by rfl) rfl ?_ ?_
             rotate_left 2
             ·go_simp
              constructor
              ·rfl
              ·rfl
             refine hK.out _ _ ⟨(blk_cell (blk_alloc BK149.out _) 0).trans rfl, (blk_cell (blk_alloc BK149.out _) 1).trans rfl, (blk_cell (blk_alloc BK132.out _) 0).trans rfl, (blk_cell (blk_alloc BK132.out _) 1).trans rfl, (World.cell?_alloc_lt _ _ _ (World.block_lt_of_cell? _ _ (((HB.out.cell (World.block_lt_of_cell? w _ hw155_0)).trans hw155_0)))).trans (((HB.out.cell (World.block_lt_of_cell? w _ hw155_0)).trans hw155_0)), (World.cell?_alloc_lt _ _ _ (World.block_lt_of_cell? _ _ (((HB.out.cell (World.block_lt_of_cell? w _ hw155_1)).trans hw155_1)))).trans (((HB.out.cell (World.block_lt_of_cell? w _ hw155_1)).trans hw155_1))⟩ (fun hHeld => ?_)
             clear hK K
             refine norm_ (a' := ?_) ?_ ?_
             rotate_left
             ·show Act.put _ (some 69) _ = _
              simp only [Act.put, List.setIfInBounds_toArray, List.set_cons_zero, List.set_cons_succ, i64_w, i32_w]
              rfl
             refine one_ (i := 8) (N := some 70) #[true, true, true, true, true, true, true, true, true, false, false] rfl rfl (one_of HT_.out (by kernel_rfl)) (by decide) (fun K hK => ?_)
             refine Kd.R_append_step k37 (w0 := w) w.heap.size (by rfl) (.tmp 63) (.tmp 69) 23 37 (.agg #[(.string ⟨#[]⟩), (.int .i64 0)]) 24 rfl Try.underlying23 info37 rfl (by decide) (by omega) u150000 x150000_2 (⟨(rd_T37 l1_0 x8_2).f0, (rd_T37 l1_0 x8_2).f1⟩ : S37) [.string ((rd_T37 l1_0 x8_2).f0), .int .i64 ((rd_T37 l1_0 x8_2).f1)] (fun _ => True) (fun _ => False) rfl rfl ?aP (fun _ hk => hk.elim) ?aF ?aO ?aB ?aS ?aL ?_
             (case aP => exact k37_mkM _ _ _ (⟨(rd_T37 l1_0 x8_2).f0, (rd_T37 l1_0 x8_2).f1⟩ : S37))
             (case aB => exact (by repeat (first | (with_reducible first | exact HB.out | apply below_alloc | apply pw_below_drewN | apply below_drew1 | refine below_set ?_ GE131.out | refine below_set ?_ GE132.out | refine below_set ?_ GE133.out | refine below_set ?_ GE149.out) | exact HB.out)))
             (case aF => exact (fun _ _ => trivial))
             (case aO => exact (rTo HO_150000.out))
             (case aS => exact (below_size (by repeat (first | (with_reducible first | exact HB.out | apply below_alloc | apply pw_below_drewN | apply below_drew1 | refine below_set ?_ GE131.out | refine below_set ?_ GE132.out | refine below_set ?_ GE133.out | refine below_set ?_ GE149.out) | exact HB.out))))
             (case aL => have := LMc54.out; omega)
             intro v157 w61 ho hb hg hat
             rw [← Ny156.out] at ho
             have n0_ := ak (Kd.R_over' (rTo HO_150001.out) (Kd.R_typed (rTo HO_150000.out)) (by decide) hg)
             have n1_ := ak (blk_grown (g := gb131) (o := .cells #[.slice A0_0 l0_0.length c0_0, .slice A0_1 l0_1.length c0_1] 26 (0, 0)) (bTo BK131.out) hg (Kd.R_ne HO_150000.out BK131.out (by decide)))
             have n2_ := ak (blk_grown (g := gb132) (o := .cells #[.slice (some ad153) l1_0.length c1_0, .slice A1_1 l1_1.length c1_1] 26 (0, 0)) (bTo BK132.out) hg (Kd.R_ne HO_150000.out BK132.out (by decide)))
             have n3_ := ak (blk_grown (g := gb133) (o := .cells #[.slice none 0 0, .slice none 0 0] 26 (0, 0)) (bTo BK133.out) hg (Kd.R_ne HO_150000.out BK133.out (by decide)))
             have n4_ := ak (blk_grown (g := gb149) (o := .cells #[u150000, .slice Ao21 y146.length co21] 26 (0, 0)) (bTo BK149.out) hg (Kd.R_ne HO_150000.out BK149.out (by decide)))
             have n5_ := ak (hb)
             have n6_ := ak (ho)
             clear HO_150001
             clear BK131
             clear BK132
             clear BK133
             clear BK149
             clear HB
             clear HO_150000
             have HO_150001 := n0_
             have BK131 := n1_
             have BK132 := n2_
             have BK133 := n3_
             have BK149 := n4_
             have HB := n5_
             have HO158 := n6_
             clear n0_ n1_ n2_ n3_ n4_ n5_ n6_
             clear ho hb hg hat
             obtain ⟨Ao62, co62, eo62⟩ := Kd.R_slice HO158.out
             (first | subst eo62 | (injection eo62 with f1_ f2_ f3_; have f4_ := f1_.symm; have f5_ := f3_.symm; clear f1_ f2_ f3_; subst f4_; subst f5_))
             refine hK.out _ _ ⟨(blk_cell BK149.out 0).trans rfl, (blk_cell BK149.out 1).trans rfl, (blk_cell BK132.out 0).trans rfl, (blk_cell BK132.out 1).trans rfl, ((HB.out.cell (World.block_lt_of_cell? w _ hw155_0)).trans hw155_0), ((HB.out.cell (World.block_lt_of_cell? w _ hw155_1)).trans hw155_1)⟩ (fun hHeld => ?_)
             clear hK K
             refine norm_ (a' := ?_) ?_ ?_
             rotate_left
             ·show Act.put _ (some 70) _ = _
              simp only [Act.put, List.setIfInBounds_toArray, List.set_cons_zero, List.set_cons_succ, i64_w, i32_w]
              rfl
             refine pure_ (i := 9) (N := some 71) (v := ?_) (a' := ?_) #[true, true, true, true, true, true, true, true, true, true, false] rfl rfl (any_of HT_.out (by kernel_rfl)) (fun _ _ _ h => h) (Or.inl ⟨by rfl, ?_⟩) ?_ ?_
             rotate_left
             ·intro w'
              go_simp
              with_reducible rfl
             rotate_left
             ·simp only [Act.put, List.setIfInBounds_toArray, List.set_cons_zero, List.set_cons_succ, i64_w, i32_w]
              rfl
             refine last_ (i := 10) (N := none) #[true, true, true, true, true, true, true, true, true, true, true] rfl rfl (one_of HT_.out (by kernel_rfl)) (by decide) (fun K hK => ?_)
             have hs63 : w61.cell? ⟨gb149, 0, none⟩ = some (u150000) := (blk_cell BK149.out 0).trans rfl
             have hfs63 := blk_frozen BK149.out 0
             have hns63_0 := NB131_149.out
             have hns63_1 := NB132_149.out
             have hns63_2 := NB133_149.out
             have hms63_0 := NB149_131.out
             have hms63_1 := NB149_132.out
             have hms63_2 := NB149_133.out
             refine skip_ (w1 := ?_) (by rfl) rfl ?_ ?_
             rotate_left
             ·go_simp
              rfl
             refine hK.out _ _ ?_
             clear hK K
             refine done_ (done_of HT_.out (by kernel_rfl)) ?_
             try go_wp2
             go_roundg k2
             case measure => have := HK1.out; have := HK2.out; omega
             case rel => exact ⟨(wrap64 (x8_2 + 1)), (y156), (.slice Ao62 y156.length co62), (by first | rfl | (simp; done) | (simp [*]; done)), H', ⟨by have := HK1.out; have := HK2.out; omega⟩, ⟨by (with_reducible repeat (first | apply Kd.R_alloc | apply Kd.R_drewN | apply Kd.R_drew)); exact Kd.R_mono (Kd.R_far (p := ⟨gb149, 0, none⟩) (Kd.R_types HO158.out BK149.out (by decide)) (fun _ hk => hk.2) (.slice Ao62 y156.length co62)) (fun _ hk => trivial)⟩, ⟨by (with_reducible repeat (first | apply Kd.R_alloc | apply Kd.R_drewN | apply Kd.R_drew)); exact Kd.R_mono (Kd.R_far (p := ⟨gb149, 0, none⟩) (Kd.R_types HO_150001.out BK149.out (by decide)) (fun _ hk => hk.2) (.slice Ao62 y156.length co62)) (fun _ hk => trivial)⟩, ⟨by (with_reducible repeat (first | apply blk_drewN | apply blk_drew | apply blk_alloc)); refine blk_far ?_ NB131_149.out _; (with_reducible repeat (first | apply blk_drewN | apply blk_drew | apply blk_alloc)); exact BK131.out⟩, ⟨by (with_reducible repeat (first | apply blk_drewN | apply blk_drew | apply blk_alloc)); refine blk_far ?_ NB132_149.out _; (with_reducible repeat (first | apply blk_drewN | apply blk_drew | apply blk_alloc)); exact BK132.out⟩, ⟨by (with_reducible repeat (first | apply blk_drewN | apply blk_drew | apply blk_alloc)); refine blk_far ?_ NB133_149.out _; (with_reducible repeat (first | apply blk_drewN | apply blk_drew | apply blk_alloc)); exact BK133.out⟩, ⟨by (with_reducible repeat (first | apply blk_drewN | apply blk_drew | apply blk_alloc)); refine blk_put (cs := #[u150000, .slice Ao21 y146.length co21]) ?_ 0 _ rfl; (with_reducible repeat (first | apply blk_drewN | apply blk_drew | apply blk_alloc)); exact BK149.out⟩, ⟨by repeat (first | (with_reducible first | exact HB.out | apply below_alloc | apply pw_below_drewN | apply below_drew1 | refine below_set ?_ GE131.out | refine below_set ?_ GE132.out | refine below_set ?_ GE133.out | refine below_set ?_ GE149.out) | exact HB.out)⟩⟩
            ·rw [if_neg c54] at H
             exact absurd H (by simp)
           ·rw [if_neg c53] at H
            have c53b0 : decide (t154 < 0) = false := decide_eq_false c53
            clear c53
            have H' := ak H
            clear H
            have hnb64 := NB132_131.out
            have hnc64 := NB131_132.out
            have hnb65 := NB132_133.out
            have hnc65 := NB133_132.out
            have hnb66 := NB132_149.out
            have hnc66 := NB149_132.out
            have hcz67_0 : wr.cell? ⟨gb132, 0, none⟩ = some (.slice A1_0 l1_0.length c1_0) := (blk_cell BK132.out 0).trans rfl
            have hcz67_1 : wr.cell? ⟨gb132, 1, none⟩ = some (.slice A1_1 l1_1.length c1_1) := (blk_cell BK132.out 1).trans rfl
            have hfz67_0 := blk_frozen BK132.out 0
            have hfz67_1 := blk_frozen BK132.out 1
            try go_wp2
            have n0_ := ak (Kd.R_drew HO_150000.out)
            have n1_ := ak (Kd.R_drew HO_150001.out)
            have n2_ := ak (blk_drew BK131.out)
            have n3_ := ak (blk_drew BK132.out)
            have n4_ := ak (blk_drew BK133.out)
            have n5_ := ak (blk_drew BK149.out)
            have n6_ := ak (below_drew1 HB.out)
            clear HO_150000
            clear HO_150001
            clear BK131
            clear BK132
            clear BK133
            clear BK149
            clear HB
            have HO_150000 := n0_
            have HO_150001 := n1_
            have BK131 := n2_
            have BK132 := n3_
            have BK133 := n4_
            have BK149 := n5_
            have HB := n6_
            clear n0_ n1_ n2_ n3_ n4_ n5_ n6_
            have p153 : 0 ≤ (x8_2 : Int) := of_decide_eq_true (by first | (with_reducible assumption) | assumption)
            have q153 : x8_2 < (l1_0.length : Int) := of_decide_eq_true (by first | (with_reducible assumption) | assumption)
            obtain ⟨ad153, e153, hx153_0, hx153_1⟩ := at_T37 HR1_0.out x8_2 p153 q153
            have hw153_1 := hx153_1
            have hw153_0 := hx153_0
            cases e153
            replace hx153_0 := (HB.out.cell (World.block_lt_of_cell? w _ hx153_0)).trans hx153_0
            replace hx153_1 := (HB.out.cell (World.block_lt_of_cell? w _ hx153_1)).trans hx153_1
            replace p153 := eq_true p153
            replace q153 := eq_true q153
            refine start_ (n := 10) (S := fun w' => w'.cell? ⟨gb131, 0, none⟩ = some (.slice A0_0 l0_0.length c0_0) ∧ w'.cell? ⟨gb131, 1, none⟩ = some (.slice A0_1 l0_1.length c0_1) ∧ w'.cell? ⟨gb132, 0, none⟩ = some (.slice (some ad153) l1_0.length c1_0) ∧ w'.cell? ⟨gb132, 1, none⟩ = some (.slice A1_1 l1_1.length c1_1) ∧ w'.cell? (ad153.add ((x8_2).toNat * 2)) = some (.string ((rd_T37 l1_0 x8_2).f0)) ∧ w'.cell? ⟨(ad153.add ((x8_2).toNat * 2)).block, (ad153.add ((x8_2).toNat * 2)).off + 1, none⟩ = some (.int .i64 ((rd_T37 l1_0 x8_2).f1))) (ds := []) #[false, false, false, false, false, false, false, false, false, false] (by kernel_rfl) rfl rfl ⟨(blk_cell BK131.out 0).trans rfl, (blk_cell BK131.out 1).trans rfl, (blk_cell BK132.out 0).trans rfl, (blk_cell BK132.out 1).trans rfl, ((HB.out.cell (World.block_lt_of_cell? w _ hw153_0)).trans hw153_0), ((HB.out.cell (World.block_lt_of_cell? w _ hw153_1)).trans hw153_1)⟩ (fun hHeld => ?_); refine with_tabW spec_MergeReports.tab11 spec_MergeReports.bits11 (fun HT_ HW_ => ?_)
            generalize wr.drew = w68 at HO_150000 HO_150001 BK131 BK132 BK133 BK149 HB hx153_0 hx153_1 hHeld ⊢
            refine pure_ (i := 0) (N := some 52) (v := ?_) (a' := ?_) #[true, false, false, false, false, false, false, false, false, false] rfl rfl (any_of HT_.out (by kernel_rfl)) (fun _ _ _ h => h) (Or.inl ⟨by rfl, ?_⟩) ?_ ?_
            rotate_left
            ·intro w'
             go_simp
             with_reducible rfl
            rotate_left
            ·simp only [Act.put, List.setIfInBounds_toArray, List.set_cons_zero, List.set_cons_succ, i64_w, i32_w]
             rfl
            refine pure_ (i := 2) (N := some 54) (v := ?_) (a' := ?_) #[true, false, true, false, false, false, false, false, false, false] rfl rfl (any_of HT_.out (by kernel_rfl)) (fun _ _ _ h => h) (Or.inl ⟨by rfl, ?_⟩) ?_ ?_
            rotate_left
            ·intro w'
             go_simp
             with_reducible rfl
            rotate_left
            ·simp only [Act.put, List.setIfInBounds_toArray, List.set_cons_zero, List.set_cons_succ, i64_w, i32_w]
             rfl
            refine pure_ (i := 4) (N := some 56) (v := ?_) (a' := ?_) #[true, false, true, false, true, false, false, false, false, false] rfl rfl (any_of HT_.out (by kernel_rfl)) (fun _ _ _ h => h) (Or.inl ⟨by rfl, ?_⟩) ?_ ?_
            rotate_left
            ·intro w'
             go_simp
             with_reducible rfl
            rotate_left
            ·simp only [Act.put, List.setIfInBounds_toArray, List.set_cons_zero, List.set_cons_succ, i64_w, i32_w]
             rfl
            refine take_ (i := 1) (N := some 53) (v := ?_) (a' := ?_) #[true, true, true, false, true, false, false, false, false, false] rfl rfl (take_ofW HT_.out HW_.out (by kernel_rfl)) (fun _ _ _ h => h) (Or.inl ⟨by rfl, ?_⟩) hHeld ?_ ?_
            rotate_left
            ·rintro w' ⟨s0, s1, s2, s3, s4, s5⟩
             go_simp
             with_reducible rfl
            rotate_left
            ·simp only [Act.put, List.setIfInBounds_toArray, List.set_cons_zero, List.set_cons_succ, i64_w, i32_w]
             rfl
            refine take_ (i := 3) (N := some 55) (v := ?_) (a' := ?_) #[true, true, true, true, true, false, false, false, false, false] rfl rfl (take_ofW HT_.out HW_.out (by kernel_rfl)) (fun _ _ _ h => h) (Or.inl ⟨by rfl, ?_⟩) hHeld ?_ ?_
            rotate_left
            ·rintro w' ⟨s0, s1, s2, s3, s4, s5⟩
             go_simp
             with_reducible rfl
            rotate_left
            ·simp only [Act.put, List.setIfInBounds_toArray, List.set_cons_zero, List.set_cons_succ, i64_w, i32_w]
             rfl
            refine pure_ (i := 5) (N := some 57) (v := ?_) (a' := ?_) #[true, true, true, true, true, true, false, false, false, false] rfl rfl (any_of HT_.out (by kernel_rfl)) (fun _ _ _ h => h) (Or.inl ⟨by rfl, ?_⟩) ?_ ?_
            rotate_left
            ·intro w'
             go_simp
             with_reducible rfl
            rotate_left
            ·simp only [Act.put, List.setIfInBounds_toArray, List.set_cons_zero, List.set_cons_succ, i64_w, i32_w]
             rfl
            refine pure_ (i := 6) (N := some 58) (v := ?_) (a' := ?_) #[true, true, true, true, true, true, true, false, false, false] rfl rfl (any_of HT_.out (by kernel_rfl)) (fun _ _ _ h => h) (Or.inl ⟨by rfl, ?_⟩) ?_ ?_
            rotate_left
            ·intro w'
             go_simp
             with_reducible rfl
            rotate_left
            ·simp only [Act.put, List.setIfInBounds_toArray, List.set_cons_zero, List.set_cons_succ, i64_w, i32_w]
             rfl
            refine take_ (i := 7) (N := some 59) (v := ?_) (a' := ?_) #[true, true, true, true, true, true, true, true, false, false] rfl rfl (take_ofW HT_.out HW_.out (by kernel_rfl)) (fun _ _ _ h => h) (Or.inl ⟨by rfl, ?_⟩) hHeld ?_ ?_
            rotate_left
            ·rintro w' ⟨s0, s1, s2, s3, s4, s5⟩
             go_simp
             with_reducible rfl
            rotate_left
            ·simp only [Act.put, List.setIfInBounds_toArray, List.set_cons_zero, List.set_cons_succ, i64_w, i32_w]
             rfl
            refine one_ (i := 8) (N := some 60) #[true, true, true, true, true, true, true, true, true, false] rfl rfl (one_of HT_.out (by kernel_rfl)) (by decide) (fun K hK => ?_)
            refine goes_ Try.func49 (by kernel_rfl) rfl #[.slice A0_0 l0_0.length c0_0, .string ((rd_T37 l1_0 x8_2).f0)] (by rfl) rfl rfl (by (try simp only [List.map_toArray, List.map_cons, List.map_nil]); first | done | rfl | (simp only [List.length_drop, List.length_take]; rfl)) ?_
            with_reducible refine (spec_outcomeOf.calls k2 _ _ l0_0 ((rd_T37 l1_0 x8_2).f0) t154 _ ?side1 ?side2 A52.out).mono ?_
            (case side1 => repeat (first | exact (Kd.C_below HR0_0.out HB.out) | (with_reducible refine Kd.C_alloc ?_ _) | (with_reducible refine Kd.C_drewN ?_ _) | (with_reducible refine Kd.C_drew ?_)))
            (case side2 => exact HC0_0.out)
            rintro e w' ⟨rfl, ⟨nd, rfl⟩⟩
            refine ⟨_, rfl, ?_⟩
            refine hK.out _ _ ⟨(blk_cell BK131.out 0).trans rfl, (blk_cell BK131.out 1).trans rfl, (blk_cell BK132.out 0).trans rfl, (blk_cell BK132.out 1).trans rfl, ((HB.out.cell (World.block_lt_of_cell? w _ hw153_0)).trans hw153_0), ((HB.out.cell (World.block_lt_of_cell? w _ hw153_1)).trans hw153_1)⟩ (fun hHeld => ?_)
            clear hK K
            refine norm_ (a' := ?_) ?_ ?_
            rotate_left
            ·show Act.put _ (some 60) _ = _
             simp only [Act.put, List.setIfInBounds_toArray, List.set_cons_zero, List.set_cons_succ, i64_w, i32_w]
             rfl
            refine pure_ (i := 9) (N := some 61) (v := ?_) (a' := ?_) #[true, true, true, true, true, true, true, true, true, true] rfl rfl (any_of HT_.out (by kernel_rfl)) (fun _ _ _ h => h) (Or.inl ⟨by rfl, ?_⟩) ?_ ?_
            rotate_left
            ·intro w'
             go_simp
             with_reducible rfl
            rotate_left
            ·simp only [Act.put, List.setIfInBounds_toArray, List.set_cons_zero, List.set_cons_succ, i64_w, i32_w]
             rfl
            refine done_ (done_of HT_.out (by kernel_rfl)) ?_
            try go_wp2
            go_roundg k2
            case measure => have := HK1.out; have := HK2.out; omega
            case rel => exact ⟨(wrap64 (x8_2 + 1)), (x150000_2), (u150000), (by first | rfl | (simp; done) | (simp [*]; done)), H', ⟨by have := HK1.out; have := HK2.out; omega⟩, ⟨by (with_reducible repeat (first | apply Kd.R_alloc | apply Kd.R_drewN | apply Kd.R_drew)); exact HO_150000.out⟩, ⟨by (with_reducible repeat (first | apply Kd.R_alloc | apply Kd.R_drewN | apply Kd.R_drew)); exact HO_150001.out⟩, ⟨by (with_reducible repeat (first | apply blk_drewN | apply blk_drew | apply blk_alloc)); exact BK131.out⟩, ⟨by (with_reducible repeat (first | apply blk_drewN | apply blk_drew | apply blk_alloc)); exact BK132.out⟩, ⟨by (with_reducible repeat (first | apply blk_drewN | apply blk_drew | apply blk_alloc)); exact BK133.out⟩, ⟨by (with_reducible repeat (first | apply blk_drewN | apply blk_drew | apply blk_alloc)); exact BK149.out⟩, ⟨by repeat (first | (with_reducible first | exact HB.out | apply below_alloc | apply pw_below_drewN | apply below_drew1 | refine below_set ?_ GE131.out | refine below_set ?_ GE132.out | refine below_set ?_ GE133.out | refine below_set ?_ GE149.out) | exact HB.out)⟩⟩
          ·rw [if_neg c51] at H
           exact absurd H (by simp)
         ·rw [if_neg c50] at H
          have c50b0 : decide (x8_2 < (l1_0.length : Int)) = false := decide_eq_false c50
          clear c50
          simp only [Option.some.injEq, Prod.mk.injEq] at H
          obtain ⟨rfl, rfl⟩ := H
          have hnb69 := NB132_131.out
          have hnc69 := NB131_132.out
          have hnb70 := NB132_133.out
          have hnc70 := NB133_132.out
          have hnb71 := NB132_149.out
          have hnc71 := NB149_132.out
          have hcz72_0 : wr.cell? ⟨gb132, 0, none⟩ = some (.slice A1_0 l1_0.length c1_0) := (blk_cell BK132.out 0).trans rfl
          have hcz72_1 : wr.cell? ⟨gb132, 1, none⟩ = some (.slice A1_1 l1_1.length c1_1) := (blk_cell BK132.out 1).trans rfl
          have hfz72_0 := blk_frozen BK132.out 0
          have hfz72_1 := blk_frozen BK132.out 1
          have hnb73 := NB149_131.out
          have hnc73 := NB131_149.out
          have hnb74 := NB149_133.out
          have hnc74 := NB133_149.out
          have hcz75_0 : wr.cell? ⟨gb149, 0, none⟩ = some (u150000) := (blk_cell BK149.out 0).trans rfl
          have hcz75_1 : wr.cell? ⟨gb149, 1, none⟩ = some (.slice Ao21 y146.length co21) := (blk_cell BK149.out 1).trans rfl
          have hfz75_0 := blk_frozen BK149.out 0
          have hfz75_1 := blk_frozen BK149.out 1
          obtain ⟨Ao76, co76, eo76⟩ := Kd.R_slice HO_150000.out
          subst eo76
          have hnb77 := NB133_131.out
          have hnc77 := NB131_133.out
          have hcz78_0 : wr.cell? ⟨gb133, 0, none⟩ = some (.slice none 0 0) := (blk_cell BK133.out 0).trans rfl
          have hcz78_1 : wr.cell? ⟨gb133, 1, none⟩ = some (.slice none 0 0) := (blk_cell BK133.out 1).trans rfl
          have hfz78_0 := blk_frozen BK133.out 0
          have hfz78_1 := blk_frozen BK133.out 1
          go_wp2
          refine bodyPost_ret (results_cell_row rfl _ _ gb133 26 #[.slice Ao76 x150000_2.length co76, .slice Ao21 y146.length co21] (0, 0) _ rfl (by (with_reducible repeat (first | apply blk_drewN | apply blk_drew | apply blk_alloc)); refine blk_put (cs := #[.slice Ao76 x150000_2.length co76, .slice none 0 0]) ?_ 1 _ rfl; (with_reducible repeat (first | apply blk_drewN | apply blk_drew | apply blk_alloc)); refine blk_put (cs := #[.slice none 0 0, .slice none 0 0]) ?_ 0 _ rfl; (with_reducible repeat (first | apply blk_drewN | apply blk_drew | apply blk_alloc)); exact BK133.out) Try.underlying26 rfl (by kernel_rfl)) rfl ?_
          exact ⟨_, _, by first | rfl | (simp [errW_none, errW_some] <;> rfl) | (simp [*, errW_none, errW_some] <;> rfl), by (with_reducible repeat (first | apply Kd.R_alloc | apply Kd.R_drewN | apply Kd.R_drew)); exact Kd.R_mono (Kd.R_far (p := ⟨gb133, 1, none⟩) (Kd.R_far (p := ⟨gb133, 0, none⟩) (Kd.R_types HO_150000.out BK133.out (by decide)) (fun _ hk => hk.2) (.slice Ao76 x150000_2.length co76)) (fun _ hk => hk.2) (.slice Ao21 y146.length co21)) (fun _ hk => trivial), by (with_reducible repeat (first | apply Kd.R_alloc | apply Kd.R_drewN | apply Kd.R_drew)); exact Kd.R_mono (Kd.R_far (p := ⟨gb133, 1, none⟩) (Kd.R_far (p := ⟨gb133, 0, none⟩) (Kd.R_types HO_150001.out BK133.out (by decide)) (fun _ hk => hk.2) (.slice Ao76 x150000_2.length co76)) (fun _ hk => hk.2) (.slice Ao21 y146.length co21)) (fun _ hk => trivial), by repeat (first | (with_reducible first | exact HB.out | apply below_alloc | apply pw_below_drewN | apply below_drew1 | refine below_set ?_ GE131.out | refine below_set ?_ GE132.out | refine below_set ?_ GE133.out | refine below_set ?_ GE149.out) | exact HB.out)⟩
   ·rw [if_neg c5] at H
    exact absurd H (by simp)
  ·rw [if_neg c4] at H
   exact absurd H (by simp)
 ·rw [if_neg c3] at H
  exact absurd H (by simp)

end Go.Proofs.Ytfpoihcpjmkbkaa.OFnExactMergeReports

-- Written by a program of this session (the kit's printing program with additions of this session's own); Lean checks it.
import Derived.Test.YtfpoihcpjmkbkaaOFnExactMergeReportsx0
import Derived.Test.YtfpoihcpjmkbkaaOFnExactMergeReportsx1
import Derived.Test.YtfpoihcpjmkbkaaOFnExactMergeReportsx2
import Derived.Test.YtfpoihcpjmkbkaaOFnExactMergeReportsx3
import Derived.Test.YtfpoihcpjmkbkaaOFnExactMergeReportsx4
import Derived.Test.YtfpoihcpjmkbkaaOFnExactMergeReportsx5
import Derived.Test.YtfpoihcpjmkbkaaOFnExactMergeReportsx6
namespace Go.Proofs.Ytfpoihcpjmkbkaa.OFnExactMergeReports
open Go.RowKit Go.Proofs.YtfpoihcpjmkbkaaW.PrintWords Go.Proofs.YtfpoihcpjmkbkaaW.PrintLast Go.Proofs.YtfpoihcpjmkbkaaW.PrintMore
attribute [local go_sem] max2_int min2_int max_two min_two max_three min_three max_four min_four   -- for this text's walks alone
set_option linter.unusedVariables false
set_option linter.unusedSimpArgs false

set_option maxHeartbeats 8000000 in
set_option maxRecDepth 100000 in
theorem laws_FnExactMergeReports.calls (k : Nat) (A0_0 : Option Addr) (c0_0 : Nat) (l0_0 : List (S80)) (A0_1 : Option Addr) (c0_1 : Nat) (l0_1 : List ByteArray) (A1_0 : Option Addr) (c1_0 : Nat) (l1_0 : List (S80)) (A1_1 : Option Addr) (c1_1 : Nat) (l1_1 : List ByteArray) (r : Bool) (w : World) (hr0_0 : Kd.C k80 w A0_0 l0_0.length l0_0) (hc0_0 : l0_0.length ≤ c0_0) (hr0_1 : Kd.C Kd.string w A0_1 l0_1.length l0_1) (hc0_1 : l0_1.length ≤ c0_1) (hr1_0 : Kd.C k80 w A1_0 l1_0.length l1_0) (hc1_0 : l1_0.length ≤ c1_0) (hr1_1 : Kd.C Kd.string w A1_1 l1_1.length l1_1) (hc1_1 : l1_1.length ≤ c1_1) (h : laws_FnExactMergeReports.f k l0_0 l0_1 l1_0 l1_1 = some r) :
  Calls Try.prog 9 #[.agg #[.slice A0_0 l0_0.length c0_0, .slice A0_1 l0_1.length c0_1], .agg #[.slice A1_0 l1_0.length c1_0, .slice A1_1 l1_1.length c1_1]] w fun e w' => e = .returned (.bool r) ∧ Below w.heap.size w w' := by
 have hu41 := Try.underlying41
 have hu26 := Try.underlying26
 have HR0_0 := ak hr0_0
 have HC0_0 := ak hc0_0
 clear hr0_0 hc0_0
 have HR0_1 := ak hr0_1
 have HC0_1 := ak hc0_1
 clear hr0_1 hc0_1
 have HR1_0 := ak hr1_0
 have HC1_0 := ak hc1_0
 clear hr1_0 hc1_0
 have HR1_1 := ak hr1_1
 have HC1_1 := ak hc1_1
 clear hr1_1 hc1_1
 have HB := ak (Below.refl w.heap.size w)
 have H : ((laws_szReport.f k l0_0 l0_1 1048576).bind fun t224 => (if t224 < 0 then (some true) else ((laws_szReport.f k l1_0 l1_1 t224).bind fun t225 => (if t225 < 0 then (some true) else ((laws_toReport.f k l0_0 l0_1).bind fun bt226 => ((laws_toReport.f k l1_0 l1_1).bind fun bt232 => ((spec_MergeReports.f k bt226.1 bt226.2 bt232.1 bt232.2).bind fun bt238 => ((laws_toReport.f k l0_0 l0_1).bind fun bt245 => ((laws_toReport.f k l1_0 l1_1).bind fun bt252 => ((impl_MergeReports.f k bt245.1 bt245.2 bt252.1 bt252.2).bind fun bt259 => ((laws_eqReport.f k bt259.1 bt259.2 bt238.1 bt238.2).bind fun t266 => (if t266 = true then ((laws_toReport.f k l0_0 l0_1).bind fun bt267 => ((laws_eqReport.f k bt245.1 bt245.2 bt267.1 bt267.2).bind fun t273 => (if t273 = true then ((laws_toReport.f k l1_0 l1_1).bind fun bt274 => ((laws_eqReport.f k bt252.1 bt252.2 bt274.1 bt274.2).bind fun t280 => (if t280 = true then ((laws_markReport.f k bt245.1 bt245.2 1).bind fun bt281 => ((laws_markReport.f k bt252.1 bt252.2 bt281.1).bind fun bt284 => (if bt284.1 < 0 then (laws_FnExactMergeReports.j0 k true l0_0 l0_1 l1_0 l1_1 bt238.1 bt238.2 bt259.1 bt259.2) else ((laws_eqReport.f k bt259.1 bt259.2 bt238.1 bt238.2).bind fun t287 => (laws_FnExactMergeReports.j0 k (!t287) l0_0 l0_1 l1_0 l1_1 bt238.1 bt238.2 bt259.1 bt259.2))))) else (none)))) else (none)))) else (none))))))))))))) = some r := h
 clear h
 replace H := Option.bind_eq_some_iff.mp H
 obtain ⟨t224, A30, H⟩ := H
 replace H : (if t224 < 0 then (some true) else ((laws_szReport.f k l1_0 l1_1 t224).bind fun t225 => (if t225 < 0 then (some true) else ((laws_toReport.f k l0_0 l0_1).bind fun bt226 => ((laws_toReport.f k l1_0 l1_1).bind fun bt232 => ((spec_MergeReports.f k bt226.1 bt226.2 bt232.1 bt232.2).bind fun bt238 => ((laws_toReport.f k l0_0 l0_1).bind fun bt245 => ((laws_toReport.f k l1_0 l1_1).bind fun bt252 => ((impl_MergeReports.f k bt245.1 bt245.2 bt252.1 bt252.2).bind fun bt259 => ((laws_eqReport.f k bt259.1 bt259.2 bt238.1 bt238.2).bind fun t266 => (if t266 = true then ((laws_toReport.f k l0_0 l0_1).bind fun bt267 => ((laws_eqReport.f k bt245.1 bt245.2 bt267.1 bt267.2).bind fun t273 => (if t273 = true then ((laws_toReport.f k l1_0 l1_1).bind fun bt274 => ((laws_eqReport.f k bt252.1 bt252.2 bt274.1 bt274.2).bind fun t280 => (if t280 = true then ((laws_markReport.f k bt245.1 bt245.2 1).bind fun bt281 => ((laws_markReport.f k bt252.1 bt252.2 bt281.1).bind fun bt284 => (if bt284.1 < 0 then (laws_FnExactMergeReports.j0 k true l0_0 l0_1 l1_0 l1_1 bt238.1 bt238.2 bt259.1 bt259.2) else ((laws_eqReport.f k bt259.1 bt259.2 bt238.1 bt238.2).bind fun t287 => (laws_FnExactMergeReports.j0 k (!t287) l0_0 l0_1 l1_0 l1_1 bt238.1 bt238.2 bt259.1 bt259.2))))) else (none)))) else (none)))) else (none)))))))))))) = some r := H
 have A3 := ak A30
 clear A30
 by_cases c4 : t224 < 0
 ·rw [if_pos c4] at H
  have c4b0 : decide (t224 < 0) = true := decide_eq_true c4
  clear c4
  obtain rfl := Option.some.inj H
  go_enter Try.func9, Try.ntmps9
  go_wp2_with (first | ((with_reducible refine gate_dst (N := 2) rfl ?_); refine box_event ?hg (N := 2) ?hd (cs := #[.slice A0_0 l0_0.length c0_0, .slice A0_1 l0_1.length c0_1]) (t := 41) ?hr ?_; (case hd => rfl); (case hg => rfl); (case hr => first | (go_simp; done) | (go_simp; rfl)); intro gb222 hg w5 hbox hb; have n0_ := ak (below_step (by repeat (first | (with_reducible first | exact HB.out | apply below_alloc | apply pw_below_drewN | apply below_drew1) | exact HB.out)) hb); have n1_ := ak (hbox); have n2_ := ak ((by rw [hg]; exact (below_size (by repeat (first | (with_reducible first | exact HB.out | apply below_alloc | apply pw_below_drewN | apply below_drew1) | exact HB.out))) : w.heap.size ≤ gb222)); have n3_ := ak ((by rw [hg]; exact (below_size (by repeat (first | (with_reducible first | exact HB.out | apply below_alloc | apply pw_below_drewN | apply below_drew1) | exact HB.out))) : w.heap.size ≤ gb222)); clear HB; have HB := n0_; have BK222 := n1_; have GW222 := n2_; have GE222 := n3_; clear n0_ n1_ n2_ n3_; clear hb hbox hg) | ((with_reducible refine gate_dst (N := 3) rfl ?_); refine box_event ?hg (N := 3) ?hd (cs := #[.slice A1_0 l1_0.length c1_0, .slice A1_1 l1_1.length c1_1]) (t := 41) ?hr ?_; (case hd => rfl); (case hg => rfl); (case hr => first | (go_simp; done) | (go_simp; rfl)); intro gb223 hg w6 hbox hb; have n0_ := ak (blk_below (g := gb222) (o := .cells #[.slice A0_0 l0_0.length c0_0, .slice A0_1 l0_1.length c0_1] 41 (0, 0)) (bTo BK222.out) hb); have n1_ := ak (below_step (by repeat (first | (with_reducible first | exact HB.out | apply below_alloc | apply pw_below_drewN | apply below_drew1 | refine below_set ?_ GE222.out) | exact HB.out)) hb); have n2_ := ak (hbox); have n3_ := ak ((by rw [hg]; exact (below_size (by repeat (first | (with_reducible first | exact HB.out | apply below_alloc | apply pw_below_drewN | apply below_drew1 | refine below_set ?_ GE222.out) | exact HB.out))) : w.heap.size ≤ gb223)); have n4_ := ak ((by rw [hg]; exact (below_size (by repeat (first | (with_reducible first | exact HB.out | apply below_alloc | apply pw_below_drewN | apply below_drew1 | refine below_set ?_ GE222.out) | exact HB.out))) : w.heap.size ≤ gb223)); have n5_ := ak ((by rw [hg]; exact Nat.ne_of_lt (blk_lt (g := gb222) (o := .cells #[.slice A0_0 l0_0.length c0_0, .slice A0_1 l0_1.length c0_1] 41 (0, 0)) (bTo BK222.out)) : gb222 ≠ gb223)); have n6_ := ak ((by rw [hg]; exact Nat.ne_of_gt (blk_lt (g := gb222) (o := .cells #[.slice A0_0 l0_0.length c0_0, .slice A0_1 l0_1.length c0_1] 41 (0, 0)) (bTo BK222.out)) : gb223 ≠ gb222)); clear BK222; clear HB; have BK222 := n0_; have HB := n1_; have BK223 := n2_; have GW223 := n3_; have GE223 := n4_; have NB222_223 := n5_; have NB223_222 := n6_; clear n0_ n1_ n2_ n3_ n4_ n5_ n6_; clear hb hbox hg; have hnb7 := NB222_223.out; have hnc7 := NB223_222.out; have hcz8_0 : w6.cell? ⟨gb222, 0, none⟩ = some (.slice A0_0 l0_0.length c0_0) := (blk_cell BK222.out 0).trans rfl; have hcz8_1 : w6.cell? ⟨gb222, 1, none⟩ = some (.slice A0_1 l0_1.length c0_1) := (blk_cell BK222.out 1).trans rfl; have hfz8_0 := blk_frozen BK222.out 0; have hfz8_1 := blk_frozen BK222.out 1) | ((with_reducible refine gate_callee (f := 23) rfl ?_); refine goesL_ (some 16) rfl rfl Try.func23 (by kernel_rfl) rfl #[.agg #[.slice A0_0 l0_0.length c0_0, .slice A0_1 l0_1.length c0_1], .int .i64 1048576] rfl (by (try simp only [List.map_toArray, List.map_cons, List.map_nil]); first | done | rfl | (simp only [List.length_drop, List.length_take]; rfl)) ?_; (with_reducible refine (laws_szReport.calls k _ _ l0_0 _ _ l0_1 1048576 t224 _ ?side1 ?side2 ?side3 ?side4 A3.out).mono ?_); (case side1 => repeat (first | exact (Kd.C_below HR0_0.out HB.out) | (with_reducible refine Kd.C_alloc ?_ _) | (with_reducible refine Kd.C_drewN ?_ _) | (with_reducible refine Kd.C_drew ?_))); (case side2 => exact HC0_0.out); (case side3 => repeat (first | exact (Kd.C_below HR0_1.out HB.out) | (with_reducible refine Kd.C_alloc ?_ _) | (with_reducible refine Kd.C_drewN ?_ _) | (with_reducible refine Kd.C_drew ?_))); (case side4 => exact HC0_1.out); rintro e w9 ⟨rfl, hb⟩; refine ⟨_, rfl, ?_⟩; have n0_ := ak (blk_below (g := gb222) (o := .cells #[.slice A0_0 l0_0.length c0_0, .slice A0_1 l0_1.length c0_1] 41 (0, 0)) (bTo BK222.out) hb); have n1_ := ak (blk_below (g := gb223) (o := .cells #[.slice A1_0 l1_0.length c1_0, .slice A1_1 l1_1.length c1_1] 41 (0, 0)) (bTo BK223.out) hb); have n2_ := ak (below_step (by repeat (first | (with_reducible first | exact HB.out | apply below_alloc | apply pw_below_drewN | apply below_drew1 | refine below_set ?_ GE222.out | refine below_set ?_ GE223.out) | exact HB.out)) hb); clear BK222; clear BK223; clear HB; have BK222 := n0_; have BK223 := n1_; have HB := n2_; clear n0_ n1_ n2_; (try clear hb); (try clear hb2); (try clear hk); (try clear hi)))
  go_ret
  exact ⟨by first | rfl | (simp [errW_none, errW_some] <;> rfl) | (simp [*, errW_none, errW_some] <;> rfl), by repeat (first | (with_reducible first | exact HB.out | apply below_alloc | apply pw_below_drewN | apply below_drew1 | refine below_set ?_ GE222.out | refine below_set ?_ GE223.out) | exact HB.out)⟩
 ·rw [if_neg c4] at H
  have c4b0 : decide (t224 < 0) = false := decide_eq_false c4
  clear c4
  replace H := Option.bind_eq_some_iff.mp H
  obtain ⟨t225, A100, H⟩ := H
  replace H : (if t225 < 0 then (some true) else ((laws_toReport.f k l0_0 l0_1).bind fun bt226 => ((laws_toReport.f k l1_0 l1_1).bind fun bt232 => ((spec_MergeReports.f k bt226.1 bt226.2 bt232.1 bt232.2).bind fun bt238 => ((laws_toReport.f k l0_0 l0_1).bind fun bt245 => ((laws_toReport.f k l1_0 l1_1).bind fun bt252 => ((impl_MergeReports.f k bt245.1 bt245.2 bt252.1 bt252.2).bind fun bt259 => ((laws_eqReport.f k bt259.1 bt259.2 bt238.1 bt238.2).bind fun t266 => (if t266 = true then ((laws_toReport.f k l0_0 l0_1).bind fun bt267 => ((laws_eqReport.f k bt245.1 bt245.2 bt267.1 bt267.2).bind fun t273 => (if t273 = true then ((laws_toReport.f k l1_0 l1_1).bind fun bt274 => ((laws_eqReport.f k bt252.1 bt252.2 bt274.1 bt274.2).bind fun t280 => (if t280 = true then ((laws_markReport.f k bt245.1 bt245.2 1).bind fun bt281 => ((laws_markReport.f k bt252.1 bt252.2 bt281.1).bind fun bt284 => (if bt284.1 < 0 then (laws_FnExactMergeReports.j0 k true l0_0 l0_1 l1_0 l1_1 bt238.1 bt238.2 bt259.1 bt259.2) else ((laws_eqReport.f k bt259.1 bt259.2 bt238.1 bt238.2).bind fun t287 => (laws_FnExactMergeReports.j0 k (!t287) l0_0 l0_1 l1_0 l1_1 bt238.1 bt238.2 bt259.1 bt259.2))))) else (none)))) else (none)))) else (none)))))))))) = some r := H
  have A10 := ak A100
  clear A100
  by_cases c11 : t225 < 0
  ·rw [if_pos c11] at H
   have c11b0 : decide (t225 < 0) = true := decide_eq_true c11
   clear c11
   obtain rfl := Option.some.inj H
   go_enter Try.func9, Try.ntmps9
   go_wp2_with (first | ((with_reducible refine gate_dst (N := 2) rfl ?_); refine box_event ?hg (N := 2) ?hd (cs := #[.slice A0_0 l0_0.length c0_0, .slice A0_1 l0_1.length c0_1]) (t := 41) ?hr ?_; (case hd => rfl); (case hg => rfl); (case hr => first | (go_simp; done) | (go_simp; rfl)); intro gb222 hg w12 hbox hb; have n0_ := ak (below_step (by repeat (first | (with_reducible first | exact HB.out | apply below_alloc | apply pw_below_drewN | apply below_drew1) | exact HB.out)) hb); have n1_ := ak (hbox); have n2_ := ak ((by rw [hg]; exact (below_size (by repeat (first | (with_reducible first | exact HB.out | apply below_alloc | apply pw_below_drewN | apply below_drew1) | exact HB.out))) : w.heap.size ≤ gb222)); have n3_ := ak ((by rw [hg]; exact (below_size (by repeat (first | (with_reducible first | exact HB.out | apply below_alloc | apply pw_below_drewN | apply below_drew1) | exact HB.out))) : w.heap.size ≤ gb222)); clear HB; have HB := n0_; have BK222 := n1_; have GW222 := n2_; have GE222 := n3_; clear n0_ n1_ n2_ n3_; clear hb hbox hg) | ((with_reducible refine gate_dst (N := 3) rfl ?_); refine box_event ?hg (N := 3) ?hd (cs := #[.slice A1_0 l1_0.length c1_0, .slice A1_1 l1_1.length c1_1]) (t := 41) ?hr ?_; (case hd => rfl); (case hg => rfl); (case hr => first | (go_simp; done) | (go_simp; rfl)); intro gb223 hg w13 hbox hb; have n0_ := ak (blk_below (g := gb222) (o := .cells #[.slice A0_0 l0_0.length c0_0, .slice A0_1 l0_1.length c0_1] 41 (0, 0)) (bTo BK222.out) hb); have n1_ := ak (below_step (by repeat (first | (with_reducible first | exact HB.out | apply below_alloc | apply pw_below_drewN | apply below_drew1 | refine below_set ?_ GE222.out) | exact HB.out)) hb); have n2_ := ak (hbox); have n3_ := ak ((by rw [hg]; exact (below_size (by repeat (first | (with_reducible first | exact HB.out | apply below_alloc | apply pw_below_drewN | apply below_drew1 | refine below_set ?_ GE222.out) | exact HB.out))) : w.heap.size ≤ gb223)); have n4_ := ak ((by rw [hg]; exact (below_size (by repeat (first | (with_reducible first | exact HB.out | apply below_alloc | apply pw_below_drewN | apply below_drew1 | refine below_set ?_ GE222.out) | exact HB.out))) : w.heap.size ≤ gb223)); have n5_ := ak ((by rw [hg]; exact Nat.ne_of_lt (blk_lt (g := gb222) (o := .cells #[.slice A0_0 l0_0.length c0_0, .slice A0_1 l0_1.length c0_1] 41 (0, 0)) (bTo BK222.out)) : gb222 ≠ gb223)); have n6_ := ak ((by rw [hg]; exact Nat.ne_of_gt (blk_lt (g := gb222) (o := .cells #[.slice A0_0 l0_0.length c0_0, .slice A0_1 l0_1.length c0_1] 41 (0, 0)) (bTo BK222.out)) : gb223 ≠ gb222)); clear BK222; clear HB; have BK222 := n0_; have HB := n1_; have BK223 := n2_; have GW223 := n3_; have GE223 := n4_; have NB222_223 := n5_; have NB223_222 := n6_; clear n0_ n1_ n2_ n3_ n4_ n5_ n6_; clear hb hbox hg; have hnb14 := NB222_223.out; have hnc14 := NB223_222.out; have hcz15_0 : w13.cell? ⟨gb222, 0, none⟩ = some (.slice A0_0 l0_0.length c0_0) := (blk_cell BK222.out 0).trans rfl; have hcz15_1 : w13.cell? ⟨gb222, 1, none⟩ = some (.slice A0_1 l0_1.length c0_1) := (blk_cell BK222.out 1).trans rfl; have hfz15_0 := blk_frozen BK222.out 0; have hfz15_1 := blk_frozen BK222.out 1) | ((with_reducible refine gate_callee (f := 23) rfl ?_); refine goesL_ (some 16) rfl rfl Try.func23 (by kernel_rfl) rfl #[.agg #[.slice A0_0 l0_0.length c0_0, .slice A0_1 l0_1.length c0_1], .int .i64 1048576] rfl (by (try simp only [List.map_toArray, List.map_cons, List.map_nil]); first | done | rfl | (simp only [List.length_drop, List.length_take]; rfl)) ?_; (with_reducible refine (laws_szReport.calls k _ _ l0_0 _ _ l0_1 1048576 t224 _ ?side1 ?side2 ?side3 ?side4 A3.out).mono ?_); (case side1 => repeat (first | exact (Kd.C_below HR0_0.out HB.out) | (with_reducible refine Kd.C_alloc ?_ _) | (with_reducible refine Kd.C_drewN ?_ _) | (with_reducible refine Kd.C_drew ?_))); (case side2 => exact HC0_0.out); (case side3 => repeat (first | exact (Kd.C_below HR0_1.out HB.out) | (with_reducible refine Kd.C_alloc ?_ _) | (with_reducible refine Kd.C_drewN ?_ _) | (with_reducible refine Kd.C_drew ?_))); (case side4 => exact HC0_1.out); rintro e w16 ⟨rfl, hb⟩; refine ⟨_, rfl, ?_⟩; have n0_ := ak (blk_below (g := gb222) (o := .cells #[.slice A0_0 l0_0.length c0_0, .slice A0_1 l0_1.length c0_1] 41 (0, 0)) (bTo BK222.out) hb); have n1_ := ak (blk_below (g := gb223) (o := .cells #[.slice A1_0 l1_0.length c1_0, .slice A1_1 l1_1.length c1_1] 41 (0, 0)) (bTo BK223.out) hb); have n2_ := ak (below_step (by repeat (first | (with_reducible first | exact HB.out | apply below_alloc | apply pw_below_drewN | apply below_drew1 | refine below_set ?_ GE222.out | refine below_set ?_ GE223.out) | exact HB.out)) hb); clear BK222; clear BK223; clear HB; have BK222 := n0_; have BK223 := n1_; have HB := n2_; clear n0_ n1_ n2_; (try clear hb); (try clear hb2); (try clear hk); (try clear hi); have hcz17_0 : w16.cell? ⟨gb223, 0, none⟩ = some (.slice A1_0 l1_0.length c1_0) := (blk_cell BK223.out 0).trans rfl; have hcz17_1 : w16.cell? ⟨gb223, 1, none⟩ = some (.slice A1_1 l1_1.length c1_1) := (blk_cell BK223.out 1).trans rfl; have hfz17_0 := blk_frozen BK223.out 0; have hfz17_1 := blk_frozen BK223.out 1) | ((with_reducible refine gate_callee (f := 23) rfl ?_); refine goesL_ (some 21) rfl rfl Try.func23 (by kernel_rfl) rfl #[.agg #[.slice A1_0 l1_0.length c1_0, .slice A1_1 l1_1.length c1_1], .int .i64 t224] rfl (by (try simp only [List.map_toArray, List.map_cons, List.map_nil]); first | done | rfl | (simp only [List.length_drop, List.length_take]; rfl)) ?_; (with_reducible refine (laws_szReport.calls k _ _ l1_0 _ _ l1_1 t224 t225 _ ?side1 ?side2 ?side3 ?side4 A10.out).mono ?_); (case side1 => repeat (first | exact (Kd.C_below HR1_0.out HB.out) | (with_reducible refine Kd.C_alloc ?_ _) | (with_reducible refine Kd.C_drewN ?_ _) | (with_reducible refine Kd.C_drew ?_))); (case side2 => exact HC1_0.out); (case side3 => repeat (first | exact (Kd.C_below HR1_1.out HB.out) | (with_reducible refine Kd.C_alloc ?_ _) | (with_reducible refine Kd.C_drewN ?_ _) | (with_reducible refine Kd.C_drew ?_))); (case side4 => exact HC1_1.out); rintro e w18 ⟨rfl, hb⟩; refine ⟨_, rfl, ?_⟩; have n0_ := ak (blk_below (g := gb222) (o := .cells #[.slice A0_0 l0_0.length c0_0, .slice A0_1 l0_1.length c0_1] 41 (0, 0)) (bTo BK222.out) hb); have n1_ := ak (blk_below (g := gb223) (o := .cells #[.slice A1_0 l1_0.length c1_0, .slice A1_1 l1_1.length c1_1] 41 (0, 0)) (bTo BK223.out) hb); have n2_ := ak (below_step (by repeat (first | (with_reducible first | exact HB.out | apply below_alloc | apply pw_below_drewN | apply below_drew1 | refine below_set ?_ GE222.out | refine below_set ?_ GE223.out) | exact HB.out)) hb); clear BK222; clear BK223; clear HB; have BK222 := n0_; have BK223 := n1_; have HB := n2_; clear n0_ n1_ n2_; (try clear hb); (try clear hb2); (try clear hk); (try clear hi)))
   go_ret
   exact ⟨by first | rfl | (simp [errW_none, errW_some] <;> rfl) | (simp [*, errW_none, errW_some] <;> rfl), by repeat (first | (with_reducible first | exact HB.out | apply below_alloc | apply pw_below_drewN | apply below_drew1 | refine below_set ?_ GE222.out | refine below_set ?_ GE223.out) | exact HB.out)⟩
  ·rw [if_neg c11] at H
   have c11b0 : decide (t225 < 0) = false := decide_eq_false c11
   clear c11
   replace H := Option.bind_eq_some_iff.mp H
   obtain ⟨⟨t226, t229⟩, A190, H⟩ := H
   replace H : ((laws_toReport.f k l1_0 l1_1).bind fun bt232 => ((spec_MergeReports.f k t226 t229 bt232.1 bt232.2).bind fun bt238 => ((laws_toReport.f k l0_0 l0_1).bind fun bt245 => ((laws_toReport.f k l1_0 l1_1).bind fun bt252 => ((impl_MergeReports.f k bt245.1 bt245.2 bt252.1 bt252.2).bind fun bt259 => ((laws_eqReport.f k bt259.1 bt259.2 bt238.1 bt238.2).bind fun t266 => (if t266 = true then ((laws_toReport.f k l0_0 l0_1).bind fun bt267 => ((laws_eqReport.f k bt245.1 bt245.2 bt267.1 bt267.2).bind fun t273 => (if t273 = true then ((laws_toReport.f k l1_0 l1_1).bind fun bt274 => ((laws_eqReport.f k bt252.1 bt252.2 bt274.1 bt274.2).bind fun t280 => (if t280 = true then ((laws_markReport.f k bt245.1 bt245.2 1).bind fun bt281 => ((laws_markReport.f k bt252.1 bt252.2 bt281.1).bind fun bt284 => (if bt284.1 < 0 then (laws_FnExactMergeReports.j0 k true l0_0 l0_1 l1_0 l1_1 bt238.1 bt238.2 bt259.1 bt259.2) else ((laws_eqReport.f k bt259.1 bt259.2 bt238.1 bt238.2).bind fun t287 => (laws_FnExactMergeReports.j0 k (!t287) l0_0 l0_1 l1_0 l1_1 bt238.1 bt238.2 bt259.1 bt259.2))))) else (none)))) else (none)))) else (none)))))))) = some r := H
   have A19 := ak A190
   clear A190
   replace H := Option.bind_eq_some_iff.mp H
   obtain ⟨⟨t232, t235⟩, A200, H⟩ := H
   replace H : ((spec_MergeReports.f k t226 t229 t232 t235).bind fun bt238 => ((laws_toReport.f k l0_0 l0_1).bind fun bt245 => ((laws_toReport.f k l1_0 l1_1).bind fun bt252 => ((impl_MergeReports.f k bt245.1 bt245.2 bt252.1 bt252.2).bind fun bt259 => ((laws_eqReport.f k bt259.1 bt259.2 bt238.1 bt238.2).bind fun t266 => (if t266 = true then ((laws_toReport.f k l0_0 l0_1).bind fun bt267 => ((laws_eqReport.f k bt245.1 bt245.2 bt267.1 bt267.2).bind fun t273 => (if t273 = true then ((laws_toReport.f k l1_0 l1_1).bind fun bt274 => ((laws_eqReport.f k bt252.1 bt252.2 bt274.1 bt274.2).bind fun t280 => (if t280 = true then ((laws_markReport.f k bt245.1 bt245.2 1).bind fun bt281 => ((laws_markReport.f k bt252.1 bt252.2 bt281.1).bind fun bt284 => (if bt284.1 < 0 then (laws_FnExactMergeReports.j0 k true l0_0 l0_1 l1_0 l1_1 bt238.1 bt238.2 bt259.1 bt259.2) else ((laws_eqReport.f k bt259.1 bt259.2 bt238.1 bt238.2).bind fun t287 => (laws_FnExactMergeReports.j0 k (!t287) l0_0 l0_1 l1_0 l1_1 bt238.1 bt238.2 bt259.1 bt259.2))))) else (none)))) else (none)))) else (none))))))) = some r := H
   have A20 := ak A200
   clear A200
   replace H := Option.bind_eq_some_iff.mp H
   obtain ⟨⟨t238, t241⟩, A210, H⟩ := H
   replace H : ((laws_toReport.f k l0_0 l0_1).bind fun bt245 => ((laws_toReport.f k l1_0 l1_1).bind fun bt252 => ((impl_MergeReports.f k bt245.1 bt245.2 bt252.1 bt252.2).bind fun bt259 => ((laws_eqReport.f k bt259.1 bt259.2 t238 t241).bind fun t266 => (if t266 = true then ((laws_toReport.f k l0_0 l0_1).bind fun bt267 => ((laws_eqReport.f k bt245.1 bt245.2 bt267.1 bt267.2).bind fun t273 => (if t273 = true then ((laws_toReport.f k l1_0 l1_1).bind fun bt274 => ((laws_eqReport.f k bt252.1 bt252.2 bt274.1 bt274.2).bind fun t280 => (if t280 = true then ((laws_markReport.f k bt245.1 bt245.2 1).bind fun bt281 => ((laws_markReport.f k bt252.1 bt252.2 bt281.1).bind fun bt284 => (if bt284.1 < 0 then (laws_FnExactMergeReports.j0 k true l0_0 l0_1 l1_0 l1_1 t238 t241 bt259.1 bt259.2) else ((laws_eqReport.f k bt259.1 bt259.2 t238 t241).bind fun t287 => (laws_FnExactMergeReports.j0 k (!t287) l0_0 l0_1 l1_0 l1_1 t238 t241 bt259.1 bt259.2))))) else (none)))) else (none)))) else (none)))))) = some r := H
   have A21 := ak A210
   clear A210
   replace H := Option.bind_eq_some_iff.mp H
   obtain ⟨⟨t245, t248⟩, A220, H⟩ := H
   replace H : ((laws_toReport.f k l1_0 l1_1).bind fun bt252 => ((impl_MergeReports.f k t245 t248 bt252.1 bt252.2).bind fun bt259 => ((laws_eqReport.f k bt259.1 bt259.2 t238 t241).bind fun t266 => (if t266 = true then ((laws_toReport.f k l0_0 l0_1).bind fun bt267 => ((laws_eqReport.f k t245 t248 bt267.1 bt267.2).bind fun t273 => (if t273 = true then ((laws_toReport.f k l1_0 l1_1).bind fun bt274 => ((laws_eqReport.f k bt252.1 bt252.2 bt274.1 bt274.2).bind fun t280 => (if t280 = true then ((laws_markReport.f k t245 t248 1).bind fun bt281 => ((laws_markReport.f k bt252.1 bt252.2 bt281.1).bind fun bt284 => (if bt284.1 < 0 then (laws_FnExactMergeReports.j0 k true l0_0 l0_1 l1_0 l1_1 t238 t241 bt259.1 bt259.2) else ((laws_eqReport.f k bt259.1 bt259.2 t238 t241).bind fun t287 => (laws_FnExactMergeReports.j0 k (!t287) l0_0 l0_1 l1_0 l1_1 t238 t241 bt259.1 bt259.2))))) else (none)))) else (none)))) else (none))))) = some r := H
   have A22 := ak A220
   clear A220
   replace H := Option.bind_eq_some_iff.mp H
   obtain ⟨⟨t252, t255⟩, A230, H⟩ := H
   replace H : ((impl_MergeReports.f k t245 t248 t252 t255).bind fun bt259 => ((laws_eqReport.f k bt259.1 bt259.2 t238 t241).bind fun t266 => (if t266 = true then ((laws_toReport.f k l0_0 l0_1).bind fun bt267 => ((laws_eqReport.f k t245 t248 bt267.1 bt267.2).bind fun t273 => (if t273 = true then ((laws_toReport.f k l1_0 l1_1).bind fun bt274 => ((laws_eqReport.f k t252 t255 bt274.1 bt274.2).bind fun t280 => (if t280 = true then ((laws_markReport.f k t245 t248 1).bind fun bt281 => ((laws_markReport.f k t252 t255 bt281.1).bind fun bt284 => (if bt284.1 < 0 then (laws_FnExactMergeReports.j0 k true l0_0 l0_1 l1_0 l1_1 t238 t241 bt259.1 bt259.2) else ((laws_eqReport.f k bt259.1 bt259.2 t238 t241).bind fun t287 => (laws_FnExactMergeReports.j0 k (!t287) l0_0 l0_1 l1_0 l1_1 t238 t241 bt259.1 bt259.2))))) else (none)))) else (none)))) else (none)))) = some r := H
   have A23 := ak A230
   clear A230
   replace H := Option.bind_eq_some_iff.mp H
   obtain ⟨⟨t259, t262⟩, A240, H⟩ := H
   replace H : ((laws_eqReport.f k t259 t262 t238 t241).bind fun t266 => (if t266 = true then ((laws_toReport.f k l0_0 l0_1).bind fun bt267 => ((laws_eqReport.f k t245 t248 bt267.1 bt267.2).bind fun t273 => (if t273 = true then ((laws_toReport.f k l1_0 l1_1).bind fun bt274 => ((laws_eqReport.f k t252 t255 bt274.1 bt274.2).bind fun t280 => (if t280 = true then ((laws_markReport.f k t245 t248 1).bind fun bt281 => ((laws_markReport.f k t252 t255 bt281.1).bind fun bt284 => (if bt284.1 < 0 then (laws_FnExactMergeReports.j0 k true l0_0 l0_1 l1_0 l1_1 t238 t241 t259 t262) else ((laws_eqReport.f k t259 t262 t238 t241).bind fun t287 => (laws_FnExactMergeReports.j0 k (!t287) l0_0 l0_1 l1_0 l1_1 t238 t241 t259 t262))))) else (none)))) else (none)))) else (none))) = some r := H
   have A24 := ak A240
   clear A240
   replace H := Option.bind_eq_some_iff.mp H
   obtain ⟨t266, A250, H⟩ := H
   replace H : (if t266 = true then ((laws_toReport.f k l0_0 l0_1).bind fun bt267 => ((laws_eqReport.f k t245 t248 bt267.1 bt267.2).bind fun t273 => (if t273 = true then ((laws_toReport.f k l1_0 l1_1).bind fun bt274 => ((laws_eqReport.f k t252 t255 bt274.1 bt274.2).bind fun t280 => (if t280 = true then ((laws_markReport.f k t245 t248 1).bind fun bt281 => ((laws_markReport.f k t252 t255 bt281.1).bind fun bt284 => (if bt284.1 < 0 then (laws_FnExactMergeReports.j0 k true l0_0 l0_1 l1_0 l1_1 t238 t241 t259 t262) else ((laws_eqReport.f k t259 t262 t238 t241).bind fun t287 => (laws_FnExactMergeReports.j0 k (!t287) l0_0 l0_1 l1_0 l1_1 t238 t241 t259 t262))))) else (none)))) else (none)))) else (none)) = some r := H
   have A25 := ak A250
   clear A250
   by_cases c26 : t266 = true
   ·subst c26
    have H1 : ((laws_toReport.f k l0_0 l0_1).bind fun bt267 => ((laws_eqReport.f k t245 t248 bt267.1 bt267.2).bind fun t273 => (if t273 = true then ((laws_toReport.f k l1_0 l1_1).bind fun bt274 => ((laws_eqReport.f k t252 t255 bt274.1 bt274.2).bind fun t280 => (if t280 = true then ((laws_markReport.f k t245 t248 1).bind fun bt281 => ((laws_markReport.f k t252 t255 bt281.1).bind fun bt284 => (if bt284.1 < 0 then (laws_FnExactMergeReports.j0 k true l0_0 l0_1 l1_0 l1_1 t238 t241 t259 t262) else ((laws_eqReport.f k t259 t262 t238 t241).bind fun t287 => (laws_FnExactMergeReports.j0 k (!t287) l0_0 l0_1 l1_0 l1_1 t238 t241 t259 t262))))) else (none)))) else (none)))) = some r := by rw [if_pos rfl] at H; exact H
    clear H
    have H := H1
    clear H1
    replace H := Option.bind_eq_some_iff.mp H
    obtain ⟨⟨t267, t270⟩, A270, H⟩ := H
    replace H : ((laws_eqReport.f k t245 t248 t267 t270).bind fun t273 => (if t273 = true then ((laws_toReport.f k l1_0 l1_1).bind fun bt274 => ((laws_eqReport.f k t252 t255 bt274.1 bt274.2).bind fun t280 => (if t280 = true then ((laws_markReport.f k t245 t248 1).bind fun bt281 => ((laws_markReport.f k t252 t255 bt281.1).bind fun bt284 => (if bt284.1 < 0 then (laws_FnExactMergeReports.j0 k true l0_0 l0_1 l1_0 l1_1 t238 t241 t259 t262) else ((laws_eqReport.f k t259 t262 t238 t241).bind fun t287 => (laws_FnExactMergeReports.j0 k (!t287) l0_0 l0_1 l1_0 l1_1 t238 t241 t259 t262))))) else (none)))) else (none))) = some r := H
    have A27 := ak A270
    clear A270
    replace H := Option.bind_eq_some_iff.mp H
    obtain ⟨t273, A280, H⟩ := H
    replace H : (if t273 = true then ((laws_toReport.f k l1_0 l1_1).bind fun bt274 => ((laws_eqReport.f k t252 t255 bt274.1 bt274.2).bind fun t280 => (if t280 = true then ((laws_markReport.f k t245 t248 1).bind fun bt281 => ((laws_markReport.f k t252 t255 bt281.1).bind fun bt284 => (if bt284.1 < 0 then (laws_FnExactMergeReports.j0 k true l0_0 l0_1 l1_0 l1_1 t238 t241 t259 t262) else ((laws_eqReport.f k t259 t262 t238 t241).bind fun t287 => (laws_FnExactMergeReports.j0 k (!t287) l0_0 l0_1 l1_0 l1_1 t238 t241 t259 t262))))) else (none)))) else (none)) = some r := H
    have A28 := ak A280
    clear A280
    by_cases c29 : t273 = true
    ·subst c29
     have H1 : ((laws_toReport.f k l1_0 l1_1).bind fun bt274 => ((laws_eqReport.f k t252 t255 bt274.1 bt274.2).bind fun t280 => (if t280 = true then ((laws_markReport.f k t245 t248 1).bind fun bt281 => ((laws_markReport.f k t252 t255 bt281.1).bind fun bt284 => (if bt284.1 < 0 then (laws_FnExactMergeReports.j0 k true l0_0 l0_1 l1_0 l1_1 t238 t241 t259 t262) else ((laws_eqReport.f k t259 t262 t238 t241).bind fun t287 => (laws_FnExactMergeReports.j0 k (!t287) l0_0 l0_1 l1_0 l1_1 t238 t241 t259 t262))))) else (none)))) = some r := by rw [if_pos rfl] at H; exact H
     clear H
     have H := H1
     clear H1
     replace H := Option.bind_eq_some_iff.mp H
     obtain ⟨⟨t274, t277⟩, A300, H⟩ := H
     replace H : ((laws_eqReport.f k t252 t255 t274 t277).bind fun t280 => (if t280 = true then ((laws_markReport.f k t245 t248 1).bind fun bt281 => ((laws_markReport.f k t252 t255 bt281.1).bind fun bt284 => (if bt284.1 < 0 then (laws_FnExactMergeReports.j0 k true l0_0 l0_1 l1_0 l1_1 t238 t241 t259 t262) else ((laws_eqReport.f k t259 t262 t238 t241).bind fun t287 => (laws_FnExactMergeReports.j0 k (!t287) l0_0 l0_1 l1_0 l1_1 t238 t241 t259 t262))))) else (none))) = some r := H
     have A30 := ak A300
     clear A300
     replace H := Option.bind_eq_some_iff.mp H
     obtain ⟨t280, A310, H⟩ := H
     replace H : (if t280 = true then ((laws_markReport.f k t245 t248 1).bind fun bt281 => ((laws_markReport.f k t252 t255 bt281.1).bind fun bt284 => (if bt284.1 < 0 then (laws_FnExactMergeReports.j0 k true l0_0 l0_1 l1_0 l1_1 t238 t241 t259 t262) else ((laws_eqReport.f k t259 t262 t238 t241).bind fun t287 => (laws_FnExactMergeReports.j0 k (!t287) l0_0 l0_1 l1_0 l1_1 t238 t241 t259 t262))))) else (none)) = some r := H
     have A31 := ak A310
     clear A310
     by_cases c32 : t280 = true
     ·subst c32
      have H1 : ((laws_markReport.f k t245 t248 1).bind fun bt281 => ((laws_markReport.f k t252 t255 bt281.1).bind fun bt284 => (if bt284.1 < 0 then (laws_FnExactMergeReports.j0 k true l0_0 l0_1 l1_0 l1_1 t238 t241 t259 t262) else ((laws_eqReport.f k t259 t262 t238 t241).bind fun t287 => (laws_FnExactMergeReports.j0 k (!t287) l0_0 l0_1 l1_0 l1_1 t238 t241 t259 t262))))) = some r := by rw [if_pos rfl] at H; exact H
      clear H
      have H := H1
      clear H1
      replace H := Option.bind_eq_some_iff.mp H
      obtain ⟨⟨t281, t282, t283⟩, A330, H⟩ := H
      replace H : ((laws_markReport.f k t252 t255 t281).bind fun bt284 => (if bt284.1 < 0 then (laws_FnExactMergeReports.j0 k true l0_0 l0_1 l1_0 l1_1 t238 t241 t259 t262) else ((laws_eqReport.f k t259 t262 t238 t241).bind fun t287 => (laws_FnExactMergeReports.j0 k (!t287) l0_0 l0_1 l1_0 l1_1 t238 t241 t259 t262)))) = some r := H
      have A33 := ak A330
      clear A330
      replace H := Option.bind_eq_some_iff.mp H
      obtain ⟨⟨t284, t285, t286⟩, A340, H⟩ := H
      replace H : (if t284 < 0 then (laws_FnExactMergeReports.j0 k true l0_0 l0_1 l1_0 l1_1 t238 t241 t259 t262) else ((laws_eqReport.f k t259 t262 t238 t241).bind fun t287 => (laws_FnExactMergeReports.j0 k (!t287) l0_0 l0_1 l1_0 l1_1 t238 t241 t259 t262))) = some r := H
      have A34 := ak A340
      clear A340
      have HC35 := ak H
      clear H
      go_enter Try.func9, Try.ntmps9
      try go_wp2_with (first | ((with_reducible refine gate_dst (N := 2) rfl ?_); refine box_event ?hg (N := 2) ?hd (cs := #[.slice A0_0 l0_0.length c0_0, .slice A0_1 l0_1.length c0_1]) (t := 41) ?hr ?_; (case hd => rfl); (case hg => rfl); (case hr => first | (go_simp; done) | (go_simp; rfl)); intro gb222 hg w36 hbox hb; have n0_ := ak (below_step (by repeat (first | (with_reducible first | exact HB.out | apply below_alloc | apply pw_below_drewN | apply below_drew1) | exact HB.out)) hb); have n1_ := ak (hbox); have n2_ := ak ((by rw [hg]; exact (below_size (by repeat (first | (with_reducible first | exact HB.out | apply below_alloc | apply pw_below_drewN | apply below_drew1) | exact HB.out))) : w.heap.size ≤ gb222)); have n3_ := ak ((by rw [hg]; exact (below_size (by repeat (first | (with_reducible first | exact HB.out | apply below_alloc | apply pw_below_drewN | apply below_drew1) | exact HB.out))) : w.heap.size ≤ gb222)); clear HB; have HB := n0_; have BK222 := n1_; have GW222 := n2_; have GE222 := n3_; clear n0_ n1_ n2_ n3_; clear hb hbox hg) | ((with_reducible refine gate_dst (N := 3) rfl ?_); refine box_event ?hg (N := 3) ?hd (cs := #[.slice A1_0 l1_0.length c1_0, .slice A1_1 l1_1.length c1_1]) (t := 41) ?hr ?_; (case hd => rfl); (case hg => rfl); (case hr => first | (go_simp; done) | (go_simp; rfl)); intro gb223 hg w37 hbox hb; have n0_ := ak (blk_below (g := gb222) (o := .cells #[.slice A0_0 l0_0.length c0_0, .slice A0_1 l0_1.length c0_1] 41 (0, 0)) (bTo BK222.out) hb); have n1_ := ak (below_step (by repeat (first | (with_reducible first | exact HB.out | apply below_alloc | apply pw_below_drewN | apply below_drew1 | refine below_set ?_ GE222.out) | exact HB.out)) hb); have n2_ := ak (hbox); have n3_ := ak ((by rw [hg]; exact (below_size (by repeat (first | (with_reducible first | exact HB.out | apply below_alloc | apply pw_below_drewN | apply below_drew1 | refine below_set ?_ GE222.out) | exact HB.out))) : w.heap.size ≤ gb223)); have n4_ := ak ((by rw [hg]; exact (below_size (by repeat (first | (with_reducible first | exact HB.out | apply below_alloc | apply pw_below_drewN | apply below_drew1 | refine below_set ?_ GE222.out) | exact HB.out))) : w.heap.size ≤ gb223)); have n5_ := ak ((by rw [hg]; exact Nat.ne_of_lt (blk_lt (g := gb222) (o := .cells #[.slice A0_0 l0_0.length c0_0, .slice A0_1 l0_1.length c0_1] 41 (0, 0)) (bTo BK222.out)) : gb222 ≠ gb223)); have n6_ := ak ((by rw [hg]; exact Nat.ne_of_gt (blk_lt (g := gb222) (o := .cells #[.slice A0_0 l0_0.length c0_0, .slice A0_1 l0_1.length c0_1] 41 (0, 0)) (bTo BK222.out)) : gb223 ≠ gb222)); clear BK222; clear HB; have BK222 := n0_; have HB := n1_; have BK223 := n2_; have GW223 := n3_; have GE223 := n4_; have NB222_223 := n5_; have NB223_222 := n6_; clear n0_ n1_ n2_ n3_ n4_ n5_ n6_; clear hb hbox hg; have hnb38 := NB222_223.out; have hnc38 := NB223_222.out; have hcz39_0 : w37.cell? ⟨gb222, 0, none⟩ = some (.slice A0_0 l0_0.length c0_0) := (blk_cell BK222.out 0).trans rfl; have hcz39_1 : w37.cell? ⟨gb222, 1, none⟩ = some (.slice A0_1 l0_1.length c0_1) := (blk_cell BK222.out 1).trans rfl; have hfz39_0 := blk_frozen BK222.out 0; have hfz39_1 := blk_frozen BK222.out 1) | ((with_reducible refine gate_callee (f := 23) rfl ?_); refine goesL_ (some 16) rfl rfl Try.func23 (by kernel_rfl) rfl #[.agg #[.slice A0_0 l0_0.length c0_0, .slice A0_1 l0_1.length c0_1], .int .i64 1048576] rfl (by (try simp only [List.map_toArray, List.map_cons, List.map_nil]); first | done | rfl | (simp only [List.length_drop, List.length_take]; rfl)) ?_; (with_reducible refine (laws_szReport.calls k _ _ l0_0 _ _ l0_1 1048576 t224 _ ?side1 ?side2 ?side3 ?side4 A3.out).mono ?_); (case side1 => repeat (first | exact (Kd.C_below HR0_0.out HB.out) | (with_reducible refine Kd.C_alloc ?_ _) | (with_reducible refine Kd.C_drewN ?_ _) | (with_reducible refine Kd.C_drew ?_))); (case side2 => exact HC0_0.out); (case side3 => repeat (first | exact (Kd.C_below HR0_1.out HB.out) | (with_reducible refine Kd.C_alloc ?_ _) | (with_reducible refine Kd.C_drewN ?_ _) | (with_reducible refine Kd.C_drew ?_))); (case side4 => exact HC0_1.out); rintro e w40 ⟨rfl, hb⟩; refine ⟨_, rfl, ?_⟩; have n0_ := ak (blk_below (g := gb222) (o := .cells #[.slice A0_0 l0_0.length c0_0, .slice A0_1 l0_1.length c0_1] 41 (0, 0)) (bTo BK222.out) hb); have n1_ := ak (blk_below (g := gb223) (o := .cells #[.slice A1_0 l1_0.length c1_0, .slice A1_1 l1_1.length c1_1] 41 (0, 0)) (bTo BK223.out) hb); have n2_ := ak (below_step (by repeat (first | (with_reducible first | exact HB.out | apply below_alloc | apply pw_below_drewN | apply below_drew1 | refine below_set ?_ GE222.out | refine below_set ?_ GE223.out) | exact HB.out)) hb); clear BK222; clear BK223; clear HB; have BK222 := n0_; have BK223 := n1_; have HB := n2_; clear n0_ n1_ n2_; (try clear hb); (try clear hb2); (try clear hk); (try clear hi); have hcz41_0 : w40.cell? ⟨gb223, 0, none⟩ = some (.slice A1_0 l1_0.length c1_0) := (blk_cell BK223.out 0).trans rfl; have hcz41_1 : w40.cell? ⟨gb223, 1, none⟩ = some (.slice A1_1 l1_1.length c1_1) := (blk_cell BK223.out 1).trans rfl; have hfz41_0 := blk_frozen BK223.out 0; have hfz41_1 := blk_frozen BK223.out 1) | ((with_reducible refine gate_callee (f := 23) rfl ?_); refine goesL_ (some 21) rfl rfl Try.func23 (by kernel_rfl) rfl #[.agg #[.slice A1_0 l1_0.length c1_0, .slice A1_1 l1_1.length c1_1], .int .i64 t224] rfl (by (try simp only [List.map_toArray, List.map_cons, List.map_nil]); first | done | rfl | (simp only [List.length_drop, List.length_take]; rfl)) ?_; (with_reducible refine (laws_szReport.calls k _ _ l1_0 _ _ l1_1 t224 t225 _ ?side1 ?side2 ?side3 ?side4 A10.out).mono ?_); (case side1 => repeat (first | exact (Kd.C_below HR1_0.out HB.out) | (with_reducible refine Kd.C_alloc ?_ _) | (with_reducible refine Kd.C_drewN ?_ _) | (with_reducible refine Kd.C_drew ?_))); (case side2 => exact HC1_0.out); (case side3 => repeat (first | exact (Kd.C_below HR1_1.out HB.out) | (with_reducible refine Kd.C_alloc ?_ _) | (with_reducible refine Kd.C_drewN ?_ _) | (with_reducible refine Kd.C_drew ?_))); (case side4 => exact HC1_1.out); rintro e w42 ⟨rfl, hb⟩; refine ⟨_, rfl, ?_⟩; have n0_ := ak (blk_below (g := gb222) (o := .cells #[.slice A0_0 l0_0.length c0_0, .slice A0_1 l0_1.length c0_1] 41 (0, 0)) (bTo BK222.out) hb); have n1_ := ak (blk_below (g := gb223) (o := .cells #[.slice A1_0 l1_0.length c1_0, .slice A1_1 l1_1.length c1_1] 41 (0, 0)) (bTo BK223.out) hb); have n2_ := ak (below_step (by repeat (first | (with_reducible first | exact HB.out | apply below_alloc | apply pw_below_drewN | apply below_drew1 | refine below_set ?_ GE222.out | refine below_set ?_ GE223.out) | exact HB.out)) hb); clear BK222; clear BK223; clear HB; have BK222 := n0_; have BK223 := n1_; have HB := n2_; clear n0_ n1_ n2_; (try clear hb); (try clear hb2); (try clear hk); (try clear hi)))
      have n0_ := ak (blk_drew BK222.out)
      have n1_ := ak (blk_drew BK223.out)
      have n2_ := ak (below_drew1 HB.out)
      clear BK222
      clear BK223
      clear HB
      have BK222 := n0_
      have BK223 := n1_
      have HB := n2_
      clear n0_ n1_ n2_
      refine start_ (n := 7) (S := fun w' => w'.cell? ⟨gb222, 0, none⟩ = some (.slice A0_0 l0_0.length c0_0) ∧ w'.cell? ⟨gb222, 1, none⟩ = some (.slice A0_1 l0_1.length c0_1) ∧ w'.cell? ⟨gb223, 0, none⟩ = some (.slice A1_0 l1_0.length c1_0) ∧ w'.cell? ⟨gb223, 1, none⟩ = some (.slice A1_1 l1_1.length c1_1)) (ds := []) #[false, false, false, false, false, false, false] (by kernel_rfl) rfl rfl ⟨(blk_cell BK222.out 0).trans rfl, (blk_cell BK222.out 1).trans rfl, (blk_cell BK223.out 0).trans rfl, (blk_cell BK223.out 1).trans rfl⟩ (fun hHeld => ?_)
      generalize w42.drew = w43 at BK222 BK223 HB hHeld ⊢
      refine take_ (i := 0) (N := some 24) (v := ?_) (a' := ?_) #[true, false, false, false, false, false, false] rfl rfl (by kernel_rfl) (fun _ _ _ h => h) (Or.inl ⟨by rfl, ?_⟩) hHeld ?_ ?_
      rotate_left
      ·rintro w' ⟨s0, s1, s2, s3⟩
       go_simp
       with_reducible rfl
      rotate_left
      ·simp only [Act.put, List.setIfInBounds_toArray, List.set_cons_zero, List.set_cons_succ, i64_w, i32_w]
       rfl
      refine take_ (i := 2) (N := some 26) (v := ?_) (a' := ?_) #[true, false, true, false, false, false, false] rfl rfl (by kernel_rfl) (fun _ _ _ h => h) (Or.inl ⟨by rfl, ?_⟩) hHeld ?_ ?_
      rotate_left
      ·rintro w' ⟨s0, s1, s2, s3⟩
       go_simp
       with_reducible rfl
      rotate_left
      ·simp only [Act.put, List.setIfInBounds_toArray, List.set_cons_zero, List.set_cons_succ, i64_w, i32_w]
       rfl
      refine join_ (σ := Value × Value × Value × Value × Value × Value × Nat) 1 #[true, true, true, true, true, true, false] (fun s_ => [(25, .agg #[s_.1, s_.2.1]), (27, .agg #[s_.2.2.1, s_.2.2.2.1]), (28, .agg #[s_.2.2.2.2.1, s_.2.2.2.2.2.1]), (6, .pointer (some ⟨s_.2.2.2.2.2.2, 0, none⟩))]) (fun s_ w' => (w'.cell? ⟨gb222, 0, none⟩ = some (.slice A0_0 l0_0.length c0_0) ∧ w'.cell? ⟨gb222, 1, none⟩ = some (.slice A0_1 l0_1.length c0_1) ∧ w'.cell? ⟨gb223, 0, none⟩ = some (.slice A1_0 l1_0.length c1_0) ∧ w'.cell? ⟨gb223, 1, none⟩ = some (.slice A1_1 l1_1.length c1_1)) ∧ (Kd.R k37 37 w' w.heap.size (fun k_ => some k_ ≠ (s_.2.2.1 : Value).ownBlock ∧ some k_ ≠ (s_.2.2.2.2.1 : Value).ownBlock) s_.1 t226) ∧ (Kd.R Kd.string 9 w' w.heap.size (fun k_ => some k_ ≠ (s_.2.2.2.1 : Value).ownBlock ∧ some k_ ≠ (s_.2.2.2.2.2.1 : Value).ownBlock) s_.2.1 t229) ∧ (Kd.R k37 37 w' w.heap.size (fun k_ => some k_ ≠ (s_.1 : Value).ownBlock ∧ some k_ ≠ (s_.2.2.2.2.1 : Value).ownBlock) s_.2.2.1 t232) ∧ (Kd.R Kd.string 9 w' w.heap.size (fun k_ => some k_ ≠ (s_.2.1 : Value).ownBlock ∧ some k_ ≠ (s_.2.2.2.2.2.1 : Value).ownBlock) s_.2.2.2.1 t235) ∧ (Kd.R k37 37 w' w.heap.size (fun k_ => some k_ ≠ (s_.1 : Value).ownBlock ∧ some k_ ≠ (s_.2.2.1 : Value).ownBlock) s_.2.2.2.2.1 t238) ∧ (Kd.R Kd.string 9 w' w.heap.size (fun k_ => some k_ ≠ (s_.2.1 : Value).ownBlock ∧ some k_ ≠ (s_.2.2.2.1 : Value).ownBlock) s_.2.2.2.2.2.1 t241) ∧ (w'.heap[gb222]? = some (.cells #[.slice A0_0 l0_0.length c0_0, .slice A0_1 l0_1.length c0_1] 41 (0, 0))) ∧ (w'.heap[gb223]? = some (.cells #[.slice A1_0 l1_0.length c1_0, .slice A1_1 l1_1.length c1_1] 41 (0, 0))) ∧ (w'.heap[s_.2.2.2.2.2.2]? = some (.cells #[.slice none 0 0, .slice none 0 0] 26 (0, 0))) ∧ (w.heap.size ≤ s_.2.2.2.2.2.2) ∧ (w.heap.size ≤ s_.2.2.2.2.2.2) ∧ (gb222 ≠ s_.2.2.2.2.2.2) ∧ (s_.2.2.2.2.2.2 ≠ gb222) ∧ (gb223 ≠ s_.2.2.2.2.2.2) ∧ (s_.2.2.2.2.2.2 ≠ gb223) ∧ (Below w.heap.size w w')) ?_ ?_
      rotate_left
      ·intro hCont
       refine two_ (i := 1) (j := 5) (Ni := some 25) (Nj := some 6) #[true, true, true, false, false, false, false] #[true, false, true, false, false, true, false] rfl rfl rfl rfl (by kernel_rfl) (by decide) (by decide) (fun K hK => ?_) (fun K hK => ?_)
       ·skip
        refine goes_ Try.func25 (by kernel_rfl) rfl #[.agg #[.slice A0_0 l0_0.length c0_0, .slice A0_1 l0_1.length c0_1]] (by rfl) rfl rfl (by (try simp only [List.map_toArray, List.map_cons, List.map_nil]); first | done | rfl | (simp only [List.length_drop, List.length_take]; rfl)) ?_
        with_reducible refine (laws_toReport.calls k _ _ l0_0 _ _ l0_1 t226 t229 _ ?side1 ?side2 ?side3 ?side4 A19.out).mono ?_
        (case side1 => repeat (first | exact (Kd.C_below HR0_0.out HB.out) | (with_reducible refine Kd.C_alloc ?_ _) | (with_reducible refine Kd.C_drewN ?_ _) | (with_reducible refine Kd.C_drew ?_)))
        (case side2 => exact HC0_0.out)
        (case side3 => repeat (first | exact (Kd.C_below HR0_1.out HB.out) | (with_reducible refine Kd.C_alloc ?_ _) | (with_reducible refine Kd.C_drewN ?_ _) | (with_reducible refine Kd.C_drew ?_)))
        (case side4 => exact HC0_1.out)
        rintro e w44 ⟨v227, v230, rfl, ho0, ho1, hb⟩
        refine ⟨_, rfl, ?_⟩
        have n0_ := ak (Kd.R_lower ho0 (below_size (by repeat (first | (with_reducible first | exact HB.out | apply below_alloc | apply pw_below_drewN | apply below_drew1 | refine below_set ?_ GE222.out | refine below_set ?_ GE223.out) | exact HB.out))))
        have n1_ := ak (Kd.R_lower ho1 (below_size (by repeat (first | (with_reducible first | exact HB.out | apply below_alloc | apply pw_below_drewN | apply below_drew1 | refine below_set ?_ GE222.out | refine below_set ?_ GE223.out) | exact HB.out))))
        have n2_ := ak (blk_below (g := gb222) (o := .cells #[.slice A0_0 l0_0.length c0_0, .slice A0_1 l0_1.length c0_1] 41 (0, 0)) (bTo BK222.out) hb)
        have n3_ := ak (blk_below (g := gb223) (o := .cells #[.slice A1_0 l1_0.length c1_0, .slice A1_1 l1_1.length c1_1] 41 (0, 0)) (bTo BK223.out) hb)
        have n4_ := ak (below_step (by repeat (first | (with_reducible first | exact HB.out | apply below_alloc | apply pw_below_drewN | apply below_drew1 | refine below_set ?_ GE222.out | refine below_set ?_ GE223.out) | exact HB.out)) hb)
        clear BK222
        clear BK223
        clear HB
        have HO228 := n0_
        have HO231 := n1_
        have BK222 := n2_
        have BK223 := n3_
        have HB := n4_
        clear n0_ n1_ n2_ n3_ n4_
        (try clear hb)
        (try clear hb2)
        (try clear hk)
        (try clear hi)
        (try clear ho0)
        (try clear ho1)
        refine hK.out _ _ ⟨(blk_cell BK222.out 0).trans rfl, (blk_cell BK222.out 1).trans rfl, (blk_cell BK223.out 0).trans rfl, (blk_cell BK223.out 1).trans rfl⟩ (fun hHeld => ?_)
        clear hK K
        refine norm_ (a' := ?_) ?_ ?_
        rotate_left
        ·show Act.put _ (some 25) _ = _
         simp only [Act.put, List.setIfInBounds_toArray, List.set_cons_zero, List.set_cons_succ, i64_w, i32_w]
         rfl
        refine two_ (i := 3) (j := 5) (Ni := some 27) (Nj := some 6) #[true, true, true, true, false, false, false] #[true, true, true, false, false, true, false] rfl rfl rfl rfl (by kernel_rfl) (by decide) (by decide) (fun K hK => ?_) (fun K hK => ?_)
        ·skip
         refine goes_ Try.func25 (by kernel_rfl) rfl #[.agg #[.slice A1_0 l1_0.length c1_0, .slice A1_1 l1_1.length c1_1]] (by rfl) rfl rfl (by (try simp only [List.map_toArray, List.map_cons, List.map_nil]); first | done | rfl | (simp only [List.length_drop, List.length_take]; rfl)) ?_
         with_reducible refine (laws_toReport.calls k _ _ l1_0 _ _ l1_1 t232 t235 _ ?side1 ?side2 ?side3 ?side4 A20.out).mono ?_
         (case side1 => repeat (first | exact (Kd.C_below HR1_0.out HB.out) | (with_reducible refine Kd.C_alloc ?_ _) | (with_reducible refine Kd.C_drewN ?_ _) | (with_reducible refine Kd.C_drew ?_)))
         (case side2 => exact HC1_0.out)
         (case side3 => repeat (first | exact (Kd.C_below HR1_1.out HB.out) | (with_reducible refine Kd.C_alloc ?_ _) | (with_reducible refine Kd.C_drewN ?_ _) | (with_reducible refine Kd.C_drew ?_)))
         (case side4 => exact HC1_1.out)
         rintro e w45 ⟨v233, v236, rfl, ho0, ho1, hb⟩
         refine ⟨_, rfl, ?_⟩
         have n0_ := ak (Kd.R_elder' (rTo HO228.out) (Kd.R_base ho0) hb)
         have n1_ := ak (Kd.R_elder' (rTo HO231.out) (Kd.R_base ho1) hb)
         have n2_ := ak (Kd.R_lower (Kd.R_new' ho0 (Kd.R_lt (rTo HO228.out))) (below_size (by repeat (first | (with_reducible first | exact HB.out | apply below_alloc | apply pw_below_drewN | apply below_drew1 | refine below_set ?_ GE222.out | refine below_set ?_ GE223.out) | exact HB.out))))
         have n3_ := ak (Kd.R_lower (Kd.R_new' ho1 (Kd.R_lt (rTo HO231.out))) (below_size (by repeat (first | (with_reducible first | exact HB.out | apply below_alloc | apply pw_below_drewN | apply below_drew1 | refine below_set ?_ GE222.out | refine below_set ?_ GE223.out) | exact HB.out))))
         have n4_ := ak (blk_below (g := gb222) (o := .cells #[.slice A0_0 l0_0.length c0_0, .slice A0_1 l0_1.length c0_1] 41 (0, 0)) (bTo BK222.out) hb)
         have n5_ := ak (blk_below (g := gb223) (o := .cells #[.slice A1_0 l1_0.length c1_0, .slice A1_1 l1_1.length c1_1] 41 (0, 0)) (bTo BK223.out) hb)
         have n6_ := ak (below_step (by repeat (first | (with_reducible first | exact HB.out | apply below_alloc | apply pw_below_drewN | apply below_drew1 | refine below_set ?_ GE222.out | refine below_set ?_ GE223.out) | exact HB.out)) hb)
         clear HO228
         clear HO231
         clear BK222
         clear BK223
         clear HB
         have HO228 := n0_
         have HO231 := n1_
         have HO234 := n2_
         have HO237 := n3_
         have BK222 := n4_
         have BK223 := n5_
         have HB := n6_
         clear n0_ n1_ n2_ n3_ n4_ n5_ n6_
         (try clear hb)
         (try clear hb2)
         (try clear hk)
         (try clear hi)
         (try clear ho0)
         (try clear ho1)
         obtain ⟨Ao46, co46, eo46⟩ := Kd.R_slice HO228.out
         (first | subst eo46 | (injection eo46 with f1_ f2_ f3_; have f4_ := f1_.symm; have f5_ := f3_.symm; clear f1_ f2_ f3_; subst f4_; subst f5_))
         obtain ⟨Ao47, co47, eo47⟩ := Kd.R_slice HO231.out
         (first | subst eo47 | (injection eo47 with f1_ f2_ f3_; have f4_ := f1_.symm; have f5_ := f3_.symm; clear f1_ f2_ f3_; subst f4_; subst f5_))
         obtain ⟨Ao48, co48, eo48⟩ := Kd.R_slice HO234.out
         (first | subst eo48 | (injection eo48 with f1_ f2_ f3_; have f4_ := f1_.symm; have f5_ := f3_.symm; clear f1_ f2_ f3_; subst f4_; subst f5_))
         obtain ⟨Ao49, co49, eo49⟩ := Kd.R_slice HO237.out
         (first | subst eo49 | (injection eo49 with f1_ f2_ f3_; have f4_ := f1_.symm; have f5_ := f3_.symm; clear f1_ f2_ f3_; subst f4_; subst f5_))
         refine hK.out _ _ ⟨(blk_cell BK222.out 0).trans rfl, (blk_cell BK222.out 1).trans rfl, (blk_cell BK223.out 0).trans rfl, (blk_cell BK223.out 1).trans rfl⟩ (fun hHeld => ?_)
         clear hK K
         refine norm_ (a' := ?_) ?_ ?_
         rotate_left
         ·show Act.put _ (some 27) _ = _
          simp only [Act.put, List.setIfInBounds_toArray, List.set_cons_zero, List.set_cons_succ, i64_w, i32_w]
          rfl
         refine two_ (i := 4) (j := 5) (Ni := some 28) (Nj := some 6) #[true, true, true, true, true, false, false] #[true, true, true, true, false, true, false] rfl rfl rfl rfl (by kernel_rfl) (by decide) (by decide) (fun K hK => ?_) (fun K hK => ?_)
         ·skip
          refine goes_ Try.func21 (by kernel_rfl) rfl #[.agg #[.slice Ao46 t226.length co46, .slice Ao47 t229.length co47], .agg #[.slice Ao48 t232.length co48, .slice Ao49 t235.length co49]] (by rfl) rfl rfl (by (try simp only [List.map_toArray, List.map_cons, List.map_nil]); first | done | rfl | (simp only [List.length_drop, List.length_take]; rfl)) ?_
          with_reducible refine (spec_MergeReports.calls k _ _ t226 _ _ t229 _ _ t232 _ _ t235 t238 t241 _ ?side1 ?side2 ?side3 ?side4 ?side5 ?side6 ?side7 ?side8 A21.out).mono ?_
          (case side1 => repeat (first | exact (Kd.R_reads' HO228.out).2.2 | (with_reducible refine Kd.C_alloc ?_ _) | (with_reducible refine Kd.C_drewN ?_ _) | (with_reducible refine Kd.C_drew ?_)))
          (case side2 => exact (Kd.R_reads' HO228.out).2.1)
          (case side3 => repeat (first | exact (Kd.R_reads' HO231.out).2.2 | (with_reducible refine Kd.C_alloc ?_ _) | (with_reducible refine Kd.C_drewN ?_ _) | (with_reducible refine Kd.C_drew ?_)))
          (case side4 => exact (Kd.R_reads' HO231.out).2.1)
          (case side5 => repeat (first | exact (Kd.R_reads' HO234.out).2.2 | (with_reducible refine Kd.C_alloc ?_ _) | (with_reducible refine Kd.C_drewN ?_ _) | (with_reducible refine Kd.C_drew ?_)))
          (case side6 => exact (Kd.R_reads' HO234.out).2.1)
          (case side7 => repeat (first | exact (Kd.R_reads' HO237.out).2.2 | (with_reducible refine Kd.C_alloc ?_ _) | (with_reducible refine Kd.C_drewN ?_ _) | (with_reducible refine Kd.C_drew ?_)))
          (case side8 => exact (Kd.R_reads' HO237.out).2.1)
          rintro e w50 ⟨v239, v242, rfl, ho0, ho1, hb⟩
          refine ⟨_, rfl, ?_⟩
          have n0_ := ak (Kd.R_elder' (rTo HO228.out) (Kd.R_base ho0) hb)
          have n1_ := ak (Kd.R_elder' (rTo HO231.out) (Kd.R_base ho1) hb)
          have n2_ := ak (Kd.R_elder' (rTo HO234.out) (Kd.R_base ho0) hb)
          have n3_ := ak (Kd.R_elder' (rTo HO237.out) (Kd.R_base ho1) hb)
          have n4_ := ak (Kd.R_lower (Kd.R_new' (Kd.R_new' ho0 (Kd.R_lt (rTo HO228.out))) (Kd.R_lt (rTo HO234.out))) (below_size (by repeat (first | (with_reducible first | exact HB.out | apply below_alloc | apply pw_below_drewN | apply below_drew1 | refine below_set ?_ GE222.out | refine below_set ?_ GE223.out) | exact HB.out))))
          have n5_ := ak (Kd.R_lower (Kd.R_new' (Kd.R_new' ho1 (Kd.R_lt (rTo HO231.out))) (Kd.R_lt (rTo HO237.out))) (below_size (by repeat (first | (with_reducible first | exact HB.out | apply below_alloc | apply pw_below_drewN | apply below_drew1 | refine below_set ?_ GE222.out | refine below_set ?_ GE223.out) | exact HB.out))))
          have n6_ := ak (blk_below (g := gb222) (o := .cells #[.slice A0_0 l0_0.length c0_0, .slice A0_1 l0_1.length c0_1] 41 (0, 0)) (bTo BK222.out) hb)
          have n7_ := ak (blk_below (g := gb223) (o := .cells #[.slice A1_0 l1_0.length c1_0, .slice A1_1 l1_1.length c1_1] 41 (0, 0)) (bTo BK223.out) hb)
          have n8_ := ak (below_step (by repeat (first | (with_reducible first | exact HB.out | apply below_alloc | apply pw_below_drewN | apply below_drew1 | refine below_set ?_ GE222.out | refine below_set ?_ GE223.out) | exact HB.out)) hb)
          clear HO228
          clear HO231
          clear HO234
          clear HO237
          clear BK222
          clear BK223
          clear HB
          have HO228 := n0_
          have HO231 := n1_
          have HO234 := n2_
          have HO237 := n3_
          have HO240 := n4_
          have HO243 := n5_
          have BK222 := n6_
          have BK223 := n7_
          have HB := n8_
          clear n0_ n1_ n2_ n3_ n4_ n5_ n6_ n7_ n8_
          (try clear hb)
          (try clear hb2)
          (try clear hk)
          (try clear hi)
          (try clear ho0)
          (try clear ho1)
          refine hK.out _ _ ⟨(blk_cell BK222.out 0).trans rfl, (blk_cell BK222.out 1).trans rfl, (blk_cell BK223.out 0).trans rfl, (blk_cell BK223.out 1).trans rfl⟩ (fun hHeld => ?_)
          clear hK K
          refine norm_ (a' := ?_) ?_ ?_
          rotate_left
          ·show Act.put _ (some 28) _ = _
           simp only [Act.put, List.setIfInBounds_toArray, List.set_cons_zero, List.set_cons_succ, i64_w, i32_w]
           rfl
          refine one_ (i := 5) (N := some 6) #[true, true, true, true, true, true, false] rfl rfl (by kernel_rfl) (by decide) (fun K hK => ?_)
          refine box_step ?hg (N := 6) ?hd (cs := #[.slice none 0 0, .slice none 0 0]) (t := 26) ?hr ?_; (case hd => rfl); (case hg => rfl); (case hr => first | (go_simp; done) | (go_simp; rfl))
          intro gb244 hg w51 hbox hb
          have n0_ := ak (Kd.R_below (rTo HO228.out) hb)
          have n1_ := ak (Kd.R_below (rTo HO231.out) hb)
          have n2_ := ak (Kd.R_below (rTo HO234.out) hb)
          have n3_ := ak (Kd.R_below (rTo HO237.out) hb)
          have n4_ := ak (Kd.R_below (rTo HO240.out) hb)
          have n5_ := ak (Kd.R_below (rTo HO243.out) hb)
          have n6_ := ak (blk_below (g := gb222) (o := .cells #[.slice A0_0 l0_0.length c0_0, .slice A0_1 l0_1.length c0_1] 41 (0, 0)) (bTo BK222.out) hb)
          have n7_ := ak (blk_below (g := gb223) (o := .cells #[.slice A1_0 l1_0.length c1_0, .slice A1_1 l1_1.length c1_1] 41 (0, 0)) (bTo BK223.out) hb)
          have n8_ := ak (below_step (by repeat (first | (with_reducible first | exact HB.out | apply below_alloc | apply pw_below_drewN | apply below_drew1 | refine below_set ?_ GE222.out | refine below_set ?_ GE223.out) | exact HB.out)) hb)
          have n9_ := ak (hbox)
          have n10_ := ak ((by rw [hg]; exact (below_size (by repeat (first | (with_reducible first | exact HB.out | apply below_alloc | apply pw_below_drewN | apply below_drew1 | refine below_set ?_ GE222.out | refine below_set ?_ GE223.out) | exact HB.out))) : w.heap.size ≤ gb244))
          have n11_ := ak ((by rw [hg]; exact (below_size (by repeat (first | (with_reducible first | exact HB.out | apply below_alloc | apply pw_below_drewN | apply below_drew1 | refine below_set ?_ GE222.out | refine below_set ?_ GE223.out) | exact HB.out))) : w.heap.size ≤ gb244))
          have n12_ := ak ((by rw [hg]; exact Nat.ne_of_lt (blk_lt (g := gb222) (o := .cells #[.slice A0_0 l0_0.length c0_0, .slice A0_1 l0_1.length c0_1] 41 (0, 0)) (bTo BK222.out)) : gb222 ≠ gb244))
          have n13_ := ak ((by rw [hg]; exact Nat.ne_of_gt (blk_lt (g := gb222) (o := .cells #[.slice A0_0 l0_0.length c0_0, .slice A0_1 l0_1.length c0_1] 41 (0, 0)) (bTo BK222.out)) : gb244 ≠ gb222))
          have n14_ := ak ((by rw [hg]; exact Nat.ne_of_lt (blk_lt (g := gb223) (o := .cells #[.slice A1_0 l1_0.length c1_0, .slice A1_1 l1_1.length c1_1] 41 (0, 0)) (bTo BK223.out)) : gb223 ≠ gb244))
          have n15_ := ak ((by rw [hg]; exact Nat.ne_of_gt (blk_lt (g := gb223) (o := .cells #[.slice A1_0 l1_0.length c1_0, .slice A1_1 l1_1.length c1_1] 41 (0, 0)) (bTo BK223.out)) : gb244 ≠ gb223))
          clear HO228
          clear HO231
          clear HO234
          clear HO237
          clear HO240
          clear HO243
          clear BK222
          clear BK223
          clear HB
          have HO228 := n0_
          have HO231 := n1_
          have HO234 := n2_
          have HO237 := n3_
          have HO240 := n4_
          have HO243 := n5_
          have BK222 := n6_
          have BK223 := n7_
          have HB := n8_
          have BK244 := n9_
          have GW244 := n10_
          have GE244 := n11_
          have NB222_244 := n12_
          have NB244_222 := n13_
          have NB223_244 := n14_
          have NB244_223 := n15_
          clear n0_ n1_ n2_ n3_ n4_ n5_ n6_ n7_ n8_ n9_ n10_ n11_ n12_ n13_ n14_ n15_
          clear hb hbox hg
          refine hK.out _ _ ⟨(blk_cell BK222.out 0).trans rfl, (blk_cell BK222.out 1).trans rfl, (blk_cell BK223.out 0).trans rfl, (blk_cell BK223.out 1).trans rfl⟩ (fun hHeld => ?_)
          clear hK K
          refine norm_ (a' := ?_) ?_ ?_
          rotate_left
          ·show Act.put _ (some 6) _ = _
           simp only [Act.put, List.setIfInBounds_toArray, List.set_cons_zero, List.set_cons_succ, i64_w, i32_w]
           rfl
          exact norm_ (by simp only [putAll, Act.put, List.setIfInBounds_toArray, List.set_cons_zero, List.set_cons_succ]) (hCont (.slice Ao46 t226.length co46, .slice Ao47 t229.length co47, .slice Ao48 t232.length co48, .slice Ao49 t235.length co49, v239, v242, gb244) _ ⟨hHeld, (rTo (Kd.R_mono HO228.out (fun _ hk => ⟨(gives hk), hk.2⟩))), (rTo (Kd.R_mono HO231.out (fun _ hk => ⟨(gives hk), hk.2⟩))), (rTo (Kd.R_mono HO234.out (fun _ hk => ⟨(gives hk), hk.2⟩))), (rTo (Kd.R_mono HO237.out (fun _ hk => ⟨(gives hk), hk.2⟩))), (rTo (Kd.R_mono HO240.out (fun _ hk => ⟨(gives hk), hk.2⟩))), (rTo (Kd.R_mono HO243.out (fun _ hk => ⟨(gives hk), hk.2⟩))), (bTo BK222.out), (bTo BK223.out), (bTo BK244.out), GW244.out, GE244.out, NB222_244.out, NB244_222.out, NB223_244.out, NB244_223.out, (by repeat (first | (with_reducible first | exact HB.out | apply below_alloc | apply pw_below_drewN | apply below_drew1 | refine below_set ?_ GE222.out | refine below_set ?_ GE223.out | refine below_set ?_ GE244.out) | exact HB.out))⟩)
         ·skip
          refine box_step ?hg (N := 6) ?hd (cs := #[.slice none 0 0, .slice none 0 0]) (t := 26) ?hr ?_; (case hd => rfl); (case hg => rfl); (case hr => first | (go_simp; done) | (go_simp; rfl))
          intro gb244 hg w46 hbox hb
          have n0_ := ak (Kd.R_below (rTo HO228.out) hb)
          have n1_ := ak (Kd.R_below (rTo HO231.out) hb)
          have n2_ := ak (Kd.R_below (rTo HO234.out) hb)
          have n3_ := ak (Kd.R_below (rTo HO237.out) hb)
          have n4_ := ak (blk_below (g := gb222) (o := .cells #[.slice A0_0 l0_0.length c0_0, .slice A0_1 l0_1.length c0_1] 41 (0, 0)) (bTo BK222.out) hb)
          have n5_ := ak (blk_below (g := gb223) (o := .cells #[.slice A1_0 l1_0.length c1_0, .slice A1_1 l1_1.length c1_1] 41 (0, 0)) (bTo BK223.out) hb)
          have n6_ := ak (below_step (by repeat (first | (with_reducible first | exact HB.out | apply below_alloc | apply pw_below_drewN | apply below_drew1 | refine below_set ?_ GE222.out | refine below_set ?_ GE223.out) | exact HB.out)) hb)
          have n7_ := ak (hbox)
          have n8_ := ak ((by rw [hg]; exact (below_size (by repeat (first | (with_reducible first | exact HB.out | apply below_alloc | apply pw_below_drewN | apply below_drew1 | refine below_set ?_ GE222.out | refine below_set ?_ GE223.out) | exact HB.out))) : w.heap.size ≤ gb244))
          have n9_ := ak ((by rw [hg]; exact (below_size (by repeat (first | (with_reducible first | exact HB.out | apply below_alloc | apply pw_below_drewN | apply below_drew1 | refine below_set ?_ GE222.out | refine below_set ?_ GE223.out) | exact HB.out))) : w.heap.size ≤ gb244))
          have n10_ := ak ((by rw [hg]; exact Nat.ne_of_lt (blk_lt (g := gb222) (o := .cells #[.slice A0_0 l0_0.length c0_0, .slice A0_1 l0_1.length c0_1] 41 (0, 0)) (bTo BK222.out)) : gb222 ≠ gb244))
          have n11_ := ak ((by rw [hg]; exact Nat.ne_of_gt (blk_lt (g := gb222) (o := .cells #[.slice A0_0 l0_0.length c0_0, .slice A0_1 l0_1.length c0_1] 41 (0, 0)) (bTo BK222.out)) : gb244 ≠ gb222))
          have n12_ := ak ((by rw [hg]; exact Nat.ne_of_lt (blk_lt (g := gb223) (o := .cells #[.slice A1_0 l1_0.length c1_0, .slice A1_1 l1_1.length c1_1] 41 (0, 0)) (bTo BK223.out)) : gb223 ≠ gb244))
          have n13_ := ak ((by rw [hg]; exact Nat.ne_of_gt (blk_lt (g := gb223) (o := .cells #[.slice A1_0 l1_0.length c1_0, .slice A1_1 l1_1.length c1_1] 41 (0, 0)) (bTo BK223.out)) : gb244 ≠ gb223))
          clear HO228
          clear HO231
          clear HO234
          clear HO237
          clear BK222
          clear BK223
          clear HB
          have HO228 := n0_
          have HO231 := n1_
          have HO234 := n2_
          have HO237 := n3_
          have BK222 := n4_
          have BK223 := n5_
          have HB := n6_
          have BK244 := n7_
          have GW244 := n8_
          have GE244 := n9_
          have NB222_244 := n10_
          have NB244_222 := n11_
          have NB223_244 := n12_
          have NB244_223 := n13_
          clear n0_ n1_ n2_ n3_ n4_ n5_ n6_ n7_ n8_ n9_ n10_ n11_ n12_ n13_
          clear hb hbox hg
          obtain ⟨Ao47, co47, eo47⟩ := Kd.R_slice HO228.out
          (first | subst eo47 | (injection eo47 with f1_ f2_ f3_; have f4_ := f1_.symm; have f5_ := f3_.symm; clear f1_ f2_ f3_; subst f4_; subst f5_))
          obtain ⟨Ao48, co48, eo48⟩ := Kd.R_slice HO231.out
          (first | subst eo48 | (injection eo48 with f1_ f2_ f3_; have f4_ := f1_.symm; have f5_ := f3_.symm; clear f1_ f2_ f3_; subst f4_; subst f5_))
          obtain ⟨Ao49, co49, eo49⟩ := Kd.R_slice HO234.out
          (first | subst eo49 | (injection eo49 with f1_ f2_ f3_; have f4_ := f1_.symm; have f5_ := f3_.symm; clear f1_ f2_ f3_; subst f4_; subst f5_))
          obtain ⟨Ao50, co50, eo50⟩ := Kd.R_slice HO237.out
          (first | subst eo50 | (injection eo50 with f1_ f2_ f3_; have f4_ := f1_.symm; have f5_ := f3_.symm; clear f1_ f2_ f3_; subst f4_; subst f5_))
          refine hK.out _ _ ⟨(blk_cell BK222.out 0).trans rfl, (blk_cell BK222.out 1).trans rfl, (blk_cell BK223.out 0).trans rfl, (blk_cell BK223.out 1).trans rfl⟩ (fun hHeld => ?_)
          clear hK K
          refine norm_ (a' := ?_) ?_ ?_
          rotate_left
          ·show Act.put _ (some 6) _ = _
           simp only [Act.put, List.setIfInBounds_toArray, List.set_cons_zero, List.set_cons_succ, i64_w, i32_w]
           rfl
          refine one_ (i := 4) (N := some 28) #[true, true, true, true, true, true, false] rfl rfl (by kernel_rfl) (by decide) (fun K hK => ?_)
          refine goes_ Try.func21 (by kernel_rfl) rfl #[.agg #[.slice Ao47 t226.length co47, .slice Ao48 t229.length co48], .agg #[.slice Ao49 t232.length co49, .slice Ao50 t235.length co50]] (by rfl) rfl rfl (by (try simp only [List.map_toArray, List.map_cons, List.map_nil]); first | done | rfl | (simp only [List.length_drop, List.length_take]; rfl)) ?_
          with_reducible refine (spec_MergeReports.calls k _ _ t226 _ _ t229 _ _ t232 _ _ t235 t238 t241 _ ?side1 ?side2 ?side3 ?side4 ?side5 ?side6 ?side7 ?side8 A21.out).mono ?_
          (case side1 => repeat (first | exact (Kd.R_reads' HO228.out).2.2 | (with_reducible refine Kd.C_alloc ?_ _) | (with_reducible refine Kd.C_drewN ?_ _) | (with_reducible refine Kd.C_drew ?_)))
          (case side2 => exact (Kd.R_reads' HO228.out).2.1)
          (case side3 => repeat (first | exact (Kd.R_reads' HO231.out).2.2 | (with_reducible refine Kd.C_alloc ?_ _) | (with_reducible refine Kd.C_drewN ?_ _) | (with_reducible refine Kd.C_drew ?_)))
          (case side4 => exact (Kd.R_reads' HO231.out).2.1)
          (case side5 => repeat (first | exact (Kd.R_reads' HO234.out).2.2 | (with_reducible refine Kd.C_alloc ?_ _) | (with_reducible refine Kd.C_drewN ?_ _) | (with_reducible refine Kd.C_drew ?_)))
          (case side6 => exact (Kd.R_reads' HO234.out).2.1)
          (case side7 => repeat (first | exact (Kd.R_reads' HO237.out).2.2 | (with_reducible refine Kd.C_alloc ?_ _) | (with_reducible refine Kd.C_drewN ?_ _) | (with_reducible refine Kd.C_drew ?_)))
          (case side8 => exact (Kd.R_reads' HO237.out).2.1)
          rintro e w51 ⟨v239, v242, rfl, ho0, ho1, hb⟩
          refine ⟨_, rfl, ?_⟩
          have n0_ := ak (Kd.R_elder' (rTo HO228.out) (Kd.R_base ho0) hb)
          have n1_ := ak (Kd.R_elder' (rTo HO231.out) (Kd.R_base ho1) hb)
          have n2_ := ak (Kd.R_elder' (rTo HO234.out) (Kd.R_base ho0) hb)
          have n3_ := ak (Kd.R_elder' (rTo HO237.out) (Kd.R_base ho1) hb)
          have n4_ := ak (Kd.R_lower (Kd.R_new' (Kd.R_new' ho0 (Kd.R_lt (rTo HO228.out))) (Kd.R_lt (rTo HO234.out))) (below_size (by repeat (first | (with_reducible first | exact HB.out | apply below_alloc | apply pw_below_drewN | apply below_drew1 | refine below_set ?_ GE222.out | refine below_set ?_ GE223.out | refine below_set ?_ GE244.out) | exact HB.out))))
          have n5_ := ak (Kd.R_lower (Kd.R_new' (Kd.R_new' ho1 (Kd.R_lt (rTo HO231.out))) (Kd.R_lt (rTo HO237.out))) (below_size (by repeat (first | (with_reducible first | exact HB.out | apply below_alloc | apply pw_below_drewN | apply below_drew1 | refine below_set ?_ GE222.out | refine below_set ?_ GE223.out | refine below_set ?_ GE244.out) | exact HB.out))))
          have n6_ := ak (blk_below (g := gb222) (o := .cells #[.slice A0_0 l0_0.length c0_0, .slice A0_1 l0_1.length c0_1] 41 (0, 0)) (bTo BK222.out) hb)
          have n7_ := ak (blk_below (g := gb223) (o := .cells #[.slice A1_0 l1_0.length c1_0, .slice A1_1 l1_1.length c1_1] 41 (0, 0)) (bTo BK223.out) hb)
          have n8_ := ak (blk_below (g := gb244) (o := .cells #[.slice none 0 0, .slice none 0 0] 26 (0, 0)) (bTo BK244.out) hb)
          have n9_ := ak (below_step (by repeat (first | (with_reducible first | exact HB.out | apply below_alloc | apply pw_below_drewN | apply below_drew1 | refine below_set ?_ GE222.out | refine below_set ?_ GE223.out | refine below_set ?_ GE244.out) | exact HB.out)) hb)
          clear HO228
          clear HO231
          clear HO234
          clear HO237
          clear BK222
          clear BK223
          clear BK244
          clear HB
          have HO228 := n0_
          have HO231 := n1_
          have HO234 := n2_
          have HO237 := n3_
          have HO240 := n4_
          have HO243 := n5_
          have BK222 := n6_
          have BK223 := n7_
          have BK244 := n8_
          have HB := n9_
          clear n0_ n1_ n2_ n3_ n4_ n5_ n6_ n7_ n8_ n9_
          (try clear hb)
          (try clear hb2)
          (try clear hk)
          (try clear hi)
          (try clear ho0)
          (try clear ho1)
          refine hK.out _ _ ⟨(blk_cell BK222.out 0).trans rfl, (blk_cell BK222.out 1).trans rfl, (blk_cell BK223.out 0).trans rfl, (blk_cell BK223.out 1).trans rfl⟩ (fun hHeld => ?_)
          clear hK K
          refine norm_ (a' := ?_) ?_ ?_
          rotate_left
          ·show Act.put _ (some 28) _ = _
           simp only [Act.put, List.setIfInBounds_toArray, List.set_cons_zero, List.set_cons_succ, i64_w, i32_w]
           rfl
          exact norm_ (by simp only [putAll, Act.put, List.setIfInBounds_toArray, List.set_cons_zero, List.set_cons_succ]) (hCont (.slice Ao47 t226.length co47, .slice Ao48 t229.length co48, .slice Ao49 t232.length co49, .slice Ao50 t235.length co50, v239, v242, gb244) _ ⟨hHeld, (rTo (Kd.R_mono HO228.out (fun _ hk => ⟨(gives hk), hk.2⟩))), (rTo (Kd.R_mono HO231.out (fun _ hk => ⟨(gives hk), hk.2⟩))), (rTo (Kd.R_mono HO234.out (fun _ hk => ⟨(gives hk), hk.2⟩))), (rTo (Kd.R_mono HO237.out (fun _ hk => ⟨(gives hk), hk.2⟩))), (rTo (Kd.R_mono HO240.out (fun _ hk => ⟨(gives hk), hk.2⟩))), (rTo (Kd.R_mono HO243.out (fun _ hk => ⟨(gives hk), hk.2⟩))), (bTo BK222.out), (bTo BK223.out), (bTo BK244.out), GW244.out, GE244.out, NB222_244.out, NB244_222.out, NB223_244.out, NB244_223.out, (by repeat (first | (with_reducible first | exact HB.out | apply below_alloc | apply pw_below_drewN | apply below_drew1 | refine below_set ?_ GE222.out | refine below_set ?_ GE223.out | refine below_set ?_ GE244.out) | exact HB.out))⟩)
        ·skip
         refine box_step ?hg (N := 6) ?hd (cs := #[.slice none 0 0, .slice none 0 0]) (t := 26) ?hr ?_; (case hd => rfl); (case hg => rfl); (case hr => first | (go_simp; done) | (go_simp; rfl))
         intro gb244 hg w45 hbox hb
         have n0_ := ak (Kd.R_below (rTo HO228.out) hb)
         have n1_ := ak (Kd.R_below (rTo HO231.out) hb)
         have n2_ := ak (blk_below (g := gb222) (o := .cells #[.slice A0_0 l0_0.length c0_0, .slice A0_1 l0_1.length c0_1] 41 (0, 0)) (bTo BK222.out) hb)
         have n3_ := ak (blk_below (g := gb223) (o := .cells #[.slice A1_0 l1_0.length c1_0, .slice A1_1 l1_1.length c1_1] 41 (0, 0)) (bTo BK223.out) hb)
         have n4_ := ak (below_step (by repeat (first | (with_reducible first | exact HB.out | apply below_alloc | apply pw_below_drewN | apply below_drew1 | refine below_set ?_ GE222.out | refine below_set ?_ GE223.out) | exact HB.out)) hb)
         have n5_ := ak (hbox)
         have n6_ := ak ((by rw [hg]; exact (below_size (by repeat (first | (with_reducible first | exact HB.out | apply below_alloc | apply pw_below_drewN | apply below_drew1 | refine below_set ?_ GE222.out | refine below_set ?_ GE223.out) | exact HB.out))) : w.heap.size ≤ gb244))
         have n7_ := ak ((by rw [hg]; exact (below_size (by repeat (first | (with_reducible first | exact HB.out | apply below_alloc | apply pw_below_drewN | apply below_drew1 | refine below_set ?_ GE222.out | refine below_set ?_ GE223.out) | exact HB.out))) : w.heap.size ≤ gb244))
         have n8_ := ak ((by rw [hg]; exact Nat.ne_of_lt (blk_lt (g := gb222) (o := .cells #[.slice A0_0 l0_0.length c0_0, .slice A0_1 l0_1.length c0_1] 41 (0, 0)) (bTo BK222.out)) : gb222 ≠ gb244))
         have n9_ := ak ((by rw [hg]; exact Nat.ne_of_gt (blk_lt (g := gb222) (o := .cells #[.slice A0_0 l0_0.length c0_0, .slice A0_1 l0_1.length c0_1] 41 (0, 0)) (bTo BK222.out)) : gb244 ≠ gb222))
         have n10_ := ak ((by rw [hg]; exact Nat.ne_of_lt (blk_lt (g := gb223) (o := .cells #[.slice A1_0 l1_0.length c1_0, .slice A1_1 l1_1.length c1_1] 41 (0, 0)) (bTo BK223.out)) : gb223 ≠ gb244))
         have n11_ := ak ((by rw [hg]; exact Nat.ne_of_gt (blk_lt (g := gb223) (o := .cells #[.slice A1_0 l1_0.length c1_0, .slice A1_1 l1_1.length c1_1] 41 (0, 0)) (bTo BK223.out)) : gb244 ≠ gb223))
         clear HO228
         clear HO231
         clear BK222
         clear BK223
         clear HB
         have HO228 := n0_
         have HO231 := n1_
         have BK222 := n2_
         have BK223 := n3_
         have HB := n4_
         have BK244 := n5_
         have GW244 := n6_
         have GE244 := n7_
         have NB222_244 := n8_
         have NB244_222 := n9_
         have NB223_244 := n10_
         have NB244_223 := n11_
         clear n0_ n1_ n2_ n3_ n4_ n5_ n6_ n7_ n8_ n9_ n10_ n11_
         clear hb hbox hg
         refine hK.out _ _ ⟨(blk_cell BK222.out 0).trans rfl, (blk_cell BK222.out 1).trans rfl, (blk_cell BK223.out 0).trans rfl, (blk_cell BK223.out 1).trans rfl⟩ (fun hHeld => ?_)
         clear hK K
         refine norm_ (a' := ?_) ?_ ?_
         rotate_left
         ·show Act.put _ (some 6) _ = _
          simp only [Act.put, List.setIfInBounds_toArray, List.set_cons_zero, List.set_cons_succ, i64_w, i32_w]
          rfl
         refine one_ (i := 3) (N := some 27) #[true, true, true, true, false, true, false] rfl rfl (by kernel_rfl) (by decide) (fun K hK => ?_)
         refine goes_ Try.func25 (by kernel_rfl) rfl #[.agg #[.slice A1_0 l1_0.length c1_0, .slice A1_1 l1_1.length c1_1]] (by rfl) rfl rfl (by (try simp only [List.map_toArray, List.map_cons, List.map_nil]); first | done | rfl | (simp only [List.length_drop, List.length_take]; rfl)) ?_
         with_reducible refine (laws_toReport.calls k _ _ l1_0 _ _ l1_1 t232 t235 _ ?side1 ?side2 ?side3 ?side4 A20.out).mono ?_
         (case side1 => repeat (first | exact (Kd.C_below HR1_0.out HB.out) | (with_reducible refine Kd.C_alloc ?_ _) | (with_reducible refine Kd.C_drewN ?_ _) | (with_reducible refine Kd.C_drew ?_)))
         (case side2 => exact HC1_0.out)
         (case side3 => repeat (first | exact (Kd.C_below HR1_1.out HB.out) | (with_reducible refine Kd.C_alloc ?_ _) | (with_reducible refine Kd.C_drewN ?_ _) | (with_reducible refine Kd.C_drew ?_)))
         (case side4 => exact HC1_1.out)
         rintro e w46 ⟨v233, v236, rfl, ho0, ho1, hb⟩
         refine ⟨_, rfl, ?_⟩
         have n0_ := ak (Kd.R_elder' (rTo HO228.out) (Kd.R_base ho0) hb)
         have n1_ := ak (Kd.R_elder' (rTo HO231.out) (Kd.R_base ho1) hb)
         have n2_ := ak (Kd.R_lower (Kd.R_new' ho0 (Kd.R_lt (rTo HO228.out))) (below_size (by repeat (first | (with_reducible first | exact HB.out | apply below_alloc | apply pw_below_drewN | apply below_drew1 | refine below_set ?_ GE222.out | refine below_set ?_ GE223.out | refine below_set ?_ GE244.out) | exact HB.out))))
         have n3_ := ak (Kd.R_lower (Kd.R_new' ho1 (Kd.R_lt (rTo HO231.out))) (below_size (by repeat (first | (with_reducible first | exact HB.out | apply below_alloc | apply pw_below_drewN | apply below_drew1 | refine below_set ?_ GE222.out | refine below_set ?_ GE223.out | refine below_set ?_ GE244.out) | exact HB.out))))
         have n4_ := ak (blk_below (g := gb222) (o := .cells #[.slice A0_0 l0_0.length c0_0, .slice A0_1 l0_1.length c0_1] 41 (0, 0)) (bTo BK222.out) hb)
         have n5_ := ak (blk_below (g := gb223) (o := .cells #[.slice A1_0 l1_0.length c1_0, .slice A1_1 l1_1.length c1_1] 41 (0, 0)) (bTo BK223.out) hb)
         have n6_ := ak (blk_below (g := gb244) (o := .cells #[.slice none 0 0, .slice none 0 0] 26 (0, 0)) (bTo BK244.out) hb)
         have n7_ := ak (below_step (by repeat (first | (with_reducible first | exact HB.out | apply below_alloc | apply pw_below_drewN | apply below_drew1 | refine below_set ?_ GE222.out | refine below_set ?_ GE223.out | refine below_set ?_ GE244.out) | exact HB.out)) hb)
         clear HO228
         clear HO231
         clear BK222
         clear BK223
         clear BK244
         clear HB
         have HO228 := n0_
         have HO231 := n1_
         have HO234 := n2_
         have HO237 := n3_
         have BK222 := n4_
         have BK223 := n5_
         have BK244 := n6_
         have HB := n7_
         clear n0_ n1_ n2_ n3_ n4_ n5_ n6_ n7_
         (try clear hb)
         (try clear hb2)
         (try clear hk)
         (try clear hi)
         (try clear ho0)
         (try clear ho1)
         obtain ⟨Ao47, co47, eo47⟩ := Kd.R_slice HO228.out
         (first | subst eo47 | (injection eo47 with f1_ f2_ f3_; have f4_ := f1_.symm; have f5_ := f3_.symm; clear f1_ f2_ f3_; subst f4_; subst f5_))
         obtain ⟨Ao48, co48, eo48⟩ := Kd.R_slice HO231.out
         (first | subst eo48 | (injection eo48 with f1_ f2_ f3_; have f4_ := f1_.symm; have f5_ := f3_.symm; clear f1_ f2_ f3_; subst f4_; subst f5_))
         obtain ⟨Ao49, co49, eo49⟩ := Kd.R_slice HO234.out
         (first | subst eo49 | (injection eo49 with f1_ f2_ f3_; have f4_ := f1_.symm; have f5_ := f3_.symm; clear f1_ f2_ f3_; subst f4_; subst f5_))
         obtain ⟨Ao50, co50, eo50⟩ := Kd.R_slice HO237.out
         (first | subst eo50 | (injection eo50 with f1_ f2_ f3_; have f4_ := f1_.symm; have f5_ := f3_.symm; clear f1_ f2_ f3_; subst f4_; subst f5_))
         refine hK.out _ _ ⟨(blk_cell BK222.out 0).trans rfl, (blk_cell BK222.out 1).trans rfl, (blk_cell BK223.out 0).trans rfl, (blk_cell BK223.out 1).trans rfl⟩ (fun hHeld => ?_)
         clear hK K
         refine norm_ (a' := ?_) ?_ ?_
         rotate_left
         ·show Act.put _ (some 27) _ = _
          simp only [Act.put, List.setIfInBounds_toArray, List.set_cons_zero, List.set_cons_succ, i64_w, i32_w]
          rfl
         refine one_ (i := 4) (N := some 28) #[true, true, true, true, true, true, false] rfl rfl (by kernel_rfl) (by decide) (fun K hK => ?_)
         refine goes_ Try.func21 (by kernel_rfl) rfl #[.agg #[.slice Ao47 t226.length co47, .slice Ao48 t229.length co48], .agg #[.slice Ao49 t232.length co49, .slice Ao50 t235.length co50]] (by rfl) rfl rfl (by (try simp only [List.map_toArray, List.map_cons, List.map_nil]); first | done | rfl | (simp only [List.length_drop, List.length_take]; rfl)) ?_
         with_reducible refine (spec_MergeReports.calls k _ _ t226 _ _ t229 _ _ t232 _ _ t235 t238 t241 _ ?side1 ?side2 ?side3 ?side4 ?side5 ?side6 ?side7 ?side8 A21.out).mono ?_
         (case side1 => repeat (first | exact (Kd.R_reads' HO228.out).2.2 | (with_reducible refine Kd.C_alloc ?_ _) | (with_reducible refine Kd.C_drewN ?_ _) | (with_reducible refine Kd.C_drew ?_)))
         (case side2 => exact (Kd.R_reads' HO228.out).2.1)
         (case side3 => repeat (first | exact (Kd.R_reads' HO231.out).2.2 | (with_reducible refine Kd.C_alloc ?_ _) | (with_reducible refine Kd.C_drewN ?_ _) | (with_reducible refine Kd.C_drew ?_)))
         (case side4 => exact (Kd.R_reads' HO231.out).2.1)
         (case side5 => repeat (first | exact (Kd.R_reads' HO234.out).2.2 | (with_reducible refine Kd.C_alloc ?_ _) | (with_reducible refine Kd.C_drewN ?_ _) | (with_reducible refine Kd.C_drew ?_)))
         (case side6 => exact (Kd.R_reads' HO234.out).2.1)
         (case side7 => repeat (first | exact (Kd.R_reads' HO237.out).2.2 | (with_reducible refine Kd.C_alloc ?_ _) | (with_reducible refine Kd.C_drewN ?_ _) | (with_reducible refine Kd.C_drew ?_)))
         (case side8 => exact (Kd.R_reads' HO237.out).2.1)
         rintro e w51 ⟨v239, v242, rfl, ho0, ho1, hb⟩
         refine ⟨_, rfl, ?_⟩
         have n0_ := ak (Kd.R_elder' (rTo HO228.out) (Kd.R_base ho0) hb)
         have n1_ := ak (Kd.R_elder' (rTo HO231.out) (Kd.R_base ho1) hb)
         have n2_ := ak (Kd.R_elder' (rTo HO234.out) (Kd.R_base ho0) hb)
         have n3_ := ak (Kd.R_elder' (rTo HO237.out) (Kd.R_base ho1) hb)
         have n4_ := ak (Kd.R_lower (Kd.R_new' (Kd.R_new' ho0 (Kd.R_lt (rTo HO228.out))) (Kd.R_lt (rTo HO234.out))) (below_size (by repeat (first | (with_reducible first | exact HB.out | apply below_alloc | apply pw_below_drewN | apply below_drew1 | refine below_set ?_ GE222.out | refine below_set ?_ GE223.out | refine below_set ?_ GE244.out) | exact HB.out))))
         have n5_ := ak (Kd.R_lower (Kd.R_new' (Kd.R_new' ho1 (Kd.R_lt (rTo HO231.out))) (Kd.R_lt (rTo HO237.out))) (below_size (by repeat (first | (with_reducible first | exact HB.out | apply below_alloc | apply pw_below_drewN | apply below_drew1 | refine below_set ?_ GE222.out | refine below_set ?_ GE223.out | refine below_set ?_ GE244.out) | exact HB.out))))
         have n6_ := ak (blk_below (g := gb222) (o := .cells #[.slice A0_0 l0_0.length c0_0, .slice A0_1 l0_1.length c0_1] 41 (0, 0)) (bTo BK222.out) hb)
         have n7_ := ak (blk_below (g := gb223) (o := .cells #[.slice A1_0 l1_0.length c1_0, .slice A1_1 l1_1.length c1_1] 41 (0, 0)) (bTo BK223.out) hb)
         have n8_ := ak (blk_below (g := gb244) (o := .cells #[.slice none 0 0, .slice none 0 0] 26 (0, 0)) (bTo BK244.out) hb)
         have n9_ := ak (below_step (by repeat (first | (with_reducible first | exact HB.out | apply below_alloc | apply pw_below_drewN | apply below_drew1 | refine below_set ?_ GE222.out | refine below_set ?_ GE223.out | refine below_set ?_ GE244.out) | exact HB.out)) hb)
         clear HO228
         clear HO231
         clear HO234
         clear HO237
         clear BK222
         clear BK223
         clear BK244
         clear HB
         have HO228 := n0_
         have HO231 := n1_
         have HO234 := n2_
         have HO237 := n3_
         have HO240 := n4_
         have HO243 := n5_
         have BK222 := n6_
         have BK223 := n7_
         have BK244 := n8_
         have HB := n9_
         clear n0_ n1_ n2_ n3_ n4_ n5_ n6_ n7_ n8_ n9_
         (try clear hb)
         (try clear hb2)
         (try clear hk)
         (try clear hi)
         (try clear ho0)
         (try clear ho1)
         refine hK.out _ _ ⟨(blk_cell BK222.out 0).trans rfl, (blk_cell BK222.out 1).trans rfl, (blk_cell BK223.out 0).trans rfl, (blk_cell BK223.out 1).trans rfl⟩ (fun hHeld => ?_)
         clear hK K
         refine norm_ (a' := ?_) ?_ ?_
         rotate_left
         ·show Act.put _ (some 28) _ = _
          simp only [Act.put, List.setIfInBounds_toArray, List.set_cons_zero, List.set_cons_succ, i64_w, i32_w]
          rfl
         exact norm_ (by simp only [putAll, Act.put, List.setIfInBounds_toArray, List.set_cons_zero, List.set_cons_succ]) (hCont (.slice Ao47 t226.length co47, .slice Ao48 t229.length co48, .slice Ao49 t232.length co49, .slice Ao50 t235.length co50, v239, v242, gb244) _ ⟨hHeld, (rTo (Kd.R_mono HO228.out (fun _ hk => ⟨(gives hk), hk.2⟩))), (rTo (Kd.R_mono HO231.out (fun _ hk => ⟨(gives hk), hk.2⟩))), (rTo (Kd.R_mono HO234.out (fun _ hk => ⟨(gives hk), hk.2⟩))), (rTo (Kd.R_mono HO237.out (fun _ hk => ⟨(gives hk), hk.2⟩))), (rTo (Kd.R_mono HO240.out (fun _ hk => ⟨(gives hk), hk.2⟩))), (rTo (Kd.R_mono HO243.out (fun _ hk => ⟨(gives hk), hk.2⟩))), (bTo BK222.out), (bTo BK223.out), (bTo BK244.out), GW244.out, GE244.out, NB222_244.out, NB244_222.out, NB223_244.out, NB244_223.out, (by repeat (first | (with_reducible first | exact HB.out | apply below_alloc | apply pw_below_drewN | apply below_drew1 | refine below_set ?_ GE222.out | refine below_set ?_ GE223.out | refine below_set ?_ GE244.out) | exact HB.out))⟩)
       ·skip
        refine box_step ?hg (N := 6) ?hd (cs := #[.slice none 0 0, .slice none 0 0]) (t := 26) ?hr ?_; (case hd => rfl); (case hg => rfl); (case hr => first | (go_simp; done) | (go_simp; rfl))
        intro gb244 hg w44 hbox hb
        have n0_ := ak (blk_below (g := gb222) (o := .cells #[.slice A0_0 l0_0.length c0_0, .slice A0_1 l0_1.length c0_1] 41 (0, 0)) (bTo BK222.out) hb)
        have n1_ := ak (blk_below (g := gb223) (o := .cells #[.slice A1_0 l1_0.length c1_0, .slice A1_1 l1_1.length c1_1] 41 (0, 0)) (bTo BK223.out) hb)
        have n2_ := ak (below_step (by repeat (first | (with_reducible first | exact HB.out | apply below_alloc | apply pw_below_drewN | apply below_drew1 | refine below_set ?_ GE222.out | refine below_set ?_ GE223.out) | exact HB.out)) hb)
        have n3_ := ak (hbox)
        have n4_ := ak ((by rw [hg]; exact (below_size (by repeat (first | (with_reducible first | exact HB.out | apply below_alloc | apply pw_below_drewN | apply below_drew1 | refine below_set ?_ GE222.out | refine below_set ?_ GE223.out) | exact HB.out))) : w.heap.size ≤ gb244))
        have n5_ := ak ((by rw [hg]; exact (below_size (by repeat (first | (with_reducible first | exact HB.out | apply below_alloc | apply pw_below_drewN | apply below_drew1 | refine below_set ?_ GE222.out | refine below_set ?_ GE223.out) | exact HB.out))) : w.heap.size ≤ gb244))
        have n6_ := ak ((by rw [hg]; exact Nat.ne_of_lt (blk_lt (g := gb222) (o := .cells #[.slice A0_0 l0_0.length c0_0, .slice A0_1 l0_1.length c0_1] 41 (0, 0)) (bTo BK222.out)) : gb222 ≠ gb244))
        have n7_ := ak ((by rw [hg]; exact Nat.ne_of_gt (blk_lt (g := gb222) (o := .cells #[.slice A0_0 l0_0.length c0_0, .slice A0_1 l0_1.length c0_1] 41 (0, 0)) (bTo BK222.out)) : gb244 ≠ gb222))
        have n8_ := ak ((by rw [hg]; exact Nat.ne_of_lt (blk_lt (g := gb223) (o := .cells #[.slice A1_0 l1_0.length c1_0, .slice A1_1 l1_1.length c1_1] 41 (0, 0)) (bTo BK223.out)) : gb223 ≠ gb244))
        have n9_ := ak ((by rw [hg]; exact Nat.ne_of_gt (blk_lt (g := gb223) (o := .cells #[.slice A1_0 l1_0.length c1_0, .slice A1_1 l1_1.length c1_1] 41 (0, 0)) (bTo BK223.out)) : gb244 ≠ gb223))
        clear BK222
        clear BK223
        clear HB
        have BK222 := n0_
        have BK223 := n1_
        have HB := n2_
        have BK244 := n3_
        have GW244 := n4_
        have GE244 := n5_
        have NB222_244 := n6_
        have NB244_222 := n7_
        have NB223_244 := n8_
        have NB244_223 := n9_
        clear n0_ n1_ n2_ n3_ n4_ n5_ n6_ n7_ n8_ n9_
        clear hb hbox hg
        refine hK.out _ _ ⟨(blk_cell BK222.out 0).trans rfl, (blk_cell BK222.out 1).trans rfl, (blk_cell BK223.out 0).trans rfl, (blk_cell BK223.out 1).trans rfl⟩ (fun hHeld => ?_)
        clear hK K
        refine norm_ (a' := ?_) ?_ ?_
        rotate_left
        ·show Act.put _ (some 6) _ = _
         simp only [Act.put, List.setIfInBounds_toArray, List.set_cons_zero, List.set_cons_succ, i64_w, i32_w]
         rfl
        refine one_ (i := 1) (N := some 25) #[true, true, true, false, false, true, false] rfl rfl (by kernel_rfl) (by decide) (fun K hK => ?_)
        refine goes_ Try.func25 (by kernel_rfl) rfl #[.agg #[.slice A0_0 l0_0.length c0_0, .slice A0_1 l0_1.length c0_1]] (by rfl) rfl rfl (by (try simp only [List.map_toArray, List.map_cons, List.map_nil]); first | done | rfl | (simp only [List.length_drop, List.length_take]; rfl)) ?_
        with_reducible refine (laws_toReport.calls k _ _ l0_0 _ _ l0_1 t226 t229 _ ?side1 ?side2 ?side3 ?side4 A19.out).mono ?_
        (case side1 => repeat (first | exact (Kd.C_below HR0_0.out HB.out) | (with_reducible refine Kd.C_alloc ?_ _) | (with_reducible refine Kd.C_drewN ?_ _) | (with_reducible refine Kd.C_drew ?_)))
        (case side2 => exact HC0_0.out)
        (case side3 => repeat (first | exact (Kd.C_below HR0_1.out HB.out) | (with_reducible refine Kd.C_alloc ?_ _) | (with_reducible refine Kd.C_drewN ?_ _) | (with_reducible refine Kd.C_drew ?_)))
        (case side4 => exact HC0_1.out)
        rintro e w45 ⟨v227, v230, rfl, ho0, ho1, hb⟩
        refine ⟨_, rfl, ?_⟩
        have n0_ := ak (Kd.R_lower ho0 (below_size (by repeat (first | (with_reducible first | exact HB.out | apply below_alloc | apply pw_below_drewN | apply below_drew1 | refine below_set ?_ GE222.out | refine below_set ?_ GE223.out | refine below_set ?_ GE244.out) | exact HB.out))))
        have n1_ := ak (Kd.R_lower ho1 (below_size (by repeat (first | (with_reducible first | exact HB.out | apply below_alloc | apply pw_below_drewN | apply below_drew1 | refine below_set ?_ GE222.out | refine below_set ?_ GE223.out | refine below_set ?_ GE244.out) | exact HB.out))))
        have n2_ := ak (blk_below (g := gb222) (o := .cells #[.slice A0_0 l0_0.length c0_0, .slice A0_1 l0_1.length c0_1] 41 (0, 0)) (bTo BK222.out) hb)
        have n3_ := ak (blk_below (g := gb223) (o := .cells #[.slice A1_0 l1_0.length c1_0, .slice A1_1 l1_1.length c1_1] 41 (0, 0)) (bTo BK223.out) hb)
        have n4_ := ak (blk_below (g := gb244) (o := .cells #[.slice none 0 0, .slice none 0 0] 26 (0, 0)) (bTo BK244.out) hb)
        have n5_ := ak (below_step (by repeat (first | (with_reducible first | exact HB.out | apply below_alloc | apply pw_below_drewN | apply below_drew1 | refine below_set ?_ GE222.out | refine below_set ?_ GE223.out | refine below_set ?_ GE244.out) | exact HB.out)) hb)
        clear BK222
        clear BK223
        clear BK244
        clear HB
        have HO228 := n0_
        have HO231 := n1_
        have BK222 := n2_
        have BK223 := n3_
        have BK244 := n4_
        have HB := n5_
        clear n0_ n1_ n2_ n3_ n4_ n5_
        (try clear hb)
        (try clear hb2)
        (try clear hk)
        (try clear hi)
        (try clear ho0)
        (try clear ho1)
        refine hK.out _ _ ⟨(blk_cell BK222.out 0).trans rfl, (blk_cell BK222.out 1).trans rfl, (blk_cell BK223.out 0).trans rfl, (blk_cell BK223.out 1).trans rfl⟩ (fun hHeld => ?_)
        clear hK K
        refine norm_ (a' := ?_) ?_ ?_
        rotate_left
        ·show Act.put _ (some 25) _ = _
         simp only [Act.put, List.setIfInBounds_toArray, List.set_cons_zero, List.set_cons_succ, i64_w, i32_w]
         rfl
        refine one_ (i := 3) (N := some 27) #[true, true, true, true, false, true, false] rfl rfl (by kernel_rfl) (by decide) (fun K hK => ?_)
        refine goes_ Try.func25 (by kernel_rfl) rfl #[.agg #[.slice A1_0 l1_0.length c1_0, .slice A1_1 l1_1.length c1_1]] (by rfl) rfl rfl (by (try simp only [List.map_toArray, List.map_cons, List.map_nil]); first | done | rfl | (simp only [List.length_drop, List.length_take]; rfl)) ?_
        with_reducible refine (laws_toReport.calls k _ _ l1_0 _ _ l1_1 t232 t235 _ ?side1 ?side2 ?side3 ?side4 A20.out).mono ?_
        (case side1 => repeat (first | exact (Kd.C_below HR1_0.out HB.out) | (with_reducible refine Kd.C_alloc ?_ _) | (with_reducible refine Kd.C_drewN ?_ _) | (with_reducible refine Kd.C_drew ?_)))
        (case side2 => exact HC1_0.out)
        (case side3 => repeat (first | exact (Kd.C_below HR1_1.out HB.out) | (with_reducible refine Kd.C_alloc ?_ _) | (with_reducible refine Kd.C_drewN ?_ _) | (with_reducible refine Kd.C_drew ?_)))
        (case side4 => exact HC1_1.out)
        rintro e w46 ⟨v233, v236, rfl, ho0, ho1, hb⟩
        refine ⟨_, rfl, ?_⟩
        have n0_ := ak (Kd.R_elder' (rTo HO228.out) (Kd.R_base ho0) hb)
        have n1_ := ak (Kd.R_elder' (rTo HO231.out) (Kd.R_base ho1) hb)
        have n2_ := ak (Kd.R_lower (Kd.R_new' ho0 (Kd.R_lt (rTo HO228.out))) (below_size (by repeat (first | (with_reducible first | exact HB.out | apply below_alloc | apply pw_below_drewN | apply below_drew1 | refine below_set ?_ GE222.out | refine below_set ?_ GE223.out | refine below_set ?_ GE244.out) | exact HB.out))))
        have n3_ := ak (Kd.R_lower (Kd.R_new' ho1 (Kd.R_lt (rTo HO231.out))) (below_size (by repeat (first | (with_reducible first | exact HB.out | apply below_alloc | apply pw_below_drewN | apply below_drew1 | refine below_set ?_ GE222.out | refine below_set ?_ GE223.out | refine below_set ?_ GE244.out) | exact HB.out))))
        have n4_ := ak (blk_below (g := gb222) (o := .cells #[.slice A0_0 l0_0.length c0_0, .slice A0_1 l0_1.length c0_1] 41 (0, 0)) (bTo BK222.out) hb)
        have n5_ := ak (blk_below (g := gb223) (o := .cells #[.slice A1_0 l1_0.length c1_0, .slice A1_1 l1_1.length c1_1] 41 (0, 0)) (bTo BK223.out) hb)
        have n6_ := ak (blk_below (g := gb244) (o := .cells #[.slice none 0 0, .slice none 0 0] 26 (0, 0)) (bTo BK244.out) hb)
        have n7_ := ak (below_step (by repeat (first | (with_reducible first | exact HB.out | apply below_alloc | apply pw_below_drewN | apply below_drew1 | refine below_set ?_ GE222.out | refine below_set ?_ GE223.out | refine below_set ?_ GE244.out) | exact HB.out)) hb)
        clear HO228
        clear HO231
        clear BK222
        clear BK223
        clear BK244
        clear HB
        have HO228 := n0_
        have HO231 := n1_
        have HO234 := n2_
        have HO237 := n3_
        have BK222 := n4_
        have BK223 := n5_
        have BK244 := n6_
        have HB := n7_
        clear n0_ n1_ n2_ n3_ n4_ n5_ n6_ n7_
        (try clear hb)
        (try clear hb2)
        (try clear hk)
        (try clear hi)
        (try clear ho0)
        (try clear ho1)
        obtain ⟨Ao47, co47, eo47⟩ := Kd.R_slice HO228.out
        (first | subst eo47 | (injection eo47 with f1_ f2_ f3_; have f4_ := f1_.symm; have f5_ := f3_.symm; clear f1_ f2_ f3_; subst f4_; subst f5_))
        obtain ⟨Ao48, co48, eo48⟩ := Kd.R_slice HO231.out
        (first | subst eo48 | (injection eo48 with f1_ f2_ f3_; have f4_ := f1_.symm; have f5_ := f3_.symm; clear f1_ f2_ f3_; subst f4_; subst f5_))
        obtain ⟨Ao49, co49, eo49⟩ := Kd.R_slice HO234.out
        (first | subst eo49 | (injection eo49 with f1_ f2_ f3_; have f4_ := f1_.symm; have f5_ := f3_.symm; clear f1_ f2_ f3_; subst f4_; subst f5_))
        obtain ⟨Ao50, co50, eo50⟩ := Kd.R_slice HO237.out
        (first | subst eo50 | (injection eo50 with f1_ f2_ f3_; have f4_ := f1_.symm; have f5_ := f3_.symm; clear f1_ f2_ f3_; subst f4_; subst f5_))
        refine hK.out _ _ ⟨(blk_cell BK222.out 0).trans rfl, (blk_cell BK222.out 1).trans rfl, (blk_cell BK223.out 0).trans rfl, (blk_cell BK223.out 1).trans rfl⟩ (fun hHeld => ?_)
        clear hK K
        refine norm_ (a' := ?_) ?_ ?_
        rotate_left
        ·show Act.put _ (some 27) _ = _
         simp only [Act.put, List.setIfInBounds_toArray, List.set_cons_zero, List.set_cons_succ, i64_w, i32_w]
         rfl
        refine one_ (i := 4) (N := some 28) #[true, true, true, true, true, true, false] rfl rfl (by kernel_rfl) (by decide) (fun K hK => ?_)
        refine goes_ Try.func21 (by kernel_rfl) rfl #[.agg #[.slice Ao47 t226.length co47, .slice Ao48 t229.length co48], .agg #[.slice Ao49 t232.length co49, .slice Ao50 t235.length co50]] (by rfl) rfl rfl (by (try simp only [List.map_toArray, List.map_cons, List.map_nil]); first | done | rfl | (simp only [List.length_drop, List.length_take]; rfl)) ?_
        with_reducible refine (spec_MergeReports.calls k _ _ t226 _ _ t229 _ _ t232 _ _ t235 t238 t241 _ ?side1 ?side2 ?side3 ?side4 ?side5 ?side6 ?side7 ?side8 A21.out).mono ?_
        (case side1 => repeat (first | exact (Kd.R_reads' HO228.out).2.2 | (with_reducible refine Kd.C_alloc ?_ _) | (with_reducible refine Kd.C_drewN ?_ _) | (with_reducible refine Kd.C_drew ?_)))
        (case side2 => exact (Kd.R_reads' HO228.out).2.1)
        (case side3 => repeat (first | exact (Kd.R_reads' HO231.out).2.2 | (with_reducible refine Kd.C_alloc ?_ _) | (with_reducible refine Kd.C_drewN ?_ _) | (with_reducible refine Kd.C_drew ?_)))
        (case side4 => exact (Kd.R_reads' HO231.out).2.1)
        (case side5 => repeat (first | exact (Kd.R_reads' HO234.out).2.2 | (with_reducible refine Kd.C_alloc ?_ _) | (with_reducible refine Kd.C_drewN ?_ _) | (with_reducible refine Kd.C_drew ?_)))
        (case side6 => exact (Kd.R_reads' HO234.out).2.1)
        (case side7 => repeat (first | exact (Kd.R_reads' HO237.out).2.2 | (with_reducible refine Kd.C_alloc ?_ _) | (with_reducible refine Kd.C_drewN ?_ _) | (with_reducible refine Kd.C_drew ?_)))
        (case side8 => exact (Kd.R_reads' HO237.out).2.1)
        rintro e w51 ⟨v239, v242, rfl, ho0, ho1, hb⟩
        refine ⟨_, rfl, ?_⟩
        have n0_ := ak (Kd.R_elder' (rTo HO228.out) (Kd.R_base ho0) hb)
        have n1_ := ak (Kd.R_elder' (rTo HO231.out) (Kd.R_base ho1) hb)
        have n2_ := ak (Kd.R_elder' (rTo HO234.out) (Kd.R_base ho0) hb)
        have n3_ := ak (Kd.R_elder' (rTo HO237.out) (Kd.R_base ho1) hb)
        have n4_ := ak (Kd.R_lower (Kd.R_new' (Kd.R_new' ho0 (Kd.R_lt (rTo HO228.out))) (Kd.R_lt (rTo HO234.out))) (below_size (by repeat (first | (with_reducible first | exact HB.out | apply below_alloc | apply pw_below_drewN | apply below_drew1 | refine below_set ?_ GE222.out | refine below_set ?_ GE223.out | refine below_set ?_ GE244.out) | exact HB.out))))
        have n5_ := ak (Kd.R_lower (Kd.R_new' (Kd.R_new' ho1 (Kd.R_lt (rTo HO231.out))) (Kd.R_lt (rTo HO237.out))) (below_size (by repeat (first | (with_reducible first | exact HB.out | apply below_alloc | apply pw_below_drewN | apply below_drew1 | refine below_set ?_ GE222.out | refine below_set ?_ GE223.out | refine below_set ?_ GE244.out) | exact HB.out))))
        have n6_ := ak (blk_below (g := gb222) (o := .cells #[.slice A0_0 l0_0.length c0_0, .slice A0_1 l0_1.length c0_1] 41 (0, 0)) (bTo BK222.out) hb)
        have n7_ := ak (blk_below (g := gb223) (o := .cells #[.slice A1_0 l1_0.length c1_0, .slice A1_1 l1_1.length c1_1] 41 (0, 0)) (bTo BK223.out) hb)
        have n8_ := ak (blk_below (g := gb244) (o := .cells #[.slice none 0 0, .slice none 0 0] 26 (0, 0)) (bTo BK244.out) hb)
        have n9_ := ak (below_step (by repeat (first | (with_reducible first | exact HB.out | apply below_alloc | apply pw_below_drewN | apply below_drew1 | refine below_set ?_ GE222.out | refine below_set ?_ GE223.out | refine below_set ?_ GE244.out) | exact HB.out)) hb)
        clear HO228
        clear HO231
        clear HO234
        clear HO237
        clear BK222
        clear BK223
        clear BK244
        clear HB
        have HO228 := n0_
        have HO231 := n1_
        have HO234 := n2_
        have HO237 := n3_
        have HO240 := n4_
        have HO243 := n5_
        have BK222 := n6_
        have BK223 := n7_
        have BK244 := n8_
        have HB := n9_
        clear n0_ n1_ n2_ n3_ n4_ n5_ n6_ n7_ n8_ n9_
        (try clear hb)
        (try clear hb2)
        (try clear hk)
        (try clear hi)
        (try clear ho0)
        (try clear ho1)
        refine hK.out _ _ ⟨(blk_cell BK222.out 0).trans rfl, (blk_cell BK222.out 1).trans rfl, (blk_cell BK223.out 0).trans rfl, (blk_cell BK223.out 1).trans rfl⟩ (fun hHeld => ?_)
        clear hK K
        refine norm_ (a' := ?_) ?_ ?_
        rotate_left
        ·show Act.put _ (some 28) _ = _
         simp only [Act.put, List.setIfInBounds_toArray, List.set_cons_zero, List.set_cons_succ, i64_w, i32_w]
         rfl
        exact norm_ (by simp only [putAll, Act.put, List.setIfInBounds_toArray, List.set_cons_zero, List.set_cons_succ]) (hCont (.slice Ao47 t226.length co47, .slice Ao48 t229.length co48, .slice Ao49 t232.length co49, .slice Ao50 t235.length co50, v239, v242, gb244) _ ⟨hHeld, (rTo (Kd.R_mono HO228.out (fun _ hk => ⟨(gives hk), hk.2⟩))), (rTo (Kd.R_mono HO231.out (fun _ hk => ⟨(gives hk), hk.2⟩))), (rTo (Kd.R_mono HO234.out (fun _ hk => ⟨(gives hk), hk.2⟩))), (rTo (Kd.R_mono HO237.out (fun _ hk => ⟨(gives hk), hk.2⟩))), (rTo (Kd.R_mono HO240.out (fun _ hk => ⟨(gives hk), hk.2⟩))), (rTo (Kd.R_mono HO243.out (fun _ hk => ⟨(gives hk), hk.2⟩))), (bTo BK222.out), (bTo BK223.out), (bTo BK244.out), GW244.out, GE244.out, NB222_244.out, NB244_222.out, NB223_244.out, NB244_223.out, (by repeat (first | (with_reducible first | exact HB.out | apply below_alloc | apply pw_below_drewN | apply below_drew1 | refine below_set ?_ GE222.out | refine below_set ?_ GE223.out | refine below_set ?_ GE244.out) | exact HB.out))⟩)
      rintro ⟨v227, v230, v233, v236, v239, v242, gb244⟩ w52 ⟨hS_, h0_, h1_, h2_, h3_, h4_, h5_, h6_, h7_, h8_, h9_, h10_, h11_, h12_, h13_, h14_, h15_⟩
      have n0_ : Aside0 (Kd.R k37 37 w52 w.heap.size (fun k_ => some k_ ≠ (v233 : Value).ownBlock ∧ some k_ ≠ (v239 : Value).ownBlock) v227 t226) := ⟨h0_⟩
      have n1_ : Aside0 (Kd.R Kd.string 9 w52 w.heap.size (fun k_ => some k_ ≠ (v236 : Value).ownBlock ∧ some k_ ≠ (v242 : Value).ownBlock) v230 t229) := ⟨h1_⟩
      have n2_ : Aside0 (Kd.R k37 37 w52 w.heap.size (fun k_ => some k_ ≠ (v227 : Value).ownBlock ∧ some k_ ≠ (v239 : Value).ownBlock) v233 t232) := ⟨h2_⟩
      have n3_ : Aside0 (Kd.R Kd.string 9 w52 w.heap.size (fun k_ => some k_ ≠ (v230 : Value).ownBlock ∧ some k_ ≠ (v242 : Value).ownBlock) v236 t235) := ⟨h3_⟩
      have n4_ : Aside0 (Kd.R k37 37 w52 w.heap.size (fun k_ => some k_ ≠ (v227 : Value).ownBlock ∧ some k_ ≠ (v233 : Value).ownBlock) v239 t238) := ⟨h4_⟩
      have n5_ : Aside0 (Kd.R Kd.string 9 w52 w.heap.size (fun k_ => some k_ ≠ (v230 : Value).ownBlock ∧ some k_ ≠ (v236 : Value).ownBlock) v242 t241) := ⟨h5_⟩
      have n6_ : Aside0 (w52.heap[gb222]? = some (.cells #[.slice A0_0 l0_0.length c0_0, .slice A0_1 l0_1.length c0_1] 41 (0, 0))) := ⟨h6_⟩
      have n7_ : Aside0 (w52.heap[gb223]? = some (.cells #[.slice A1_0 l1_0.length c1_0, .slice A1_1 l1_1.length c1_1] 41 (0, 0))) := ⟨h7_⟩
      have n8_ : Aside0 (w52.heap[gb244]? = some (.cells #[.slice none 0 0, .slice none 0 0] 26 (0, 0))) := ⟨h8_⟩
      have n9_ : Aside0 (w.heap.size ≤ gb244) := ⟨h9_⟩
      have n10_ : Aside0 (w.heap.size ≤ gb244) := ⟨h10_⟩
      have n11_ : Aside0 (gb222 ≠ gb244) := ⟨h11_⟩
      have n12_ : Aside0 (gb244 ≠ gb222) := ⟨h12_⟩
      have n13_ : Aside0 (gb223 ≠ gb244) := ⟨h13_⟩
      have n14_ : Aside0 (gb244 ≠ gb223) := ⟨h14_⟩
      have n15_ : Aside0 (Below w.heap.size w w52) := ⟨h15_⟩
      clear BK222
      clear BK223
      clear HB
      clear h0_ h1_ h2_ h3_ h4_ h5_ h6_ h7_ h8_ h9_ h10_ h11_ h12_ h13_ h14_ h15_
      have HO228 := n0_
      have HO231 := n1_
      have HO234 := n2_
      have HO237 := n3_
      have HO240 := n4_
      have HO243 := n5_
      have BK222 := n6_
      have BK223 := n7_
      have BK244 := n8_
      have GW244 := n9_
      have GE244 := n10_
      have NB222_244 := n11_
      have NB244_222 := n12_
      have NB223_244 := n13_
      have NB244_223 := n14_
      have HB := n15_
      clear n0_ n1_ n2_ n3_ n4_ n5_ n6_ n7_ n8_ n9_ n10_ n11_ n12_ n13_ n14_ n15_
      have hHeld : w52.cell? ⟨gb222, 0, none⟩ = some (.slice A0_0 l0_0.length c0_0) ∧ w52.cell? ⟨gb222, 1, none⟩ = some (.slice A0_1 l0_1.length c0_1) ∧ w52.cell? ⟨gb223, 0, none⟩ = some (.slice A1_0 l1_0.length c1_0) ∧ w52.cell? ⟨gb223, 1, none⟩ = some (.slice A1_1 l1_1.length c1_1) := hS_
      obtain ⟨Ao53, co53, eo53⟩ := Kd.R_slice HO240.out
      (first | subst eo53 | (injection eo53 with f1_ f2_ f3_; have f4_ := f1_.symm; have f5_ := f3_.symm; clear f1_ f2_ f3_; subst f4_; subst f5_))
      obtain ⟨Ao55, co55, eo55⟩ := Kd.R_slice HO243.out
      (first | subst eo55 | (injection eo55 with f1_ f2_ f3_; have f4_ := f1_.symm; have f5_ := f3_.symm; clear f1_ f2_ f3_; subst f4_; subst f5_))
      refine norm_ (a' := ?_) ?_ ?_
      rotate_left
      ·simp only [putAll, Act.put, List.setIfInBounds_toArray, List.set_cons_zero, List.set_cons_succ]
       rfl
      refine one_ (i := 6) (N := none) #[true, true, true, true, true, true, true] rfl rfl (by kernel_rfl) (by decide) (fun K hK => ?_)
      have hs54 : w52.cell? ⟨gb244, 0, none⟩ = some (.slice none 0 0) := (blk_cell BK244.out 0).trans rfl
      have hfs54 := blk_frozen BK244.out 0
      have hns54_0 := NB222_244.out
      have hns54_1 := NB223_244.out
      have hms54_0 := NB244_222.out
      have hms54_1 := NB244_223.out
      have hs56 : w52.cell? ⟨gb244, 1, none⟩ = some (.slice none 0 0) := (blk_cell BK244.out 1).trans rfl
      have hfs56 := blk_frozen BK244.out 1
      have hns56_0 := NB222_244.out
      have hns56_1 := NB223_244.out
      have hms56_0 := NB244_222.out
      have hms56_1 := NB244_223.out
      refine skip_ (w1 := ?_) (by rfl) rfl ?_ ?_
      rotate_left
      ·go_simp
       rfl
      refine hK.out _ _ ⟨((cell_far (p := ⟨gb244, _, none⟩) NB222_244.out _).trans (((cell_far (p := ⟨gb244, _, none⟩) NB222_244.out _).trans (hHeld.1)))), ((cell_far (p := ⟨gb244, _, none⟩) NB222_244.out _).trans (((cell_far (p := ⟨gb244, _, none⟩) NB222_244.out _).trans (hHeld.2.1)))), ((cell_far (p := ⟨gb244, _, none⟩) NB223_244.out _).trans (((cell_far (p := ⟨gb244, _, none⟩) NB223_244.out _).trans (hHeld.2.2.1)))), ((cell_far (p := ⟨gb244, _, none⟩) NB223_244.out _).trans (((cell_far (p := ⟨gb244, _, none⟩) NB223_244.out _).trans (hHeld.2.2.2))))⟩ (fun hHeld => ?_)
      clear hK K
      refine done_ (by kernel_rfl) ?_
      have hnb57 := NB222_244.out
      have hnc57 := NB244_222.out
      have hcz58_0 : w52.cell? ⟨gb222, 0, none⟩ = some (.slice A0_0 l0_0.length c0_0) := (blk_cell BK222.out 0).trans rfl
      have hcz58_1 : w52.cell? ⟨gb222, 1, none⟩ = some (.slice A0_1 l0_1.length c0_1) := (blk_cell BK222.out 1).trans rfl
      have hfz58_0 := blk_frozen BK222.out 0
      have hfz58_1 := blk_frozen BK222.out 1
      try go_wp2_with (first | ((with_reducible refine gate_callee (f := 25) rfl ?_); refine goesL_ (some 30) rfl rfl Try.func25 (by kernel_rfl) rfl #[.agg #[.slice A0_0 l0_0.length c0_0, .slice A0_1 l0_1.length c0_1]] rfl (by (try simp only [List.map_toArray, List.map_cons, List.map_nil]); first | done | rfl | (simp only [List.length_drop, List.length_take]; rfl)) ?_; (with_reducible refine (laws_toReport.calls k _ _ l0_0 _ _ l0_1 t245 t248 _ ?side1 ?side2 ?side3 ?side4 A22.out).mono ?_); (case side1 => exact Kd.C_below HR0_0.out (by repeat (first | (with_reducible first | exact HB.out | apply below_alloc | apply pw_below_drewN | apply below_drew1 | refine below_set ?_ GE222.out | refine below_set ?_ GE223.out | refine below_set ?_ GE244.out) | exact HB.out))); (case side2 => exact HC0_0.out); (case side3 => exact Kd.C_below HR0_1.out (by repeat (first | (with_reducible first | exact HB.out | apply below_alloc | apply pw_below_drewN | apply below_drew1 | refine below_set ?_ GE222.out | refine below_set ?_ GE223.out | refine below_set ?_ GE244.out) | exact HB.out))); (case side4 => exact HC0_1.out); rintro e w59 ⟨v246, v249, rfl, ho0, ho1, hb⟩; refine ⟨_, rfl, ?_⟩; have n0_ := ak (Kd.R_elder' (rTo (Kd.R_mono (Kd.R_far (p := ⟨gb244, 1, none⟩) (Kd.R_far (p := ⟨gb244, 0, none⟩) (Kd.R_types HO228.out BK244.out (by decide)) (fun _ hk => hk.2) (.slice Ao53 t238.length co53)) (fun _ hk => hk.2) (.slice Ao55 t241.length co55)) (fun _ h_ => h_.1))) (Kd.R_base ho0) hb); have n1_ := ak (Kd.R_elder' (rTo (Kd.R_mono (Kd.R_far (p := ⟨gb244, 1, none⟩) (Kd.R_far (p := ⟨gb244, 0, none⟩) (Kd.R_types HO231.out BK244.out (by decide)) (fun _ hk => hk.2) (.slice Ao53 t238.length co53)) (fun _ hk => hk.2) (.slice Ao55 t241.length co55)) (fun _ h_ => h_.1))) (Kd.R_base ho1) hb); have n2_ := ak (Kd.R_elder' (rTo (Kd.R_mono (Kd.R_far (p := ⟨gb244, 1, none⟩) (Kd.R_far (p := ⟨gb244, 0, none⟩) (Kd.R_types HO234.out BK244.out (by decide)) (fun _ hk => hk.2) (.slice Ao53 t238.length co53)) (fun _ hk => hk.2) (.slice Ao55 t241.length co55)) (fun _ h_ => h_.1))) (Kd.R_base ho0) hb); have n3_ := ak (Kd.R_elder' (rTo (Kd.R_mono (Kd.R_far (p := ⟨gb244, 1, none⟩) (Kd.R_far (p := ⟨gb244, 0, none⟩) (Kd.R_types HO237.out BK244.out (by decide)) (fun _ hk => hk.2) (.slice Ao53 t238.length co53)) (fun _ hk => hk.2) (.slice Ao55 t241.length co55)) (fun _ h_ => h_.1))) (Kd.R_base ho1) hb); have n4_ := ak (Kd.R_elder' (rTo (Kd.R_mono (Kd.R_far (p := ⟨gb244, 1, none⟩) (Kd.R_far (p := ⟨gb244, 0, none⟩) (Kd.R_types HO240.out BK244.out (by decide)) (fun _ hk => hk.2) (.slice Ao53 t238.length co53)) (fun _ hk => hk.2) (.slice Ao55 t241.length co55)) (fun _ h_ => h_.1))) (Kd.R_base ho0) hb); have n5_ := ak (Kd.R_elder' (rTo (Kd.R_mono (Kd.R_far (p := ⟨gb244, 1, none⟩) (Kd.R_far (p := ⟨gb244, 0, none⟩) (Kd.R_types HO243.out BK244.out (by decide)) (fun _ hk => hk.2) (.slice Ao53 t238.length co53)) (fun _ hk => hk.2) (.slice Ao55 t241.length co55)) (fun _ h_ => h_.1))) (Kd.R_base ho1) hb); have n6_ := ak (Kd.R_lower (Kd.R_new' (Kd.R_new' (Kd.R_new' ho0 (Kd.R_lt (rTo (Kd.R_mono (Kd.R_far (p := ⟨gb244, 1, none⟩) (Kd.R_far (p := ⟨gb244, 0, none⟩) (Kd.R_types HO228.out BK244.out (by decide)) (fun _ hk => hk.2) (.slice Ao53 t238.length co53)) (fun _ hk => hk.2) (.slice Ao55 t241.length co55)) (fun _ h_ => h_.1))))) (Kd.R_lt (rTo (Kd.R_mono (Kd.R_far (p := ⟨gb244, 1, none⟩) (Kd.R_far (p := ⟨gb244, 0, none⟩) (Kd.R_types HO234.out BK244.out (by decide)) (fun _ hk => hk.2) (.slice Ao53 t238.length co53)) (fun _ hk => hk.2) (.slice Ao55 t241.length co55)) (fun _ h_ => h_.1))))) (Kd.R_lt (rTo (Kd.R_mono (Kd.R_far (p := ⟨gb244, 1, none⟩) (Kd.R_far (p := ⟨gb244, 0, none⟩) (Kd.R_types HO240.out BK244.out (by decide)) (fun _ hk => hk.2) (.slice Ao53 t238.length co53)) (fun _ hk => hk.2) (.slice Ao55 t241.length co55)) (fun _ h_ => h_.1))))) (below_size (by repeat (first | (with_reducible first | exact HB.out | apply below_alloc | apply pw_below_drewN | apply below_drew1 | refine below_set ?_ GE222.out | refine below_set ?_ GE223.out | refine below_set ?_ GE244.out) | exact HB.out)))); have n7_ := ak (Kd.R_lower (Kd.R_new' (Kd.R_new' (Kd.R_new' ho1 (Kd.R_lt (rTo (Kd.R_mono (Kd.R_far (p := ⟨gb244, 1, none⟩) (Kd.R_far (p := ⟨gb244, 0, none⟩) (Kd.R_types HO231.out BK244.out (by decide)) (fun _ hk => hk.2) (.slice Ao53 t238.length co53)) (fun _ hk => hk.2) (.slice Ao55 t241.length co55)) (fun _ h_ => h_.1))))) (Kd.R_lt (rTo (Kd.R_mono (Kd.R_far (p := ⟨gb244, 1, none⟩) (Kd.R_far (p := ⟨gb244, 0, none⟩) (Kd.R_types HO237.out BK244.out (by decide)) (fun _ hk => hk.2) (.slice Ao53 t238.length co53)) (fun _ hk => hk.2) (.slice Ao55 t241.length co55)) (fun _ h_ => h_.1))))) (Kd.R_lt (rTo (Kd.R_mono (Kd.R_far (p := ⟨gb244, 1, none⟩) (Kd.R_far (p := ⟨gb244, 0, none⟩) (Kd.R_types HO243.out BK244.out (by decide)) (fun _ hk => hk.2) (.slice Ao53 t238.length co53)) (fun _ hk => hk.2) (.slice Ao55 t241.length co55)) (fun _ h_ => h_.1))))) (below_size (by repeat (first | (with_reducible first | exact HB.out | apply below_alloc | apply pw_below_drewN | apply below_drew1 | refine below_set ?_ GE222.out | refine below_set ?_ GE223.out | refine below_set ?_ GE244.out) | exact HB.out)))); have n8_ := ak (blk_below (g := gb222) (o := .cells #[.slice A0_0 l0_0.length c0_0, .slice A0_1 l0_1.length c0_1] 41 (0, 0)) (by (with_reducible repeat (first | apply blk_drewN | apply blk_drew | apply blk_alloc)); refine blk_far ?_ NB222_244.out _; (with_reducible repeat (first | apply blk_drewN | apply blk_drew | apply blk_alloc)); refine blk_far ?_ NB222_244.out _; (with_reducible repeat (first | apply blk_drewN | apply blk_drew | apply blk_alloc)); exact BK222.out) hb); have n9_ := ak (blk_below (g := gb223) (o := .cells #[.slice A1_0 l1_0.length c1_0, .slice A1_1 l1_1.length c1_1] 41 (0, 0)) (by (with_reducible repeat (first | apply blk_drewN | apply blk_drew | apply blk_alloc)); refine blk_far ?_ NB223_244.out _; (with_reducible repeat (first | apply blk_drewN | apply blk_drew | apply blk_alloc)); refine blk_far ?_ NB223_244.out _; (with_reducible repeat (first | apply blk_drewN | apply blk_drew | apply blk_alloc)); exact BK223.out) hb); have n10_ := ak (blk_below (g := gb244) (o := .cells #[.slice Ao53 t238.length co53, .slice Ao55 t241.length co55] 26 (0, 0)) (by (with_reducible repeat (first | apply blk_drewN | apply blk_drew | apply blk_alloc)); refine blk_put (cs := #[.slice Ao53 t238.length co53, .slice none 0 0]) ?_ 1 _ rfl; (with_reducible repeat (first | apply blk_drewN | apply blk_drew | apply blk_alloc)); refine blk_put (cs := #[.slice none 0 0, .slice none 0 0]) ?_ 0 _ rfl; (with_reducible repeat (first | apply blk_drewN | apply blk_drew | apply blk_alloc)); exact BK244.out) hb); have n11_ := ak (below_step (by repeat (first | (with_reducible first | exact HB.out | apply below_alloc | apply pw_below_drewN | apply below_drew1 | refine below_set ?_ GE222.out | refine below_set ?_ GE223.out | refine below_set ?_ GE244.out) | exact HB.out)) hb); clear HO228; clear HO231; clear HO234; clear HO237; clear HO240; clear HO243; clear BK222; clear BK223; clear BK244; clear HB; have HO228 := n0_; have HO231 := n1_; have HO234 := n2_; have HO237 := n3_; have HO240 := n4_; have HO243 := n5_; have HO247 := n6_; have HO250 := n7_; have BK222 := n8_; have BK223 := n9_; have BK244 := n10_; have HB := n11_; clear n0_ n1_ n2_ n3_ n4_ n5_ n6_ n7_ n8_ n9_ n10_ n11_; (try clear hb); (try clear hb2); (try clear hk); (try clear hi); (try clear ho0); (try clear ho1)) | ((with_reducible refine gate_dst (N := 7) rfl ?_); refine box_event ?hg (N := 7) ?hd (cs := #[.slice none 0 0, .slice none 0 0]) (t := 26) ?hr ?_; (case hd => rfl); (case hg => rfl); (case hr => first | (go_simp; done) | (go_simp; rfl)); intro gb251 hg w60 hbox hb; have n0_ := ak (Kd.R_below (rTo HO228.out) hb); have n1_ := ak (Kd.R_below (rTo HO231.out) hb); have n2_ := ak (Kd.R_below (rTo HO234.out) hb); have n3_ := ak (Kd.R_below (rTo HO237.out) hb); have n4_ := ak (Kd.R_below (rTo HO240.out) hb); have n5_ := ak (Kd.R_below (rTo HO243.out) hb); have n6_ := ak (Kd.R_below (rTo HO247.out) hb); have n7_ := ak (Kd.R_below (rTo HO250.out) hb); have n8_ := ak (blk_below (g := gb222) (o := .cells #[.slice A0_0 l0_0.length c0_0, .slice A0_1 l0_1.length c0_1] 41 (0, 0)) (bTo BK222.out) hb); have n9_ := ak (blk_below (g := gb223) (o := .cells #[.slice A1_0 l1_0.length c1_0, .slice A1_1 l1_1.length c1_1] 41 (0, 0)) (bTo BK223.out) hb); have n10_ := ak (blk_below (g := gb244) (o := .cells #[.slice Ao53 t238.length co53, .slice Ao55 t241.length co55] 26 (0, 0)) (bTo BK244.out) hb); have n11_ := ak (below_step (by repeat (first | (with_reducible first | exact HB.out | apply below_alloc | apply pw_below_drewN | apply below_drew1 | refine below_set ?_ GE222.out | refine below_set ?_ GE223.out | refine below_set ?_ GE244.out) | exact HB.out)) hb); have n12_ := ak (hbox); have n13_ := ak ((by rw [hg]; exact (below_size (by repeat (first | (with_reducible first | exact HB.out | apply below_alloc | apply pw_below_drewN | apply below_drew1 | refine below_set ?_ GE222.out | refine below_set ?_ GE223.out | refine below_set ?_ GE244.out) | exact HB.out))) : w.heap.size ≤ gb251)); have n14_ := ak ((by rw [hg]; exact (below_size (by repeat (first | (with_reducible first | exact HB.out | apply below_alloc | apply pw_below_drewN | apply below_drew1 | refine below_set ?_ GE222.out | refine below_set ?_ GE223.out | refine below_set ?_ GE244.out) | exact HB.out))) : w.heap.size ≤ gb251)); have n15_ := ak ((by rw [hg]; exact Nat.ne_of_lt (blk_lt (g := gb222) (o := .cells #[.slice A0_0 l0_0.length c0_0, .slice A0_1 l0_1.length c0_1] 41 (0, 0)) (bTo BK222.out)) : gb222 ≠ gb251)); have n16_ := ak ((by rw [hg]; exact Nat.ne_of_gt (blk_lt (g := gb222) (o := .cells #[.slice A0_0 l0_0.length c0_0, .slice A0_1 l0_1.length c0_1] 41 (0, 0)) (bTo BK222.out)) : gb251 ≠ gb222)); have n17_ := ak ((by rw [hg]; exact Nat.ne_of_lt (blk_lt (g := gb223) (o := .cells #[.slice A1_0 l1_0.length c1_0, .slice A1_1 l1_1.length c1_1] 41 (0, 0)) (bTo BK223.out)) : gb223 ≠ gb251)); have n18_ := ak ((by rw [hg]; exact Nat.ne_of_gt (blk_lt (g := gb223) (o := .cells #[.slice A1_0 l1_0.length c1_0, .slice A1_1 l1_1.length c1_1] 41 (0, 0)) (bTo BK223.out)) : gb251 ≠ gb223)); have n19_ := ak ((by rw [hg]; exact Nat.ne_of_lt (blk_lt (g := gb244) (o := .cells #[.slice Ao53 t238.length co53, .slice Ao55 t241.length co55] 26 (0, 0)) (bTo BK244.out)) : gb244 ≠ gb251)); have n20_ := ak ((by rw [hg]; exact Nat.ne_of_gt (blk_lt (g := gb244) (o := .cells #[.slice Ao53 t238.length co53, .slice Ao55 t241.length co55] 26 (0, 0)) (bTo BK244.out)) : gb251 ≠ gb244)); clear HO228; clear HO231; clear HO234; clear HO237; clear HO240; clear HO243; clear HO247; clear HO250; clear BK222; clear BK223; clear BK244; clear HB; have HO228 := n0_; have HO231 := n1_; have HO234 := n2_; have HO237 := n3_; have HO240 := n4_; have HO243 := n5_; have HO247 := n6_; have HO250 := n7_; have BK222 := n8_; have BK223 := n9_; have BK244 := n10_; have HB := n11_; have BK251 := n12_; have GW251 := n13_; have GE251 := n14_; have NB222_251 := n15_; have NB251_222 := n16_; have NB223_251 := n17_; have NB251_223 := n18_; have NB244_251 := n19_; have NB251_244 := n20_; clear n0_ n1_ n2_ n3_ n4_ n5_ n6_ n7_ n8_ n9_ n10_ n11_ n12_ n13_ n14_ n15_ n16_ n17_ n18_ n19_ n20_; clear hb hbox hg; obtain ⟨Ao61, co61, eo61⟩ := Kd.R_slice HO247.out; subst eo61; have hnb62 := NB251_222.out; have hnc62 := NB222_251.out; have hnb63 := NB251_223.out; have hnc63 := NB223_251.out; have hnb64 := NB251_244.out; have hnc64 := NB244_251.out; have hcz65_0 : w60.cell? ⟨gb251, 0, none⟩ = some (.slice none 0 0) := (blk_cell BK251.out 0).trans rfl; have hcz65_1 : w60.cell? ⟨gb251, 1, none⟩ = some (.slice none 0 0) := (blk_cell BK251.out 1).trans rfl; have hfz65_0 := blk_frozen BK251.out 0; have hfz65_1 := blk_frozen BK251.out 1; obtain ⟨Ao66, co66, eo66⟩ := Kd.R_slice HO250.out; subst eo66; have hnb67 := NB223_244.out; have hnc67 := NB244_223.out; have hcz68_0 : w60.cell? ⟨gb223, 0, none⟩ = some (.slice A1_0 l1_0.length c1_0) := (blk_cell BK223.out 0).trans rfl; have hcz68_1 : w60.cell? ⟨gb223, 1, none⟩ = some (.slice A1_1 l1_1.length c1_1) := (blk_cell BK223.out 1).trans rfl; have hfz68_0 := blk_frozen BK223.out 0; have hfz68_1 := blk_frozen BK223.out 1) | ((with_reducible refine gate_callee (f := 25) rfl ?_); refine goesL_ (some 32) rfl rfl Try.func25 (by kernel_rfl) rfl #[.agg #[.slice A1_0 l1_0.length c1_0, .slice A1_1 l1_1.length c1_1]] rfl (by (try simp only [List.map_toArray, List.map_cons, List.map_nil]); first | done | rfl | (simp only [List.length_drop, List.length_take]; rfl)) ?_; (with_reducible refine (laws_toReport.calls k _ _ l1_0 _ _ l1_1 t252 t255 _ ?side1 ?side2 ?side3 ?side4 A23.out).mono ?_); (case side1 => exact Kd.C_below HR1_0.out (by repeat (first | (with_reducible first | exact HB.out | apply below_alloc | apply pw_below_drewN | apply below_drew1 | refine below_set ?_ GE222.out | refine below_set ?_ GE223.out | refine below_set ?_ GE244.out | refine below_set ?_ GE251.out) | exact HB.out))); (case side2 => exact HC1_0.out); (case side3 => exact Kd.C_below HR1_1.out (by repeat (first | (with_reducible first | exact HB.out | apply below_alloc | apply pw_below_drewN | apply below_drew1 | refine below_set ?_ GE222.out | refine below_set ?_ GE223.out | refine below_set ?_ GE244.out | refine below_set ?_ GE251.out) | exact HB.out))); (case side4 => exact HC1_1.out); rintro e w69 ⟨v253, v256, rfl, ho0, ho1, hb⟩; refine ⟨_, rfl, ?_⟩; have n0_ := ak (Kd.R_elder' (rTo (Kd.R_mono (Kd.R_far (p := ⟨gb251, 1, none⟩) (Kd.R_far (p := ⟨gb251, 0, none⟩) (Kd.R_types HO228.out BK251.out (by decide)) (fun _ hk => hk.2) (.slice Ao61 t245.length co61)) (fun _ hk => hk.2) (.slice Ao66 t248.length co66)) (fun _ h_ => h_.1))) (Kd.R_base ho0) hb); have n1_ := ak (Kd.R_elder' (rTo (Kd.R_mono (Kd.R_far (p := ⟨gb251, 1, none⟩) (Kd.R_far (p := ⟨gb251, 0, none⟩) (Kd.R_types HO231.out BK251.out (by decide)) (fun _ hk => hk.2) (.slice Ao61 t245.length co61)) (fun _ hk => hk.2) (.slice Ao66 t248.length co66)) (fun _ h_ => h_.1))) (Kd.R_base ho1) hb); have n2_ := ak (Kd.R_elder' (rTo (Kd.R_mono (Kd.R_far (p := ⟨gb251, 1, none⟩) (Kd.R_far (p := ⟨gb251, 0, none⟩) (Kd.R_types HO234.out BK251.out (by decide)) (fun _ hk => hk.2) (.slice Ao61 t245.length co61)) (fun _ hk => hk.2) (.slice Ao66 t248.length co66)) (fun _ h_ => h_.1))) (Kd.R_base ho0) hb); have n3_ := ak (Kd.R_elder' (rTo (Kd.R_mono (Kd.R_far (p := ⟨gb251, 1, none⟩) (Kd.R_far (p := ⟨gb251, 0, none⟩) (Kd.R_types HO237.out BK251.out (by decide)) (fun _ hk => hk.2) (.slice Ao61 t245.length co61)) (fun _ hk => hk.2) (.slice Ao66 t248.length co66)) (fun _ h_ => h_.1))) (Kd.R_base ho1) hb); have n4_ := ak (Kd.R_elder' (rTo (Kd.R_mono (Kd.R_far (p := ⟨gb251, 1, none⟩) (Kd.R_far (p := ⟨gb251, 0, none⟩) (Kd.R_types HO240.out BK251.out (by decide)) (fun _ hk => hk.2) (.slice Ao61 t245.length co61)) (fun _ hk => hk.2) (.slice Ao66 t248.length co66)) (fun _ h_ => h_.1))) (Kd.R_base ho0) hb); have n5_ := ak (Kd.R_elder' (rTo (Kd.R_mono (Kd.R_far (p := ⟨gb251, 1, none⟩) (Kd.R_far (p := ⟨gb251, 0, none⟩) (Kd.R_types HO243.out BK251.out (by decide)) (fun _ hk => hk.2) (.slice Ao61 t245.length co61)) (fun _ hk => hk.2) (.slice Ao66 t248.length co66)) (fun _ h_ => h_.1))) (Kd.R_base ho1) hb); have n6_ := ak (Kd.R_elder' (rTo (Kd.R_mono (Kd.R_far (p := ⟨gb251, 1, none⟩) (Kd.R_far (p := ⟨gb251, 0, none⟩) (Kd.R_types HO247.out BK251.out (by decide)) (fun _ hk => hk.2) (.slice Ao61 t245.length co61)) (fun _ hk => hk.2) (.slice Ao66 t248.length co66)) (fun _ h_ => h_.1))) (Kd.R_base ho0) hb); have n7_ := ak (Kd.R_elder' (rTo (Kd.R_mono (Kd.R_far (p := ⟨gb251, 1, none⟩) (Kd.R_far (p := ⟨gb251, 0, none⟩) (Kd.R_types HO250.out BK251.out (by decide)) (fun _ hk => hk.2) (.slice Ao61 t245.length co61)) (fun _ hk => hk.2) (.slice Ao66 t248.length co66)) (fun _ h_ => h_.1))) (Kd.R_base ho1) hb); have n8_ := ak (Kd.R_lower (Kd.R_new' (Kd.R_new' (Kd.R_new' (Kd.R_new' ho0 (Kd.R_lt (rTo (Kd.R_mono (Kd.R_far (p := ⟨gb251, 1, none⟩) (Kd.R_far (p := ⟨gb251, 0, none⟩) (Kd.R_types HO228.out BK251.out (by decide)) (fun _ hk => hk.2) (.slice Ao61 t245.length co61)) (fun _ hk => hk.2) (.slice Ao66 t248.length co66)) (fun _ h_ => h_.1))))) (Kd.R_lt (rTo (Kd.R_mono (Kd.R_far (p := ⟨gb251, 1, none⟩) (Kd.R_far (p := ⟨gb251, 0, none⟩) (Kd.R_types HO234.out BK251.out (by decide)) (fun _ hk => hk.2) (.slice Ao61 t245.length co61)) (fun _ hk => hk.2) (.slice Ao66 t248.length co66)) (fun _ h_ => h_.1))))) (Kd.R_lt (rTo (Kd.R_mono (Kd.R_far (p := ⟨gb251, 1, none⟩) (Kd.R_far (p := ⟨gb251, 0, none⟩) (Kd.R_types HO240.out BK251.out (by decide)) (fun _ hk => hk.2) (.slice Ao61 t245.length co61)) (fun _ hk => hk.2) (.slice Ao66 t248.length co66)) (fun _ h_ => h_.1))))) (Kd.R_lt (rTo (Kd.R_mono (Kd.R_far (p := ⟨gb251, 1, none⟩) (Kd.R_far (p := ⟨gb251, 0, none⟩) (Kd.R_types HO247.out BK251.out (by decide)) (fun _ hk => hk.2) (.slice Ao61 t245.length co61)) (fun _ hk => hk.2) (.slice Ao66 t248.length co66)) (fun _ h_ => h_.1))))) (below_size (by repeat (first | (with_reducible first | exact HB.out | apply below_alloc | apply pw_below_drewN | apply below_drew1 | refine below_set ?_ GE222.out | refine below_set ?_ GE223.out | refine below_set ?_ GE244.out | refine below_set ?_ GE251.out) | exact HB.out)))); have n9_ := ak (Kd.R_lower (Kd.R_new' (Kd.R_new' (Kd.R_new' (Kd.R_new' ho1 (Kd.R_lt (rTo (Kd.R_mono (Kd.R_far (p := ⟨gb251, 1, none⟩) (Kd.R_far (p := ⟨gb251, 0, none⟩) (Kd.R_types HO231.out BK251.out (by decide)) (fun _ hk => hk.2) (.slice Ao61 t245.length co61)) (fun _ hk => hk.2) (.slice Ao66 t248.length co66)) (fun _ h_ => h_.1))))) (Kd.R_lt (rTo (Kd.R_mono (Kd.R_far (p := ⟨gb251, 1, none⟩) (Kd.R_far (p := ⟨gb251, 0, none⟩) (Kd.R_types HO237.out BK251.out (by decide)) (fun _ hk => hk.2) (.slice Ao61 t245.length co61)) (fun _ hk => hk.2) (.slice Ao66 t248.length co66)) (fun _ h_ => h_.1))))) (Kd.R_lt (rTo (Kd.R_mono (Kd.R_far (p := ⟨gb251, 1, none⟩) (Kd.R_far (p := ⟨gb251, 0, none⟩) (Kd.R_types HO243.out BK251.out (by decide)) (fun _ hk => hk.2) (.slice Ao61 t245.length co61)) (fun _ hk => hk.2) (.slice Ao66 t248.length co66)) (fun _ h_ => h_.1))))) (Kd.R_lt (rTo (Kd.R_mono (Kd.R_far (p := ⟨gb251, 1, none⟩) (Kd.R_far (p := ⟨gb251, 0, none⟩) (Kd.R_types HO250.out BK251.out (by decide)) (fun _ hk => hk.2) (.slice Ao61 t245.length co61)) (fun _ hk => hk.2) (.slice Ao66 t248.length co66)) (fun _ h_ => h_.1))))) (below_size (by repeat (first | (with_reducible first | exact HB.out | apply below_alloc | apply pw_below_drewN | apply below_drew1 | refine below_set ?_ GE222.out | refine below_set ?_ GE223.out | refine below_set ?_ GE244.out | refine below_set ?_ GE251.out) | exact HB.out)))); have n10_ := ak (blk_below (g := gb222) (o := .cells #[.slice A0_0 l0_0.length c0_0, .slice A0_1 l0_1.length c0_1] 41 (0, 0)) (by (with_reducible repeat (first | apply blk_drewN | apply blk_drew | apply blk_alloc)); refine blk_far ?_ NB222_251.out _; (with_reducible repeat (first | apply blk_drewN | apply blk_drew | apply blk_alloc)); refine blk_far ?_ NB222_251.out _; (with_reducible repeat (first | apply blk_drewN | apply blk_drew | apply blk_alloc)); exact BK222.out) hb); have n11_ := ak (blk_below (g := gb223) (o := .cells #[.slice A1_0 l1_0.length c1_0, .slice A1_1 l1_1.length c1_1] 41 (0, 0)) (by (with_reducible repeat (first | apply blk_drewN | apply blk_drew | apply blk_alloc)); refine blk_far ?_ NB223_251.out _; (with_reducible repeat (first | apply blk_drewN | apply blk_drew | apply blk_alloc)); refine blk_far ?_ NB223_251.out _; (with_reducible repeat (first | apply blk_drewN | apply blk_drew | apply blk_alloc)); exact BK223.out) hb); have n12_ := ak (blk_below (g := gb244) (o := .cells #[.slice Ao53 t238.length co53, .slice Ao55 t241.length co55] 26 (0, 0)) (by (with_reducible repeat (first | apply blk_drewN | apply blk_drew | apply blk_alloc)); refine blk_far ?_ NB244_251.out _; (with_reducible repeat (first | apply blk_drewN | apply blk_drew | apply blk_alloc)); refine blk_far ?_ NB244_251.out _; (with_reducible repeat (first | apply blk_drewN | apply blk_drew | apply blk_alloc)); exact BK244.out) hb); have n13_ := ak (blk_below (g := gb251) (o := .cells #[.slice Ao61 t245.length co61, .slice Ao66 t248.length co66] 26 (0, 0)) (by (with_reducible repeat (first | apply blk_drewN | apply blk_drew | apply blk_alloc)); refine blk_put (cs := #[.slice Ao61 t245.length co61, .slice none 0 0]) ?_ 1 _ rfl; (with_reducible repeat (first | apply blk_drewN | apply blk_drew | apply blk_alloc)); refine blk_put (cs := #[.slice none 0 0, .slice none 0 0]) ?_ 0 _ rfl; (with_reducible repeat (first | apply blk_drewN | apply blk_drew | apply blk_alloc)); exact BK251.out) hb); have n14_ := ak (below_step (by repeat (first | (with_reducible first | exact HB.out | apply below_alloc | apply pw_below_drewN | apply below_drew1 | refine below_set ?_ GE222.out | refine below_set ?_ GE223.out | refine below_set ?_ GE244.out | refine below_set ?_ GE251.out) | exact HB.out)) hb); clear HO228; clear HO231; clear HO234; clear HO237; clear HO240; clear HO243; clear HO247; clear HO250; clear BK222; clear BK223; clear BK244; clear BK251; clear HB; have HO228 := n0_; have HO231 := n1_; have HO234 := n2_; have HO237 := n3_; have HO240 := n4_; have HO243 := n5_; have HO247 := n6_; have HO250 := n7_; have HO254 := n8_; have HO257 := n9_; have BK222 := n10_; have BK223 := n11_; have BK244 := n12_; have BK251 := n13_; have HB := n14_; clear n0_ n1_ n2_ n3_ n4_ n5_ n6_ n7_ n8_ n9_ n10_ n11_ n12_ n13_ n14_; (try clear hb); (try clear hb2); (try clear hk); (try clear hi); (try clear ho0); (try clear ho1)) | ((with_reducible refine gate_dst (N := 8) rfl ?_); refine box_event ?hg (N := 8) ?hd (cs := #[.slice none 0 0, .slice none 0 0]) (t := 26) ?hr ?_; (case hd => rfl); (case hg => rfl); (case hr => first | (go_simp; done) | (go_simp; rfl)); intro gb258 hg w70 hbox hb; have n0_ := ak (Kd.R_below (rTo HO228.out) hb); have n1_ := ak (Kd.R_below (rTo HO231.out) hb); have n2_ := ak (Kd.R_below (rTo HO234.out) hb); have n3_ := ak (Kd.R_below (rTo HO237.out) hb); have n4_ := ak (Kd.R_below (rTo HO240.out) hb); have n5_ := ak (Kd.R_below (rTo HO243.out) hb); have n6_ := ak (Kd.R_below (rTo HO247.out) hb); have n7_ := ak (Kd.R_below (rTo HO250.out) hb); have n8_ := ak (Kd.R_below (rTo HO254.out) hb); have n9_ := ak (Kd.R_below (rTo HO257.out) hb); have n10_ := ak (blk_below (g := gb222) (o := .cells #[.slice A0_0 l0_0.length c0_0, .slice A0_1 l0_1.length c0_1] 41 (0, 0)) (bTo BK222.out) hb); have n11_ := ak (blk_below (g := gb223) (o := .cells #[.slice A1_0 l1_0.length c1_0, .slice A1_1 l1_1.length c1_1] 41 (0, 0)) (bTo BK223.out) hb); have n12_ := ak (blk_below (g := gb244) (o := .cells #[.slice Ao53 t238.length co53, .slice Ao55 t241.length co55] 26 (0, 0)) (bTo BK244.out) hb); have n13_ := ak (blk_below (g := gb251) (o := .cells #[.slice Ao61 t245.length co61, .slice Ao66 t248.length co66] 26 (0, 0)) (bTo BK251.out) hb); have n14_ := ak (below_step (by repeat (first | (with_reducible first | exact HB.out | apply below_alloc | apply pw_below_drewN | apply below_drew1 | refine below_set ?_ GE222.out | refine below_set ?_ GE223.out | refine below_set ?_ GE244.out | refine below_set ?_ GE251.out) | exact HB.out)) hb); have n15_ := ak (hbox); have n16_ := ak ((by rw [hg]; exact (below_size (by repeat (first | (with_reducible first | exact HB.out | apply below_alloc | apply pw_below_drewN | apply below_drew1 | refine below_set ?_ GE222.out | refine below_set ?_ GE223.out | refine below_set ?_ GE244.out | refine below_set ?_ GE251.out) | exact HB.out))) : w.heap.size ≤ gb258)); have n17_ := ak ((by rw [hg]; exact (below_size (by repeat (first | (with_reducible first | exact HB.out | apply below_alloc | apply pw_below_drewN | apply below_drew1 | refine below_set ?_ GE222.out | refine below_set ?_ GE223.out | refine below_set ?_ GE244.out | refine below_set ?_ GE251.out) | exact HB.out))) : w.heap.size ≤ gb258)); have n18_ := ak ((by rw [hg]; exact Nat.ne_of_lt (blk_lt (g := gb222) (o := .cells #[.slice A0_0 l0_0.length c0_0, .slice A0_1 l0_1.length c0_1] 41 (0, 0)) (bTo BK222.out)) : gb222 ≠ gb258)); have n19_ := ak ((by rw [hg]; exact Nat.ne_of_gt (blk_lt (g := gb222) (o := .cells #[.slice A0_0 l0_0.length c0_0, .slice A0_1 l0_1.length c0_1] 41 (0, 0)) (bTo BK222.out)) : gb258 ≠ gb222)); have n20_ := ak ((by rw [hg]; exact Nat.ne_of_lt (blk_lt (g := gb223) (o := .cells #[.slice A1_0 l1_0.length c1_0, .slice A1_1 l1_1.length c1_1] 41 (0, 0)) (bTo BK223.out)) : gb223 ≠ gb258)); have n21_ := ak ((by rw [hg]; exact Nat.ne_of_gt (blk_lt (g := gb223) (o := .cells #[.slice A1_0 l1_0.length c1_0, .slice A1_1 l1_1.length c1_1] 41 (0, 0)) (bTo BK223.out)) : gb258 ≠ gb223)); have n22_ := ak ((by rw [hg]; exact Nat.ne_of_lt (blk_lt (g := gb244) (o := .cells #[.slice Ao53 t238.length co53, .slice Ao55 t241.length co55] 26 (0, 0)) (bTo BK244.out)) : gb244 ≠ gb258)); have n23_ := ak ((by rw [hg]; exact Nat.ne_of_gt (blk_lt (g := gb244) (o := .cells #[.slice Ao53 t238.length co53, .slice Ao55 t241.length co55] 26 (0, 0)) (bTo BK244.out)) : gb258 ≠ gb244)); have n24_ := ak ((by rw [hg]; exact Nat.ne_of_lt (blk_lt (g := gb251) (o := .cells #[.slice Ao61 t245.length co61, .slice Ao66 t248.length co66] 26 (0, 0)) (bTo BK251.out)) : gb251 ≠ gb258)); have n25_ := ak ((by rw [hg]; exact Nat.ne_of_gt (blk_lt (g := gb251) (o := .cells #[.slice Ao61 t245.length co61, .slice Ao66 t248.length co66] 26 (0, 0)) (bTo BK251.out)) : gb258 ≠ gb251)); clear HO228; clear HO231; clear HO234; clear HO237; clear HO240; clear HO243; clear HO247; clear HO250; clear HO254; clear HO257; clear BK222; clear BK223; clear BK244; clear BK251; clear HB; have HO228 := n0_; have HO231 := n1_; have HO234 := n2_; have HO237 := n3_; have HO240 := n4_; have HO243 := n5_; have HO247 := n6_; have HO250 := n7_; have HO254 := n8_; have HO257 := n9_; have BK222 := n10_; have BK223 := n11_; have BK244 := n12_; have BK251 := n13_; have HB := n14_; have BK258 := n15_; have GW258 := n16_; have GE258 := n17_; have NB222_258 := n18_; have NB258_222 := n19_; have NB223_258 := n20_; have NB258_223 := n21_; have NB244_258 := n22_; have NB258_244 := n23_; have NB251_258 := n24_; have NB258_251 := n25_; clear n0_ n1_ n2_ n3_ n4_ n5_ n6_ n7_ n8_ n9_ n10_ n11_ n12_ n13_ n14_ n15_ n16_ n17_ n18_ n19_ n20_ n21_ n22_ n23_ n24_ n25_; clear hb hbox hg; obtain ⟨Ao71, co71, eo71⟩ := Kd.R_slice HO254.out; subst eo71; have hnb72 := NB258_222.out; have hnc72 := NB222_258.out; have hnb73 := NB258_223.out; have hnc73 := NB223_258.out; have hnb74 := NB258_244.out; have hnc74 := NB244_258.out; have hnb75 := NB258_251.out; have hnc75 := NB251_258.out; have hcz76_0 : w70.cell? ⟨gb258, 0, none⟩ = some (.slice none 0 0) := (blk_cell BK258.out 0).trans rfl; have hcz76_1 : w70.cell? ⟨gb258, 1, none⟩ = some (.slice none 0 0) := (blk_cell BK258.out 1).trans rfl; have hfz76_0 := blk_frozen BK258.out 0; have hfz76_1 := blk_frozen BK258.out 1; obtain ⟨Ao77, co77, eo77⟩ := Kd.R_slice HO257.out; subst eo77; have hcz78_0 : w70.cell? ⟨gb251, 0, none⟩ = some (.slice Ao61 t245.length co61) := (blk_cell BK251.out 0).trans rfl; have hcz78_1 : w70.cell? ⟨gb251, 1, none⟩ = some (.slice Ao66 t248.length co66) := (blk_cell BK251.out 1).trans rfl; have hfz78_0 := blk_frozen BK251.out 0; have hfz78_1 := blk_frozen BK251.out 1) | ((with_reducible refine gate_callee (f := 19) rfl ?_); refine goesL_ (some 35) rfl rfl Try.func19 (by kernel_rfl) rfl #[.agg #[.slice Ao61 t245.length co61, .slice Ao66 t248.length co66], .agg #[.slice Ao71 t252.length co71, .slice Ao77 t255.length co77]] rfl (by (try simp only [List.map_toArray, List.map_cons, List.map_nil]); first | done | rfl | (simp only [List.length_drop, List.length_take]; rfl)) ?_; (with_reducible refine (impl_MergeReports.calls k _ _ t245 _ _ t248 _ _ t252 _ _ t255 t259 t262 _ ?side1 ?side2 ?side3 ?side4 ?side5 ?side6 ?side7 ?side8 A24.out).mono ?_); (case side1 => refine (Kd.R_reads' (e := 37) (base := w.heap.size) (ok := fun k_ => ((((True ∧ some k_ ≠ (v227 : Value).ownBlock) ∧ some k_ ≠ (v233 : Value).ownBlock) ∧ some k_ ≠ (.slice Ao53 t238.length co53 : Value).ownBlock) ∧ some k_ ≠ (.slice Ao71 t252.length co71 : Value).ownBlock)) (n := t245.length) (c := co61) ?_).2.2; exact (rTo (Kd.R_mono (Kd.R_far (p := ⟨gb258, 1, none⟩) (Kd.R_far (p := ⟨gb258, 0, none⟩) (Kd.R_types HO247.out BK258.out (by decide)) (fun _ hk => hk.2) (.slice Ao71 t252.length co71)) (fun _ hk => hk.2) (.slice Ao77 t255.length co77)) (fun _ h_ => h_.1)))); (case side2 => exact (Kd.R_reads' HO247.out).2.1); (case side3 => refine (Kd.R_reads' (e := 9) (base := w.heap.size) (ok := fun k_ => ((((True ∧ some k_ ≠ (v230 : Value).ownBlock) ∧ some k_ ≠ (v236 : Value).ownBlock) ∧ some k_ ≠ (.slice Ao55 t241.length co55 : Value).ownBlock) ∧ some k_ ≠ (.slice Ao77 t255.length co77 : Value).ownBlock)) (n := t248.length) (c := co66) ?_).2.2; exact (rTo (Kd.R_mono (Kd.R_far (p := ⟨gb258, 1, none⟩) (Kd.R_far (p := ⟨gb258, 0, none⟩) (Kd.R_types HO250.out BK258.out (by decide)) (fun _ hk => hk.2) (.slice Ao71 t252.length co71)) (fun _ hk => hk.2) (.slice Ao77 t255.length co77)) (fun _ h_ => h_.1)))); (case side4 => exact (Kd.R_reads' HO250.out).2.1); (case side5 => refine (Kd.R_reads' (e := 37) (base := w.heap.size) (ok := fun k_ => ((((True ∧ some k_ ≠ (v227 : Value).ownBlock) ∧ some k_ ≠ (v233 : Value).ownBlock) ∧ some k_ ≠ (.slice Ao53 t238.length co53 : Value).ownBlock) ∧ some k_ ≠ (.slice Ao61 t245.length co61 : Value).ownBlock)) (n := t252.length) (c := co71) ?_).2.2; exact (rTo (Kd.R_mono (Kd.R_far (p := ⟨gb258, 1, none⟩) (Kd.R_far (p := ⟨gb258, 0, none⟩) (Kd.R_types HO254.out BK258.out (by decide)) (fun _ hk => hk.2) (.slice Ao71 t252.length co71)) (fun _ hk => hk.2) (.slice Ao77 t255.length co77)) (fun _ h_ => h_.1)))); (case side6 => exact (Kd.R_reads' HO254.out).2.1); (case side7 => refine (Kd.R_reads' (e := 9) (base := w.heap.size) (ok := fun k_ => ((((True ∧ some k_ ≠ (v230 : Value).ownBlock) ∧ some k_ ≠ (v236 : Value).ownBlock) ∧ some k_ ≠ (.slice Ao55 t241.length co55 : Value).ownBlock) ∧ some k_ ≠ (.slice Ao66 t248.length co66 : Value).ownBlock)) (n := t255.length) (c := co77) ?_).2.2; exact (rTo (Kd.R_mono (Kd.R_far (p := ⟨gb258, 1, none⟩) (Kd.R_far (p := ⟨gb258, 0, none⟩) (Kd.R_types HO257.out BK258.out (by decide)) (fun _ hk => hk.2) (.slice Ao71 t252.length co71)) (fun _ hk => hk.2) (.slice Ao77 t255.length co77)) (fun _ h_ => h_.1)))); (case side8 => exact (Kd.R_reads' HO257.out).2.1); rintro e w79 ⟨v260, v263, rfl, ho0, ho1, hb⟩; refine ⟨_, rfl, ?_⟩; have n0_ := ak (Kd.R_elder' (rTo (Kd.R_mono (Kd.R_far (p := ⟨gb258, 1, none⟩) (Kd.R_far (p := ⟨gb258, 0, none⟩) (Kd.R_types HO228.out BK258.out (by decide)) (fun _ hk => hk.2) (.slice Ao71 t252.length co71)) (fun _ hk => hk.2) (.slice Ao77 t255.length co77)) (fun _ h_ => h_.1))) (Kd.R_base ho0) hb); have n1_ := ak (Kd.R_elder' (rTo (Kd.R_mono (Kd.R_far (p := ⟨gb258, 1, none⟩) (Kd.R_far (p := ⟨gb258, 0, none⟩) (Kd.R_types HO231.out BK258.out (by decide)) (fun _ hk => hk.2) (.slice Ao71 t252.length co71)) (fun _ hk => hk.2) (.slice Ao77 t255.length co77)) (fun _ h_ => h_.1))) (Kd.R_base ho1) hb); have n2_ := ak (Kd.R_elder' (rTo (Kd.R_mono (Kd.R_far (p := ⟨gb258, 1, none⟩) (Kd.R_far (p := ⟨gb258, 0, none⟩) (Kd.R_types HO234.out BK258.out (by decide)) (fun _ hk => hk.2) (.slice Ao71 t252.length co71)) (fun _ hk => hk.2) (.slice Ao77 t255.length co77)) (fun _ h_ => h_.1))) (Kd.R_base ho0) hb); have n3_ := ak (Kd.R_elder' (rTo (Kd.R_mono (Kd.R_far (p := ⟨gb258, 1, none⟩) (Kd.R_far (p := ⟨gb258, 0, none⟩) (Kd.R_types HO237.out BK258.out (by decide)) (fun _ hk => hk.2) (.slice Ao71 t252.length co71)) (fun _ hk => hk.2) (.slice Ao77 t255.length co77)) (fun _ h_ => h_.1))) (Kd.R_base ho1) hb); have n4_ := ak (Kd.R_elder' (rTo (Kd.R_mono (Kd.R_far (p := ⟨gb258, 1, none⟩) (Kd.R_far (p := ⟨gb258, 0, none⟩) (Kd.R_types HO240.out BK258.out (by decide)) (fun _ hk => hk.2) (.slice Ao71 t252.length co71)) (fun _ hk => hk.2) (.slice Ao77 t255.length co77)) (fun _ h_ => h_.1))) (Kd.R_base ho0) hb); have n5_ := ak (Kd.R_elder' (rTo (Kd.R_mono (Kd.R_far (p := ⟨gb258, 1, none⟩) (Kd.R_far (p := ⟨gb258, 0, none⟩) (Kd.R_types HO243.out BK258.out (by decide)) (fun _ hk => hk.2) (.slice Ao71 t252.length co71)) (fun _ hk => hk.2) (.slice Ao77 t255.length co77)) (fun _ h_ => h_.1))) (Kd.R_base ho1) hb); have n6_ := ak (Kd.R_elder' (rTo (Kd.R_mono (Kd.R_far (p := ⟨gb258, 1, none⟩) (Kd.R_far (p := ⟨gb258, 0, none⟩) (Kd.R_types HO247.out BK258.out (by decide)) (fun _ hk => hk.2) (.slice Ao71 t252.length co71)) (fun _ hk => hk.2) (.slice Ao77 t255.length co77)) (fun _ h_ => h_.1))) (Kd.R_base ho0) hb); have n7_ := ak (Kd.R_elder' (rTo (Kd.R_mono (Kd.R_far (p := ⟨gb258, 1, none⟩) (Kd.R_far (p := ⟨gb258, 0, none⟩) (Kd.R_types HO250.out BK258.out (by decide)) (fun _ hk => hk.2) (.slice Ao71 t252.length co71)) (fun _ hk => hk.2) (.slice Ao77 t255.length co77)) (fun _ h_ => h_.1))) (Kd.R_base ho1) hb); have n8_ := ak (Kd.R_elder' (rTo (Kd.R_mono (Kd.R_far (p := ⟨gb258, 1, none⟩) (Kd.R_far (p := ⟨gb258, 0, none⟩) (Kd.R_types HO254.out BK258.out (by decide)) (fun _ hk => hk.2) (.slice Ao71 t252.length co71)) (fun _ hk => hk.2) (.slice Ao77 t255.length co77)) (fun _ h_ => h_.1))) (Kd.R_base ho0) hb); have n9_ := ak (Kd.R_elder' (rTo (Kd.R_mono (Kd.R_far (p := ⟨gb258, 1, none⟩) (Kd.R_far (p := ⟨gb258, 0, none⟩) (Kd.R_types HO257.out BK258.out (by decide)) (fun _ hk => hk.2) (.slice Ao71 t252.length co71)) (fun _ hk => hk.2) (.slice Ao77 t255.length co77)) (fun _ h_ => h_.1))) (Kd.R_base ho1) hb); have n10_ := ak (Kd.R_lower (Kd.R_new' (Kd.R_new' (Kd.R_new' (Kd.R_new' (Kd.R_new' ho0 (Kd.R_lt (rTo (Kd.R_mono (Kd.R_far (p := ⟨gb258, 1, none⟩) (Kd.R_far (p := ⟨gb258, 0, none⟩) (Kd.R_types HO228.out BK258.out (by decide)) (fun _ hk => hk.2) (.slice Ao71 t252.length co71)) (fun _ hk => hk.2) (.slice Ao77 t255.length co77)) (fun _ h_ => h_.1))))) (Kd.R_lt (rTo (Kd.R_mono (Kd.R_far (p := ⟨gb258, 1, none⟩) (Kd.R_far (p := ⟨gb258, 0, none⟩) (Kd.R_types HO234.out BK258.out (by decide)) (fun _ hk => hk.2) (.slice Ao71 t252.length co71)) (fun _ hk => hk.2) (.slice Ao77 t255.length co77)) (fun _ h_ => h_.1))))) (Kd.R_lt (rTo (Kd.R_mono (Kd.R_far (p := ⟨gb258, 1, none⟩) (Kd.R_far (p := ⟨gb258, 0, none⟩) (Kd.R_types HO240.out BK258.out (by decide)) (fun _ hk => hk.2) (.slice Ao71 t252.length co71)) (fun _ hk => hk.2) (.slice Ao77 t255.length co77)) (fun _ h_ => h_.1))))) (Kd.R_lt (rTo (Kd.R_mono (Kd.R_far (p := ⟨gb258, 1, none⟩) (Kd.R_far (p := ⟨gb258, 0, none⟩) (Kd.R_types HO247.out BK258.out (by decide)) (fun _ hk => hk.2) (.slice Ao71 t252.length co71)) (fun _ hk => hk.2) (.slice Ao77 t255.length co77)) (fun _ h_ => h_.1))))) (Kd.R_lt (rTo (Kd.R_mono (Kd.R_far (p := ⟨gb258, 1, none⟩) (Kd.R_far (p := ⟨gb258, 0, none⟩) (Kd.R_types HO254.out BK258.out (by decide)) (fun _ hk => hk.2) (.slice Ao71 t252.length co71)) (fun _ hk => hk.2) (.slice Ao77 t255.length co77)) (fun _ h_ => h_.1))))) (below_size (by repeat (first | (with_reducible first | exact HB.out | apply below_alloc | apply pw_below_drewN | apply below_drew1 | refine below_set ?_ GE222.out | refine below_set ?_ GE223.out | refine below_set ?_ GE244.out | refine below_set ?_ GE251.out | refine below_set ?_ GE258.out) | exact HB.out)))); have n11_ := ak (Kd.R_lower (Kd.R_new' (Kd.R_new' (Kd.R_new' (Kd.R_new' (Kd.R_new' ho1 (Kd.R_lt (rTo (Kd.R_mono (Kd.R_far (p := ⟨gb258, 1, none⟩) (Kd.R_far (p := ⟨gb258, 0, none⟩) (Kd.R_types HO231.out BK258.out (by decide)) (fun _ hk => hk.2) (.slice Ao71 t252.length co71)) (fun _ hk => hk.2) (.slice Ao77 t255.length co77)) (fun _ h_ => h_.1))))) (Kd.R_lt (rTo (Kd.R_mono (Kd.R_far (p := ⟨gb258, 1, none⟩) (Kd.R_far (p := ⟨gb258, 0, none⟩) (Kd.R_types HO237.out BK258.out (by decide)) (fun _ hk => hk.2) (.slice Ao71 t252.length co71)) (fun _ hk => hk.2) (.slice Ao77 t255.length co77)) (fun _ h_ => h_.1))))) (Kd.R_lt (rTo (Kd.R_mono (Kd.R_far (p := ⟨gb258, 1, none⟩) (Kd.R_far (p := ⟨gb258, 0, none⟩) (Kd.R_types HO243.out BK258.out (by decide)) (fun _ hk => hk.2) (.slice Ao71 t252.length co71)) (fun _ hk => hk.2) (.slice Ao77 t255.length co77)) (fun _ h_ => h_.1))))) (Kd.R_lt (rTo (Kd.R_mono (Kd.R_far (p := ⟨gb258, 1, none⟩) (Kd.R_far (p := ⟨gb258, 0, none⟩) (Kd.R_types HO250.out BK258.out (by decide)) (fun _ hk => hk.2) (.slice Ao71 t252.length co71)) (fun _ hk => hk.2) (.slice Ao77 t255.length co77)) (fun _ h_ => h_.1))))) (Kd.R_lt (rTo (Kd.R_mono (Kd.R_far (p := ⟨gb258, 1, none⟩) (Kd.R_far (p := ⟨gb258, 0, none⟩) (Kd.R_types HO257.out BK258.out (by decide)) (fun _ hk => hk.2) (.slice Ao71 t252.length co71)) (fun _ hk => hk.2) (.slice Ao77 t255.length co77)) (fun _ h_ => h_.1))))) (below_size (by repeat (first | (with_reducible first | exact HB.out | apply below_alloc | apply pw_below_drewN | apply below_drew1 | refine below_set ?_ GE222.out | refine below_set ?_ GE223.out | refine below_set ?_ GE244.out | refine below_set ?_ GE251.out | refine below_set ?_ GE258.out) | exact HB.out)))); have n12_ := ak (blk_below (g := gb222) (o := .cells #[.slice A0_0 l0_0.length c0_0, .slice A0_1 l0_1.length c0_1] 41 (0, 0)) (by (with_reducible repeat (first | apply blk_drewN | apply blk_drew | apply blk_alloc)); refine blk_far ?_ NB222_258.out _; (with_reducible repeat (first | apply blk_drewN | apply blk_drew | apply blk_alloc)); refine blk_far ?_ NB222_258.out _; (with_reducible repeat (first | apply blk_drewN | apply blk_drew | apply blk_alloc)); exact BK222.out) hb); have n13_ := ak (blk_below (g := gb223) (o := .cells #[.slice A1_0 l1_0.length c1_0, .slice A1_1 l1_1.length c1_1] 41 (0, 0)) (by (with_reducible repeat (first | apply blk_drewN | apply blk_drew | apply blk_alloc)); refine blk_far ?_ NB223_258.out _; (with_reducible repeat (first | apply blk_drewN | apply blk_drew | apply blk_alloc)); refine blk_far ?_ NB223_258.out _; (with_reducible repeat (first | apply blk_drewN | apply blk_drew | apply blk_alloc)); exact BK223.out) hb); have n14_ := ak (blk_below (g := gb244) (o := .cells #[.slice Ao53 t238.length co53, .slice Ao55 t241.length co55] 26 (0, 0)) (by (with_reducible repeat (first | apply blk_drewN | apply blk_drew | apply blk_alloc)); refine blk_far ?_ NB244_258.out _; (with_reducible repeat (first | apply blk_drewN | apply blk_drew | apply blk_alloc)); refine blk_far ?_ NB244_258.out _; (with_reducible repeat (first | apply blk_drewN | apply blk_drew | apply blk_alloc)); exact BK244.out) hb); have n15_ := ak (blk_below (g := gb251) (o := .cells #[.slice Ao61 t245.length co61, .slice Ao66 t248.length co66] 26 (0, 0)) (by (with_reducible repeat (first | apply blk_drewN | apply blk_drew | apply blk_alloc)); refine blk_far ?_ NB251_258.out _; (with_reducible repeat (first | apply blk_drewN | apply blk_drew | apply blk_alloc)); refine blk_far ?_ NB251_258.out _; (with_reducible repeat (first | apply blk_drewN | apply blk_drew | apply blk_alloc)); exact BK251.out) hb); have n16_ := ak (blk_below (g := gb258) (o := .cells #[.slice Ao71 t252.length co71, .slice Ao77 t255.length co77] 26 (0, 0)) (by (with_reducible repeat (first | apply blk_drewN | apply blk_drew | apply blk_alloc)); refine blk_put (cs := #[.slice Ao71 t252.length co71, .slice none 0 0]) ?_ 1 _ rfl; (with_reducible repeat (first | apply blk_drewN | apply blk_drew | apply blk_alloc)); refine blk_put (cs := #[.slice none 0 0, .slice none 0 0]) ?_ 0 _ rfl; (with_reducible repeat (first | apply blk_drewN | apply blk_drew | apply blk_alloc)); exact BK258.out) hb); have n17_ := ak (below_step (by repeat (first | (with_reducible first | exact HB.out | apply below_alloc | apply pw_below_drewN | apply below_drew1 | refine below_set ?_ GE222.out | refine below_set ?_ GE223.out | refine below_set ?_ GE244.out | refine below_set ?_ GE251.out | refine below_set ?_ GE258.out) | exact HB.out)) hb); clear HO228; clear HO231; clear HO234; clear HO237; clear HO240; clear HO243; clear HO247; clear HO250; clear HO254; clear HO257; clear BK222; clear BK223; clear BK244; clear BK251; clear BK258; clear HB; have HO228 := n0_; have HO231 := n1_; have HO234 := n2_; have HO237 := n3_; have HO240 := n4_; have HO243 := n5_; have HO247 := n6_; have HO250 := n7_; have HO254 := n8_; have HO257 := n9_; have HO261 := n10_; have HO264 := n11_; have BK222 := n12_; have BK223 := n13_; have BK244 := n14_; have BK251 := n15_; have BK258 := n16_; have HB := n17_; clear n0_ n1_ n2_ n3_ n4_ n5_ n6_ n7_ n8_ n9_ n10_ n11_ n12_ n13_ n14_ n15_ n16_ n17_; (try clear hb); (try clear hb2); (try clear hk); (try clear hi); (try clear ho0); (try clear ho1)) | ((with_reducible refine gate_dst (N := 9) rfl ?_); refine box_event ?hg (N := 9) ?hd (cs := #[.slice none 0 0, .slice none 0 0]) (t := 26) ?hr ?_; (case hd => rfl); (case hg => rfl); (case hr => first | (go_simp; done) | (go_simp; rfl)); intro gb265 hg w80 hbox hb; have n0_ := ak (Kd.R_below (rTo HO228.out) hb); have n1_ := ak (Kd.R_below (rTo HO231.out) hb); have n2_ := ak (Kd.R_below (rTo HO234.out) hb); have n3_ := ak (Kd.R_below (rTo HO237.out) hb); have n4_ := ak (Kd.R_below (rTo HO240.out) hb); have n5_ := ak (Kd.R_below (rTo HO243.out) hb); have n6_ := ak (Kd.R_below (rTo HO247.out) hb); have n7_ := ak (Kd.R_below (rTo HO250.out) hb); have n8_ := ak (Kd.R_below (rTo HO254.out) hb); have n9_ := ak (Kd.R_below (rTo HO257.out) hb); have n10_ := ak (Kd.R_below (rTo HO261.out) hb); have n11_ := ak (Kd.R_below (rTo HO264.out) hb); have n12_ := ak (blk_below (g := gb222) (o := .cells #[.slice A0_0 l0_0.length c0_0, .slice A0_1 l0_1.length c0_1] 41 (0, 0)) (bTo BK222.out) hb); have n13_ := ak (blk_below (g := gb223) (o := .cells #[.slice A1_0 l1_0.length c1_0, .slice A1_1 l1_1.length c1_1] 41 (0, 0)) (bTo BK223.out) hb); have n14_ := ak (blk_below (g := gb244) (o := .cells #[.slice Ao53 t238.length co53, .slice Ao55 t241.length co55] 26 (0, 0)) (bTo BK244.out) hb); have n15_ := ak (blk_below (g := gb251) (o := .cells #[.slice Ao61 t245.length co61, .slice Ao66 t248.length co66] 26 (0, 0)) (bTo BK251.out) hb); have n16_ := ak (blk_below (g := gb258) (o := .cells #[.slice Ao71 t252.length co71, .slice Ao77 t255.length co77] 26 (0, 0)) (bTo BK258.out) hb); have n17_ := ak (below_step (by repeat (first | (with_reducible first | exact HB.out | apply below_alloc | apply pw_below_drewN | apply below_drew1 | refine below_set ?_ GE222.out | refine below_set ?_ GE223.out | refine below_set ?_ GE244.out | refine below_set ?_ GE251.out | refine below_set ?_ GE258.out) | exact HB.out)) hb); have n18_ := ak (hbox); have n19_ := ak ((by rw [hg]; exact (below_size (by repeat (first | (with_reducible first | exact HB.out | apply below_alloc | apply pw_below_drewN | apply below_drew1 | refine below_set ?_ GE222.out | refine below_set ?_ GE223.out | refine below_set ?_ GE244.out | refine below_set ?_ GE251.out | refine below_set ?_ GE258.out) | exact HB.out))) : w.heap.size ≤ gb265)); have n20_ := ak ((by rw [hg]; exact (below_size (by repeat (first | (with_reducible first | exact HB.out | apply below_alloc | apply pw_below_drewN | apply below_drew1 | refine below_set ?_ GE222.out | refine below_set ?_ GE223.out | refine below_set ?_ GE244.out | refine below_set ?_ GE251.out | refine below_set ?_ GE258.out) | exact HB.out))) : w.heap.size ≤ gb265)); have n21_ := ak ((by rw [hg]; exact Nat.ne_of_lt (blk_lt (g := gb222) (o := .cells #[.slice A0_0 l0_0.length c0_0, .slice A0_1 l0_1.length c0_1] 41 (0, 0)) (bTo BK222.out)) : gb222 ≠ gb265)); have n22_ := ak ((by rw [hg]; exact Nat.ne_of_gt (blk_lt (g := gb222) (o := .cells #[.slice A0_0 l0_0.length c0_0, .slice A0_1 l0_1.length c0_1] 41 (0, 0)) (bTo BK222.out)) : gb265 ≠ gb222)); have n23_ := ak ((by rw [hg]; exact Nat.ne_of_lt (blk_lt (g := gb223) (o := .cells #[.slice A1_0 l1_0.length c1_0, .slice A1_1 l1_1.length c1_1] 41 (0, 0)) (bTo BK223.out)) : gb223 ≠ gb265)); have n24_ := ak ((by rw [hg]; exact Nat.ne_of_gt (blk_lt (g := gb223) (o := .cells #[.slice A1_0 l1_0.length c1_0, .slice A1_1 l1_1.length c1_1] 41 (0, 0)) (bTo BK223.out)) : gb265 ≠ gb223)); have n25_ := ak ((by rw [hg]; exact Nat.ne_of_lt (blk_lt (g := gb244) (o := .cells #[.slice Ao53 t238.length co53, .slice Ao55 t241.length co55] 26 (0, 0)) (bTo BK244.out)) : gb244 ≠ gb265)); have n26_ := ak ((by rw [hg]; exact Nat.ne_of_gt (blk_lt (g := gb244) (o := .cells #[.slice Ao53 t238.length co53, .slice Ao55 t241.length co55] 26 (0, 0)) (bTo BK244.out)) : gb265 ≠ gb244)); have n27_ := ak ((by rw [hg]; exact Nat.ne_of_lt (blk_lt (g := gb251) (o := .cells #[.slice Ao61 t245.length co61, .slice Ao66 t248.length co66] 26 (0, 0)) (bTo BK251.out)) : gb251 ≠ gb265)); have n28_ := ak ((by rw [hg]; exact Nat.ne_of_gt (blk_lt (g := gb251) (o := .cells #[.slice Ao61 t245.length co61, .slice Ao66 t248.length co66] 26 (0, 0)) (bTo BK251.out)) : gb265 ≠ gb251)); have n29_ := ak ((by rw [hg]; exact Nat.ne_of_lt (blk_lt (g := gb258) (o := .cells #[.slice Ao71 t252.length co71, .slice Ao77 t255.length co77] 26 (0, 0)) (bTo BK258.out)) : gb258 ≠ gb265)); have n30_ := ak ((by rw [hg]; exact Nat.ne_of_gt (blk_lt (g := gb258) (o := .cells #[.slice Ao71 t252.length co71, .slice Ao77 t255.length co77] 26 (0, 0)) (bTo BK258.out)) : gb265 ≠ gb258)); clear HO228; clear HO231; clear HO234; clear HO237; clear HO240; clear HO243; clear HO247; clear HO250; clear HO254; clear HO257; clear HO261; clear HO264; clear BK222; clear BK223; clear BK244; clear BK251; clear BK258; clear HB; have HO228 := n0_; have HO231 := n1_; have HO234 := n2_; have HO237 := n3_; have HO240 := n4_; have HO243 := n5_; have HO247 := n6_; have HO250 := n7_; have HO254 := n8_; have HO257 := n9_; have HO261 := n10_; have HO264 := n11_; have BK222 := n12_; have BK223 := n13_; have BK244 := n14_; have BK251 := n15_; have BK258 := n16_; have HB := n17_; have BK265 := n18_; have GW265 := n19_; have GE265 := n20_; have NB222_265 := n21_; have NB265_222 := n22_; have NB223_265 := n23_; have NB265_223 := n24_; have NB244_265 := n25_; have NB265_244 := n26_; have NB251_265 := n27_; have NB265_251 := n28_; have NB258_265 := n29_; have NB265_258 := n30_; clear n0_ n1_ n2_ n3_ n4_ n5_ n6_ n7_ n8_ n9_ n10_ n11_ n12_ n13_ n14_ n15_ n16_ n17_ n18_ n19_ n20_ n21_ n22_ n23_ n24_ n25_ n26_ n27_ n28_ n29_ n30_; clear hb hbox hg; obtain ⟨Ao81, co81, eo81⟩ := Kd.R_slice HO261.out; subst eo81; have hnb82 := NB265_222.out; have hnc82 := NB222_265.out; have hnb83 := NB265_223.out; have hnc83 := NB223_265.out; have hnb84 := NB265_244.out; have hnc84 := NB244_265.out; have hnb85 := NB265_251.out; have hnc85 := NB251_265.out; have hnb86 := NB265_258.out; have hnc86 := NB258_265.out; have hcz87_0 : w80.cell? ⟨gb265, 0, none⟩ = some (.slice none 0 0) := (blk_cell BK265.out 0).trans rfl; have hcz87_1 : w80.cell? ⟨gb265, 1, none⟩ = some (.slice none 0 0) := (blk_cell BK265.out 1).trans rfl; have hfz87_0 := blk_frozen BK265.out 0; have hfz87_1 := blk_frozen BK265.out 1; obtain ⟨Ao88, co88, eo88⟩ := Kd.R_slice HO264.out; subst eo88; have hcz89_0 : w80.cell? ⟨gb244, 0, none⟩ = some (.slice Ao53 t238.length co53) := (blk_cell BK244.out 0).trans rfl; have hcz89_1 : w80.cell? ⟨gb244, 1, none⟩ = some (.slice Ao55 t241.length co55) := (blk_cell BK244.out 1).trans rfl; have hfz89_0 := blk_frozen BK244.out 0; have hfz89_1 := blk_frozen BK244.out 1) | ((with_reducible refine gate_callee (f := 26) rfl ?_); refine goesL_ (some 38) rfl rfl Try.func26 (by kernel_rfl) rfl #[.agg #[.slice Ao81 t259.length co81, .slice Ao88 t262.length co88], .agg #[.slice Ao53 t238.length co53, .slice Ao55 t241.length co55]] rfl (by (try simp only [List.map_toArray, List.map_cons, List.map_nil]); first | done | rfl | (simp only [List.length_drop, List.length_take]; rfl)) ?_; (with_reducible refine (laws_eqReport.calls k _ _ t259 _ _ t262 _ _ t238 _ _ t241 true _ ?side1 ?side2 ?side3 ?side4 ?side5 ?side6 ?side7 ?side8 A25.out).mono ?_); (case side1 => refine (Kd.R_reads' (e := 37) (base := w.heap.size) (ok := fun k_ => (((((True ∧ some k_ ≠ (v227 : Value).ownBlock) ∧ some k_ ≠ (v233 : Value).ownBlock) ∧ some k_ ≠ (.slice Ao53 t238.length co53 : Value).ownBlock) ∧ some k_ ≠ (.slice Ao61 t245.length co61 : Value).ownBlock) ∧ some k_ ≠ (.slice Ao71 t252.length co71 : Value).ownBlock)) (n := t259.length) (c := co81) ?_).2.2; exact (rTo (Kd.R_mono (Kd.R_far (p := ⟨gb265, 1, none⟩) (Kd.R_far (p := ⟨gb265, 0, none⟩) (Kd.R_types HO261.out BK265.out (by decide)) (fun _ hk => hk.2) (.slice Ao81 t259.length co81)) (fun _ hk => hk.2) (.slice Ao88 t262.length co88)) (fun _ h_ => h_.1)))); (case side2 => exact (Kd.R_reads' HO261.out).2.1); (case side3 => refine (Kd.R_reads' (e := 9) (base := w.heap.size) (ok := fun k_ => (((((True ∧ some k_ ≠ (v230 : Value).ownBlock) ∧ some k_ ≠ (v236 : Value).ownBlock) ∧ some k_ ≠ (.slice Ao55 t241.length co55 : Value).ownBlock) ∧ some k_ ≠ (.slice Ao66 t248.length co66 : Value).ownBlock) ∧ some k_ ≠ (.slice Ao77 t255.length co77 : Value).ownBlock)) (n := t262.length) (c := co88) ?_).2.2; exact (rTo (Kd.R_mono (Kd.R_far (p := ⟨gb265, 1, none⟩) (Kd.R_far (p := ⟨gb265, 0, none⟩) (Kd.R_types HO264.out BK265.out (by decide)) (fun _ hk => hk.2) (.slice Ao81 t259.length co81)) (fun _ hk => hk.2) (.slice Ao88 t262.length co88)) (fun _ h_ => h_.1)))); (case side4 => exact (Kd.R_reads' HO264.out).2.1); (case side5 => refine (Kd.R_reads' (e := 37) (base := w.heap.size) (ok := fun k_ => ((((some k_ ≠ (v227 : Value).ownBlock ∧ some k_ ≠ (v233 : Value).ownBlock) ∧ some k_ ≠ (.slice Ao61 t245.length co61 : Value).ownBlock) ∧ some k_ ≠ (.slice Ao71 t252.length co71 : Value).ownBlock) ∧ some k_ ≠ (.slice Ao81 t259.length co81 : Value).ownBlock)) (n := t238.length) (c := co53) ?_).2.2; exact (rTo (Kd.R_mono (Kd.R_far (p := ⟨gb265, 1, none⟩) (Kd.R_far (p := ⟨gb265, 0, none⟩) (Kd.R_types HO240.out BK265.out (by decide)) (fun _ hk => hk.2) (.slice Ao81 t259.length co81)) (fun _ hk => hk.2) (.slice Ao88 t262.length co88)) (fun _ h_ => h_.1)))); (case side6 => exact (Kd.R_reads' HO240.out).2.1); (case side7 => refine (Kd.R_reads' (e := 9) (base := w.heap.size) (ok := fun k_ => ((((some k_ ≠ (v230 : Value).ownBlock ∧ some k_ ≠ (v236 : Value).ownBlock) ∧ some k_ ≠ (.slice Ao66 t248.length co66 : Value).ownBlock) ∧ some k_ ≠ (.slice Ao77 t255.length co77 : Value).ownBlock) ∧ some k_ ≠ (.slice Ao88 t262.length co88 : Value).ownBlock)) (n := t241.length) (c := co55) ?_).2.2; exact (rTo (Kd.R_mono (Kd.R_far (p := ⟨gb265, 1, none⟩) (Kd.R_far (p := ⟨gb265, 0, none⟩) (Kd.R_types HO243.out BK265.out (by decide)) (fun _ hk => hk.2) (.slice Ao81 t259.length co81)) (fun _ hk => hk.2) (.slice Ao88 t262.length co88)) (fun _ h_ => h_.1)))); (case side8 => exact (Kd.R_reads' HO243.out).2.1); rintro e w90 ⟨rfl, hb⟩; refine ⟨_, rfl, ?_⟩; have n0_ := ak (Kd.R_below (rTo (Kd.R_mono (Kd.R_far (p := ⟨gb265, 1, none⟩) (Kd.R_far (p := ⟨gb265, 0, none⟩) (Kd.R_types HO228.out BK265.out (by decide)) (fun _ hk => hk.2) (.slice Ao81 t259.length co81)) (fun _ hk => hk.2) (.slice Ao88 t262.length co88)) (fun _ h_ => h_.1))) hb); have n1_ := ak (Kd.R_below (rTo (Kd.R_mono (Kd.R_far (p := ⟨gb265, 1, none⟩) (Kd.R_far (p := ⟨gb265, 0, none⟩) (Kd.R_types HO231.out BK265.out (by decide)) (fun _ hk => hk.2) (.slice Ao81 t259.length co81)) (fun _ hk => hk.2) (.slice Ao88 t262.length co88)) (fun _ h_ => h_.1))) hb); have n2_ := ak (Kd.R_below (rTo (Kd.R_mono (Kd.R_far (p := ⟨gb265, 1, none⟩) (Kd.R_far (p := ⟨gb265, 0, none⟩) (Kd.R_types HO234.out BK265.out (by decide)) (fun _ hk => hk.2) (.slice Ao81 t259.length co81)) (fun _ hk => hk.2) (.slice Ao88 t262.length co88)) (fun _ h_ => h_.1))) hb); have n3_ := ak (Kd.R_below (rTo (Kd.R_mono (Kd.R_far (p := ⟨gb265, 1, none⟩) (Kd.R_far (p := ⟨gb265, 0, none⟩) (Kd.R_types HO237.out BK265.out (by decide)) (fun _ hk => hk.2) (.slice Ao81 t259.length co81)) (fun _ hk => hk.2) (.slice Ao88 t262.length co88)) (fun _ h_ => h_.1))) hb); have n4_ := ak (Kd.R_below (rTo (Kd.R_mono (Kd.R_far (p := ⟨gb265, 1, none⟩) (Kd.R_far (p := ⟨gb265, 0, none⟩) (Kd.R_types HO240.out BK265.out (by decide)) (fun _ hk => hk.2) (.slice Ao81 t259.length co81)) (fun _ hk => hk.2) (.slice Ao88 t262.length co88)) (fun _ h_ => h_.1))) hb); have n5_ := ak (Kd.R_below (rTo (Kd.R_mono (Kd.R_far (p := ⟨gb265, 1, none⟩) (Kd.R_far (p := ⟨gb265, 0, none⟩) (Kd.R_types HO243.out BK265.out (by decide)) (fun _ hk => hk.2) (.slice Ao81 t259.length co81)) (fun _ hk => hk.2) (.slice Ao88 t262.length co88)) (fun _ h_ => h_.1))) hb); have n6_ := ak (Kd.R_below (rTo (Kd.R_mono (Kd.R_far (p := ⟨gb265, 1, none⟩) (Kd.R_far (p := ⟨gb265, 0, none⟩) (Kd.R_types HO247.out BK265.out (by decide)) (fun _ hk => hk.2) (.slice Ao81 t259.length co81)) (fun _ hk => hk.2) (.slice Ao88 t262.length co88)) (fun _ h_ => h_.1))) hb); have n7_ := ak (Kd.R_below (rTo (Kd.R_mono (Kd.R_far (p := ⟨gb265, 1, none⟩) (Kd.R_far (p := ⟨gb265, 0, none⟩) (Kd.R_types HO250.out BK265.out (by decide)) (fun _ hk => hk.2) (.slice Ao81 t259.length co81)) (fun _ hk => hk.2) (.slice Ao88 t262.length co88)) (fun _ h_ => h_.1))) hb); have n8_ := ak (Kd.R_below (rTo (Kd.R_mono (Kd.R_far (p := ⟨gb265, 1, none⟩) (Kd.R_far (p := ⟨gb265, 0, none⟩) (Kd.R_types HO254.out BK265.out (by decide)) (fun _ hk => hk.2) (.slice Ao81 t259.length co81)) (fun _ hk => hk.2) (.slice Ao88 t262.length co88)) (fun _ h_ => h_.1))) hb); have n9_ := ak (Kd.R_below (rTo (Kd.R_mono (Kd.R_far (p := ⟨gb265, 1, none⟩) (Kd.R_far (p := ⟨gb265, 0, none⟩) (Kd.R_types HO257.out BK265.out (by decide)) (fun _ hk => hk.2) (.slice Ao81 t259.length co81)) (fun _ hk => hk.2) (.slice Ao88 t262.length co88)) (fun _ h_ => h_.1))) hb); have n10_ := ak (Kd.R_below (rTo (Kd.R_mono (Kd.R_far (p := ⟨gb265, 1, none⟩) (Kd.R_far (p := ⟨gb265, 0, none⟩) (Kd.R_types HO261.out BK265.out (by decide)) (fun _ hk => hk.2) (.slice Ao81 t259.length co81)) (fun _ hk => hk.2) (.slice Ao88 t262.length co88)) (fun _ h_ => h_.1))) hb); have n11_ := ak (Kd.R_below (rTo (Kd.R_mono (Kd.R_far (p := ⟨gb265, 1, none⟩) (Kd.R_far (p := ⟨gb265, 0, none⟩) (Kd.R_types HO264.out BK265.out (by decide)) (fun _ hk => hk.2) (.slice Ao81 t259.length co81)) (fun _ hk => hk.2) (.slice Ao88 t262.length co88)) (fun _ h_ => h_.1))) hb); have n12_ := ak (blk_below (g := gb222) (o := .cells #[.slice A0_0 l0_0.length c0_0, .slice A0_1 l0_1.length c0_1] 41 (0, 0)) (by (with_reducible repeat (first | apply blk_drewN | apply blk_drew | apply blk_alloc)); refine blk_far ?_ NB222_265.out _; (with_reducible repeat (first | apply blk_drewN | apply blk_drew | apply blk_alloc)); refine blk_far ?_ NB222_265.out _; (with_reducible repeat (first | apply blk_drewN | apply blk_drew | apply blk_alloc)); exact BK222.out) hb); have n13_ := ak (blk_below (g := gb223) (o := .cells #[.slice A1_0 l1_0.length c1_0, .slice A1_1 l1_1.length c1_1] 41 (0, 0)) (by (with_reducible repeat (first | apply blk_drewN | apply blk_drew | apply blk_alloc)); refine blk_far ?_ NB223_265.out _; (with_reducible repeat (first | apply blk_drewN | apply blk_drew | apply blk_alloc)); refine blk_far ?_ NB223_265.out _; (with_reducible repeat (first | apply blk_drewN | apply blk_drew | apply blk_alloc)); exact BK223.out) hb); have n14_ := ak (blk_below (g := gb244) (o := .cells #[.slice Ao53 t238.length co53, .slice Ao55 t241.length co55] 26 (0, 0)) (by (with_reducible repeat (first | apply blk_drewN | apply blk_drew | apply blk_alloc)); refine blk_far ?_ NB244_265.out _; (with_reducible repeat (first | apply blk_drewN | apply blk_drew | apply blk_alloc)); refine blk_far ?_ NB244_265.out _; (with_reducible repeat (first | apply blk_drewN | apply blk_drew | apply blk_alloc)); exact BK244.out) hb); have n15_ := ak (blk_below (g := gb251) (o := .cells #[.slice Ao61 t245.length co61, .slice Ao66 t248.length co66] 26 (0, 0)) (by (with_reducible repeat (first | apply blk_drewN | apply blk_drew | apply blk_alloc)); refine blk_far ?_ NB251_265.out _; (with_reducible repeat (first | apply blk_drewN | apply blk_drew | apply blk_alloc)); refine blk_far ?_ NB251_265.out _; (with_reducible repeat (first | apply blk_drewN | apply blk_drew | apply blk_alloc)); exact BK251.out) hb); have n16_ := ak (blk_below (g := gb258) (o := .cells #[.slice Ao71 t252.length co71, .slice Ao77 t255.length co77] 26 (0, 0)) (by (with_reducible repeat (first | apply blk_drewN | apply blk_drew | apply blk_alloc)); refine blk_far ?_ NB258_265.out _; (with_reducible repeat (first | apply blk_drewN | apply blk_drew | apply blk_alloc)); refine blk_far ?_ NB258_265.out _; (with_reducible repeat (first | apply blk_drewN | apply blk_drew | apply blk_alloc)); exact BK258.out) hb); have n17_ := ak (blk_below (g := gb265) (o := .cells #[.slice Ao81 t259.length co81, .slice Ao88 t262.length co88] 26 (0, 0)) (by (with_reducible repeat (first | apply blk_drewN | apply blk_drew | apply blk_alloc)); refine blk_put (cs := #[.slice Ao81 t259.length co81, .slice none 0 0]) ?_ 1 _ rfl; (with_reducible repeat (first | apply blk_drewN | apply blk_drew | apply blk_alloc)); refine blk_put (cs := #[.slice none 0 0, .slice none 0 0]) ?_ 0 _ rfl; (with_reducible repeat (first | apply blk_drewN | apply blk_drew | apply blk_alloc)); exact BK265.out) hb); have n18_ := ak (below_step (by repeat (first | (with_reducible first | exact HB.out | apply below_alloc | apply pw_below_drewN | apply below_drew1 | refine below_set ?_ GE222.out | refine below_set ?_ GE223.out | refine below_set ?_ GE244.out | refine below_set ?_ GE251.out | refine below_set ?_ GE258.out | refine below_set ?_ GE265.out) | exact HB.out)) hb); clear HO228; clear HO231; clear HO234; clear HO237; clear HO240; clear HO243; clear HO247; clear HO250; clear HO254; clear HO257; clear HO261; clear HO264; clear BK222; clear BK223; clear BK244; clear BK251; clear BK258; clear BK265; clear HB; have HO228 := n0_; have HO231 := n1_; have HO234 := n2_; have HO237 := n3_; have HO240 := n4_; have HO243 := n5_; have HO247 := n6_; have HO250 := n7_; have HO254 := n8_; have HO257 := n9_; have HO261 := n10_; have HO264 := n11_; have BK222 := n12_; have BK223 := n13_; have BK244 := n14_; have BK251 := n15_; have BK258 := n16_; have BK265 := n17_; have HB := n18_; clear n0_ n1_ n2_ n3_ n4_ n5_ n6_ n7_ n8_ n9_ n10_ n11_ n12_ n13_ n14_ n15_ n16_ n17_ n18_; (try clear hb); (try clear hb2); (try clear hk); (try clear hi)))
      have n0_ := ak (Kd.R_drew HO228.out)
      have n1_ := ak (Kd.R_drew HO231.out)
      have n2_ := ak (Kd.R_drew HO234.out)
      have n3_ := ak (Kd.R_drew HO237.out)
      have n4_ := ak (Kd.R_drew HO240.out)
      have n5_ := ak (Kd.R_drew HO243.out)
      have n6_ := ak (Kd.R_drew HO247.out)
      have n7_ := ak (Kd.R_drew HO250.out)
      have n8_ := ak (Kd.R_drew HO254.out)
      have n9_ := ak (Kd.R_drew HO257.out)
      have n10_ := ak (Kd.R_drew HO261.out)
      have n11_ := ak (Kd.R_drew HO264.out)
      have n12_ := ak (blk_drew BK222.out)
      have n13_ := ak (blk_drew BK223.out)
      have n14_ := ak (blk_drew BK244.out)
      have n15_ := ak (blk_drew BK251.out)
      have n16_ := ak (blk_drew BK258.out)
      have n17_ := ak (blk_drew BK265.out)
      have n18_ := ak (below_drew1 HB.out)
      clear HO228
      clear HO231
      clear HO234
      clear HO237
      clear HO240
      clear HO243
      clear HO247
      clear HO250
      clear HO254
      clear HO257
      clear HO261
      clear HO264
      clear BK222
      clear BK223
      clear BK244
      clear BK251
      clear BK258
      clear BK265
      clear HB
      have HO228 := n0_
      have HO231 := n1_
      have HO234 := n2_
      have HO237 := n3_
      have HO240 := n4_
      have HO243 := n5_
      have HO247 := n6_
      have HO250 := n7_
      have HO254 := n8_
      have HO257 := n9_
      have HO261 := n10_
      have HO264 := n11_
      have BK222 := n12_
      have BK223 := n13_
      have BK244 := n14_
      have BK251 := n15_
      have BK258 := n16_
      have BK265 := n17_
      have HB := n18_
      clear n0_ n1_ n2_ n3_ n4_ n5_ n6_ n7_ n8_ n9_ n10_ n11_ n12_ n13_ n14_ n15_ n16_ n17_ n18_
      refine start_ (n := 5) (S := fun w' => w'.cell? ⟨gb251, 0, none⟩ = some (.slice Ao61 t245.length co61) ∧ w'.cell? ⟨gb251, 1, none⟩ = some (.slice Ao66 t248.length co66) ∧ w'.cell? ⟨gb222, 0, none⟩ = some (.slice A0_0 l0_0.length c0_0) ∧ w'.cell? ⟨gb222, 1, none⟩ = some (.slice A0_1 l0_1.length c0_1)) (ds := []) #[false, false, false, false, false] (by kernel_rfl) rfl rfl ⟨(blk_cell BK251.out 0).trans rfl, (blk_cell BK251.out 1).trans rfl, (blk_cell BK222.out 0).trans rfl, (blk_cell BK222.out 1).trans rfl⟩ (fun hHeld => ?_)
      generalize w90.drew = w91 at HO228 HO231 HO234 HO237 HO240 HO243 HO247 HO250 HO254 HO257 HO261 HO264 BK222 BK223 BK244 BK251 BK258 BK265 HB hHeld ⊢
      refine take_ (i := 0) (N := some 40) (v := ?_) (a' := ?_) #[true, false, false, false, false] rfl rfl (by kernel_rfl) (fun _ _ _ h => h) (Or.inl ⟨by rfl, ?_⟩) hHeld ?_ ?_
      rotate_left
      ·rintro w' ⟨s0, s1, s2, s3⟩
       go_simp
       with_reducible rfl
      rotate_left
      ·simp only [Act.put, List.setIfInBounds_toArray, List.set_cons_zero, List.set_cons_succ, i64_w, i32_w]
       rfl
      refine take_ (i := 1) (N := some 41) (v := ?_) (a' := ?_) #[true, true, false, false, false] rfl rfl (by kernel_rfl) (fun _ _ _ h => h) (Or.inl ⟨by rfl, ?_⟩) hHeld ?_ ?_
      rotate_left
      ·rintro w' ⟨s0, s1, s2, s3⟩
       go_simp
       with_reducible rfl
      rotate_left
      ·simp only [Act.put, List.setIfInBounds_toArray, List.set_cons_zero, List.set_cons_succ, i64_w, i32_w]
       rfl
      refine one_ (i := 2) (N := some 42) #[true, true, true, false, false] rfl rfl (by kernel_rfl) (by decide) (fun K hK => ?_)
      refine goes_ Try.func25 (by kernel_rfl) rfl #[.agg #[.slice A0_0 l0_0.length c0_0, .slice A0_1 l0_1.length c0_1]] (by rfl) rfl rfl (by (try simp only [List.map_toArray, List.map_cons, List.map_nil]); first | done | rfl | (simp only [List.length_drop, List.length_take]; rfl)) ?_
      with_reducible refine (laws_toReport.calls k _ _ l0_0 _ _ l0_1 t267 t270 _ ?side1 ?side2 ?side3 ?side4 A27.out).mono ?_
      (case side1 => repeat (first | exact (Kd.C_below HR0_0.out HB.out) | (with_reducible refine Kd.C_alloc ?_ _) | (with_reducible refine Kd.C_drewN ?_ _) | (with_reducible refine Kd.C_drew ?_)))
      (case side2 => exact HC0_0.out)
      (case side3 => repeat (first | exact (Kd.C_below HR0_1.out HB.out) | (with_reducible refine Kd.C_alloc ?_ _) | (with_reducible refine Kd.C_drewN ?_ _) | (with_reducible refine Kd.C_drew ?_)))
      (case side4 => exact HC0_1.out)
      rintro e w92 ⟨v268, v271, rfl, ho0, ho1, hb⟩
      refine ⟨_, rfl, ?_⟩
      have n0_ := ak (Kd.R_elder' (rTo HO228.out) (Kd.R_base ho0) hb)
      have n1_ := ak (Kd.R_elder' (rTo HO231.out) (Kd.R_base ho1) hb)
      have n2_ := ak (Kd.R_elder' (rTo HO234.out) (Kd.R_base ho0) hb)
      have n3_ := ak (Kd.R_elder' (rTo HO237.out) (Kd.R_base ho1) hb)
      have n4_ := ak (Kd.R_elder' (rTo HO240.out) (Kd.R_base ho0) hb)
      have n5_ := ak (Kd.R_elder' (rTo HO243.out) (Kd.R_base ho1) hb)
      have n6_ := ak (Kd.R_elder' (rTo HO247.out) (Kd.R_base ho0) hb)
      have n7_ := ak (Kd.R_elder' (rTo HO250.out) (Kd.R_base ho1) hb)
      have n8_ := ak (Kd.R_elder' (rTo HO254.out) (Kd.R_base ho0) hb)
      have n9_ := ak (Kd.R_elder' (rTo HO257.out) (Kd.R_base ho1) hb)
      have n10_ := ak (Kd.R_elder' (rTo HO261.out) (Kd.R_base ho0) hb)
      have n11_ := ak (Kd.R_elder' (rTo HO264.out) (Kd.R_base ho1) hb)
      have n12_ := ak (Kd.R_lower (Kd.R_new' (Kd.R_new' (Kd.R_new' (Kd.R_new' (Kd.R_new' (Kd.R_new' ho0 (Kd.R_lt (rTo HO228.out))) (Kd.R_lt (rTo HO234.out))) (Kd.R_lt (rTo HO240.out))) (Kd.R_lt (rTo HO247.out))) (Kd.R_lt (rTo HO254.out))) (Kd.R_lt (rTo HO261.out))) (below_size (by repeat (first | (with_reducible first | exact HB.out | apply below_alloc | apply pw_below_drewN | apply below_drew1 | refine below_set ?_ GE222.out | refine below_set ?_ GE223.out | refine below_set ?_ GE244.out | refine below_set ?_ GE251.out | refine below_set ?_ GE258.out | refine below_set ?_ GE265.out) | exact HB.out))))
      have n13_ := ak (Kd.R_lower (Kd.R_new' (Kd.R_new' (Kd.R_new' (Kd.R_new' (Kd.R_new' (Kd.R_new' ho1 (Kd.R_lt (rTo HO231.out))) (Kd.R_lt (rTo HO237.out))) (Kd.R_lt (rTo HO243.out))) (Kd.R_lt (rTo HO250.out))) (Kd.R_lt (rTo HO257.out))) (Kd.R_lt (rTo HO264.out))) (below_size (by repeat (first | (with_reducible first | exact HB.out | apply below_alloc | apply pw_below_drewN | apply below_drew1 | refine below_set ?_ GE222.out | refine below_set ?_ GE223.out | refine below_set ?_ GE244.out | refine below_set ?_ GE251.out | refine below_set ?_ GE258.out | refine below_set ?_ GE265.out) | exact HB.out))))
      have n14_ := ak (blk_below (g := gb222) (o := .cells #[.slice A0_0 l0_0.length c0_0, .slice A0_1 l0_1.length c0_1] 41 (0, 0)) (bTo BK222.out) hb)
      have n15_ := ak (blk_below (g := gb223) (o := .cells #[.slice A1_0 l1_0.length c1_0, .slice A1_1 l1_1.length c1_1] 41 (0, 0)) (bTo BK223.out) hb)
      have n16_ := ak (blk_below (g := gb244) (o := .cells #[.slice Ao53 t238.length co53, .slice Ao55 t241.length co55] 26 (0, 0)) (bTo BK244.out) hb)
      have n17_ := ak (blk_below (g := gb251) (o := .cells #[.slice Ao61 t245.length co61, .slice Ao66 t248.length co66] 26 (0, 0)) (bTo BK251.out) hb)
      have n18_ := ak (blk_below (g := gb258) (o := .cells #[.slice Ao71 t252.length co71, .slice Ao77 t255.length co77] 26 (0, 0)) (bTo BK258.out) hb)
      have n19_ := ak (blk_below (g := gb265) (o := .cells #[.slice Ao81 t259.length co81, .slice Ao88 t262.length co88] 26 (0, 0)) (bTo BK265.out) hb)
      have n20_ := ak (below_step (by repeat (first | (with_reducible first | exact HB.out | apply below_alloc | apply pw_below_drewN | apply below_drew1 | refine below_set ?_ GE222.out | refine below_set ?_ GE223.out | refine below_set ?_ GE244.out | refine below_set ?_ GE251.out | refine below_set ?_ GE258.out | refine below_set ?_ GE265.out) | exact HB.out)) hb)
      clear HO228
      clear HO231
      clear HO234
      clear HO237
      clear HO240
      clear HO243
      clear HO247
      clear HO250
      clear HO254
      clear HO257
      clear HO261
      clear HO264
      clear BK222
      clear BK223
      clear BK244
      clear BK251
      clear BK258
      clear BK265
      clear HB
      have HO228 := n0_
      have HO231 := n1_
      have HO234 := n2_
      have HO237 := n3_
      have HO240 := n4_
      have HO243 := n5_
      have HO247 := n6_
      have HO250 := n7_
      have HO254 := n8_
      have HO257 := n9_
      have HO261 := n10_
      have HO264 := n11_
      have HO269 := n12_
      have HO272 := n13_
      have BK222 := n14_
      have BK223 := n15_
      have BK244 := n16_
      have BK251 := n17_
      have BK258 := n18_
      have BK265 := n19_
      have HB := n20_
      clear n0_ n1_ n2_ n3_ n4_ n5_ n6_ n7_ n8_ n9_ n10_ n11_ n12_ n13_ n14_ n15_ n16_ n17_ n18_ n19_ n20_
      (try clear hb)
      (try clear hb2)
      (try clear hk)
      (try clear hi)
      (try clear ho0)
      (try clear ho1)
      obtain ⟨Ao93, co93, eo93⟩ := Kd.R_slice HO269.out
      (first | subst eo93 | (injection eo93 with f1_ f2_ f3_; have f4_ := f1_.symm; have f5_ := f3_.symm; clear f1_ f2_ f3_; subst f4_; subst f5_))
      obtain ⟨Ao94, co94, eo94⟩ := Kd.R_slice HO272.out
      (first | subst eo94 | (injection eo94 with f1_ f2_ f3_; have f4_ := f1_.symm; have f5_ := f3_.symm; clear f1_ f2_ f3_; subst f4_; subst f5_))
      refine hK.out _ _ ⟨(blk_cell BK251.out 0).trans rfl, (blk_cell BK251.out 1).trans rfl, (blk_cell BK222.out 0).trans rfl, (blk_cell BK222.out 1).trans rfl⟩ (fun hHeld => ?_)
      clear hK K
      refine norm_ (a' := ?_) ?_ ?_
      rotate_left
      ·show Act.put _ (some 42) _ = _
       simp only [Act.put, List.setIfInBounds_toArray, List.set_cons_zero, List.set_cons_succ, i64_w, i32_w]
       rfl
      refine one_ (i := 3) (N := some 43) #[true, true, true, true, false] rfl rfl (by kernel_rfl) (by decide) (fun K hK => ?_)
      refine goes_ Try.func26 (by kernel_rfl) rfl #[.agg #[.slice Ao61 t245.length co61, .slice Ao66 t248.length co66], .agg #[.slice Ao93 t267.length co93, .slice Ao94 t270.length co94]] (by rfl) rfl rfl (by (try simp only [List.map_toArray, List.map_cons, List.map_nil]); first | done | rfl | (simp only [List.length_drop, List.length_take]; rfl)) ?_
      with_reducible refine (laws_eqReport.calls k _ _ t245 _ _ t248 _ _ t267 _ _ t270 true _ ?side1 ?side2 ?side3 ?side4 ?side5 ?side6 ?side7 ?side8 A28.out).mono ?_
      (case side1 => repeat (first | exact (Kd.R_reads' HO247.out).2.2 | (with_reducible refine Kd.C_alloc ?_ _) | (with_reducible refine Kd.C_drewN ?_ _) | (with_reducible refine Kd.C_drew ?_)))
      (case side2 => exact (Kd.R_reads' HO247.out).2.1)
      (case side3 => repeat (first | exact (Kd.R_reads' HO250.out).2.2 | (with_reducible refine Kd.C_alloc ?_ _) | (with_reducible refine Kd.C_drewN ?_ _) | (with_reducible refine Kd.C_drew ?_)))
      (case side4 => exact (Kd.R_reads' HO250.out).2.1)
      (case side5 => repeat (first | exact (Kd.R_reads' HO269.out).2.2 | (with_reducible refine Kd.C_alloc ?_ _) | (with_reducible refine Kd.C_drewN ?_ _) | (with_reducible refine Kd.C_drew ?_)))
      (case side6 => exact (Kd.R_reads' HO269.out).2.1)
      (case side7 => repeat (first | exact (Kd.R_reads' HO272.out).2.2 | (with_reducible refine Kd.C_alloc ?_ _) | (with_reducible refine Kd.C_drewN ?_ _) | (with_reducible refine Kd.C_drew ?_)))
      (case side8 => exact (Kd.R_reads' HO272.out).2.1)
      rintro e w95 ⟨rfl, hb⟩
      refine ⟨_, rfl, ?_⟩
      have n0_ := ak (Kd.R_below (rTo HO228.out) hb)
      have n1_ := ak (Kd.R_below (rTo HO231.out) hb)
      have n2_ := ak (Kd.R_below (rTo HO234.out) hb)
      have n3_ := ak (Kd.R_below (rTo HO237.out) hb)
      have n4_ := ak (Kd.R_below (rTo HO240.out) hb)
      have n5_ := ak (Kd.R_below (rTo HO243.out) hb)
      have n6_ := ak (Kd.R_below (rTo HO247.out) hb)
      have n7_ := ak (Kd.R_below (rTo HO250.out) hb)
      have n8_ := ak (Kd.R_below (rTo HO254.out) hb)
      have n9_ := ak (Kd.R_below (rTo HO257.out) hb)
      have n10_ := ak (Kd.R_below (rTo HO261.out) hb)
      have n11_ := ak (Kd.R_below (rTo HO264.out) hb)
      have n12_ := ak (Kd.R_below (rTo HO269.out) hb)
      have n13_ := ak (Kd.R_below (rTo HO272.out) hb)
      have n14_ := ak (blk_below (g := gb222) (o := .cells #[.slice A0_0 l0_0.length c0_0, .slice A0_1 l0_1.length c0_1] 41 (0, 0)) (bTo BK222.out) hb)
      have n15_ := ak (blk_below (g := gb223) (o := .cells #[.slice A1_0 l1_0.length c1_0, .slice A1_1 l1_1.length c1_1] 41 (0, 0)) (bTo BK223.out) hb)
      have n16_ := ak (blk_below (g := gb244) (o := .cells #[.slice Ao53 t238.length co53, .slice Ao55 t241.length co55] 26 (0, 0)) (bTo BK244.out) hb)
      have n17_ := ak (blk_below (g := gb251) (o := .cells #[.slice Ao61 t245.length co61, .slice Ao66 t248.length co66] 26 (0, 0)) (bTo BK251.out) hb)
      have n18_ := ak (blk_below (g := gb258) (o := .cells #[.slice Ao71 t252.length co71, .slice Ao77 t255.length co77] 26 (0, 0)) (bTo BK258.out) hb)
      have n19_ := ak (blk_below (g := gb265) (o := .cells #[.slice Ao81 t259.length co81, .slice Ao88 t262.length co88] 26 (0, 0)) (bTo BK265.out) hb)
      have n20_ := ak (below_step (by repeat (first | (with_reducible first | exact HB.out | apply below_alloc | apply pw_below_drewN | apply below_drew1 | refine below_set ?_ GE222.out | refine below_set ?_ GE223.out | refine below_set ?_ GE244.out | refine below_set ?_ GE251.out | refine below_set ?_ GE258.out | refine below_set ?_ GE265.out) | exact HB.out)) hb)
      clear HO228
      clear HO231
      clear HO234
      clear HO237
      clear HO240
      clear HO243
      clear HO247
      clear HO250
      clear HO254
      clear HO257
      clear HO261
      clear HO264
      clear HO269
      clear HO272
      clear BK222
      clear BK223
      clear BK244
      clear BK251
      clear BK258
      clear BK265
      clear HB
      have HO228 := n0_
      have HO231 := n1_
      have HO234 := n2_
      have HO237 := n3_
      have HO240 := n4_
      have HO243 := n5_
      have HO247 := n6_
      have HO250 := n7_
      have HO254 := n8_
      have HO257 := n9_
      have HO261 := n10_
      have HO264 := n11_
      have HO269 := n12_
      have HO272 := n13_
      have BK222 := n14_
      have BK223 := n15_
      have BK244 := n16_
      have BK251 := n17_
      have BK258 := n18_
      have BK265 := n19_
      have HB := n20_
      clear n0_ n1_ n2_ n3_ n4_ n5_ n6_ n7_ n8_ n9_ n10_ n11_ n12_ n13_ n14_ n15_ n16_ n17_ n18_ n19_ n20_
      (try clear hb)
      (try clear hb2)
      (try clear hk)
      (try clear hi)
      refine hK.out _ _ ⟨(blk_cell BK251.out 0).trans rfl, (blk_cell BK251.out 1).trans rfl, (blk_cell BK222.out 0).trans rfl, (blk_cell BK222.out 1).trans rfl⟩ (fun hHeld => ?_)
      clear hK K
      refine norm_ (a' := ?_) ?_ ?_
      rotate_left
      ·show Act.put _ (some 43) _ = _
       simp only [Act.put, List.setIfInBounds_toArray, List.set_cons_zero, List.set_cons_succ, i64_w, i32_w]
       rfl
      refine pure_ (i := 4) (N := some 44) (v := ?_) (a' := ?_) #[true, true, true, true, true] rfl rfl (by kernel_rfl) (fun _ _ _ h => h) (Or.inl ⟨by rfl, ?_⟩) ?_ ?_
      rotate_left
      ·intro w'
       go_simp
       with_reducible rfl
      rotate_left
      ·simp only [Act.put, List.setIfInBounds_toArray, List.set_cons_zero, List.set_cons_succ, i64_w, i32_w]
       rfl
      refine done_ (by kernel_rfl) ?_
      try go_wp2
      have n0_ := ak (Kd.R_drew HO228.out)
      have n1_ := ak (Kd.R_drew HO231.out)
      have n2_ := ak (Kd.R_drew HO234.out)
      have n3_ := ak (Kd.R_drew HO237.out)
      have n4_ := ak (Kd.R_drew HO240.out)
      have n5_ := ak (Kd.R_drew HO243.out)
      have n6_ := ak (Kd.R_drew HO247.out)
      have n7_ := ak (Kd.R_drew HO250.out)
      have n8_ := ak (Kd.R_drew HO254.out)
      have n9_ := ak (Kd.R_drew HO257.out)
      have n10_ := ak (Kd.R_drew HO261.out)
      have n11_ := ak (Kd.R_drew HO264.out)
      have n12_ := ak (Kd.R_drew HO269.out)
      have n13_ := ak (Kd.R_drew HO272.out)
      have n14_ := ak (blk_drew BK222.out)
      have n15_ := ak (blk_drew BK223.out)
      have n16_ := ak (blk_drew BK244.out)
      have n17_ := ak (blk_drew BK251.out)
      have n18_ := ak (blk_drew BK258.out)
      have n19_ := ak (blk_drew BK265.out)
      have n20_ := ak (below_drew1 HB.out)
      clear HO228
      clear HO231
      clear HO234
      clear HO237
      clear HO240
      clear HO243
      clear HO247
      clear HO250
      clear HO254
      clear HO257
      clear HO261
      clear HO264
      clear HO269
      clear HO272
      clear BK222
      clear BK223
      clear BK244
      clear BK251
      clear BK258
      clear BK265
      clear HB
      have HO228 := n0_
      have HO231 := n1_
      have HO234 := n2_
      have HO237 := n3_
      have HO240 := n4_
      have HO243 := n5_
      have HO247 := n6_
      have HO250 := n7_
      have HO254 := n8_
      have HO257 := n9_
      have HO261 := n10_
      have HO264 := n11_
      have HO269 := n12_
      have HO272 := n13_
      have BK222 := n14_
      have BK223 := n15_
      have BK244 := n16_
      have BK251 := n17_
      have BK258 := n18_
      have BK265 := n19_
      have HB := n20_
      clear n0_ n1_ n2_ n3_ n4_ n5_ n6_ n7_ n8_ n9_ n10_ n11_ n12_ n13_ n14_ n15_ n16_ n17_ n18_ n19_ n20_
      refine start_ (n := 5) (S := fun w' => w'.cell? ⟨gb258, 0, none⟩ = some (.slice Ao71 t252.length co71) ∧ w'.cell? ⟨gb258, 1, none⟩ = some (.slice Ao77 t255.length co77) ∧ w'.cell? ⟨gb223, 0, none⟩ = some (.slice A1_0 l1_0.length c1_0) ∧ w'.cell? ⟨gb223, 1, none⟩ = some (.slice A1_1 l1_1.length c1_1)) (ds := []) #[false, false, false, false, false] (by kernel_rfl) rfl rfl ⟨(blk_cell BK258.out 0).trans rfl, (blk_cell BK258.out 1).trans rfl, (blk_cell BK223.out 0).trans rfl, (blk_cell BK223.out 1).trans rfl⟩ (fun hHeld => ?_)
      generalize w95.drew = w96 at HO228 HO231 HO234 HO237 HO240 HO243 HO247 HO250 HO254 HO257 HO261 HO264 HO269 HO272 BK222 BK223 BK244 BK251 BK258 BK265 HB hHeld ⊢
      refine take_ (i := 0) (N := some 45) (v := ?_) (a' := ?_) #[true, false, false, false, false] rfl rfl (by kernel_rfl) (fun _ _ _ h => h) (Or.inl ⟨by rfl, ?_⟩) hHeld ?_ ?_
      rotate_left
      ·rintro w' ⟨s0, s1, s2, s3⟩
       go_simp
       with_reducible rfl
      rotate_left
      ·simp only [Act.put, List.setIfInBounds_toArray, List.set_cons_zero, List.set_cons_succ, i64_w, i32_w]
       rfl
      refine take_ (i := 1) (N := some 46) (v := ?_) (a' := ?_) #[true, true, false, false, false] rfl rfl (by kernel_rfl) (fun _ _ _ h => h) (Or.inl ⟨by rfl, ?_⟩) hHeld ?_ ?_
      rotate_left
      ·rintro w' ⟨s0, s1, s2, s3⟩
       go_simp
       with_reducible rfl
      rotate_left
      ·simp only [Act.put, List.setIfInBounds_toArray, List.set_cons_zero, List.set_cons_succ, i64_w, i32_w]
       rfl
      refine one_ (i := 2) (N := some 47) #[true, true, true, false, false] rfl rfl (by kernel_rfl) (by decide) (fun K hK => ?_)
      refine goes_ Try.func25 (by kernel_rfl) rfl #[.agg #[.slice A1_0 l1_0.length c1_0, .slice A1_1 l1_1.length c1_1]] (by rfl) rfl rfl (by (try simp only [List.map_toArray, List.map_cons, List.map_nil]); first | done | rfl | (simp only [List.length_drop, List.length_take]; rfl)) ?_
      with_reducible refine (laws_toReport.calls k _ _ l1_0 _ _ l1_1 t274 t277 _ ?side1 ?side2 ?side3 ?side4 A30.out).mono ?_
      (case side1 => repeat (first | exact (Kd.C_below HR1_0.out HB.out) | (with_reducible refine Kd.C_alloc ?_ _) | (with_reducible refine Kd.C_drewN ?_ _) | (with_reducible refine Kd.C_drew ?_)))
      (case side2 => exact HC1_0.out)
      (case side3 => repeat (first | exact (Kd.C_below HR1_1.out HB.out) | (with_reducible refine Kd.C_alloc ?_ _) | (with_reducible refine Kd.C_drewN ?_ _) | (with_reducible refine Kd.C_drew ?_)))
      (case side4 => exact HC1_1.out)
      rintro e w97 ⟨v275, v278, rfl, ho0, ho1, hb⟩
      refine ⟨_, rfl, ?_⟩
      have n0_ := ak (Kd.R_elder' (rTo HO228.out) (Kd.R_base ho0) hb)
      have n1_ := ak (Kd.R_elder' (rTo HO231.out) (Kd.R_base ho1) hb)
      have n2_ := ak (Kd.R_elder' (rTo HO234.out) (Kd.R_base ho0) hb)
      have n3_ := ak (Kd.R_elder' (rTo HO237.out) (Kd.R_base ho1) hb)
      have n4_ := ak (Kd.R_elder' (rTo HO240.out) (Kd.R_base ho0) hb)
      have n5_ := ak (Kd.R_elder' (rTo HO243.out) (Kd.R_base ho1) hb)
      have n6_ := ak (Kd.R_elder' (rTo HO247.out) (Kd.R_base ho0) hb)
      have n7_ := ak (Kd.R_elder' (rTo HO250.out) (Kd.R_base ho1) hb)
      have n8_ := ak (Kd.R_elder' (rTo HO254.out) (Kd.R_base ho0) hb)
      have n9_ := ak (Kd.R_elder' (rTo HO257.out) (Kd.R_base ho1) hb)
      have n10_ := ak (Kd.R_elder' (rTo HO261.out) (Kd.R_base ho0) hb)
      have n11_ := ak (Kd.R_elder' (rTo HO264.out) (Kd.R_base ho1) hb)
      have n12_ := ak (Kd.R_elder' (rTo HO269.out) (Kd.R_base ho0) hb)
      have n13_ := ak (Kd.R_elder' (rTo HO272.out) (Kd.R_base ho1) hb)
      have n14_ := ak (Kd.R_lower (Kd.R_new' (Kd.R_new' (Kd.R_new' (Kd.R_new' (Kd.R_new' (Kd.R_new' (Kd.R_new' ho0 (Kd.R_lt (rTo HO228.out))) (Kd.R_lt (rTo HO234.out))) (Kd.R_lt (rTo HO240.out))) (Kd.R_lt (rTo HO247.out))) (Kd.R_lt (rTo HO254.out))) (Kd.R_lt (rTo HO261.out))) (Kd.R_lt (rTo HO269.out))) (below_size (by repeat (first | (with_reducible first | exact HB.out | apply below_alloc | apply pw_below_drewN | apply below_drew1 | refine below_set ?_ GE222.out | refine below_set ?_ GE223.out | refine below_set ?_ GE244.out | refine below_set ?_ GE251.out | refine below_set ?_ GE258.out | refine below_set ?_ GE265.out) | exact HB.out))))
      have n15_ := ak (Kd.R_lower (Kd.R_new' (Kd.R_new' (Kd.R_new' (Kd.R_new' (Kd.R_new' (Kd.R_new' (Kd.R_new' ho1 (Kd.R_lt (rTo HO231.out))) (Kd.R_lt (rTo HO237.out))) (Kd.R_lt (rTo HO243.out))) (Kd.R_lt (rTo HO250.out))) (Kd.R_lt (rTo HO257.out))) (Kd.R_lt (rTo HO264.out))) (Kd.R_lt (rTo HO272.out))) (below_size (by repeat (first | (with_reducible first | exact HB.out | apply below_alloc | apply pw_below_drewN | apply below_drew1 | refine below_set ?_ GE222.out | refine below_set ?_ GE223.out | refine below_set ?_ GE244.out | refine below_set ?_ GE251.out | refine below_set ?_ GE258.out | refine below_set ?_ GE265.out) | exact HB.out))))
      have n16_ := ak (blk_below (g := gb222) (o := .cells #[.slice A0_0 l0_0.length c0_0, .slice A0_1 l0_1.length c0_1] 41 (0, 0)) (bTo BK222.out) hb)
      have n17_ := ak (blk_below (g := gb223) (o := .cells #[.slice A1_0 l1_0.length c1_0, .slice A1_1 l1_1.length c1_1] 41 (0, 0)) (bTo BK223.out) hb)
      have n18_ := ak (blk_below (g := gb244) (o := .cells #[.slice Ao53 t238.length co53, .slice Ao55 t241.length co55] 26 (0, 0)) (bTo BK244.out) hb)
      have n19_ := ak (blk_below (g := gb251) (o := .cells #[.slice Ao61 t245.length co61, .slice Ao66 t248.length co66] 26 (0, 0)) (bTo BK251.out) hb)
      have n20_ := ak (blk_below (g := gb258) (o := .cells #[.slice Ao71 t252.length co71, .slice Ao77 t255.length co77] 26 (0, 0)) (bTo BK258.out) hb)
      have n21_ := ak (blk_below (g := gb265) (o := .cells #[.slice Ao81 t259.length co81, .slice Ao88 t262.length co88] 26 (0, 0)) (bTo BK265.out) hb)
      have n22_ := ak (below_step (by repeat (first | (with_reducible first | exact HB.out | apply below_alloc | apply pw_below_drewN | apply below_drew1 | refine below_set ?_ GE222.out | refine below_set ?_ GE223.out | refine below_set ?_ GE244.out | refine below_set ?_ GE251.out | refine below_set ?_ GE258.out | refine below_set ?_ GE265.out) | exact HB.out)) hb)
      clear HO228
      clear HO231
      clear HO234
      clear HO237
      clear HO240
      clear HO243
      clear HO247
      clear HO250
      clear HO254
      clear HO257
      clear HO261
      clear HO264
      clear HO269
      clear HO272
      clear BK222
      clear BK223
      clear BK244
      clear BK251
      clear BK258
      clear BK265
      clear HB
      have HO228 := n0_
      have HO231 := n1_
      have HO234 := n2_
      have HO237 := n3_
      have HO240 := n4_
      have HO243 := n5_
      have HO247 := n6_
      have HO250 := n7_
      have HO254 := n8_
      have HO257 := n9_
      have HO261 := n10_
      have HO264 := n11_
      have HO269 := n12_
      have HO272 := n13_
      have HO276 := n14_
      have HO279 := n15_
      have BK222 := n16_
      have BK223 := n17_
      have BK244 := n18_
      have BK251 := n19_
      have BK258 := n20_
      have BK265 := n21_
      have HB := n22_
      clear n0_ n1_ n2_ n3_ n4_ n5_ n6_ n7_ n8_ n9_ n10_ n11_ n12_ n13_ n14_ n15_ n16_ n17_ n18_ n19_ n20_ n21_ n22_
      (try clear hb)
      (try clear hb2)
      (try clear hk)
      (try clear hi)
      (try clear ho0)
      (try clear ho1)
      obtain ⟨Ao98, co98, eo98⟩ := Kd.R_slice HO276.out
      (first | subst eo98 | (injection eo98 with f1_ f2_ f3_; have f4_ := f1_.symm; have f5_ := f3_.symm; clear f1_ f2_ f3_; subst f4_; subst f5_))
      obtain ⟨Ao99, co99, eo99⟩ := Kd.R_slice HO279.out
      (first | subst eo99 | (injection eo99 with f1_ f2_ f3_; have f4_ := f1_.symm; have f5_ := f3_.symm; clear f1_ f2_ f3_; subst f4_; subst f5_))
      refine hK.out _ _ ⟨(blk_cell BK258.out 0).trans rfl, (blk_cell BK258.out 1).trans rfl, (blk_cell BK223.out 0).trans rfl, (blk_cell BK223.out 1).trans rfl⟩ (fun hHeld => ?_)
      clear hK K
      refine norm_ (a' := ?_) ?_ ?_
      rotate_left
      ·show Act.put _ (some 47) _ = _
       simp only [Act.put, List.setIfInBounds_toArray, List.set_cons_zero, List.set_cons_succ, i64_w, i32_w]
       rfl
      refine one_ (i := 3) (N := some 48) #[true, true, true, true, false] rfl rfl (by kernel_rfl) (by decide) (fun K hK => ?_)
      refine goes_ Try.func26 (by kernel_rfl) rfl #[.agg #[.slice Ao71 t252.length co71, .slice Ao77 t255.length co77], .agg #[.slice Ao98 t274.length co98, .slice Ao99 t277.length co99]] (by rfl) rfl rfl (by (try simp only [List.map_toArray, List.map_cons, List.map_nil]); first | done | rfl | (simp only [List.length_drop, List.length_take]; rfl)) ?_
      with_reducible refine (laws_eqReport.calls k _ _ t252 _ _ t255 _ _ t274 _ _ t277 true _ ?side1 ?side2 ?side3 ?side4 ?side5 ?side6 ?side7 ?side8 A31.out).mono ?_
      (case side1 => repeat (first | exact (Kd.R_reads' HO254.out).2.2 | (with_reducible refine Kd.C_alloc ?_ _) | (with_reducible refine Kd.C_drewN ?_ _) | (with_reducible refine Kd.C_drew ?_)))
      (case side2 => exact (Kd.R_reads' HO254.out).2.1)
      (case side3 => repeat (first | exact (Kd.R_reads' HO257.out).2.2 | (with_reducible refine Kd.C_alloc ?_ _) | (with_reducible refine Kd.C_drewN ?_ _) | (with_reducible refine Kd.C_drew ?_)))
      (case side4 => exact (Kd.R_reads' HO257.out).2.1)
      (case side5 => repeat (first | exact (Kd.R_reads' HO276.out).2.2 | (with_reducible refine Kd.C_alloc ?_ _) | (with_reducible refine Kd.C_drewN ?_ _) | (with_reducible refine Kd.C_drew ?_)))
      (case side6 => exact (Kd.R_reads' HO276.out).2.1)
      (case side7 => repeat (first | exact (Kd.R_reads' HO279.out).2.2 | (with_reducible refine Kd.C_alloc ?_ _) | (with_reducible refine Kd.C_drewN ?_ _) | (with_reducible refine Kd.C_drew ?_)))
      (case side8 => exact (Kd.R_reads' HO279.out).2.1)
      rintro e w100 ⟨rfl, hb⟩
      refine ⟨_, rfl, ?_⟩
      have n0_ := ak (Kd.R_below (rTo HO228.out) hb)
      have n1_ := ak (Kd.R_below (rTo HO231.out) hb)
      have n2_ := ak (Kd.R_below (rTo HO234.out) hb)
      have n3_ := ak (Kd.R_below (rTo HO237.out) hb)
      have n4_ := ak (Kd.R_below (rTo HO240.out) hb)
      have n5_ := ak (Kd.R_below (rTo HO243.out) hb)
      have n6_ := ak (Kd.R_below (rTo HO247.out) hb)
      have n7_ := ak (Kd.R_below (rTo HO250.out) hb)
      have n8_ := ak (Kd.R_below (rTo HO254.out) hb)
      have n9_ := ak (Kd.R_below (rTo HO257.out) hb)
      have n10_ := ak (Kd.R_below (rTo HO261.out) hb)
      have n11_ := ak (Kd.R_below (rTo HO264.out) hb)
      have n12_ := ak (Kd.R_below (rTo HO269.out) hb)
      have n13_ := ak (Kd.R_below (rTo HO272.out) hb)
      have n14_ := ak (Kd.R_below (rTo HO276.out) hb)
      have n15_ := ak (Kd.R_below (rTo HO279.out) hb)
      have n16_ := ak (blk_below (g := gb222) (o := .cells #[.slice A0_0 l0_0.length c0_0, .slice A0_1 l0_1.length c0_1] 41 (0, 0)) (bTo BK222.out) hb)
      have n17_ := ak (blk_below (g := gb223) (o := .cells #[.slice A1_0 l1_0.length c1_0, .slice A1_1 l1_1.length c1_1] 41 (0, 0)) (bTo BK223.out) hb)
      have n18_ := ak (blk_below (g := gb244) (o := .cells #[.slice Ao53 t238.length co53, .slice Ao55 t241.length co55] 26 (0, 0)) (bTo BK244.out) hb)
      have n19_ := ak (blk_below (g := gb251) (o := .cells #[.slice Ao61 t245.length co61, .slice Ao66 t248.length co66] 26 (0, 0)) (bTo BK251.out) hb)
      have n20_ := ak (blk_below (g := gb258) (o := .cells #[.slice Ao71 t252.length co71, .slice Ao77 t255.length co77] 26 (0, 0)) (bTo BK258.out) hb)
      have n21_ := ak (blk_below (g := gb265) (o := .cells #[.slice Ao81 t259.length co81, .slice Ao88 t262.length co88] 26 (0, 0)) (bTo BK265.out) hb)
      have n22_ := ak (below_step (by repeat (first | (with_reducible first | exact HB.out | apply below_alloc | apply pw_below_drewN | apply below_drew1 | refine below_set ?_ GE222.out | refine below_set ?_ GE223.out | refine below_set ?_ GE244.out | refine below_set ?_ GE251.out | refine below_set ?_ GE258.out | refine below_set ?_ GE265.out) | exact HB.out)) hb)
      clear HO228
      clear HO231
      clear HO234
      clear HO237
      clear HO240
      clear HO243
      clear HO247
      clear HO250
      clear HO254
      clear HO257
      clear HO261
      clear HO264
      clear HO269
      clear HO272
      clear HO276
      clear HO279
      clear BK222
      clear BK223
      clear BK244
      clear BK251
      clear BK258
      clear BK265
      clear HB
      have HO228 := n0_
      have HO231 := n1_
      have HO234 := n2_
      have HO237 := n3_
      have HO240 := n4_
      have HO243 := n5_
      have HO247 := n6_
      have HO250 := n7_
      have HO254 := n8_
      have HO257 := n9_
      have HO261 := n10_
      have HO264 := n11_
      have HO269 := n12_
      have HO272 := n13_
      have HO276 := n14_
      have HO279 := n15_
      have BK222 := n16_
      have BK223 := n17_
      have BK244 := n18_
      have BK251 := n19_
      have BK258 := n20_
      have BK265 := n21_
      have HB := n22_
      clear n0_ n1_ n2_ n3_ n4_ n5_ n6_ n7_ n8_ n9_ n10_ n11_ n12_ n13_ n14_ n15_ n16_ n17_ n18_ n19_ n20_ n21_ n22_
      (try clear hb)
      (try clear hb2)
      (try clear hk)
      (try clear hi)
      refine hK.out _ _ ⟨(blk_cell BK258.out 0).trans rfl, (blk_cell BK258.out 1).trans rfl, (blk_cell BK223.out 0).trans rfl, (blk_cell BK223.out 1).trans rfl⟩ (fun hHeld => ?_)
      clear hK K
      refine norm_ (a' := ?_) ?_ ?_
      rotate_left
      ·show Act.put _ (some 48) _ = _
       simp only [Act.put, List.setIfInBounds_toArray, List.set_cons_zero, List.set_cons_succ, i64_w, i32_w]
       rfl
      refine pure_ (i := 4) (N := some 49) (v := ?_) (a' := ?_) #[true, true, true, true, true] rfl rfl (by kernel_rfl) (fun _ _ _ h => h) (Or.inl ⟨by rfl, ?_⟩) ?_ ?_
      rotate_left
      ·intro w'
       go_simp
       with_reducible rfl
      rotate_left
      ·simp only [Act.put, List.setIfInBounds_toArray, List.set_cons_zero, List.set_cons_succ, i64_w, i32_w]
       rfl
      refine done_ (by kernel_rfl) ?_
      have hcz101_0 : w100.cell? ⟨gb251, 0, none⟩ = some (.slice Ao61 t245.length co61) := (blk_cell BK251.out 0).trans rfl
      have hcz101_1 : w100.cell? ⟨gb251, 1, none⟩ = some (.slice Ao66 t248.length co66) := (blk_cell BK251.out 1).trans rfl
      have hfz101_0 := blk_frozen BK251.out 0
      have hfz101_1 := blk_frozen BK251.out 1
      go_upto_region 21 with (first | ((with_reducible refine gate_callee (f := 31) rfl ?_); refine goesL_ (some 52) rfl rfl Try.func31 (by kernel_rfl) rfl #[.agg #[.slice Ao61 t245.length co61, .slice Ao66 t248.length co66], .int .i64 1] rfl (by (try simp only [List.map_toArray, List.map_cons, List.map_nil]); first | done | rfl | (simp only [List.length_drop, List.length_take]; rfl)) ?_; (with_reducible refine (laws_markReport.calls k (fun k_ => some k_ = (.slice Ao61 t245.length co61 : Value).ownBlock) (.slice Ao61 t245.length co61) t245 (fun k_ => some k_ = (.slice Ao66 t248.length co66 : Value).ownBlock) (.slice Ao66 t248.length co66) t248 1 t281 t282 t283 w _ ?side1 ?side2 ?side3 A33.out).mono ?_); (case side1 => repeat (first | (with_reducible first | exact HB.out | apply below_alloc | apply pw_below_drewN | apply below_drew1 | refine below_set ?_ GE222.out | refine below_set ?_ GE223.out | refine below_set ?_ GE244.out | refine below_set ?_ GE251.out | refine below_set ?_ GE258.out | refine below_set ?_ GE265.out) | exact HB.out)); (case side2 => exact Kd.R_tight rfl HO247.out); (case side3 => exact Kd.R_tight rfl HO250.out); rintro e w102 ⟨rfl, hy0, hy1, hb, hkp⟩; refine ⟨_, rfl, ?_⟩; have n0_ := ak (blk_kept (bTo BK222.out) hkp (fun hs_ => Or.elim hs_ (fun e_ => (fun e_ => (Kd.R_ne HO247.out BK222.out (by decide)) e_) e_) (fun e_ => (fun e_ => (Kd.R_ne HO250.out BK222.out (by decide)) e_) e_))); have n1_ := ak (blk_kept (bTo BK223.out) hkp (fun hs_ => Or.elim hs_ (fun e_ => (fun e_ => (Kd.R_ne HO247.out BK223.out (by decide)) e_) e_) (fun e_ => (fun e_ => (Kd.R_ne HO250.out BK223.out (by decide)) e_) e_))); have n2_ := ak (Kd.R_mono (ok' := fun k_ => some k_ ≠ (v233 : Value).ownBlock ∧ some k_ ≠ (.slice Ao53 t238.length co53 : Value).ownBlock ∧ some k_ ≠ (.slice Ao61 t245.length co61 : Value).ownBlock ∧ some k_ ≠ (.slice Ao71 t252.length co71 : Value).ownBlock ∧ some k_ ≠ (.slice Ao81 t259.length co81 : Value).ownBlock ∧ some k_ ≠ (.slice Ao93 t267.length co93 : Value).ownBlock ∧ some k_ ≠ (.slice Ao98 t274.length co98 : Value).ownBlock) (Kd.R_keptB ((Kd.R_apart' HO228.out (Kd.R_typed HO250.out) (by decide))) hkp (fun k_ hk_ hs_ => Or.elim hs_ (fun e_ => refute hk_ e_) (fun e_ => (hk_.2) e_))) (fun k_ hk_ => ⟨(gives hk_), (gives hk_), (gives hk_), (gives hk_), (gives hk_), (gives hk_), (gives hk_)⟩)); have n3_ := ak (Kd.R_mono (ok' := fun k_ => some k_ ≠ (v236 : Value).ownBlock ∧ some k_ ≠ (.slice Ao55 t241.length co55 : Value).ownBlock ∧ some k_ ≠ (.slice Ao66 t248.length co66 : Value).ownBlock ∧ some k_ ≠ (.slice Ao77 t255.length co77 : Value).ownBlock ∧ some k_ ≠ (.slice Ao88 t262.length co88 : Value).ownBlock ∧ some k_ ≠ (.slice Ao94 t270.length co94 : Value).ownBlock ∧ some k_ ≠ (.slice Ao99 t277.length co99 : Value).ownBlock) (Kd.R_keptB ((Kd.R_apart' HO231.out (Kd.R_typed HO247.out) (by decide))) hkp (fun k_ hk_ hs_ => Or.elim hs_ (fun e_ => (hk_.2) e_) (fun e_ => refute hk_ e_))) (fun k_ hk_ => ⟨(gives hk_), (gives hk_), (gives hk_), (gives hk_), (gives hk_), (gives hk_), (gives hk_)⟩)); have n4_ := ak (Kd.R_mono (ok' := fun k_ => some k_ ≠ (v227 : Value).ownBlock ∧ some k_ ≠ (.slice Ao53 t238.length co53 : Value).ownBlock ∧ some k_ ≠ (.slice Ao61 t245.length co61 : Value).ownBlock ∧ some k_ ≠ (.slice Ao71 t252.length co71 : Value).ownBlock ∧ some k_ ≠ (.slice Ao81 t259.length co81 : Value).ownBlock ∧ some k_ ≠ (.slice Ao93 t267.length co93 : Value).ownBlock ∧ some k_ ≠ (.slice Ao98 t274.length co98 : Value).ownBlock) (Kd.R_keptB ((Kd.R_apart' HO234.out (Kd.R_typed HO250.out) (by decide))) hkp (fun k_ hk_ hs_ => Or.elim hs_ (fun e_ => refute hk_ e_) (fun e_ => (hk_.2) e_))) (fun k_ hk_ => ⟨(gives hk_), (gives hk_), (gives hk_), (gives hk_), (gives hk_), (gives hk_), (gives hk_)⟩)); have n5_ := ak (Kd.R_mono (ok' := fun k_ => some k_ ≠ (v230 : Value).ownBlock ∧ some k_ ≠ (.slice Ao55 t241.length co55 : Value).ownBlock ∧ some k_ ≠ (.slice Ao66 t248.length co66 : Value).ownBlock ∧ some k_ ≠ (.slice Ao77 t255.length co77 : Value).ownBlock ∧ some k_ ≠ (.slice Ao88 t262.length co88 : Value).ownBlock ∧ some k_ ≠ (.slice Ao94 t270.length co94 : Value).ownBlock ∧ some k_ ≠ (.slice Ao99 t277.length co99 : Value).ownBlock) (Kd.R_keptB ((Kd.R_apart' HO237.out (Kd.R_typed HO247.out) (by decide))) hkp (fun k_ hk_ hs_ => Or.elim hs_ (fun e_ => (hk_.2) e_) (fun e_ => refute hk_ e_))) (fun k_ hk_ => ⟨(gives hk_), (gives hk_), (gives hk_), (gives hk_), (gives hk_), (gives hk_), (gives hk_)⟩)); have n6_ := ak (Kd.R_mono (ok' := fun k_ => some k_ ≠ (v227 : Value).ownBlock ∧ some k_ ≠ (v233 : Value).ownBlock ∧ some k_ ≠ (.slice Ao61 t245.length co61 : Value).ownBlock ∧ some k_ ≠ (.slice Ao71 t252.length co71 : Value).ownBlock ∧ some k_ ≠ (.slice Ao81 t259.length co81 : Value).ownBlock ∧ some k_ ≠ (.slice Ao93 t267.length co93 : Value).ownBlock ∧ some k_ ≠ (.slice Ao98 t274.length co98 : Value).ownBlock) (Kd.R_keptB ((Kd.R_apart' HO240.out (Kd.R_typed HO250.out) (by decide))) hkp (fun k_ hk_ hs_ => Or.elim hs_ (fun e_ => refute hk_ e_) (fun e_ => (hk_.2) e_))) (fun k_ hk_ => ⟨(gives hk_), (gives hk_), (gives hk_), (gives hk_), (gives hk_), (gives hk_), (gives hk_)⟩)); have n7_ := ak (Kd.R_mono (ok' := fun k_ => some k_ ≠ (v230 : Value).ownBlock ∧ some k_ ≠ (v236 : Value).ownBlock ∧ some k_ ≠ (.slice Ao66 t248.length co66 : Value).ownBlock ∧ some k_ ≠ (.slice Ao77 t255.length co77 : Value).ownBlock ∧ some k_ ≠ (.slice Ao88 t262.length co88 : Value).ownBlock ∧ some k_ ≠ (.slice Ao94 t270.length co94 : Value).ownBlock ∧ some k_ ≠ (.slice Ao99 t277.length co99 : Value).ownBlock) (Kd.R_keptB ((Kd.R_apart' HO243.out (Kd.R_typed HO247.out) (by decide))) hkp (fun k_ hk_ hs_ => Or.elim hs_ (fun e_ => (hk_.2) e_) (fun e_ => refute hk_ e_))) (fun k_ hk_ => ⟨(gives hk_), (gives hk_), (gives hk_), (gives hk_), (gives hk_), (gives hk_), (gives hk_)⟩)); have n8_ := ak (blk_kept (bTo BK244.out) hkp (fun hs_ => Or.elim hs_ (fun e_ => (fun e_ => (Kd.R_ne HO247.out BK244.out (by decide)) e_) e_) (fun e_ => (fun e_ => (Kd.R_ne HO250.out BK244.out (by decide)) e_) e_))); have n9_ := ak (Kd.R_reok rfl hy0 (fun k_ e_ => HO247.out.1 k_ e_)); have n10_ := ak (Kd.R_reok rfl hy1 (fun k_ e_ => HO250.out.1 k_ e_)); have n11_ := ak (blk_kept (bTo BK251.out) hkp (fun hs_ => Or.elim hs_ (fun e_ => (fun e_ => (Kd.R_ne HO247.out BK251.out (by decide)) e_) e_) (fun e_ => (fun e_ => (Kd.R_ne HO250.out BK251.out (by decide)) e_) e_))); have n12_ := ak (Kd.R_mono (ok' := fun k_ => some k_ ≠ (v227 : Value).ownBlock ∧ some k_ ≠ (v233 : Value).ownBlock ∧ some k_ ≠ (.slice Ao53 t238.length co53 : Value).ownBlock ∧ some k_ ≠ (.slice Ao61 t245.length co61 : Value).ownBlock ∧ some k_ ≠ (.slice Ao81 t259.length co81 : Value).ownBlock ∧ some k_ ≠ (.slice Ao93 t267.length co93 : Value).ownBlock ∧ some k_ ≠ (.slice Ao98 t274.length co98 : Value).ownBlock) (Kd.R_keptB ((Kd.R_apart' HO254.out (Kd.R_typed HO250.out) (by decide))) hkp (fun k_ hk_ hs_ => Or.elim hs_ (fun e_ => refute hk_ e_) (fun e_ => (hk_.2) e_))) (fun k_ hk_ => ⟨(gives hk_), (gives hk_), (gives hk_), (gives hk_), (gives hk_), (gives hk_), (gives hk_)⟩)); have n13_ := ak (Kd.R_mono (ok' := fun k_ => some k_ ≠ (v230 : Value).ownBlock ∧ some k_ ≠ (v236 : Value).ownBlock ∧ some k_ ≠ (.slice Ao55 t241.length co55 : Value).ownBlock ∧ some k_ ≠ (.slice Ao66 t248.length co66 : Value).ownBlock ∧ some k_ ≠ (.slice Ao88 t262.length co88 : Value).ownBlock ∧ some k_ ≠ (.slice Ao94 t270.length co94 : Value).ownBlock ∧ some k_ ≠ (.slice Ao99 t277.length co99 : Value).ownBlock) (Kd.R_keptB ((Kd.R_apart' HO257.out (Kd.R_typed HO247.out) (by decide))) hkp (fun k_ hk_ hs_ => Or.elim hs_ (fun e_ => (hk_.2) e_) (fun e_ => refute hk_ e_))) (fun k_ hk_ => ⟨(gives hk_), (gives hk_), (gives hk_), (gives hk_), (gives hk_), (gives hk_), (gives hk_)⟩)); have n14_ := ak (blk_kept (bTo BK258.out) hkp (fun hs_ => Or.elim hs_ (fun e_ => (fun e_ => (Kd.R_ne HO247.out BK258.out (by decide)) e_) e_) (fun e_ => (fun e_ => (Kd.R_ne HO250.out BK258.out (by decide)) e_) e_))); have n15_ := ak (Kd.R_mono (ok' := fun k_ => some k_ ≠ (v227 : Value).ownBlock ∧ some k_ ≠ (v233 : Value).ownBlock ∧ some k_ ≠ (.slice Ao53 t238.length co53 : Value).ownBlock ∧ some k_ ≠ (.slice Ao61 t245.length co61 : Value).ownBlock ∧ some k_ ≠ (.slice Ao71 t252.length co71 : Value).ownBlock ∧ some k_ ≠ (.slice Ao93 t267.length co93 : Value).ownBlock ∧ some k_ ≠ (.slice Ao98 t274.length co98 : Value).ownBlock) (Kd.R_keptB ((Kd.R_apart' HO261.out (Kd.R_typed HO250.out) (by decide))) hkp (fun k_ hk_ hs_ => Or.elim hs_ (fun e_ => refute hk_ e_) (fun e_ => (hk_.2) e_))) (fun k_ hk_ => ⟨(gives hk_), (gives hk_), (gives hk_), (gives hk_), (gives hk_), (gives hk_), (gives hk_)⟩)); have n16_ := ak (Kd.R_mono (ok' := fun k_ => some k_ ≠ (v230 : Value).ownBlock ∧ some k_ ≠ (v236 : Value).ownBlock ∧ some k_ ≠ (.slice Ao55 t241.length co55 : Value).ownBlock ∧ some k_ ≠ (.slice Ao66 t248.length co66 : Value).ownBlock ∧ some k_ ≠ (.slice Ao77 t255.length co77 : Value).ownBlock ∧ some k_ ≠ (.slice Ao94 t270.length co94 : Value).ownBlock ∧ some k_ ≠ (.slice Ao99 t277.length co99 : Value).ownBlock) (Kd.R_keptB ((Kd.R_apart' HO264.out (Kd.R_typed HO247.out) (by decide))) hkp (fun k_ hk_ hs_ => Or.elim hs_ (fun e_ => (hk_.2) e_) (fun e_ => refute hk_ e_))) (fun k_ hk_ => ⟨(gives hk_), (gives hk_), (gives hk_), (gives hk_), (gives hk_), (gives hk_), (gives hk_)⟩)); have n17_ := ak (blk_kept (bTo BK265.out) hkp (fun hs_ => Or.elim hs_ (fun e_ => (fun e_ => (Kd.R_ne HO247.out BK265.out (by decide)) e_) e_) (fun e_ => (fun e_ => (Kd.R_ne HO250.out BK265.out (by decide)) e_) e_))); have n18_ := ak (Kd.R_mono (ok' := fun k_ => some k_ ≠ (v227 : Value).ownBlock ∧ some k_ ≠ (v233 : Value).ownBlock ∧ some k_ ≠ (.slice Ao53 t238.length co53 : Value).ownBlock ∧ some k_ ≠ (.slice Ao61 t245.length co61 : Value).ownBlock ∧ some k_ ≠ (.slice Ao71 t252.length co71 : Value).ownBlock ∧ some k_ ≠ (.slice Ao81 t259.length co81 : Value).ownBlock ∧ some k_ ≠ (.slice Ao98 t274.length co98 : Value).ownBlock) (Kd.R_keptB ((Kd.R_apart' HO269.out (Kd.R_typed HO250.out) (by decide))) hkp (fun k_ hk_ hs_ => Or.elim hs_ (fun e_ => refute hk_ e_) (fun e_ => (hk_.2) e_))) (fun k_ hk_ => ⟨(gives hk_), (gives hk_), (gives hk_), (gives hk_), (gives hk_), (gives hk_), (gives hk_)⟩)); have n19_ := ak (Kd.R_mono (ok' := fun k_ => some k_ ≠ (v230 : Value).ownBlock ∧ some k_ ≠ (v236 : Value).ownBlock ∧ some k_ ≠ (.slice Ao55 t241.length co55 : Value).ownBlock ∧ some k_ ≠ (.slice Ao66 t248.length co66 : Value).ownBlock ∧ some k_ ≠ (.slice Ao77 t255.length co77 : Value).ownBlock ∧ some k_ ≠ (.slice Ao88 t262.length co88 : Value).ownBlock ∧ some k_ ≠ (.slice Ao99 t277.length co99 : Value).ownBlock) (Kd.R_keptB ((Kd.R_apart' HO272.out (Kd.R_typed HO247.out) (by decide))) hkp (fun k_ hk_ hs_ => Or.elim hs_ (fun e_ => (hk_.2) e_) (fun e_ => refute hk_ e_))) (fun k_ hk_ => ⟨(gives hk_), (gives hk_), (gives hk_), (gives hk_), (gives hk_), (gives hk_), (gives hk_)⟩)); have n20_ := ak (Kd.R_mono (ok' := fun k_ => some k_ ≠ (v227 : Value).ownBlock ∧ some k_ ≠ (v233 : Value).ownBlock ∧ some k_ ≠ (.slice Ao53 t238.length co53 : Value).ownBlock ∧ some k_ ≠ (.slice Ao61 t245.length co61 : Value).ownBlock ∧ some k_ ≠ (.slice Ao71 t252.length co71 : Value).ownBlock ∧ some k_ ≠ (.slice Ao81 t259.length co81 : Value).ownBlock ∧ some k_ ≠ (.slice Ao93 t267.length co93 : Value).ownBlock) (Kd.R_keptB ((Kd.R_apart' HO276.out (Kd.R_typed HO250.out) (by decide))) hkp (fun k_ hk_ hs_ => Or.elim hs_ (fun e_ => refute hk_ e_) (fun e_ => (hk_.2) e_))) (fun k_ hk_ => ⟨(gives hk_), (gives hk_), (gives hk_), (gives hk_), (gives hk_), (gives hk_), (gives hk_)⟩)); have n21_ := ak (Kd.R_mono (ok' := fun k_ => some k_ ≠ (v230 : Value).ownBlock ∧ some k_ ≠ (v236 : Value).ownBlock ∧ some k_ ≠ (.slice Ao55 t241.length co55 : Value).ownBlock ∧ some k_ ≠ (.slice Ao66 t248.length co66 : Value).ownBlock ∧ some k_ ≠ (.slice Ao77 t255.length co77 : Value).ownBlock ∧ some k_ ≠ (.slice Ao88 t262.length co88 : Value).ownBlock ∧ some k_ ≠ (.slice Ao94 t270.length co94 : Value).ownBlock) (Kd.R_keptB ((Kd.R_apart' HO279.out (Kd.R_typed HO247.out) (by decide))) hkp (fun k_ hk_ hs_ => Or.elim hs_ (fun e_ => (hk_.2) e_) (fun e_ => refute hk_ e_))) (fun k_ hk_ => ⟨(gives hk_), (gives hk_), (gives hk_), (gives hk_), (gives hk_), (gives hk_), (gives hk_)⟩)); have n22_ := ak (hb); clear BK222; clear BK223; clear HO228; clear HO231; clear HO234; clear HO237; clear HO240; clear HO243; clear BK244; clear HO247; clear HO250; clear BK251; clear HO254; clear HO257; clear BK258; clear HO261; clear HO264; clear BK265; clear HO269; clear HO272; clear HO276; clear HO279; clear HB; have BK222 := n0_; have BK223 := n1_; have HO228 := n2_; have HO231 := n3_; have HO234 := n4_; have HO237 := n5_; have HO240 := n6_; have HO243 := n7_; have BK244 := n8_; have HO247 := n9_; have HO250 := n10_; have BK251 := n11_; have HO254 := n12_; have HO257 := n13_; have BK258 := n14_; have HO261 := n15_; have HO264 := n16_; have BK265 := n17_; have HO269 := n18_; have HO272 := n19_; have HO276 := n20_; have HO279 := n21_; have HB := n22_; clear n0_ n1_ n2_ n3_ n4_ n5_ n6_ n7_ n8_ n9_ n10_ n11_ n12_ n13_ n14_ n15_ n16_ n17_ n18_ n19_ n20_ n21_ n22_; (try clear hb); (try clear hkp); (try clear hy0); (try clear hy1); have hcz103_0 : w102.cell? ⟨gb258, 0, none⟩ = some (.slice Ao71 t252.length co71) := (blk_cell BK258.out 0).trans rfl; have hcz103_1 : w102.cell? ⟨gb258, 1, none⟩ = some (.slice Ao77 t255.length co77) := (blk_cell BK258.out 1).trans rfl; have hfz103_0 := blk_frozen BK258.out 0; have hfz103_1 := blk_frozen BK258.out 1) | ((with_reducible refine gate_callee (f := 31) rfl ?_); refine goesL_ (some 55) rfl rfl Try.func31 (by kernel_rfl) rfl #[.agg #[.slice Ao71 t252.length co71, .slice Ao77 t255.length co77], .int .i64 t281] rfl (by (try simp only [List.map_toArray, List.map_cons, List.map_nil]); first | done | rfl | (simp only [List.length_drop, List.length_take]; rfl)) ?_; (with_reducible refine (laws_markReport.calls k (fun k_ => some k_ = (.slice Ao71 t252.length co71 : Value).ownBlock) (.slice Ao71 t252.length co71) t252 (fun k_ => some k_ = (.slice Ao77 t255.length co77 : Value).ownBlock) (.slice Ao77 t255.length co77) t255 t281 t284 t285 t286 w _ ?side1 ?side2 ?side3 A34.out).mono ?_); (case side1 => repeat (first | (with_reducible first | exact HB.out | apply below_alloc | apply pw_below_drewN | apply below_drew1 | refine below_set ?_ GE222.out | refine below_set ?_ GE223.out | refine below_set ?_ GE244.out | refine below_set ?_ GE251.out | refine below_set ?_ GE258.out | refine below_set ?_ GE265.out) | exact HB.out)); (case side2 => exact Kd.R_tight rfl HO254.out); (case side3 => exact Kd.R_tight rfl HO257.out); rintro e w104 ⟨rfl, hy0, hy1, hb, hkp⟩; refine ⟨_, rfl, ?_⟩; have n0_ := ak (blk_kept (bTo BK222.out) hkp (fun hs_ => Or.elim hs_ (fun e_ => (fun e_ => (Kd.R_ne HO254.out BK222.out (by decide)) e_) e_) (fun e_ => (fun e_ => (Kd.R_ne HO257.out BK222.out (by decide)) e_) e_))); have n1_ := ak (blk_kept (bTo BK223.out) hkp (fun hs_ => Or.elim hs_ (fun e_ => (fun e_ => (Kd.R_ne HO254.out BK223.out (by decide)) e_) e_) (fun e_ => (fun e_ => (Kd.R_ne HO257.out BK223.out (by decide)) e_) e_))); have n2_ := ak (Kd.R_mono (ok' := fun k_ => some k_ ≠ (v233 : Value).ownBlock ∧ some k_ ≠ (.slice Ao53 t238.length co53 : Value).ownBlock ∧ some k_ ≠ (.slice Ao61 t245.length co61 : Value).ownBlock ∧ some k_ ≠ (.slice Ao71 t252.length co71 : Value).ownBlock ∧ some k_ ≠ (.slice Ao81 t259.length co81 : Value).ownBlock ∧ some k_ ≠ (.slice Ao93 t267.length co93 : Value).ownBlock ∧ some k_ ≠ (.slice Ao98 t274.length co98 : Value).ownBlock) (Kd.R_keptB ((Kd.R_apart' HO228.out (Kd.R_typed HO257.out) (by decide))) hkp (fun k_ hk_ hs_ => Or.elim hs_ (fun e_ => refute hk_ e_) (fun e_ => (hk_.2) e_))) (fun k_ hk_ => ⟨(gives hk_), (gives hk_), (gives hk_), (gives hk_), (gives hk_), (gives hk_), (gives hk_)⟩)); have n3_ := ak (Kd.R_mono (ok' := fun k_ => some k_ ≠ (v236 : Value).ownBlock ∧ some k_ ≠ (.slice Ao55 t241.length co55 : Value).ownBlock ∧ some k_ ≠ (.slice Ao66 t248.length co66 : Value).ownBlock ∧ some k_ ≠ (.slice Ao77 t255.length co77 : Value).ownBlock ∧ some k_ ≠ (.slice Ao88 t262.length co88 : Value).ownBlock ∧ some k_ ≠ (.slice Ao94 t270.length co94 : Value).ownBlock ∧ some k_ ≠ (.slice Ao99 t277.length co99 : Value).ownBlock) (Kd.R_keptB ((Kd.R_apart' HO231.out (Kd.R_typed HO254.out) (by decide))) hkp (fun k_ hk_ hs_ => Or.elim hs_ (fun e_ => (hk_.2) e_) (fun e_ => refute hk_ e_))) (fun k_ hk_ => ⟨(gives hk_), (gives hk_), (gives hk_), (gives hk_), (gives hk_), (gives hk_), (gives hk_)⟩)); have n4_ := ak (Kd.R_mono (ok' := fun k_ => some k_ ≠ (v227 : Value).ownBlock ∧ some k_ ≠ (.slice Ao53 t238.length co53 : Value).ownBlock ∧ some k_ ≠ (.slice Ao61 t245.length co61 : Value).ownBlock ∧ some k_ ≠ (.slice Ao71 t252.length co71 : Value).ownBlock ∧ some k_ ≠ (.slice Ao81 t259.length co81 : Value).ownBlock ∧ some k_ ≠ (.slice Ao93 t267.length co93 : Value).ownBlock ∧ some k_ ≠ (.slice Ao98 t274.length co98 : Value).ownBlock) (Kd.R_keptB ((Kd.R_apart' HO234.out (Kd.R_typed HO257.out) (by decide))) hkp (fun k_ hk_ hs_ => Or.elim hs_ (fun e_ => refute hk_ e_) (fun e_ => (hk_.2) e_))) (fun k_ hk_ => ⟨(gives hk_), (gives hk_), (gives hk_), (gives hk_), (gives hk_), (gives hk_), (gives hk_)⟩)); have n5_ := ak (Kd.R_mono (ok' := fun k_ => some k_ ≠ (v230 : Value).ownBlock ∧ some k_ ≠ (.slice Ao55 t241.length co55 : Value).ownBlock ∧ some k_ ≠ (.slice Ao66 t248.length co66 : Value).ownBlock ∧ some k_ ≠ (.slice Ao77 t255.length co77 : Value).ownBlock ∧ some k_ ≠ (.slice Ao88 t262.length co88 : Value).ownBlock ∧ some k_ ≠ (.slice Ao94 t270.length co94 : Value).ownBlock ∧ some k_ ≠ (.slice Ao99 t277.length co99 : Value).ownBlock) (Kd.R_keptB ((Kd.R_apart' HO237.out (Kd.R_typed HO254.out) (by decide))) hkp (fun k_ hk_ hs_ => Or.elim hs_ (fun e_ => (hk_.2) e_) (fun e_ => refute hk_ e_))) (fun k_ hk_ => ⟨(gives hk_), (gives hk_), (gives hk_), (gives hk_), (gives hk_), (gives hk_), (gives hk_)⟩)); have n6_ := ak (Kd.R_mono (ok' := fun k_ => some k_ ≠ (v227 : Value).ownBlock ∧ some k_ ≠ (v233 : Value).ownBlock ∧ some k_ ≠ (.slice Ao61 t245.length co61 : Value).ownBlock ∧ some k_ ≠ (.slice Ao71 t252.length co71 : Value).ownBlock ∧ some k_ ≠ (.slice Ao81 t259.length co81 : Value).ownBlock ∧ some k_ ≠ (.slice Ao93 t267.length co93 : Value).ownBlock ∧ some k_ ≠ (.slice Ao98 t274.length co98 : Value).ownBlock) (Kd.R_keptB ((Kd.R_apart' HO240.out (Kd.R_typed HO257.out) (by decide))) hkp (fun k_ hk_ hs_ => Or.elim hs_ (fun e_ => refute hk_ e_) (fun e_ => (hk_.2) e_))) (fun k_ hk_ => ⟨(gives hk_), (gives hk_), (gives hk_), (gives hk_), (gives hk_), (gives hk_), (gives hk_)⟩)); have n7_ := ak (Kd.R_mono (ok' := fun k_ => some k_ ≠ (v230 : Value).ownBlock ∧ some k_ ≠ (v236 : Value).ownBlock ∧ some k_ ≠ (.slice Ao66 t248.length co66 : Value).ownBlock ∧ some k_ ≠ (.slice Ao77 t255.length co77 : Value).ownBlock ∧ some k_ ≠ (.slice Ao88 t262.length co88 : Value).ownBlock ∧ some k_ ≠ (.slice Ao94 t270.length co94 : Value).ownBlock ∧ some k_ ≠ (.slice Ao99 t277.length co99 : Value).ownBlock) (Kd.R_keptB ((Kd.R_apart' HO243.out (Kd.R_typed HO254.out) (by decide))) hkp (fun k_ hk_ hs_ => Or.elim hs_ (fun e_ => (hk_.2) e_) (fun e_ => refute hk_ e_))) (fun k_ hk_ => ⟨(gives hk_), (gives hk_), (gives hk_), (gives hk_), (gives hk_), (gives hk_), (gives hk_)⟩)); have n8_ := ak (blk_kept (bTo BK244.out) hkp (fun hs_ => Or.elim hs_ (fun e_ => (fun e_ => (Kd.R_ne HO254.out BK244.out (by decide)) e_) e_) (fun e_ => (fun e_ => (Kd.R_ne HO257.out BK244.out (by decide)) e_) e_))); have n9_ := ak (Kd.R_mono (ok' := fun k_ => some k_ ≠ (v227 : Value).ownBlock ∧ some k_ ≠ (v233 : Value).ownBlock ∧ some k_ ≠ (.slice Ao53 t238.length co53 : Value).ownBlock ∧ some k_ ≠ (.slice Ao71 t252.length co71 : Value).ownBlock ∧ some k_ ≠ (.slice Ao81 t259.length co81 : Value).ownBlock ∧ some k_ ≠ (.slice Ao93 t267.length co93 : Value).ownBlock ∧ some k_ ≠ (.slice Ao98 t274.length co98 : Value).ownBlock) (Kd.R_keptB ((Kd.R_apart' HO247.out (Kd.R_typed HO257.out) (by decide))) hkp (fun k_ hk_ hs_ => Or.elim hs_ (fun e_ => refute hk_ e_) (fun e_ => (hk_.2) e_))) (fun k_ hk_ => ⟨(gives hk_), (gives hk_), (gives hk_), (gives hk_), (gives hk_), (gives hk_), (gives hk_)⟩)); have n10_ := ak (Kd.R_mono (ok' := fun k_ => some k_ ≠ (v230 : Value).ownBlock ∧ some k_ ≠ (v236 : Value).ownBlock ∧ some k_ ≠ (.slice Ao55 t241.length co55 : Value).ownBlock ∧ some k_ ≠ (.slice Ao77 t255.length co77 : Value).ownBlock ∧ some k_ ≠ (.slice Ao88 t262.length co88 : Value).ownBlock ∧ some k_ ≠ (.slice Ao94 t270.length co94 : Value).ownBlock ∧ some k_ ≠ (.slice Ao99 t277.length co99 : Value).ownBlock) (Kd.R_keptB ((Kd.R_apart' HO250.out (Kd.R_typed HO254.out) (by decide))) hkp (fun k_ hk_ hs_ => Or.elim hs_ (fun e_ => (hk_.2) e_) (fun e_ => refute hk_ e_))) (fun k_ hk_ => ⟨(gives hk_), (gives hk_), (gives hk_), (gives hk_), (gives hk_), (gives hk_), (gives hk_)⟩)); have n11_ := ak (blk_kept (bTo BK251.out) hkp (fun hs_ => Or.elim hs_ (fun e_ => (fun e_ => (Kd.R_ne HO254.out BK251.out (by decide)) e_) e_) (fun e_ => (fun e_ => (Kd.R_ne HO257.out BK251.out (by decide)) e_) e_))); have n12_ := ak (Kd.R_reok rfl hy0 (fun k_ e_ => HO254.out.1 k_ e_)); have n13_ := ak (Kd.R_reok rfl hy1 (fun k_ e_ => HO257.out.1 k_ e_)); have n14_ := ak (blk_kept (bTo BK258.out) hkp (fun hs_ => Or.elim hs_ (fun e_ => (fun e_ => (Kd.R_ne HO254.out BK258.out (by decide)) e_) e_) (fun e_ => (fun e_ => (Kd.R_ne HO257.out BK258.out (by decide)) e_) e_))); have n15_ := ak (Kd.R_mono (ok' := fun k_ => some k_ ≠ (v227 : Value).ownBlock ∧ some k_ ≠ (v233 : Value).ownBlock ∧ some k_ ≠ (.slice Ao53 t238.length co53 : Value).ownBlock ∧ some k_ ≠ (.slice Ao61 t245.length co61 : Value).ownBlock ∧ some k_ ≠ (.slice Ao71 t252.length co71 : Value).ownBlock ∧ some k_ ≠ (.slice Ao93 t267.length co93 : Value).ownBlock ∧ some k_ ≠ (.slice Ao98 t274.length co98 : Value).ownBlock) (Kd.R_keptB ((Kd.R_apart' HO261.out (Kd.R_typed HO257.out) (by decide))) hkp (fun k_ hk_ hs_ => Or.elim hs_ (fun e_ => refute hk_ e_) (fun e_ => (hk_.2) e_))) (fun k_ hk_ => ⟨(gives hk_), (gives hk_), (gives hk_), (gives hk_), (gives hk_), (gives hk_), (gives hk_)⟩)); have n16_ := ak (Kd.R_mono (ok' := fun k_ => some k_ ≠ (v230 : Value).ownBlock ∧ some k_ ≠ (v236 : Value).ownBlock ∧ some k_ ≠ (.slice Ao55 t241.length co55 : Value).ownBlock ∧ some k_ ≠ (.slice Ao66 t248.length co66 : Value).ownBlock ∧ some k_ ≠ (.slice Ao77 t255.length co77 : Value).ownBlock ∧ some k_ ≠ (.slice Ao94 t270.length co94 : Value).ownBlock ∧ some k_ ≠ (.slice Ao99 t277.length co99 : Value).ownBlock) (Kd.R_keptB ((Kd.R_apart' HO264.out (Kd.R_typed HO254.out) (by decide))) hkp (fun k_ hk_ hs_ => Or.elim hs_ (fun e_ => (hk_.2) e_) (fun e_ => refute hk_ e_))) (fun k_ hk_ => ⟨(gives hk_), (gives hk_), (gives hk_), (gives hk_), (gives hk_), (gives hk_), (gives hk_)⟩)); have n17_ := ak (blk_kept (bTo BK265.out) hkp (fun hs_ => Or.elim hs_ (fun e_ => (fun e_ => (Kd.R_ne HO254.out BK265.out (by decide)) e_) e_) (fun e_ => (fun e_ => (Kd.R_ne HO257.out BK265.out (by decide)) e_) e_))); have n18_ := ak (Kd.R_mono (ok' := fun k_ => some k_ ≠ (v227 : Value).ownBlock ∧ some k_ ≠ (v233 : Value).ownBlock ∧ some k_ ≠ (.slice Ao53 t238.length co53 : Value).ownBlock ∧ some k_ ≠ (.slice Ao61 t245.length co61 : Value).ownBlock ∧ some k_ ≠ (.slice Ao71 t252.length co71 : Value).ownBlock ∧ some k_ ≠ (.slice Ao81 t259.length co81 : Value).ownBlock ∧ some k_ ≠ (.slice Ao98 t274.length co98 : Value).ownBlock) (Kd.R_keptB ((Kd.R_apart' HO269.out (Kd.R_typed HO257.out) (by decide))) hkp (fun k_ hk_ hs_ => Or.elim hs_ (fun e_ => refute hk_ e_) (fun e_ => (hk_.2) e_))) (fun k_ hk_ => ⟨(gives hk_), (gives hk_), (gives hk_), (gives hk_), (gives hk_), (gives hk_), (gives hk_)⟩)); have n19_ := ak (Kd.R_mono (ok' := fun k_ => some k_ ≠ (v230 : Value).ownBlock ∧ some k_ ≠ (v236 : Value).ownBlock ∧ some k_ ≠ (.slice Ao55 t241.length co55 : Value).ownBlock ∧ some k_ ≠ (.slice Ao66 t248.length co66 : Value).ownBlock ∧ some k_ ≠ (.slice Ao77 t255.length co77 : Value).ownBlock ∧ some k_ ≠ (.slice Ao88 t262.length co88 : Value).ownBlock ∧ some k_ ≠ (.slice Ao99 t277.length co99 : Value).ownBlock) (Kd.R_keptB ((Kd.R_apart' HO272.out (Kd.R_typed HO254.out) (by decide))) hkp (fun k_ hk_ hs_ => Or.elim hs_ (fun e_ => (hk_.2) e_) (fun e_ => refute hk_ e_))) (fun k_ hk_ => ⟨(gives hk_), (gives hk_), (gives hk_), (gives hk_), (gives hk_), (gives hk_), (gives hk_)⟩)); have n20_ := ak (Kd.R_mono (ok' := fun k_ => some k_ ≠ (v227 : Value).ownBlock ∧ some k_ ≠ (v233 : Value).ownBlock ∧ some k_ ≠ (.slice Ao53 t238.length co53 : Value).ownBlock ∧ some k_ ≠ (.slice Ao61 t245.length co61 : Value).ownBlock ∧ some k_ ≠ (.slice Ao71 t252.length co71 : Value).ownBlock ∧ some k_ ≠ (.slice Ao81 t259.length co81 : Value).ownBlock ∧ some k_ ≠ (.slice Ao93 t267.length co93 : Value).ownBlock) (Kd.R_keptB ((Kd.R_apart' HO276.out (Kd.R_typed HO257.out) (by decide))) hkp (fun k_ hk_ hs_ => Or.elim hs_ (fun e_ => refute hk_ e_) (fun e_ => (hk_.2) e_))) (fun k_ hk_ => ⟨(gives hk_), (gives hk_), (gives hk_), (gives hk_), (gives hk_), (gives hk_), (gives hk_)⟩)); have n21_ := ak (Kd.R_mono (ok' := fun k_ => some k_ ≠ (v230 : Value).ownBlock ∧ some k_ ≠ (v236 : Value).ownBlock ∧ some k_ ≠ (.slice Ao55 t241.length co55 : Value).ownBlock ∧ some k_ ≠ (.slice Ao66 t248.length co66 : Value).ownBlock ∧ some k_ ≠ (.slice Ao77 t255.length co77 : Value).ownBlock ∧ some k_ ≠ (.slice Ao88 t262.length co88 : Value).ownBlock ∧ some k_ ≠ (.slice Ao94 t270.length co94 : Value).ownBlock) (Kd.R_keptB ((Kd.R_apart' HO279.out (Kd.R_typed HO254.out) (by decide))) hkp (fun k_ hk_ hs_ => Or.elim hs_ (fun e_ => (hk_.2) e_) (fun e_ => refute hk_ e_))) (fun k_ hk_ => ⟨(gives hk_), (gives hk_), (gives hk_), (gives hk_), (gives hk_), (gives hk_), (gives hk_)⟩)); have n22_ := ak (hb); clear BK222; clear BK223; clear HO228; clear HO231; clear HO234; clear HO237; clear HO240; clear HO243; clear BK244; clear HO247; clear HO250; clear BK251; clear HO254; clear HO257; clear BK258; clear HO261; clear HO264; clear BK265; clear HO269; clear HO272; clear HO276; clear HO279; clear HB; have BK222 := n0_; have BK223 := n1_; have HO228 := n2_; have HO231 := n3_; have HO234 := n4_; have HO237 := n5_; have HO240 := n6_; have HO243 := n7_; have BK244 := n8_; have HO247 := n9_; have HO250 := n10_; have BK251 := n11_; have HO254 := n12_; have HO257 := n13_; have BK258 := n14_; have HO261 := n15_; have HO264 := n16_; have BK265 := n17_; have HO269 := n18_; have HO272 := n19_; have HO276 := n20_; have HO279 := n21_; have HB := n22_; clear n0_ n1_ n2_ n3_ n4_ n5_ n6_ n7_ n8_ n9_ n10_ n11_ n12_ n13_ n14_ n15_ n16_ n17_ n18_ n19_ n20_ n21_ n22_; (try clear hb); (try clear hkp); (try clear hy0); (try clear hy1)))
      (try simp only [Act.put, List.setIfInBounds_toArray, List.set_cons_zero, List.set_cons_succ])
      go_cut [63] (fun v63 wc => ∃ (kq : Nat) (x63_34 : Bool), v63 = .bool x63_34 ∧ Aside0 (laws_FnExactMergeReports.j0 kq x63_34 l0_0 l0_1 l1_0 l1_1 t238 t241 t259 t262 = some r) ∧ Aside0 (kq ≤ k) ∧ Aside0 (Kd.R k37 37 wc w.heap.size (fun k_ => some k_ ≠ ((.slice Ao61 t245.length co61) : Value).ownBlock ∧ some k_ ≠ ((.slice Ao71 t252.length co71) : Value).ownBlock ∧ some k_ ≠ ((.slice Ao81 t259.length co81) : Value).ownBlock) (.slice Ao53 t238.length co53) t238) ∧ Aside0 (Kd.R Kd.string 9 wc w.heap.size (fun k_ => some k_ ≠ ((.slice Ao66 t248.length co66) : Value).ownBlock ∧ some k_ ≠ ((.slice Ao77 t255.length co77) : Value).ownBlock ∧ some k_ ≠ ((.slice Ao88 t262.length co88) : Value).ownBlock) (.slice Ao55 t241.length co55) t241) ∧ Aside0 (Kd.R k37 37 wc w.heap.size (fun k_ => some k_ ≠ ((.slice Ao53 t238.length co53) : Value).ownBlock ∧ some k_ ≠ ((.slice Ao71 t252.length co71) : Value).ownBlock ∧ some k_ ≠ ((.slice Ao81 t259.length co81) : Value).ownBlock) (.slice Ao61 t245.length co61) t282) ∧ Aside0 (Kd.R Kd.string 9 wc w.heap.size (fun k_ => some k_ ≠ ((.slice Ao55 t241.length co55) : Value).ownBlock ∧ some k_ ≠ ((.slice Ao77 t255.length co77) : Value).ownBlock ∧ some k_ ≠ ((.slice Ao88 t262.length co88) : Value).ownBlock) (.slice Ao66 t248.length co66) t283) ∧ Aside0 (Kd.R k37 37 wc w.heap.size (fun k_ => some k_ ≠ ((.slice Ao53 t238.length co53) : Value).ownBlock ∧ some k_ ≠ ((.slice Ao61 t245.length co61) : Value).ownBlock ∧ some k_ ≠ ((.slice Ao81 t259.length co81) : Value).ownBlock) (.slice Ao71 t252.length co71) t285) ∧ Aside0 (Kd.R Kd.string 9 wc w.heap.size (fun k_ => some k_ ≠ ((.slice Ao55 t241.length co55) : Value).ownBlock ∧ some k_ ≠ ((.slice Ao66 t248.length co66) : Value).ownBlock ∧ some k_ ≠ ((.slice Ao88 t262.length co88) : Value).ownBlock) (.slice Ao77 t255.length co77) t286) ∧ Aside0 (Kd.R k37 37 wc w.heap.size (fun k_ => some k_ ≠ ((.slice Ao53 t238.length co53) : Value).ownBlock ∧ some k_ ≠ ((.slice Ao61 t245.length co61) : Value).ownBlock ∧ some k_ ≠ ((.slice Ao71 t252.length co71) : Value).ownBlock) (.slice Ao81 t259.length co81) t259) ∧ Aside0 (Kd.R Kd.string 9 wc w.heap.size (fun k_ => some k_ ≠ ((.slice Ao55 t241.length co55) : Value).ownBlock ∧ some k_ ≠ ((.slice Ao66 t248.length co66) : Value).ownBlock ∧ some k_ ≠ ((.slice Ao77 t255.length co77) : Value).ownBlock) (.slice Ao88 t262.length co88) t262) ∧ Aside0 (wc.heap[gb222]? = some (.cells #[(.slice A0_0 l0_0.length c0_0), (.slice A0_1 l0_1.length c0_1)] 41 (0, 0))) ∧ Aside0 (wc.heap[gb223]? = some (.cells #[(.slice A1_0 l1_0.length c1_0), (.slice A1_1 l1_1.length c1_1)] 41 (0, 0))) ∧ Aside0 (wc.heap[gb244]? = some (.cells #[(.slice Ao53 t238.length co53), (.slice Ao55 t241.length co55)] 26 (0, 0))) ∧ Aside0 (wc.heap[gb251]? = some (.cells #[(.slice Ao61 t245.length co61), (.slice Ao66 t248.length co66)] 26 (0, 0))) ∧ Aside0 (wc.heap[gb258]? = some (.cells #[(.slice Ao71 t252.length co71), (.slice Ao77 t255.length co77)] 26 (0, 0))) ∧ Aside0 (wc.heap[gb265]? = some (.cells #[(.slice Ao81 t259.length co81), (.slice Ao88 t262.length co88)] 26 (0, 0))) ∧ Aside0 (Below w.heap.size w wc))
      case first =>
       have H := HC35.out
       clear HC35
       by_cases c105 : t284 < 0
       ·rw [if_pos c105] at H
        have c105b0 : decide (t284 < 0) = true := decide_eq_true c105
        clear c105
        (first | rw [c105b0] | (simp only [i64_w, i32_w]; rw [c105b0]) | skip)
        have H' := ak H
        clear H
        go_wp2
        go_meet
        case rel => exact ⟨_, (true), (by first | rfl | (simp; done) | (simp [*]; done)), H', ⟨by first | omega | exact Nat.le_refl _⟩, ⟨by (with_reducible repeat (first | apply Kd.R_alloc | apply Kd.R_drewN | apply Kd.R_drew)); exact Kd.R_mono HO240.out (fun _ hk => ⟨(gives hk), ⟨(gives hk), (gives hk)⟩⟩)⟩, ⟨by (with_reducible repeat (first | apply Kd.R_alloc | apply Kd.R_drewN | apply Kd.R_drew)); exact Kd.R_mono HO243.out (fun _ hk => ⟨(gives hk), ⟨(gives hk), (gives hk)⟩⟩)⟩, ⟨by (with_reducible repeat (first | apply Kd.R_alloc | apply Kd.R_drewN | apply Kd.R_drew)); exact Kd.R_mono HO247.out (fun _ hk => ⟨(gives hk), ⟨(gives hk), (gives hk)⟩⟩)⟩, ⟨by (with_reducible repeat (first | apply Kd.R_alloc | apply Kd.R_drewN | apply Kd.R_drew)); exact Kd.R_mono HO250.out (fun _ hk => ⟨(gives hk), ⟨(gives hk), (gives hk)⟩⟩)⟩, ⟨by (with_reducible repeat (first | apply Kd.R_alloc | apply Kd.R_drewN | apply Kd.R_drew)); exact Kd.R_mono HO254.out (fun _ hk => ⟨(gives hk), ⟨(gives hk), (gives hk)⟩⟩)⟩, ⟨by (with_reducible repeat (first | apply Kd.R_alloc | apply Kd.R_drewN | apply Kd.R_drew)); exact Kd.R_mono HO257.out (fun _ hk => ⟨(gives hk), ⟨(gives hk), (gives hk)⟩⟩)⟩, ⟨by (with_reducible repeat (first | apply Kd.R_alloc | apply Kd.R_drewN | apply Kd.R_drew)); exact Kd.R_mono HO261.out (fun _ hk => ⟨(gives hk), ⟨(gives hk), (gives hk)⟩⟩)⟩, ⟨by (with_reducible repeat (first | apply Kd.R_alloc | apply Kd.R_drewN | apply Kd.R_drew)); exact Kd.R_mono HO264.out (fun _ hk => ⟨(gives hk), ⟨(gives hk), (gives hk)⟩⟩)⟩, ⟨by (with_reducible repeat (first | apply blk_drewN | apply blk_drew | apply blk_alloc)); exact BK222.out⟩, ⟨by (with_reducible repeat (first | apply blk_drewN | apply blk_drew | apply blk_alloc)); exact BK223.out⟩, ⟨by (with_reducible repeat (first | apply blk_drewN | apply blk_drew | apply blk_alloc)); exact BK244.out⟩, ⟨by (with_reducible repeat (first | apply blk_drewN | apply blk_drew | apply blk_alloc)); exact BK251.out⟩, ⟨by (with_reducible repeat (first | apply blk_drewN | apply blk_drew | apply blk_alloc)); exact BK258.out⟩, ⟨by (with_reducible repeat (first | apply blk_drewN | apply blk_drew | apply blk_alloc)); exact BK265.out⟩, ⟨by repeat (first | (with_reducible first | exact HB.out | apply below_alloc | apply pw_below_drewN | apply below_drew1 | refine below_set ?_ GE222.out | refine below_set ?_ GE223.out | refine below_set ?_ GE244.out | refine below_set ?_ GE251.out | refine below_set ?_ GE258.out | refine below_set ?_ GE265.out) | exact HB.out)⟩⟩
       ·rw [if_neg c105] at H
        have c105b0 : decide (t284 < 0) = false := decide_eq_false c105
        clear c105
        (first | rw [c105b0] | (simp only [i64_w, i32_w]; rw [c105b0]) | skip)
        replace H := Option.bind_eq_some_iff.mp H
        obtain ⟨t287, A1060, H⟩ := H
        replace H : (laws_FnExactMergeReports.j0 k (!t287) l0_0 l0_1 l1_0 l1_1 t238 t241 t259 t262) = some r := H
        have A106 := ak A1060
        clear A1060
        have H' := ak H
        clear H
        have hnb107 := NB265_222.out
        have hnc107 := NB222_265.out
        have hnb108 := NB265_223.out
        have hnc108 := NB223_265.out
        have hnb109 := NB265_244.out
        have hnc109 := NB244_265.out
        have hnb110 := NB265_251.out
        have hnc110 := NB251_265.out
        have hnb111 := NB265_258.out
        have hnc111 := NB258_265.out
        have hcz112_0 : w104.cell? ⟨gb265, 0, none⟩ = some (.slice Ao81 t259.length co81) := (blk_cell BK265.out 0).trans rfl
        have hcz112_1 : w104.cell? ⟨gb265, 1, none⟩ = some (.slice Ao88 t262.length co88) := (blk_cell BK265.out 1).trans rfl
        have hfz112_0 := blk_frozen BK265.out 0
        have hfz112_1 := blk_frozen BK265.out 1
        have hnb113 := NB244_222.out
        have hnc113 := NB222_244.out
        have hnb114 := NB244_223.out
        have hnc114 := NB223_244.out
        have hnb115 := NB244_251.out
        have hnc115 := NB251_244.out
        have hnb116 := NB244_258.out
        have hnc116 := NB258_244.out
        have hcz117_0 : w104.cell? ⟨gb244, 0, none⟩ = some (.slice Ao53 t238.length co53) := (blk_cell BK244.out 0).trans rfl
        have hcz117_1 : w104.cell? ⟨gb244, 1, none⟩ = some (.slice Ao55 t241.length co55) := (blk_cell BK244.out 1).trans rfl
        have hfz117_0 := blk_frozen BK244.out 0
        have hfz117_1 := blk_frozen BK244.out 1
        go_wp2_with (first | (go_at_call 26; (with_reducible refine (laws_eqReport.calls k _ _ t259 _ _ t262 _ _ t238 _ _ t241 t287 _ ?side1 ?side2 ?side3 ?side4 ?side5 ?side6 ?side7 ?side8 A106.out).mono ?_); (case side1 => repeat (first | exact (Kd.R_reads' HO261.out).2.2 | (with_reducible refine Kd.C_alloc ?_ _) | (with_reducible refine Kd.C_drewN ?_ _) | (with_reducible refine Kd.C_drew ?_))); (case side2 => exact (Kd.R_reads' HO261.out).2.1); (case side3 => repeat (first | exact (Kd.R_reads' HO264.out).2.2 | (with_reducible refine Kd.C_alloc ?_ _) | (with_reducible refine Kd.C_drewN ?_ _) | (with_reducible refine Kd.C_drew ?_))); (case side4 => exact (Kd.R_reads' HO264.out).2.1); (case side5 => repeat (first | exact (Kd.R_reads' HO240.out).2.2 | (with_reducible refine Kd.C_alloc ?_ _) | (with_reducible refine Kd.C_drewN ?_ _) | (with_reducible refine Kd.C_drew ?_))); (case side6 => exact (Kd.R_reads' HO240.out).2.1); (case side7 => repeat (first | exact (Kd.R_reads' HO243.out).2.2 | (with_reducible refine Kd.C_alloc ?_ _) | (with_reducible refine Kd.C_drewN ?_ _) | (with_reducible refine Kd.C_drew ?_))); (case side8 => exact (Kd.R_reads' HO243.out).2.1); rintro e w118 ⟨rfl, hb⟩; have n0_ := ak (Kd.R_below (rTo HO228.out) hb); have n1_ := ak (Kd.R_below (rTo HO231.out) hb); have n2_ := ak (Kd.R_below (rTo HO234.out) hb); have n3_ := ak (Kd.R_below (rTo HO237.out) hb); have n4_ := ak (Kd.R_below (rTo HO240.out) hb); have n5_ := ak (Kd.R_below (rTo HO243.out) hb); have n6_ := ak (Kd.R_below (rTo HO247.out) hb); have n7_ := ak (Kd.R_below (rTo HO250.out) hb); have n8_ := ak (Kd.R_below (rTo HO254.out) hb); have n9_ := ak (Kd.R_below (rTo HO257.out) hb); have n10_ := ak (Kd.R_below (rTo HO261.out) hb); have n11_ := ak (Kd.R_below (rTo HO264.out) hb); have n12_ := ak (Kd.R_below (rTo HO269.out) hb); have n13_ := ak (Kd.R_below (rTo HO272.out) hb); have n14_ := ak (Kd.R_below (rTo HO276.out) hb); have n15_ := ak (Kd.R_below (rTo HO279.out) hb); have n16_ := ak (blk_below (g := gb222) (o := .cells #[.slice A0_0 l0_0.length c0_0, .slice A0_1 l0_1.length c0_1] 41 (0, 0)) (bTo BK222.out) hb); have n17_ := ak (blk_below (g := gb223) (o := .cells #[.slice A1_0 l1_0.length c1_0, .slice A1_1 l1_1.length c1_1] 41 (0, 0)) (bTo BK223.out) hb); have n18_ := ak (blk_below (g := gb244) (o := .cells #[.slice Ao53 t238.length co53, .slice Ao55 t241.length co55] 26 (0, 0)) (bTo BK244.out) hb); have n19_ := ak (blk_below (g := gb251) (o := .cells #[.slice Ao61 t245.length co61, .slice Ao66 t248.length co66] 26 (0, 0)) (bTo BK251.out) hb); have n20_ := ak (blk_below (g := gb258) (o := .cells #[.slice Ao71 t252.length co71, .slice Ao77 t255.length co77] 26 (0, 0)) (bTo BK258.out) hb); have n21_ := ak (blk_below (g := gb265) (o := .cells #[.slice Ao81 t259.length co81, .slice Ao88 t262.length co88] 26 (0, 0)) (bTo BK265.out) hb); have n22_ := ak (below_step (by repeat (first | (with_reducible first | exact HB.out | apply below_alloc | apply pw_below_drewN | apply below_drew1 | refine below_set ?_ GE222.out | refine below_set ?_ GE223.out | refine below_set ?_ GE244.out | refine below_set ?_ GE251.out | refine below_set ?_ GE258.out | refine below_set ?_ GE265.out) | exact HB.out)) hb); clear HO228; clear HO231; clear HO234; clear HO237; clear HO240; clear HO243; clear HO247; clear HO250; clear HO254; clear HO257; clear HO261; clear HO264; clear HO269; clear HO272; clear HO276; clear HO279; clear BK222; clear BK223; clear BK244; clear BK251; clear BK258; clear BK265; clear HB; have HO228 := n0_; have HO231 := n1_; have HO234 := n2_; have HO237 := n3_; have HO240 := n4_; have HO243 := n5_; have HO247 := n6_; have HO250 := n7_; have HO254 := n8_; have HO257 := n9_; have HO261 := n10_; have HO264 := n11_; have HO269 := n12_; have HO272 := n13_; have HO276 := n14_; have HO279 := n15_; have BK222 := n16_; have BK223 := n17_; have BK244 := n18_; have BK251 := n19_; have BK258 := n20_; have BK265 := n21_; have HB := n22_; clear n0_ n1_ n2_ n3_ n4_ n5_ n6_ n7_ n8_ n9_ n10_ n11_ n12_ n13_ n14_ n15_ n16_ n17_ n18_ n19_ n20_ n21_ n22_; (try clear hb); (try clear hb2); (try clear hk); (try clear hi)))
        go_meet
        case rel => exact ⟨_, (!t287), (by first | rfl | (simp; done) | (simp [*]; done)), H', ⟨by first | omega | exact Nat.le_refl _⟩, ⟨by (with_reducible repeat (first | apply Kd.R_alloc | apply Kd.R_drewN | apply Kd.R_drew)); exact Kd.R_mono HO240.out (fun _ hk => ⟨(gives hk), ⟨(gives hk), (gives hk)⟩⟩)⟩, ⟨by (with_reducible repeat (first | apply Kd.R_alloc | apply Kd.R_drewN | apply Kd.R_drew)); exact Kd.R_mono HO243.out (fun _ hk => ⟨(gives hk), ⟨(gives hk), (gives hk)⟩⟩)⟩, ⟨by (with_reducible repeat (first | apply Kd.R_alloc | apply Kd.R_drewN | apply Kd.R_drew)); exact Kd.R_mono HO247.out (fun _ hk => ⟨(gives hk), ⟨(gives hk), (gives hk)⟩⟩)⟩, ⟨by (with_reducible repeat (first | apply Kd.R_alloc | apply Kd.R_drewN | apply Kd.R_drew)); exact Kd.R_mono HO250.out (fun _ hk => ⟨(gives hk), ⟨(gives hk), (gives hk)⟩⟩)⟩, ⟨by (with_reducible repeat (first | apply Kd.R_alloc | apply Kd.R_drewN | apply Kd.R_drew)); exact Kd.R_mono HO254.out (fun _ hk => ⟨(gives hk), ⟨(gives hk), (gives hk)⟩⟩)⟩, ⟨by (with_reducible repeat (first | apply Kd.R_alloc | apply Kd.R_drewN | apply Kd.R_drew)); exact Kd.R_mono HO257.out (fun _ hk => ⟨(gives hk), ⟨(gives hk), (gives hk)⟩⟩)⟩, ⟨by (with_reducible repeat (first | apply Kd.R_alloc | apply Kd.R_drewN | apply Kd.R_drew)); exact Kd.R_mono HO261.out (fun _ hk => ⟨(gives hk), ⟨(gives hk), (gives hk)⟩⟩)⟩, ⟨by (with_reducible repeat (first | apply Kd.R_alloc | apply Kd.R_drewN | apply Kd.R_drew)); exact Kd.R_mono HO264.out (fun _ hk => ⟨(gives hk), ⟨(gives hk), (gives hk)⟩⟩)⟩, ⟨by (with_reducible repeat (first | apply blk_drewN | apply blk_drew | apply blk_alloc)); exact BK222.out⟩, ⟨by (with_reducible repeat (first | apply blk_drewN | apply blk_drew | apply blk_alloc)); exact BK223.out⟩, ⟨by (with_reducible repeat (first | apply blk_drewN | apply blk_drew | apply blk_alloc)); exact BK244.out⟩, ⟨by (with_reducible repeat (first | apply blk_drewN | apply blk_drew | apply blk_alloc)); exact BK251.out⟩, ⟨by (with_reducible repeat (first | apply blk_drewN | apply blk_drew | apply blk_alloc)); exact BK258.out⟩, ⟨by (with_reducible repeat (first | apply blk_drewN | apply blk_drew | apply blk_alloc)); exact BK265.out⟩, ⟨by repeat (first | (with_reducible first | exact HB.out | apply below_alloc | apply pw_below_drewN | apply below_drew1 | refine below_set ?_ GE222.out | refine below_set ?_ GE223.out | refine below_set ?_ GE244.out | refine below_set ?_ GE251.out | refine below_set ?_ GE258.out | refine below_set ?_ GE265.out) | exact HB.out)⟩⟩
      case rest =>
       rename_i K1_ hK1 K0_ hK0
       exact laws_FnExactMergeReports.part2 k A0_0 c0_0 l0_0 A0_1 c0_1 l0_1 A1_0 c1_0 l1_0 A1_1 c1_1 l1_1 r w wc HR0_0 HC0_0 HR0_1 HC0_1 HR1_0 HC1_0 HR1_1 HC1_1 t225 t284 t238 t245 t252 t259 t282 t285 t241 t248 t255 t262 t283 t286 gb222 gb223 gb244 gb251 gb258 gb265 GE222 GE223 GE244 GE251 GE258 GE265 GW222 GW223 GW244 GW251 GW258 GW265 NB222_223 NB222_244 NB222_251 NB222_258 NB222_265 NB223_222 NB223_244 NB223_251 NB223_258 NB223_265 NB244_222 NB244_223 NB244_251 NB244_258 NB244_265 NB251_222 NB251_223 NB251_244 NB251_258 NB251_265 NB258_222 NB258_223 NB258_244 NB258_251 NB258_265 NB265_222 NB265_223 NB265_244 NB265_251 NB265_258 Ao53 Ao55 Ao61 Ao66 Ao71 Ao77 Ao81 Ao88 co53 co55 co61 co66 co71 co77 co81 co88 u14 u15 u16 u17 u18 u19 u20 u21 u22 u23 u24 u25 u26 u27 u28 u29 u30 u31 u32 u33 u34 u35 u36 u37 u38 u39 u40 u41 u42 u43 u44 u45 u46 u47 u48 u49 u50 u51 u52 u53 u54 u55 u56 u57 u58 u59 u60 u61 u62 u63 u64 u65 u66 u67 u68 u69 u70 u71 u72 u73 u74 u75 u76 u77 u78 u79 u80 u81 u82 u83 u84 u85 u86 u87 u88 u89 u90 u91 _ rfl K1_ hK1 K0_ hK0 hcut
     ·replace c32 := Bool.eq_false_iff.mpr c32
      subst c32
      have H1 : (none) = some r := by rw [if_neg (show ¬ (false = true) by decide)] at H; exact H
      clear H
      have H := H1
      clear H1
      exact absurd H (by simp)
    ·replace c29 := Bool.eq_false_iff.mpr c29
     subst c29
     have H1 : (none) = some r := by rw [if_neg (show ¬ (false = true) by decide)] at H; exact H
     clear H
     have H := H1
     clear H1
     exact absurd H (by simp)
   ·replace c26 := Bool.eq_false_iff.mpr c26
    subst c26
    have H1 : (none) = some r := by rw [if_neg (show ¬ (false = true) by decide)] at H; exact H
    clear H
    have H := H1
    clear H1
    exact absurd H (by simp)

end Go.Proofs.Ytfpoihcpjmkbkaa.OFnExactMergeReports

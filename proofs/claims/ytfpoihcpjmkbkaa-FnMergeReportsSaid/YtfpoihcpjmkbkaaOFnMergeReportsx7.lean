-- Written by a program of this session (the kit's printing program with additions of this session's own); Lean checks it.
import Derived.Test.YtfpoihcpjmkbkaaOFnMergeReportsx0
import Derived.Test.YtfpoihcpjmkbkaaOFnMergeReportsx4
import Derived.Test.YtfpoihcpjmkbkaaOFnMergeReportsx5
import Derived.Test.YtfpoihcpjmkbkaaOFnMergeReportsx6
namespace Go.Proofs.Ytfpoihcpjmkbkaa.OFnMergeReports
open Go.RowKit Go.Proofs.YtfpoihcpjmkbkaaW.PrintWords Go.Proofs.YtfpoihcpjmkbkaaW.PrintLast Go.Proofs.YtfpoihcpjmkbkaaW.PrintMore
attribute [local go_sem] max2_int min2_int max_two min_two max_three min_three max_four min_four   -- for this text's walks alone
set_option linter.unusedVariables false
set_option linter.unusedSimpArgs false

/-! ### laws_FnMergeReports: function 4 -/
def laws_FnMergeReports.l0 : Nat → Int → List (S37) → List ByteArray → List (S37) → List ByteArray → List (S37) → List ByteArray → Option (Bool)
 | 0, _, _, _, _, _, _, _ => none
 | k + 1, x6, x271000, x271001, x272000, x272001, x279000, x279001 => if x6 < (x279000.length : Int) then (if 0 ≤ x6 then ((impl_OutcomeOf.f k x272000 x272001 ((rd_T37 x279000 x6).f0)).bind fun t294 => (if t294 < 0 then ((impl_OutcomeOf.f k x271000 x271001 ((rd_T37 x279000 x6).f0)).bind fun t295 => ((impl_OutcomeOf.f k x279000 x279001 ((rd_T37 x279000 x6).f0)).bind fun t296 => (if t296 = t295 then (laws_FnMergeReports.l0 k (wrap64 (x6 + 1)) x271000 x271001 x272000 x272001 x279000 x279001) else (some false)))) else ((impl_OutcomeOf.f k x279000 x279001 ((rd_T37 x279000 x6).f0)).bind fun t297 => (if t297 = t294 then (laws_FnMergeReports.l0 k (wrap64 (x6 + 1)) x271000 x271001 x272000 x272001 x279000 x279001) else (some false))))) else (none)) else ((impl_MergeReports.f k x271000 x271001 ([] : List (S37)) ([] : List ByteArray)).bind fun bt286 => ((laws_equalReport.f k bt286.1 bt286.2 x271000 x271001).bind fun t292 => (if t292 = true then (some ((x279001.length : Int) == (wrap64 ((x271001.length : Int) + (x272001.length : Int))))) else (some false))))
def laws_FnMergeReports.f (k : Nat) (l0 : List Int) : Option (Bool) := if (l0.length : Int) > 1048576 then (some true) else ((spec_DrawMergeReports.f k l0).bind fun bt258 => ((impl_MergeReports.f k bt258.1 bt258.2.1 bt258.2.2.1 bt258.2.2.2).bind fun bt272 => ((spec_MergeReports.f k bt258.1 bt258.2.1 bt258.2.2.1 bt258.2.2.2).bind fun bt279 => ((laws_equalReport.f k bt272.1 bt272.2 bt279.1 bt279.2).bind fun t285 => (if t285 = true then (laws_FnMergeReports.l0 k 0 bt258.1 bt258.2.1 bt258.2.2.1 bt258.2.2.2 bt272.1 bt272.2) else ((spec_MergeReports.f k bt258.1 bt258.2.1 bt258.2.2.1 bt258.2.2.2).bind fun bt298 => ((laws_equalReport.f k bt272.1 bt272.2 bt298.1 bt298.2).bind fun t304 => (some t304))))))))
theorem laws_FnMergeReports.mono_l : ∀ k, (∀ y0 y1 y2 y3 y4 y5 y6, LeO (laws_FnMergeReports.l0 k y0 y1 y2 y3 y4 y5 y6) (laws_FnMergeReports.l0 (k + 1) y0 y1 y2 y3 y4 y5 y6))
 | 0 => fun _ _ _ _ _ _ _ r h => by simp [laws_FnMergeReports.l0] at h
 | k + 1 => by
  have ih0 := laws_FnMergeReports.mono_l k
  ·intro y0 y1 y2 y3 y4 y5 y6
   unfold laws_FnMergeReports.l0
   repeat' first
   | (with_reducible exact ih0 _ _ _ _ _ _ _)
   | (with_reducible exact impl_MergeReports.mono _ _ _ _ _)
   | (with_reducible exact impl_OutcomeOf.mono _ _ _ _)
   | (with_reducible exact laws_equalReport.mono _ _ _ _ _)
   | (with_reducible exact spec_DrawMergeReports.mono _ _)
   | (with_reducible exact spec_MergeReports.mono _ _ _ _ _)
   | (with_reducible exact LeO.refl _)
   | (with_reducible exact LeO.none _)
   | (with_reducible refine LeO.ite ?_ ?_)
   | (with_reducible refine LeO.bind ?_ (fun _ => ?_))
   | exact ih0 _ _ _ _ _ _ _
   | exact impl_MergeReports.mono _ _ _ _ _
   | exact impl_OutcomeOf.mono _ _ _ _
   | exact laws_equalReport.mono _ _ _ _ _
   | exact spec_DrawMergeReports.mono _ _
   | exact spec_MergeReports.mono _ _ _ _ _
   | exact LeO.none _
   | refine LeO.ite ?_ ?_
   | refine LeO.bind ?_ (fun _ => ?_)
theorem laws_FnMergeReports.mono : ∀ a0 k, LeO (laws_FnMergeReports.f k a0) (laws_FnMergeReports.f (k + 1) a0) := by
 intro a0 k
 have ih0 := laws_FnMergeReports.mono_l k
 unfold laws_FnMergeReports.f
 repeat' first
   | (with_reducible exact ih0 _ _ _ _ _ _ _)
   | (with_reducible exact impl_MergeReports.mono _ _ _ _ _)
   | (with_reducible exact impl_OutcomeOf.mono _ _ _ _)
   | (with_reducible exact laws_equalReport.mono _ _ _ _ _)
   | (with_reducible exact spec_DrawMergeReports.mono _ _)
   | (with_reducible exact spec_MergeReports.mono _ _ _ _ _)
   | (with_reducible exact LeO.refl _)
   | (with_reducible exact LeO.none _)
   | (with_reducible refine LeO.ite ?_ ?_)
   | (with_reducible refine LeO.bind ?_ (fun _ => ?_))
   | exact ih0 _ _ _ _ _ _ _
   | exact impl_MergeReports.mono _ _ _ _ _
   | exact impl_OutcomeOf.mono _ _ _ _
   | exact laws_equalReport.mono _ _ _ _ _
   | exact spec_DrawMergeReports.mono _ _
   | exact spec_MergeReports.mono _ _ _ _ _
   | exact LeO.none _
   | refine LeO.ite ?_ ?_
   | refine LeO.bind ?_ (fun _ => ?_)
def laws_FnMergeReports.T5 : Bool × List (List Nat × List Nat) := (true, [([], []), ([], []), ([], []), ([1, 2], [1, 2]), ([0, 3, 3], [0, 3]), ([4], [4]), ([5, 4], [5]), ([6], [6])])
def laws_FnMergeReports.B5 : List Nat := [0, 0, 0, 6, 15, 31, 63, 127]
theorem laws_FnMergeReports.tab5 : rtab .any (opsOf Try.f4 5) = laws_FnMergeReports.T5 := by kernel_rfl
theorem laws_FnMergeReports.bits5 : waitsOk laws_FnMergeReports.T5.2 laws_FnMergeReports.B5 = true := by kernel_rfl
def laws_FnMergeReports.T16 : Bool × List (List Nat × List Nat) := (true, [([], []), ([], []), ([0, 1], [0, 1]), ([], []), ([2, 3, 2], [2, 3]), ([4, 4], [4]), ([5], [5]), ([6, 5], [5, 6]), ([7, 5], [5, 7]), ([5], [5]), ([9, 5], [5, 9]), ([10, 5], [5, 10]), ([5], [5]), ([12, 5], [5, 12]), ([13, 5], [5, 13]), ([11, 14, 5], [5, 11, 14]), ([8, 15, 5], [5, 8, 15]), ([5, 16], [5, 16]), ([17, 5, 0, 1, 2, 3, 4, 5, 6, 7, 8, 9, 10, 11, 12, 13, 14, 15, 16, 17], [17])])
def laws_FnMergeReports.B16 : List Nat := [0, 0, 3, 0, 15, 31, 63, 127, 255, 63, 575, 1599, 63, 4159, 12351, 32319, 65535, 131071, 262143]
theorem laws_FnMergeReports.tab16 : rtab .any (opsOf Try.f4 16) = laws_FnMergeReports.T16 := by kernel_rfl
theorem laws_FnMergeReports.bits16 : waitsOk laws_FnMergeReports.T16.2 laws_FnMergeReports.B16 = true := by kernel_rfl
set_option maxHeartbeats 8000000 in
set_option maxRecDepth 100000 in
theorem laws_FnMergeReports.calls (k : Nat) (A0 : Option Addr) (c0 : Nat) (l0 : List Int) (r : Bool) (w : World) (hr0 : Kd.C (Kd.int .u8) w A0 l0.length l0) (hc0 : l0.length ≤ c0) (h : laws_FnMergeReports.f k l0 = some r) :
  Calls Try.prog 4 #[.slice A0 l0.length c0] w fun e w' => e = .returned (.bool r) ∧ Below w.heap.size w w' := by
 have hu26 := Try.underlying26
 have HR0 := ak hr0
 have HC0 := ak hc0
 clear hr0 hc0
 have HB := ak (Below.refl w.heap.size w)
 have H : (if (l0.length : Int) > 1048576 then (some true) else ((spec_DrawMergeReports.f k l0).bind fun bt258 => ((impl_MergeReports.f k bt258.1 bt258.2.1 bt258.2.2.1 bt258.2.2.2).bind fun bt272 => ((spec_MergeReports.f k bt258.1 bt258.2.1 bt258.2.2.1 bt258.2.2.2).bind fun bt279 => ((laws_equalReport.f k bt272.1 bt272.2 bt279.1 bt279.2).bind fun t285 => (if t285 = true then (laws_FnMergeReports.l0 k 0 bt258.1 bt258.2.1 bt258.2.2.1 bt258.2.2.2 bt272.1 bt272.2) else ((spec_MergeReports.f k bt258.1 bt258.2.1 bt258.2.2.1 bt258.2.2.2).bind fun bt298 => ((laws_equalReport.f k bt272.1 bt272.2 bt298.1 bt298.2).bind fun t304 => (some t304))))))))) = some r := h
 clear h
 by_cases c2 : (l0.length : Int) > 1048576
 ·rw [if_pos c2] at H
  have c2b0 : decide (1048576 < (l0.length : Int)) = true := decide_eq_true c2
  have c2b1 : decide (1048576 < l0.length) = true := decide_eq_true (by omega)
  clear c2
  obtain rfl := Option.some.inj H
  go_enter Try.func4, Try.ntmps4
  go_wp2
  go_ret
  exact ⟨by first | rfl | (simp [errW_none, errW_some] <;> rfl) | (simp [*, errW_none, errW_some] <;> rfl), by repeat (first | (with_reducible first | exact HB.out | apply below_alloc | apply pw_below_drewN | apply below_drew1) | exact HB.out)⟩
 ·rw [if_neg c2] at H
  have c2b0 : decide (1048576 < (l0.length : Int)) = false := decide_eq_false c2
  have c2b1 : decide (1048576 < l0.length) = false := decide_eq_false (by omega)
  clear c2
  replace H := Option.bind_eq_some_iff.mp H
  obtain ⟨⟨t258, t261, t264, t267⟩, A30, H⟩ := H
  replace H : ((impl_MergeReports.f k t258 t261 t264 t267).bind fun bt272 => ((spec_MergeReports.f k t258 t261 t264 t267).bind fun bt279 => ((laws_equalReport.f k bt272.1 bt272.2 bt279.1 bt279.2).bind fun t285 => (if t285 = true then (laws_FnMergeReports.l0 k 0 t258 t261 t264 t267 bt272.1 bt272.2) else ((spec_MergeReports.f k t258 t261 t264 t267).bind fun bt298 => ((laws_equalReport.f k bt272.1 bt272.2 bt298.1 bt298.2).bind fun t304 => (some t304))))))) = some r := H
  have A3 := ak A30
  clear A30
  replace H := Option.bind_eq_some_iff.mp H
  obtain ⟨⟨t272, t275⟩, A40, H⟩ := H
  replace H : ((spec_MergeReports.f k t258 t261 t264 t267).bind fun bt279 => ((laws_equalReport.f k t272 t275 bt279.1 bt279.2).bind fun t285 => (if t285 = true then (laws_FnMergeReports.l0 k 0 t258 t261 t264 t267 t272 t275) else ((spec_MergeReports.f k t258 t261 t264 t267).bind fun bt298 => ((laws_equalReport.f k t272 t275 bt298.1 bt298.2).bind fun t304 => (some t304)))))) = some r := H
  have A4 := ak A40
  clear A40
  replace H := Option.bind_eq_some_iff.mp H
  obtain ⟨⟨t279, t282⟩, A50, H⟩ := H
  replace H : ((laws_equalReport.f k t272 t275 t279 t282).bind fun t285 => (if t285 = true then (laws_FnMergeReports.l0 k 0 t258 t261 t264 t267 t272 t275) else ((spec_MergeReports.f k t258 t261 t264 t267).bind fun bt298 => ((laws_equalReport.f k t272 t275 bt298.1 bt298.2).bind fun t304 => (some t304))))) = some r := H
  have A5 := ak A50
  clear A50
  replace H := Option.bind_eq_some_iff.mp H
  obtain ⟨t285, A60, H⟩ := H
  replace H : (if t285 = true then (laws_FnMergeReports.l0 k 0 t258 t261 t264 t267 t272 t275) else ((spec_MergeReports.f k t258 t261 t264 t267).bind fun bt298 => ((laws_equalReport.f k t272 t275 bt298.1 bt298.2).bind fun t304 => (some t304)))) = some r := H
  have A6 := ak A60
  clear A60
  by_cases c7 : t285 = true
  ·subst c7
   have H1 : (laws_FnMergeReports.l0 k 0 t258 t261 t264 t267 t272 t275) = some r := by rw [if_pos rfl] at H; exact H
   clear H
   have H := H1
   clear H1
   have H' := ak H
   clear H
   go_enter Try.func4, Try.ntmps4
   try go_wp2_with (first | ((with_reducible refine gate_callee (f := 18) rfl ?_); refine goesL_ (some 14) rfl rfl Try.func18 (by kernel_rfl) rfl #[.slice A0 l0.length c0] rfl (by (try simp only [List.map_toArray, List.map_cons, List.map_nil]); first | done | rfl | (simp only [List.length_drop, List.length_take]; rfl)) ?_; (with_reducible refine (spec_DrawMergeReports.calls k _ _ l0 t258 t261 t264 t267 _ ?side1 ?side2 A3.out).mono ?_); (case side1 => repeat (first | exact HR0.out | (with_reducible refine Kd.C_alloc ?_ _) | (with_reducible refine Kd.C_drewN ?_ _) | (with_reducible refine Kd.C_drew ?_))); (case side2 => exact HC0.out); rintro e w8 ⟨v259, v262, v265, v268, rfl, ho0, ho1, ho2, ho3, hb⟩; refine ⟨_, rfl, ?_⟩; have n0_ := ak (Kd.R_lower ho0 (below_size (by repeat (first | (with_reducible first | exact HB.out | apply below_alloc | apply pw_below_drewN | apply below_drew1) | exact HB.out)))); have n1_ := ak (Kd.R_lower ho1 (below_size (by repeat (first | (with_reducible first | exact HB.out | apply below_alloc | apply pw_below_drewN | apply below_drew1) | exact HB.out)))); have n2_ := ak (Kd.R_lower ho2 (below_size (by repeat (first | (with_reducible first | exact HB.out | apply below_alloc | apply pw_below_drewN | apply below_drew1) | exact HB.out)))); have n3_ := ak (Kd.R_lower ho3 (below_size (by repeat (first | (with_reducible first | exact HB.out | apply below_alloc | apply pw_below_drewN | apply below_drew1) | exact HB.out)))); have n4_ := ak (below_step (by repeat (first | (with_reducible first | exact HB.out | apply below_alloc | apply pw_below_drewN | apply below_drew1) | exact HB.out)) hb); clear HB; have HO260 := n0_; have HO263 := n1_; have HO266 := n2_; have HO269 := n3_; have HB := n4_; clear n0_ n1_ n2_ n3_ n4_; (try clear hb); (try clear hb2); (try clear hk); (try clear hi); (try clear ho0); (try clear ho1); (try clear ho2); (try clear ho3)) | ((with_reducible refine gate_dst (N := 3) rfl ?_); (try (refine gate_guard (by rfl) ?_; dsimp only)); refine box_event ?hg (N := 3) ?hd (cs := #[.slice none 0 0, .slice none 0 0]) (t := 26) ?hr ?_; (case hd => rfl); (case hg => rfl); (case hr => first | (go_simp; done) | (go_simp; rfl)); intro gb270 hg w9 hbox hb; have n0_ := ak (Kd.R_below (rTo HO260.out) hb); have n1_ := ak (Kd.R_below (rTo HO263.out) hb); have n2_ := ak (Kd.R_below (rTo HO266.out) hb); have n3_ := ak (Kd.R_below (rTo HO269.out) hb); have n4_ := ak (below_step (by repeat (first | (with_reducible first | exact HB.out | apply below_alloc | apply pw_below_drewN | apply below_drew1) | exact HB.out)) hb); have n5_ := ak (hbox); have n6_ := ak ((by rw [hg]; exact (below_size (by repeat (first | (with_reducible first | exact HB.out | apply below_alloc | apply pw_below_drewN | apply below_drew1) | exact HB.out))) : w.heap.size ≤ gb270)); have n7_ := ak ((by rw [hg]; exact (below_size (by repeat (first | (with_reducible first | exact HB.out | apply below_alloc | apply pw_below_drewN | apply below_drew1) | exact HB.out))) : w.heap.size ≤ gb270)); clear HO260; clear HO263; clear HO266; clear HO269; clear HB; have HO260 := n0_; have HO263 := n1_; have HO266 := n2_; have HO269 := n3_; have HB := n4_; have BK270 := n5_; have GW270 := n6_; have GE270 := n7_; clear n0_ n1_ n2_ n3_ n4_ n5_ n6_ n7_; clear hb hbox hg) | ((with_reducible refine gate_dst (N := 4) rfl ?_); (try (refine gate_guard (by rfl) ?_; dsimp only)); refine box_event ?hg (N := 4) ?hd (cs := #[.slice none 0 0, .slice none 0 0]) (t := 26) ?hr ?_; (case hd => rfl); (case hg => rfl); (case hr => first | (go_simp; done) | (go_simp; rfl)); intro gb271 hg w10 hbox hb; have n0_ := ak (Kd.R_below (rTo HO260.out) hb); have n1_ := ak (Kd.R_below (rTo HO263.out) hb); have n2_ := ak (Kd.R_below (rTo HO266.out) hb); have n3_ := ak (Kd.R_below (rTo HO269.out) hb); have n4_ := ak (blk_below (g := gb270) (o := .cells #[.slice none 0 0, .slice none 0 0] 26 (0, 0)) (bTo BK270.out) hb); have n5_ := ak (below_step (by repeat (first | (with_reducible first | exact HB.out | apply below_alloc | apply pw_below_drewN | apply below_drew1 | refine below_set ?_ GE270.out) | exact HB.out)) hb); have n6_ := ak (hbox); have n7_ := ak ((by rw [hg]; exact (below_size (by repeat (first | (with_reducible first | exact HB.out | apply below_alloc | apply pw_below_drewN | apply below_drew1 | refine below_set ?_ GE270.out) | exact HB.out))) : w.heap.size ≤ gb271)); have n8_ := ak ((by rw [hg]; exact (below_size (by repeat (first | (with_reducible first | exact HB.out | apply below_alloc | apply pw_below_drewN | apply below_drew1 | refine below_set ?_ GE270.out) | exact HB.out))) : w.heap.size ≤ gb271)); have n9_ := ak ((by rw [hg]; exact Nat.ne_of_lt (blk_lt (g := gb270) (o := .cells #[.slice none 0 0, .slice none 0 0] 26 (0, 0)) (bTo BK270.out)) : gb270 ≠ gb271)); have n10_ := ak ((by rw [hg]; exact Nat.ne_of_gt (blk_lt (g := gb270) (o := .cells #[.slice none 0 0, .slice none 0 0] 26 (0, 0)) (bTo BK270.out)) : gb271 ≠ gb270)); clear HO260; clear HO263; clear HO266; clear HO269; clear BK270; clear HB; have HO260 := n0_; have HO263 := n1_; have HO266 := n2_; have HO269 := n3_; have BK270 := n4_; have HB := n5_; have BK271 := n6_; have GW271 := n7_; have GE271 := n8_; have NB270_271 := n9_; have NB271_270 := n10_; clear n0_ n1_ n2_ n3_ n4_ n5_ n6_ n7_ n8_ n9_ n10_; clear hb hbox hg; obtain ⟨Ao11, co11, eo11⟩ := Kd.R_slice HO260.out; subst eo11; have hnb12 := NB270_271.out; have hnc12 := NB271_270.out; have hcz13_0 : w10.cell? ⟨gb270, 0, none⟩ = some (.slice none 0 0) := (blk_cell BK270.out 0).trans rfl; have hcz13_1 : w10.cell? ⟨gb270, 1, none⟩ = some (.slice none 0 0) := (blk_cell BK270.out 1).trans rfl; have hfz13_0 := blk_frozen BK270.out 0; have hfz13_1 := blk_frozen BK270.out 1; obtain ⟨Ao14, co14, eo14⟩ := Kd.R_slice HO263.out; subst eo14; obtain ⟨Ao15, co15, eo15⟩ := Kd.R_slice HO266.out; subst eo15; have hcz16_0 : w10.cell? ⟨gb271, 0, none⟩ = some (.slice none 0 0) := (blk_cell BK271.out 0).trans rfl; have hcz16_1 : w10.cell? ⟨gb271, 1, none⟩ = some (.slice none 0 0) := (blk_cell BK271.out 1).trans rfl; have hfz16_0 := blk_frozen BK271.out 0; have hfz16_1 := blk_frozen BK271.out 1; obtain ⟨Ao17, co17, eo17⟩ := Kd.R_slice HO269.out; subst eo17) | ((with_reducible refine gate_callee (f := 19) rfl ?_); refine goesL_ (some 19) rfl rfl Try.func19 (by kernel_rfl) rfl #[.agg #[.slice Ao11 t258.length co11, .slice Ao14 t261.length co14], .agg #[.slice Ao15 t264.length co15, .slice Ao17 t267.length co17]] rfl (by (try simp only [List.map_toArray, List.map_cons, List.map_nil]); first | done | rfl | (simp only [List.length_drop, List.length_take]; rfl)) ?_; (with_reducible refine (impl_MergeReports.calls k _ _ t258 _ _ t261 _ _ t264 _ _ t267 t272 t275 _ ?side1 ?side2 ?side3 ?side4 ?side5 ?side6 ?side7 ?side8 A4.out).mono ?_); (case side1 => refine (Kd.R_reads' (e := 37) (base := w.heap.size) (ok := fun k_ => some k_ ≠ (.slice Ao15 t264.length co15 : Value).ownBlock) (n := t258.length) (c := co11) ?_).2.2; exact (by (with_reducible repeat (first | apply Kd.R_alloc | apply Kd.R_drewN | apply Kd.R_drew)); exact (Kd.R_mono (Kd.R_mono (Kd.R_far (p := ⟨gb271, 1, none⟩) (Kd.R_far (p := ⟨gb271, 0, none⟩) (Kd.R_far (p := ⟨gb270, 1, none⟩) (Kd.R_far (p := ⟨gb270, 0, none⟩) (Kd.R_types (Kd.R_types HO260.out BK270.out (by decide)) BK271.out (by decide)) (fun _ hk => (gives hk)) (.slice Ao11 t258.length co11)) (fun _ hk => (gives hk)) (.slice Ao14 t261.length co14)) (fun _ hk => hk.2) (.slice Ao15 t264.length co15)) (fun _ hk => hk.2) (.slice Ao17 t267.length co17)) (fun _ h_ => h_.1)) (fun _ h_ => h_.1)))); (case side2 => exact (Kd.R_reads' HO260.out).2.1); (case side3 => refine (Kd.R_reads' (e := 9) (base := w.heap.size) (ok := fun k_ => some k_ ≠ (.slice Ao17 t267.length co17 : Value).ownBlock) (n := t261.length) (c := co14) ?_).2.2; exact (by (with_reducible repeat (first | apply Kd.R_alloc | apply Kd.R_drewN | apply Kd.R_drew)); exact (Kd.R_mono (Kd.R_mono (Kd.R_far (p := ⟨gb271, 1, none⟩) (Kd.R_far (p := ⟨gb271, 0, none⟩) (Kd.R_far (p := ⟨gb270, 1, none⟩) (Kd.R_far (p := ⟨gb270, 0, none⟩) (Kd.R_types (Kd.R_types HO263.out BK270.out (by decide)) BK271.out (by decide)) (fun _ hk => (gives hk)) (.slice Ao11 t258.length co11)) (fun _ hk => (gives hk)) (.slice Ao14 t261.length co14)) (fun _ hk => hk.2) (.slice Ao15 t264.length co15)) (fun _ hk => hk.2) (.slice Ao17 t267.length co17)) (fun _ h_ => h_.1)) (fun _ h_ => h_.1)))); (case side4 => exact (Kd.R_reads' HO263.out).2.1); (case side5 => refine (Kd.R_reads' (e := 37) (base := w.heap.size) (ok := fun k_ => some k_ ≠ (.slice Ao11 t258.length co11 : Value).ownBlock) (n := t264.length) (c := co15) ?_).2.2; exact (by (with_reducible repeat (first | apply Kd.R_alloc | apply Kd.R_drewN | apply Kd.R_drew)); exact (Kd.R_mono (Kd.R_mono (Kd.R_far (p := ⟨gb271, 1, none⟩) (Kd.R_far (p := ⟨gb271, 0, none⟩) (Kd.R_far (p := ⟨gb270, 1, none⟩) (Kd.R_far (p := ⟨gb270, 0, none⟩) (Kd.R_types (Kd.R_types HO266.out BK270.out (by decide)) BK271.out (by decide)) (fun _ hk => (gives hk)) (.slice Ao11 t258.length co11)) (fun _ hk => (gives hk)) (.slice Ao14 t261.length co14)) (fun _ hk => hk.2) (.slice Ao15 t264.length co15)) (fun _ hk => hk.2) (.slice Ao17 t267.length co17)) (fun _ h_ => h_.1)) (fun _ h_ => h_.1)))); (case side6 => exact (Kd.R_reads' HO266.out).2.1); (case side7 => refine (Kd.R_reads' (e := 9) (base := w.heap.size) (ok := fun k_ => some k_ ≠ (.slice Ao14 t261.length co14 : Value).ownBlock) (n := t267.length) (c := co17) ?_).2.2; exact (by (with_reducible repeat (first | apply Kd.R_alloc | apply Kd.R_drewN | apply Kd.R_drew)); exact (Kd.R_mono (Kd.R_mono (Kd.R_far (p := ⟨gb271, 1, none⟩) (Kd.R_far (p := ⟨gb271, 0, none⟩) (Kd.R_far (p := ⟨gb270, 1, none⟩) (Kd.R_far (p := ⟨gb270, 0, none⟩) (Kd.R_types (Kd.R_types HO269.out BK270.out (by decide)) BK271.out (by decide)) (fun _ hk => (gives hk)) (.slice Ao11 t258.length co11)) (fun _ hk => (gives hk)) (.slice Ao14 t261.length co14)) (fun _ hk => hk.2) (.slice Ao15 t264.length co15)) (fun _ hk => hk.2) (.slice Ao17 t267.length co17)) (fun _ h_ => h_.1)) (fun _ h_ => h_.1)))); (case side8 => exact (Kd.R_reads' HO269.out).2.1); rintro e w18 ⟨v273, v276, rfl, ho0, ho1, hb⟩; refine ⟨_, rfl, ?_⟩; have n0_ := ak (Kd.R_elder' (by (with_reducible repeat (first | apply Kd.R_alloc | apply Kd.R_drewN | apply Kd.R_drew)); exact (Kd.R_mono (Kd.R_mono (Kd.R_far (p := ⟨gb271, 1, none⟩) (Kd.R_far (p := ⟨gb271, 0, none⟩) (Kd.R_far (p := ⟨gb270, 1, none⟩) (Kd.R_far (p := ⟨gb270, 0, none⟩) (Kd.R_types (Kd.R_types HO260.out BK270.out (by decide)) BK271.out (by decide)) (fun _ hk => (gives hk)) (.slice Ao11 t258.length co11)) (fun _ hk => (gives hk)) (.slice Ao14 t261.length co14)) (fun _ hk => hk.2) (.slice Ao15 t264.length co15)) (fun _ hk => hk.2) (.slice Ao17 t267.length co17)) (fun _ h_ => h_.1)) (fun _ h_ => h_.1))) (Kd.R_base ho0) hb); have n1_ := ak (Kd.R_elder' (by (with_reducible repeat (first | apply Kd.R_alloc | apply Kd.R_drewN | apply Kd.R_drew)); exact (Kd.R_mono (Kd.R_mono (Kd.R_far (p := ⟨gb271, 1, none⟩) (Kd.R_far (p := ⟨gb271, 0, none⟩) (Kd.R_far (p := ⟨gb270, 1, none⟩) (Kd.R_far (p := ⟨gb270, 0, none⟩) (Kd.R_types (Kd.R_types HO263.out BK270.out (by decide)) BK271.out (by decide)) (fun _ hk => (gives hk)) (.slice Ao11 t258.length co11)) (fun _ hk => (gives hk)) (.slice Ao14 t261.length co14)) (fun _ hk => hk.2) (.slice Ao15 t264.length co15)) (fun _ hk => hk.2) (.slice Ao17 t267.length co17)) (fun _ h_ => h_.1)) (fun _ h_ => h_.1))) (Kd.R_base ho1) hb); have n2_ := ak (Kd.R_elder' (by (with_reducible repeat (first | apply Kd.R_alloc | apply Kd.R_drewN | apply Kd.R_drew)); exact (Kd.R_mono (Kd.R_mono (Kd.R_far (p := ⟨gb271, 1, none⟩) (Kd.R_far (p := ⟨gb271, 0, none⟩) (Kd.R_far (p := ⟨gb270, 1, none⟩) (Kd.R_far (p := ⟨gb270, 0, none⟩) (Kd.R_types (Kd.R_types HO266.out BK270.out (by decide)) BK271.out (by decide)) (fun _ hk => (gives hk)) (.slice Ao11 t258.length co11)) (fun _ hk => (gives hk)) (.slice Ao14 t261.length co14)) (fun _ hk => hk.2) (.slice Ao15 t264.length co15)) (fun _ hk => hk.2) (.slice Ao17 t267.length co17)) (fun _ h_ => h_.1)) (fun _ h_ => h_.1))) (Kd.R_base ho0) hb); have n3_ := ak (Kd.R_elder' (by (with_reducible repeat (first | apply Kd.R_alloc | apply Kd.R_drewN | apply Kd.R_drew)); exact (Kd.R_mono (Kd.R_mono (Kd.R_far (p := ⟨gb271, 1, none⟩) (Kd.R_far (p := ⟨gb271, 0, none⟩) (Kd.R_far (p := ⟨gb270, 1, none⟩) (Kd.R_far (p := ⟨gb270, 0, none⟩) (Kd.R_types (Kd.R_types HO269.out BK270.out (by decide)) BK271.out (by decide)) (fun _ hk => (gives hk)) (.slice Ao11 t258.length co11)) (fun _ hk => (gives hk)) (.slice Ao14 t261.length co14)) (fun _ hk => hk.2) (.slice Ao15 t264.length co15)) (fun _ hk => hk.2) (.slice Ao17 t267.length co17)) (fun _ h_ => h_.1)) (fun _ h_ => h_.1))) (Kd.R_base ho1) hb); have n4_ := ak (Kd.R_lower (Kd.R_new' (Kd.R_new' ho0 (Kd.R_lt (by (with_reducible repeat (first | apply Kd.R_alloc | apply Kd.R_drewN | apply Kd.R_drew)); exact (Kd.R_mono (Kd.R_mono (Kd.R_far (p := ⟨gb271, 1, none⟩) (Kd.R_far (p := ⟨gb271, 0, none⟩) (Kd.R_far (p := ⟨gb270, 1, none⟩) (Kd.R_far (p := ⟨gb270, 0, none⟩) (Kd.R_types (Kd.R_types HO260.out BK270.out (by decide)) BK271.out (by decide)) (fun _ hk => (gives hk)) (.slice Ao11 t258.length co11)) (fun _ hk => (gives hk)) (.slice Ao14 t261.length co14)) (fun _ hk => hk.2) (.slice Ao15 t264.length co15)) (fun _ hk => hk.2) (.slice Ao17 t267.length co17)) (fun _ h_ => h_.1)) (fun _ h_ => h_.1))))) (Kd.R_lt (by (with_reducible repeat (first | apply Kd.R_alloc | apply Kd.R_drewN | apply Kd.R_drew)); exact (Kd.R_mono (Kd.R_mono (Kd.R_far (p := ⟨gb271, 1, none⟩) (Kd.R_far (p := ⟨gb271, 0, none⟩) (Kd.R_far (p := ⟨gb270, 1, none⟩) (Kd.R_far (p := ⟨gb270, 0, none⟩) (Kd.R_types (Kd.R_types HO266.out BK270.out (by decide)) BK271.out (by decide)) (fun _ hk => (gives hk)) (.slice Ao11 t258.length co11)) (fun _ hk => (gives hk)) (.slice Ao14 t261.length co14)) (fun _ hk => hk.2) (.slice Ao15 t264.length co15)) (fun _ hk => hk.2) (.slice Ao17 t267.length co17)) (fun _ h_ => h_.1)) (fun _ h_ => h_.1))))) (below_size (by repeat (first | (with_reducible first | exact HB.out | apply below_alloc | apply pw_below_drewN | apply below_drew1 | refine below_set ?_ GE270.out | refine below_set ?_ GE271.out) | exact HB.out)))); have n5_ := ak (Kd.R_lower (Kd.R_new' (Kd.R_new' ho1 (Kd.R_lt (by (with_reducible repeat (first | apply Kd.R_alloc | apply Kd.R_drewN | apply Kd.R_drew)); exact (Kd.R_mono (Kd.R_mono (Kd.R_far (p := ⟨gb271, 1, none⟩) (Kd.R_far (p := ⟨gb271, 0, none⟩) (Kd.R_far (p := ⟨gb270, 1, none⟩) (Kd.R_far (p := ⟨gb270, 0, none⟩) (Kd.R_types (Kd.R_types HO263.out BK270.out (by decide)) BK271.out (by decide)) (fun _ hk => (gives hk)) (.slice Ao11 t258.length co11)) (fun _ hk => (gives hk)) (.slice Ao14 t261.length co14)) (fun _ hk => hk.2) (.slice Ao15 t264.length co15)) (fun _ hk => hk.2) (.slice Ao17 t267.length co17)) (fun _ h_ => h_.1)) (fun _ h_ => h_.1))))) (Kd.R_lt (by (with_reducible repeat (first | apply Kd.R_alloc | apply Kd.R_drewN | apply Kd.R_drew)); exact (Kd.R_mono (Kd.R_mono (Kd.R_far (p := ⟨gb271, 1, none⟩) (Kd.R_far (p := ⟨gb271, 0, none⟩) (Kd.R_far (p := ⟨gb270, 1, none⟩) (Kd.R_far (p := ⟨gb270, 0, none⟩) (Kd.R_types (Kd.R_types HO269.out BK270.out (by decide)) BK271.out (by decide)) (fun _ hk => (gives hk)) (.slice Ao11 t258.length co11)) (fun _ hk => (gives hk)) (.slice Ao14 t261.length co14)) (fun _ hk => hk.2) (.slice Ao15 t264.length co15)) (fun _ hk => hk.2) (.slice Ao17 t267.length co17)) (fun _ h_ => h_.1)) (fun _ h_ => h_.1))))) (below_size (by repeat (first | (with_reducible first | exact HB.out | apply below_alloc | apply pw_below_drewN | apply below_drew1 | refine below_set ?_ GE270.out | refine below_set ?_ GE271.out) | exact HB.out)))); have n6_ := ak (blk_below (g := gb270) (o := .cells #[.slice Ao11 t258.length co11, .slice Ao14 t261.length co14] 26 (0, 0)) (by (with_reducible repeat (first | apply blk_drewN | apply blk_drew | apply blk_alloc)); refine blk_far ?_ NB270_271.out _; (with_reducible repeat (first | apply blk_drewN | apply blk_drew | apply blk_alloc)); refine blk_far ?_ NB270_271.out _; (with_reducible repeat (first | apply blk_drewN | apply blk_drew | apply blk_alloc)); refine blk_put (cs := #[.slice Ao11 t258.length co11, .slice none 0 0]) ?_ 1 _ rfl; (with_reducible repeat (first | apply blk_drewN | apply blk_drew | apply blk_alloc)); refine blk_put (cs := #[.slice none 0 0, .slice none 0 0]) ?_ 0 _ rfl; (with_reducible repeat (first | apply blk_drewN | apply blk_drew | apply blk_alloc)); exact BK270.out) hb); have n7_ := ak (blk_below (g := gb271) (o := .cells #[.slice Ao15 t264.length co15, .slice Ao17 t267.length co17] 26 (0, 0)) (by (with_reducible repeat (first | apply blk_drewN | apply blk_drew | apply blk_alloc)); refine blk_put (cs := #[.slice Ao15 t264.length co15, .slice none 0 0]) ?_ 1 _ rfl; (with_reducible repeat (first | apply blk_drewN | apply blk_drew | apply blk_alloc)); refine blk_put (cs := #[.slice none 0 0, .slice none 0 0]) ?_ 0 _ rfl; (with_reducible repeat (first | apply blk_drewN | apply blk_drew | apply blk_alloc)); refine blk_far ?_ NB271_270.out _; (with_reducible repeat (first | apply blk_drewN | apply blk_drew | apply blk_alloc)); refine blk_far ?_ NB271_270.out _; (with_reducible repeat (first | apply blk_drewN | apply blk_drew | apply blk_alloc)); exact BK271.out) hb); have n8_ := ak (below_step (by repeat (first | (with_reducible first | exact HB.out | apply below_alloc | apply pw_below_drewN | apply below_drew1 | refine below_set ?_ GE270.out | refine below_set ?_ GE271.out) | exact HB.out)) hb); clear HO260; clear HO263; clear HO266; clear HO269; clear BK270; clear BK271; clear HB; have HO260 := n0_; have HO263 := n1_; have HO266 := n2_; have HO269 := n3_; have HO274 := n4_; have HO277 := n5_; have BK270 := n6_; have BK271 := n7_; have HB := n8_; clear n0_ n1_ n2_ n3_ n4_ n5_ n6_ n7_ n8_; (try clear hb); (try clear hb2); (try clear hk); (try clear hi); (try clear ho0); (try clear ho1)) | ((with_reducible refine gate_dst (N := 5) rfl ?_); (try (refine gate_guard (by rfl) ?_; dsimp only)); refine box_event ?hg (N := 5) ?hd (cs := #[.slice none 0 0, .slice none 0 0]) (t := 26) ?hr ?_; (case hd => rfl); (case hg => rfl); (case hr => first | (go_simp; done) | (go_simp; rfl)); intro gb278 hg w19 hbox hb; have n0_ := ak (Kd.R_below (rTo HO260.out) hb); have n1_ := ak (Kd.R_below (rTo HO263.out) hb); have n2_ := ak (Kd.R_below (rTo HO266.out) hb); have n3_ := ak (Kd.R_below (rTo HO269.out) hb); have n4_ := ak (Kd.R_below (rTo HO274.out) hb); have n5_ := ak (Kd.R_below (rTo HO277.out) hb); have n6_ := ak (blk_below (g := gb270) (o := .cells #[.slice Ao11 t258.length co11, .slice Ao14 t261.length co14] 26 (0, 0)) (bTo BK270.out) hb); have n7_ := ak (blk_below (g := gb271) (o := .cells #[.slice Ao15 t264.length co15, .slice Ao17 t267.length co17] 26 (0, 0)) (bTo BK271.out) hb); have n8_ := ak (below_step (by repeat (first | (with_reducible first | exact HB.out | apply below_alloc | apply pw_below_drewN | apply below_drew1 | refine below_set ?_ GE270.out | refine below_set ?_ GE271.out) | exact HB.out)) hb); have n9_ := ak (hbox); have n10_ := ak ((by rw [hg]; exact (below_size (by repeat (first | (with_reducible first | exact HB.out | apply below_alloc | apply pw_below_drewN | apply below_drew1 | refine below_set ?_ GE270.out | refine below_set ?_ GE271.out) | exact HB.out))) : w.heap.size ≤ gb278)); have n11_ := ak ((by rw [hg]; exact (below_size (by repeat (first | (with_reducible first | exact HB.out | apply below_alloc | apply pw_below_drewN | apply below_drew1 | refine below_set ?_ GE270.out | refine below_set ?_ GE271.out) | exact HB.out))) : w.heap.size ≤ gb278)); have n12_ := ak ((by rw [hg]; exact Nat.ne_of_lt (blk_lt (g := gb270) (o := .cells #[.slice Ao11 t258.length co11, .slice Ao14 t261.length co14] 26 (0, 0)) (bTo BK270.out)) : gb270 ≠ gb278)); have n13_ := ak ((by rw [hg]; exact Nat.ne_of_gt (blk_lt (g := gb270) (o := .cells #[.slice Ao11 t258.length co11, .slice Ao14 t261.length co14] 26 (0, 0)) (bTo BK270.out)) : gb278 ≠ gb270)); have n14_ := ak ((by rw [hg]; exact Nat.ne_of_lt (blk_lt (g := gb271) (o := .cells #[.slice Ao15 t264.length co15, .slice Ao17 t267.length co17] 26 (0, 0)) (bTo BK271.out)) : gb271 ≠ gb278)); have n15_ := ak ((by rw [hg]; exact Nat.ne_of_gt (blk_lt (g := gb271) (o := .cells #[.slice Ao15 t264.length co15, .slice Ao17 t267.length co17] 26 (0, 0)) (bTo BK271.out)) : gb278 ≠ gb271)); clear HO260; clear HO263; clear HO266; clear HO269; clear HO274; clear HO277; clear BK270; clear BK271; clear HB; have HO260 := n0_; have HO263 := n1_; have HO266 := n2_; have HO269 := n3_; have HO274 := n4_; have HO277 := n5_; have BK270 := n6_; have BK271 := n7_; have HB := n8_; have BK278 := n9_; have GW278 := n10_; have GE278 := n11_; have NB270_278 := n12_; have NB278_270 := n13_; have NB271_278 := n14_; have NB278_271 := n15_; clear n0_ n1_ n2_ n3_ n4_ n5_ n6_ n7_ n8_ n9_ n10_ n11_ n12_ n13_ n14_ n15_; clear hb hbox hg; obtain ⟨Ao20, co20, eo20⟩ := Kd.R_slice HO274.out; subst eo20; have hnb21 := NB278_270.out; have hnc21 := NB270_278.out; have hnb22 := NB278_271.out; have hnc22 := NB271_278.out; have hcz23_0 : w19.cell? ⟨gb278, 0, none⟩ = some (.slice none 0 0) := (blk_cell BK278.out 0).trans rfl; have hcz23_1 : w19.cell? ⟨gb278, 1, none⟩ = some (.slice none 0 0) := (blk_cell BK278.out 1).trans rfl; have hfz23_0 := blk_frozen BK278.out 0; have hfz23_1 := blk_frozen BK278.out 1; obtain ⟨Ao24, co24, eo24⟩ := Kd.R_slice HO277.out; subst eo24))
   have n0_ : Aside0 (Kd.R k37 37 ((w19.setCell ⟨gb278, 0, none⟩ (.slice Ao20 t272.length co20)).setCell ⟨gb278, 1, none⟩ (.slice Ao24 t275.length co24)) w.heap.size (fun k_ => some k_ ≠ (.slice Ao15 t264.length co15 : Value).ownBlock ∧ some k_ ≠ (.slice Ao20 t272.length co20 : Value).ownBlock) (.slice Ao11 t258.length co11) t258) := ⟨by (with_reducible repeat (first | apply Kd.R_alloc | apply Kd.R_drewN | apply Kd.R_drew)); exact Kd.R_mono (Kd.R_far (p := ⟨gb278, 1, none⟩) (Kd.R_far (p := ⟨gb278, 0, none⟩) (Kd.R_types HO260.out BK278.out (by decide)) (fun _ hk => hk.2) (.slice Ao20 t272.length co20)) (fun _ hk => hk.2) (.slice Ao24 t275.length co24)) (fun _ hk => ⟨(gives hk), (gives hk)⟩)⟩
   have n1_ : Aside0 (Kd.R Kd.string 9 ((w19.setCell ⟨gb278, 0, none⟩ (.slice Ao20 t272.length co20)).setCell ⟨gb278, 1, none⟩ (.slice Ao24 t275.length co24)) w.heap.size (fun k_ => some k_ ≠ (.slice Ao17 t267.length co17 : Value).ownBlock ∧ some k_ ≠ (.slice Ao24 t275.length co24 : Value).ownBlock) (.slice Ao14 t261.length co14) t261) := ⟨by (with_reducible repeat (first | apply Kd.R_alloc | apply Kd.R_drewN | apply Kd.R_drew)); exact Kd.R_mono (Kd.R_far (p := ⟨gb278, 1, none⟩) (Kd.R_far (p := ⟨gb278, 0, none⟩) (Kd.R_types HO263.out BK278.out (by decide)) (fun _ hk => hk.2) (.slice Ao20 t272.length co20)) (fun _ hk => hk.2) (.slice Ao24 t275.length co24)) (fun _ hk => ⟨(gives hk), (gives hk)⟩)⟩
   have n2_ : Aside0 (Kd.R k37 37 ((w19.setCell ⟨gb278, 0, none⟩ (.slice Ao20 t272.length co20)).setCell ⟨gb278, 1, none⟩ (.slice Ao24 t275.length co24)) w.heap.size (fun k_ => some k_ ≠ (.slice Ao11 t258.length co11 : Value).ownBlock ∧ some k_ ≠ (.slice Ao20 t272.length co20 : Value).ownBlock) (.slice Ao15 t264.length co15) t264) := ⟨by (with_reducible repeat (first | apply Kd.R_alloc | apply Kd.R_drewN | apply Kd.R_drew)); exact Kd.R_mono (Kd.R_far (p := ⟨gb278, 1, none⟩) (Kd.R_far (p := ⟨gb278, 0, none⟩) (Kd.R_types HO266.out BK278.out (by decide)) (fun _ hk => hk.2) (.slice Ao20 t272.length co20)) (fun _ hk => hk.2) (.slice Ao24 t275.length co24)) (fun _ hk => ⟨(gives hk), (gives hk)⟩)⟩
   have n3_ : Aside0 (Kd.R Kd.string 9 ((w19.setCell ⟨gb278, 0, none⟩ (.slice Ao20 t272.length co20)).setCell ⟨gb278, 1, none⟩ (.slice Ao24 t275.length co24)) w.heap.size (fun k_ => some k_ ≠ (.slice Ao14 t261.length co14 : Value).ownBlock ∧ some k_ ≠ (.slice Ao24 t275.length co24 : Value).ownBlock) (.slice Ao17 t267.length co17) t267) := ⟨by (with_reducible repeat (first | apply Kd.R_alloc | apply Kd.R_drewN | apply Kd.R_drew)); exact Kd.R_mono (Kd.R_far (p := ⟨gb278, 1, none⟩) (Kd.R_far (p := ⟨gb278, 0, none⟩) (Kd.R_types HO269.out BK278.out (by decide)) (fun _ hk => hk.2) (.slice Ao20 t272.length co20)) (fun _ hk => hk.2) (.slice Ao24 t275.length co24)) (fun _ hk => ⟨(gives hk), (gives hk)⟩)⟩
   have n4_ : Aside0 (Kd.R k37 37 ((w19.setCell ⟨gb278, 0, none⟩ (.slice Ao20 t272.length co20)).setCell ⟨gb278, 1, none⟩ (.slice Ao24 t275.length co24)) w.heap.size (fun k_ => some k_ ≠ (.slice Ao11 t258.length co11 : Value).ownBlock ∧ some k_ ≠ (.slice Ao15 t264.length co15 : Value).ownBlock) (.slice Ao20 t272.length co20) t272) := ⟨by (with_reducible repeat (first | apply Kd.R_alloc | apply Kd.R_drewN | apply Kd.R_drew)); exact Kd.R_mono (Kd.R_far (p := ⟨gb278, 1, none⟩) (Kd.R_far (p := ⟨gb278, 0, none⟩) (Kd.R_types HO274.out BK278.out (by decide)) (fun _ hk => hk.2) (.slice Ao20 t272.length co20)) (fun _ hk => hk.2) (.slice Ao24 t275.length co24)) (fun _ hk => ⟨(gives hk), (gives hk)⟩)⟩
   have n5_ : Aside0 (Kd.R Kd.string 9 ((w19.setCell ⟨gb278, 0, none⟩ (.slice Ao20 t272.length co20)).setCell ⟨gb278, 1, none⟩ (.slice Ao24 t275.length co24)) w.heap.size (fun k_ => some k_ ≠ (.slice Ao14 t261.length co14 : Value).ownBlock ∧ some k_ ≠ (.slice Ao17 t267.length co17 : Value).ownBlock) (.slice Ao24 t275.length co24) t275) := ⟨by (with_reducible repeat (first | apply Kd.R_alloc | apply Kd.R_drewN | apply Kd.R_drew)); exact Kd.R_mono (Kd.R_far (p := ⟨gb278, 1, none⟩) (Kd.R_far (p := ⟨gb278, 0, none⟩) (Kd.R_types HO277.out BK278.out (by decide)) (fun _ hk => hk.2) (.slice Ao20 t272.length co20)) (fun _ hk => hk.2) (.slice Ao24 t275.length co24)) (fun _ hk => ⟨(gives hk), (gives hk)⟩)⟩
   have n6_ : Aside0 (((w19.setCell ⟨gb278, 0, none⟩ (.slice Ao20 t272.length co20)).setCell ⟨gb278, 1, none⟩ (.slice Ao24 t275.length co24)).heap[gb270]? = some (.cells #[.slice Ao11 t258.length co11, .slice Ao14 t261.length co14] 26 (0, 0))) := ⟨by (with_reducible repeat (first | apply blk_drewN | apply blk_drew | apply blk_alloc)); refine blk_far ?_ NB270_278.out _; (with_reducible repeat (first | apply blk_drewN | apply blk_drew | apply blk_alloc)); refine blk_far ?_ NB270_278.out _; (with_reducible repeat (first | apply blk_drewN | apply blk_drew | apply blk_alloc)); exact BK270.out⟩
   have n7_ : Aside0 (((w19.setCell ⟨gb278, 0, none⟩ (.slice Ao20 t272.length co20)).setCell ⟨gb278, 1, none⟩ (.slice Ao24 t275.length co24)).heap[gb271]? = some (.cells #[.slice Ao15 t264.length co15, .slice Ao17 t267.length co17] 26 (0, 0))) := ⟨by (with_reducible repeat (first | apply blk_drewN | apply blk_drew | apply blk_alloc)); refine blk_far ?_ NB271_278.out _; (with_reducible repeat (first | apply blk_drewN | apply blk_drew | apply blk_alloc)); refine blk_far ?_ NB271_278.out _; (with_reducible repeat (first | apply blk_drewN | apply blk_drew | apply blk_alloc)); exact BK271.out⟩
   have n8_ : Aside0 (((w19.setCell ⟨gb278, 0, none⟩ (.slice Ao20 t272.length co20)).setCell ⟨gb278, 1, none⟩ (.slice Ao24 t275.length co24)).heap[gb278]? = some (.cells #[.slice Ao20 t272.length co20, .slice Ao24 t275.length co24] 26 (0, 0))) := ⟨by (with_reducible repeat (first | apply blk_drewN | apply blk_drew | apply blk_alloc)); refine blk_put (cs := #[.slice Ao20 t272.length co20, .slice none 0 0]) ?_ 1 _ rfl; (with_reducible repeat (first | apply blk_drewN | apply blk_drew | apply blk_alloc)); refine blk_put (cs := #[.slice none 0 0, .slice none 0 0]) ?_ 0 _ rfl; (with_reducible repeat (first | apply blk_drewN | apply blk_drew | apply blk_alloc)); exact BK278.out⟩
   have n9_ : Aside0 (Below w.heap.size w ((w19.setCell ⟨gb278, 0, none⟩ (.slice Ao20 t272.length co20)).setCell ⟨gb278, 1, none⟩ (.slice Ao24 t275.length co24))) := ⟨by repeat (first | (with_reducible first | exact HB.out | apply below_alloc | apply pw_below_drewN | apply below_drew1 | refine below_set ?_ GE270.out | refine below_set ?_ GE271.out | refine below_set ?_ GE278.out) | exact HB.out)⟩
   (try clear HO260)
   (try clear HO263)
   (try clear HO266)
   (try clear HO269)
   (try clear HO274)
   (try clear HO277)
   (try clear BK270)
   (try clear BK271)
   (try clear BK278)
   (try clear HB)
   generalize ((w19.setCell ⟨gb278, 0, none⟩ (.slice Ao20 t272.length co20)).setCell ⟨gb278, 1, none⟩ (.slice Ao24 t275.length co24)) = w25 at n0_ n1_ n2_ n3_ n4_ n5_ n6_ n7_ n8_ n9_ ⊢
   have HO260 := n0_
   have HO263 := n1_
   have HO266 := n2_
   have HO269 := n3_
   have HO274 := n4_
   have HO277 := n5_
   have BK270 := n6_
   have BK271 := n7_
   have BK278 := n8_
   have HB := n9_
   clear n0_ n1_ n2_ n3_ n4_ n5_ n6_ n7_ n8_ n9_
   have n0_ := ak (Kd.R_drew HO260.out)
   have n1_ := ak (Kd.R_drew HO263.out)
   have n2_ := ak (Kd.R_drew HO266.out)
   have n3_ := ak (Kd.R_drew HO269.out)
   have n4_ := ak (Kd.R_drew HO274.out)
   have n5_ := ak (Kd.R_drew HO277.out)
   have n6_ := ak (blk_drew BK270.out)
   have n7_ := ak (blk_drew BK271.out)
   have n8_ := ak (blk_drew BK278.out)
   have n9_ := ak (below_drew1 HB.out)
   clear HO260
   clear HO263
   clear HO266
   clear HO269
   clear HO274
   clear HO277
   clear BK270
   clear BK271
   clear BK278
   clear HB
   have HO260 := n0_
   have HO263 := n1_
   have HO266 := n2_
   have HO269 := n3_
   have HO274 := n4_
   have HO277 := n5_
   have BK270 := n6_
   have BK271 := n7_
   have BK278 := n8_
   have HB := n9_
   clear n0_ n1_ n2_ n3_ n4_ n5_ n6_ n7_ n8_ n9_
   refine start_ (n := 8) (S := fun w' => w'.cell? ⟨gb278, 0, none⟩ = some (.slice Ao20 t272.length co20) ∧ w'.cell? ⟨gb278, 1, none⟩ = some (.slice Ao24 t275.length co24) ∧ w'.cell? ⟨gb270, 0, none⟩ = some (.slice Ao11 t258.length co11) ∧ w'.cell? ⟨gb270, 1, none⟩ = some (.slice Ao14 t261.length co14) ∧ w'.cell? ⟨gb271, 0, none⟩ = some (.slice Ao15 t264.length co15) ∧ w'.cell? ⟨gb271, 1, none⟩ = some (.slice Ao17 t267.length co17)) (ds := []) #[false, false, false, false, false, false, false, false] (by kernel_rfl) rfl rfl ⟨(blk_cell BK278.out 0).trans rfl, (blk_cell BK278.out 1).trans rfl, (blk_cell BK270.out 0).trans rfl, (blk_cell BK270.out 1).trans rfl, (blk_cell BK271.out 0).trans rfl, (blk_cell BK271.out 1).trans rfl⟩ (fun hHeld => ?_); refine with_tabW laws_FnMergeReports.tab5 laws_FnMergeReports.bits5 (fun HT_ HW_ => ?_)
   generalize w25.drew = w26 at HO260 HO263 HO266 HO269 HO274 HO277 BK270 BK271 BK278 HB hHeld ⊢
   refine take_ (i := 0) (N := some 20) (v := ?_) (a' := ?_) #[true, false, false, false, false, false, false, false] rfl rfl (take_ofW HT_.out HW_.out (by kernel_rfl)) (fun _ _ _ h => h) (Or.inl ⟨by rfl, ?_⟩) hHeld ?_ ?_
   rotate_left
   ·rintro w' ⟨s0, s1, s2, s3, s4, s5⟩
    go_simp
    with_reducible rfl
   rotate_left
   ·simp only [Act.put, List.setIfInBounds_toArray, List.set_cons_zero, List.set_cons_succ, i64_w, i32_w]
    rfl
   refine take_ (i := 1) (N := some 21) (v := ?_) (a' := ?_) #[true, true, false, false, false, false, false, false] rfl rfl (take_ofW HT_.out HW_.out (by kernel_rfl)) (fun _ _ _ h => h) (Or.inl ⟨by rfl, ?_⟩) hHeld ?_ ?_
   rotate_left
   ·rintro w' ⟨s0, s1, s2, s3, s4, s5⟩
    go_simp
    with_reducible rfl
   rotate_left
   ·simp only [Act.put, List.setIfInBounds_toArray, List.set_cons_zero, List.set_cons_succ, i64_w, i32_w]
    rfl
   refine take_ (i := 2) (N := some 22) (v := ?_) (a' := ?_) #[true, true, true, false, false, false, false, false] rfl rfl (take_ofW HT_.out HW_.out (by kernel_rfl)) (fun _ _ _ h => h) (Or.inl ⟨by rfl, ?_⟩) hHeld ?_ ?_
   rotate_left
   ·rintro w' ⟨s0, s1, s2, s3, s4, s5⟩
    go_simp
    with_reducible rfl
   rotate_left
   ·simp only [Act.put, List.setIfInBounds_toArray, List.set_cons_zero, List.set_cons_succ, i64_w, i32_w]
    rfl
   refine one_ (i := 3) (N := some 23) #[true, true, true, true, false, false, false, false] rfl rfl (one_of HT_.out (by kernel_rfl)) (by decide) (fun K hK => ?_)
   refine goes_ Try.func21 (by kernel_rfl) rfl #[.agg #[.slice Ao11 t258.length co11, .slice Ao14 t261.length co14], .agg #[.slice Ao15 t264.length co15, .slice Ao17 t267.length co17]] (by rfl) rfl rfl (by (try simp only [List.map_toArray, List.map_cons, List.map_nil]); first | done | rfl | (simp only [List.length_drop, List.length_take]; rfl)) ?_
   with_reducible refine (spec_MergeReports.calls k _ _ t258 _ _ t261 _ _ t264 _ _ t267 t279 t282 _ ?side1 ?side2 ?side3 ?side4 ?side5 ?side6 ?side7 ?side8 A5.out).mono ?_
   (case side1 => repeat (first | exact (Kd.R_reads' HO260.out).2.2 | (with_reducible refine Kd.C_alloc ?_ _) | (with_reducible refine Kd.C_drewN ?_ _) | (with_reducible refine Kd.C_drew ?_)))
   (case side2 => exact (Kd.R_reads' HO260.out).2.1)
   (case side3 => repeat (first | exact (Kd.R_reads' HO263.out).2.2 | (with_reducible refine Kd.C_alloc ?_ _) | (with_reducible refine Kd.C_drewN ?_ _) | (with_reducible refine Kd.C_drew ?_)))
   (case side4 => exact (Kd.R_reads' HO263.out).2.1)
   (case side5 => repeat (first | exact (Kd.R_reads' HO266.out).2.2 | (with_reducible refine Kd.C_alloc ?_ _) | (with_reducible refine Kd.C_drewN ?_ _) | (with_reducible refine Kd.C_drew ?_)))
   (case side6 => exact (Kd.R_reads' HO266.out).2.1)
   (case side7 => repeat (first | exact (Kd.R_reads' HO269.out).2.2 | (with_reducible refine Kd.C_alloc ?_ _) | (with_reducible refine Kd.C_drewN ?_ _) | (with_reducible refine Kd.C_drew ?_)))
   (case side8 => exact (Kd.R_reads' HO269.out).2.1)
   rintro e w27 ⟨v280, v283, rfl, ho0, ho1, hb⟩
   refine ⟨_, rfl, ?_⟩
   have n0_ := ak (Kd.R_elder' (rTo HO260.out) (Kd.R_base ho0) hb)
   have n1_ := ak (Kd.R_elder' (rTo HO263.out) (Kd.R_base ho1) hb)
   have n2_ := ak (Kd.R_elder' (rTo HO266.out) (Kd.R_base ho0) hb)
   have n3_ := ak (Kd.R_elder' (rTo HO269.out) (Kd.R_base ho1) hb)
   have n4_ := ak (Kd.R_elder' (rTo HO274.out) (Kd.R_base ho0) hb)
   have n5_ := ak (Kd.R_elder' (rTo HO277.out) (Kd.R_base ho1) hb)
   have n6_ := ak (Kd.R_lower (Kd.R_new' (Kd.R_new' (Kd.R_new' ho0 (Kd.R_lt (rTo HO260.out))) (Kd.R_lt (rTo HO266.out))) (Kd.R_lt (rTo HO274.out))) (below_size (by repeat (first | (with_reducible first | exact HB.out | apply below_alloc | apply pw_below_drewN | apply below_drew1 | refine below_set ?_ GE270.out | refine below_set ?_ GE271.out | refine below_set ?_ GE278.out) | exact HB.out))))
   have n7_ := ak (Kd.R_lower (Kd.R_new' (Kd.R_new' (Kd.R_new' ho1 (Kd.R_lt (rTo HO263.out))) (Kd.R_lt (rTo HO269.out))) (Kd.R_lt (rTo HO277.out))) (below_size (by repeat (first | (with_reducible first | exact HB.out | apply below_alloc | apply pw_below_drewN | apply below_drew1 | refine below_set ?_ GE270.out | refine below_set ?_ GE271.out | refine below_set ?_ GE278.out) | exact HB.out))))
   have n8_ := ak (blk_below (g := gb270) (o := .cells #[.slice Ao11 t258.length co11, .slice Ao14 t261.length co14] 26 (0, 0)) (bTo BK270.out) hb)
   have n9_ := ak (blk_below (g := gb271) (o := .cells #[.slice Ao15 t264.length co15, .slice Ao17 t267.length co17] 26 (0, 0)) (bTo BK271.out) hb)
   have n10_ := ak (blk_below (g := gb278) (o := .cells #[.slice Ao20 t272.length co20, .slice Ao24 t275.length co24] 26 (0, 0)) (bTo BK278.out) hb)
   have n11_ := ak (below_step (by repeat (first | (with_reducible first | exact HB.out | apply below_alloc | apply pw_below_drewN | apply below_drew1 | refine below_set ?_ GE270.out | refine below_set ?_ GE271.out | refine below_set ?_ GE278.out) | exact HB.out)) hb)
   clear HO260
   clear HO263
   clear HO266
   clear HO269
   clear HO274
   clear HO277
   clear BK270
   clear BK271
   clear BK278
   clear HB
   have HO260 := n0_
   have HO263 := n1_
   have HO266 := n2_
   have HO269 := n3_
   have HO274 := n4_
   have HO277 := n5_
   have HO281 := n6_
   have HO284 := n7_
   have BK270 := n8_
   have BK271 := n9_
   have BK278 := n10_
   have HB := n11_
   clear n0_ n1_ n2_ n3_ n4_ n5_ n6_ n7_ n8_ n9_ n10_ n11_
   (try clear hb)
   (try clear hb2)
   (try clear hk)
   (try clear hi)
   (try clear ho0)
   (try clear ho1)
   obtain ⟨Ao28, co28, eo28⟩ := Kd.R_slice HO281.out
   (first | subst eo28 | (injection eo28 with f1_ f2_ f3_; have f4_ := f1_.symm; have f5_ := f3_.symm; clear f1_ f2_ f3_; subst f4_; subst f5_))
   obtain ⟨Ao29, co29, eo29⟩ := Kd.R_slice HO284.out
   (first | subst eo29 | (injection eo29 with f1_ f2_ f3_; have f4_ := f1_.symm; have f5_ := f3_.symm; clear f1_ f2_ f3_; subst f4_; subst f5_))
   refine hK.out _ _ ⟨(blk_cell BK278.out 0).trans rfl, (blk_cell BK278.out 1).trans rfl, (blk_cell BK270.out 0).trans rfl, (blk_cell BK270.out 1).trans rfl, (blk_cell BK271.out 0).trans rfl, (blk_cell BK271.out 1).trans rfl⟩ (fun hHeld => ?_)
   clear hK K
   refine norm_ (a' := ?_) ?_ ?_
   rotate_left
   ·show Act.put _ (some 23) _ = _
    simp only [Act.put, List.setIfInBounds_toArray, List.set_cons_zero, List.set_cons_succ, i64_w, i32_w]
    rfl
   refine one_ (i := 4) (N := some 24) #[true, true, true, true, true, false, false, false] rfl rfl (one_of HT_.out (by kernel_rfl)) (by decide) (fun K hK => ?_)
   refine goes_ Try.func20 (by kernel_rfl) rfl #[.agg #[.slice Ao20 t272.length co20, .slice Ao24 t275.length co24], .agg #[.slice Ao28 t279.length co28, .slice Ao29 t282.length co29]] (by rfl) rfl rfl (by (try simp only [List.map_toArray, List.map_cons, List.map_nil]); first | done | rfl | (simp only [List.length_drop, List.length_take]; rfl)) ?_
   with_reducible refine (laws_equalReport.calls k _ _ t272 _ _ t275 _ _ t279 _ _ t282 true _ ?side1 ?side2 ?side3 ?side4 ?side5 ?side6 ?side7 ?side8 A6.out).mono ?_
   (case side1 => repeat (first | exact (Kd.R_reads' HO274.out).2.2 | (with_reducible refine Kd.C_alloc ?_ _) | (with_reducible refine Kd.C_drewN ?_ _) | (with_reducible refine Kd.C_drew ?_)))
   (case side2 => exact (Kd.R_reads' HO274.out).2.1)
   (case side3 => repeat (first | exact (Kd.R_reads' HO277.out).2.2 | (with_reducible refine Kd.C_alloc ?_ _) | (with_reducible refine Kd.C_drewN ?_ _) | (with_reducible refine Kd.C_drew ?_)))
   (case side4 => exact (Kd.R_reads' HO277.out).2.1)
   (case side5 => repeat (first | exact (Kd.R_reads' HO281.out).2.2 | (with_reducible refine Kd.C_alloc ?_ _) | (with_reducible refine Kd.C_drewN ?_ _) | (with_reducible refine Kd.C_drew ?_)))
   (case side6 => exact (Kd.R_reads' HO281.out).2.1)
   (case side7 => repeat (first | exact (Kd.R_reads' HO284.out).2.2 | (with_reducible refine Kd.C_alloc ?_ _) | (with_reducible refine Kd.C_drewN ?_ _) | (with_reducible refine Kd.C_drew ?_)))
   (case side8 => exact (Kd.R_reads' HO284.out).2.1)
   rintro e w30 ⟨rfl, hb⟩
   refine ⟨_, rfl, ?_⟩
   have n0_ := ak (Kd.R_below (rTo HO260.out) hb)
   have n1_ := ak (Kd.R_below (rTo HO263.out) hb)
   have n2_ := ak (Kd.R_below (rTo HO266.out) hb)
   have n3_ := ak (Kd.R_below (rTo HO269.out) hb)
   have n4_ := ak (Kd.R_below (rTo HO274.out) hb)
   have n5_ := ak (Kd.R_below (rTo HO277.out) hb)
   have n6_ := ak (Kd.R_below (rTo HO281.out) hb)
   have n7_ := ak (Kd.R_below (rTo HO284.out) hb)
   have n8_ := ak (blk_below (g := gb270) (o := .cells #[.slice Ao11 t258.length co11, .slice Ao14 t261.length co14] 26 (0, 0)) (bTo BK270.out) hb)
   have n9_ := ak (blk_below (g := gb271) (o := .cells #[.slice Ao15 t264.length co15, .slice Ao17 t267.length co17] 26 (0, 0)) (bTo BK271.out) hb)
   have n10_ := ak (blk_below (g := gb278) (o := .cells #[.slice Ao20 t272.length co20, .slice Ao24 t275.length co24] 26 (0, 0)) (bTo BK278.out) hb)
   have n11_ := ak (below_step (by repeat (first | (with_reducible first | exact HB.out | apply below_alloc | apply pw_below_drewN | apply below_drew1 | refine below_set ?_ GE270.out | refine below_set ?_ GE271.out | refine below_set ?_ GE278.out) | exact HB.out)) hb)
   clear HO260
   clear HO263
   clear HO266
   clear HO269
   clear HO274
   clear HO277
   clear HO281
   clear HO284
   clear BK270
   clear BK271
   clear BK278
   clear HB
   have HO260 := n0_
   have HO263 := n1_
   have HO266 := n2_
   have HO269 := n3_
   have HO274 := n4_
   have HO277 := n5_
   have HO281 := n6_
   have HO284 := n7_
   have BK270 := n8_
   have BK271 := n9_
   have BK278 := n10_
   have HB := n11_
   clear n0_ n1_ n2_ n3_ n4_ n5_ n6_ n7_ n8_ n9_ n10_ n11_
   (try clear hb)
   (try clear hb2)
   (try clear hk)
   (try clear hi)
   refine hK.out _ _ ⟨(blk_cell BK278.out 0).trans rfl, (blk_cell BK278.out 1).trans rfl, (blk_cell BK270.out 0).trans rfl, (blk_cell BK270.out 1).trans rfl, (blk_cell BK271.out 0).trans rfl, (blk_cell BK271.out 1).trans rfl⟩ (fun hHeld => ?_)
   clear hK K
   refine norm_ (a' := ?_) ?_ ?_
   rotate_left
   ·show Act.put _ (some 24) _ = _
    simp only [Act.put, List.setIfInBounds_toArray, List.set_cons_zero, List.set_cons_succ, i64_w, i32_w]
    rfl
   refine pure_ (i := 5) (N := some 25) (v := ?_) (a' := ?_) #[true, true, true, true, true, true, false, false] rfl rfl (any_of HT_.out (by kernel_rfl)) (fun _ _ _ h => h) (Or.inl ⟨by rfl, ?_⟩) ?_ ?_
   rotate_left
   ·intro w'
    go_simp
    with_reducible rfl
   rotate_left
   ·simp only [Act.put, List.setIfInBounds_toArray, List.set_cons_zero, List.set_cons_succ, i64_w, i32_w]
    rfl
   refine pure_ (i := 6) (N := some 26) (v := ?_) (a' := ?_) #[true, true, true, true, true, true, true, false] rfl rfl (any_of HT_.out (by kernel_rfl)) (fun _ _ _ h => h) (Or.inl ⟨by rfl, ?_⟩) ?_ ?_
   rotate_left
   ·intro w'
    go_simp
    with_reducible rfl
   rotate_left
   ·simp only [Act.put, List.setIfInBounds_toArray, List.set_cons_zero, List.set_cons_succ, i64_w, i32_w]
    rfl
   refine pure_ (i := 7) (N := some 27) (v := ?_) (a' := ?_) #[true, true, true, true, true, true, true, true] rfl rfl (any_of HT_.out (by kernel_rfl)) (fun _ _ _ h => h) (Or.inl ⟨by rfl, ?_⟩) ?_ ?_
   rotate_left
   ·intro w'
    go_simp
    with_reducible rfl
   rotate_left
   ·simp only [Act.put, List.setIfInBounds_toArray, List.set_cons_zero, List.set_cons_succ, i64_w, i32_w]
    rfl
   refine done_ (done_of HT_.out (by kernel_rfl)) ?_
   try go_wp2
   go_loopg [6] k (fun kq v6 w' => ∃ (x6_1 : Int), v6 = .int .i64 x6_1 ∧ Aside0 (laws_FnMergeReports.l0 kq x6_1 t258 t261 t264 t267 t272 t275 = some r) ∧ Aside0 (kq ≤ k) ∧ Aside0 (Kd.R k37 37 w' w.heap.size (fun k_ => some k_ ≠ ((.slice Ao15 t264.length co15) : Value).ownBlock ∧ some k_ ≠ ((.slice Ao20 t272.length co20) : Value).ownBlock) (.slice Ao11 t258.length co11) t258) ∧ Aside0 (Kd.R Kd.string 9 w' w.heap.size (fun k_ => some k_ ≠ ((.slice Ao17 t267.length co17) : Value).ownBlock ∧ some k_ ≠ ((.slice Ao24 t275.length co24) : Value).ownBlock) (.slice Ao14 t261.length co14) t261) ∧ Aside0 (Kd.R k37 37 w' w.heap.size (fun k_ => some k_ ≠ ((.slice Ao11 t258.length co11) : Value).ownBlock ∧ some k_ ≠ ((.slice Ao20 t272.length co20) : Value).ownBlock) (.slice Ao15 t264.length co15) t264) ∧ Aside0 (Kd.R Kd.string 9 w' w.heap.size (fun k_ => some k_ ≠ ((.slice Ao14 t261.length co14) : Value).ownBlock ∧ some k_ ≠ ((.slice Ao24 t275.length co24) : Value).ownBlock) (.slice Ao17 t267.length co17) t267) ∧ Aside0 (Kd.R k37 37 w' w.heap.size (fun k_ => some k_ ≠ ((.slice Ao11 t258.length co11) : Value).ownBlock ∧ some k_ ≠ ((.slice Ao15 t264.length co15) : Value).ownBlock) (.slice Ao20 t272.length co20) t272) ∧ Aside0 (Kd.R Kd.string 9 w' w.heap.size (fun k_ => some k_ ≠ ((.slice Ao14 t261.length co14) : Value).ownBlock ∧ some k_ ≠ ((.slice Ao17 t267.length co17) : Value).ownBlock) (.slice Ao24 t275.length co24) t275) ∧ Aside0 (w'.heap[gb270]? = some (.cells #[(.slice Ao11 t258.length co11), (.slice Ao14 t261.length co14)] 26 (0, 0))) ∧ Aside0 (w'.heap[gb271]? = some (.cells #[(.slice Ao15 t264.length co15), (.slice Ao17 t267.length co17)] 26 (0, 0))) ∧ Aside0 (w'.heap[gb278]? = some (.cells #[(.slice Ao20 t272.length co20), (.slice Ao24 t275.length co24)] 26 (0, 0))) ∧ Aside0 (Below w.heap.size w w'))
   case atStart => exact ⟨(0), (by first | rfl | (simp; done) | (simp [*]; done)), H', ⟨Nat.le_refl _⟩, ⟨by (with_reducible repeat (first | apply Kd.R_alloc | apply Kd.R_drewN | apply Kd.R_drew)); exact Kd.R_mono HO260.out (fun _ hk => ⟨(gives hk), (gives hk)⟩)⟩, ⟨by (with_reducible repeat (first | apply Kd.R_alloc | apply Kd.R_drewN | apply Kd.R_drew)); exact Kd.R_mono HO263.out (fun _ hk => ⟨(gives hk), (gives hk)⟩)⟩, ⟨by (with_reducible repeat (first | apply Kd.R_alloc | apply Kd.R_drewN | apply Kd.R_drew)); exact Kd.R_mono HO266.out (fun _ hk => ⟨(gives hk), (gives hk)⟩)⟩, ⟨by (with_reducible repeat (first | apply Kd.R_alloc | apply Kd.R_drewN | apply Kd.R_drew)); exact Kd.R_mono HO269.out (fun _ hk => ⟨(gives hk), (gives hk)⟩)⟩, ⟨by (with_reducible repeat (first | apply Kd.R_alloc | apply Kd.R_drewN | apply Kd.R_drew)); exact Kd.R_mono HO274.out (fun _ hk => ⟨(gives hk), (gives hk)⟩)⟩, ⟨by (with_reducible repeat (first | apply Kd.R_alloc | apply Kd.R_drewN | apply Kd.R_drew)); exact Kd.R_mono HO277.out (fun _ hk => ⟨(gives hk), (gives hk)⟩)⟩, ⟨by (with_reducible repeat (first | apply blk_drewN | apply blk_drew | apply blk_alloc)); exact BK270.out⟩, ⟨by (with_reducible repeat (first | apply blk_drewN | apply blk_drew | apply blk_alloc)); exact BK271.out⟩, ⟨by (with_reducible repeat (first | apply blk_drewN | apply blk_drew | apply blk_alloc)); exact BK278.out⟩, ⟨by repeat (first | (with_reducible first | exact HB.out | apply below_alloc | apply pw_below_drewN | apply below_drew1 | refine below_set ?_ GE270.out | refine below_set ?_ GE271.out | refine below_set ?_ GE278.out) | exact HB.out)⟩⟩
   case round =>
    clear H'
    try clear c1
    try clear c2
    try clear c2b0
    try clear c2b1
    try clear p2
    try clear c4
    try clear c7
    try clear c12
    try clear c18
    try clear c19
    try clear c20
    try clear c21
    try clear c22
    try clear hcz13_0
    try clear hcz13_1
    try clear hcz16_0
    try clear hcz16_1
    try clear hcz23_0
    try clear hcz23_1
    try clear hfz13_0
    try clear hfz13_1
    try clear hfz16_0
    try clear hfz16_1
    try clear hfz23_0
    try clear hfz23_1
    obtain ⟨x6_1, rfl, HA, HK1, HO_271000, HO_271001, HO_272000, HO_272001, HO_279000, HO_279001, BK270, BK271, BK278, HB⟩ := hrel
    cases gk with
    | zero => exact absurd HA.out (by simp [laws_FnMergeReports.l0])
    | succ k1 =>
     have H := HA.out
     clear HA
     simp only [laws_FnMergeReports.l0] at H
     by_cases c31 : x6_1 < (t272.length : Int)
     ·rw [if_pos c31] at H
      have c31b0 : decide (x6_1 < (t272.length : Int)) = true := decide_eq_true c31
      clear c31
      by_cases c32 : 0 ≤ x6_1
      ·rw [if_pos c32] at H
       have c32b0 : decide (0 ≤ x6_1) = true := decide_eq_true c32
       clear c32
       replace H := Option.bind_eq_some_iff.mp H
       obtain ⟨t294, A330, H⟩ := H
       replace H : (if t294 < 0 then ((impl_OutcomeOf.f k1 t258 t261 ((rd_T37 t272 x6_1).f0)).bind fun t295 => ((impl_OutcomeOf.f k1 t272 t275 ((rd_T37 t272 x6_1).f0)).bind fun t296 => (if t296 = t295 then (laws_FnMergeReports.l0 k1 (wrap64 (x6_1 + 1)) t258 t261 t264 t267 t272 t275) else (some false)))) else ((impl_OutcomeOf.f k1 t272 t275 ((rd_T37 t272 x6_1).f0)).bind fun t297 => (if t297 = t294 then (laws_FnMergeReports.l0 k1 (wrap64 (x6_1 + 1)) t258 t261 t264 t267 t272 t275) else (some false)))) = some r := H
       have A33 := ak A330
       clear A330
       by_cases c34 : t294 < 0
       ·rw [if_pos c34] at H
        have c34b0 : decide (t294 < 0) = true := decide_eq_true c34
        clear c34
        replace H := Option.bind_eq_some_iff.mp H
        obtain ⟨t295, A350, H⟩ := H
        replace H : ((impl_OutcomeOf.f k1 t272 t275 ((rd_T37 t272 x6_1).f0)).bind fun t296 => (if t296 = t295 then (laws_FnMergeReports.l0 k1 (wrap64 (x6_1 + 1)) t258 t261 t264 t267 t272 t275) else (some false))) = some r := H
        have A35 := ak A350
        clear A350
        replace H := Option.bind_eq_some_iff.mp H
        obtain ⟨t296, A360, H⟩ := H
        replace H : (if t296 = t295 then (laws_FnMergeReports.l0 k1 (wrap64 (x6_1 + 1)) t258 t261 t264 t267 t272 t275) else (some false)) = some r := H
        have A36 := ak A360
        clear A360
        by_cases c37 : t296 = t295
        ·rw [if_pos c37] at H
         have c37b0 : (t296 == t295) = true := beq_iff_eq.mpr c37
         have c37b1 : (t296 != t295) = false := bne_eq_false_iff_eq.mpr c37
         clear c37
         have H' := ak H
         clear H
         have hnb38 := NB278_270.out
         have hnc38 := NB270_278.out
         have hnb39 := NB278_271.out
         have hnc39 := NB271_278.out
         have hcz40_0 : wr.cell? ⟨gb278, 0, none⟩ = some (.slice Ao20 t272.length co20) := (blk_cell BK278.out 0).trans rfl
         have hcz40_1 : wr.cell? ⟨gb278, 1, none⟩ = some (.slice Ao24 t275.length co24) := (blk_cell BK278.out 1).trans rfl
         have hfz40_0 := blk_frozen BK278.out 0
         have hfz40_1 := blk_frozen BK278.out 1
         have p293 : 0 ≤ (x6_1 : Int) := of_decide_eq_true (by first | (with_reducible assumption) | assumption)
         have q293 : x6_1 < (t272.length : Int) := of_decide_eq_true (by first | (with_reducible assumption) | assumption)
         obtain ⟨ad293, e293, hx293_0, hx293_1⟩ := at_T37 (Kd.R_reads' HO_279000.out).2.2 x6_1 p293 q293
         cases e293
         replace p293 := eq_true p293
         replace q293 := eq_true q293
         have hnb41 := NB271_270.out
         have hnc41 := NB270_271.out
         have hcz42_0 : wr.cell? ⟨gb271, 0, none⟩ = some (.slice Ao15 t264.length co15) := (blk_cell BK271.out 0).trans rfl
         have hcz42_1 : wr.cell? ⟨gb271, 1, none⟩ = some (.slice Ao17 t267.length co17) := (blk_cell BK271.out 1).trans rfl
         have hfz42_0 := blk_frozen BK271.out 0
         have hfz42_1 := blk_frozen BK271.out 1
         go_wp2_with (first | ((with_reducible refine gate_callee (f := 22) rfl ?_); refine goesL_ (some 48) rfl rfl Try.func22 (by kernel_rfl) rfl #[.agg #[.slice Ao15 t264.length co15, .slice Ao17 t267.length co17], .string ((rd_T37 t272 x6_1).f0)] rfl (by (try simp only [List.map_toArray, List.map_cons, List.map_nil]); first | done | rfl | (simp only [List.length_drop, List.length_take]; rfl)) ?_; (with_reducible refine (impl_OutcomeOf.calls k1 _ _ t264 _ _ t267 ((rd_T37 t272 x6_1).f0) t294 _ ?side1 ?side2 ?side3 ?side4 A33.out).mono ?_); (case side1 => repeat (first | exact (Kd.R_reads' HO_272000.out).2.2 | (with_reducible refine Kd.C_alloc ?_ _) | (with_reducible refine Kd.C_drewN ?_ _) | (with_reducible refine Kd.C_drew ?_))); (case side2 => exact (Kd.R_reads' HO_272000.out).2.1); (case side3 => repeat (first | exact (Kd.R_reads' HO_272001.out).2.2 | (with_reducible refine Kd.C_alloc ?_ _) | (with_reducible refine Kd.C_drewN ?_ _) | (with_reducible refine Kd.C_drew ?_))); (case side4 => exact (Kd.R_reads' HO_272001.out).2.1); rintro e w43 ⟨rfl, hb⟩; refine ⟨_, rfl, ?_⟩; have n0_ := ak (Kd.R_below (rTo HO_271000.out) hb); have n1_ := ak (Kd.R_below (rTo HO_271001.out) hb); have n2_ := ak (Kd.R_below (rTo HO_272000.out) hb); have n3_ := ak (Kd.R_below (rTo HO_272001.out) hb); have n4_ := ak (Kd.R_below (rTo HO_279000.out) hb); have n5_ := ak (Kd.R_below (rTo HO_279001.out) hb); have n6_ := ak (blk_below (g := gb270) (o := .cells #[.slice Ao11 t258.length co11, .slice Ao14 t261.length co14] 26 (0, 0)) (bTo BK270.out) hb); have n7_ := ak (blk_below (g := gb271) (o := .cells #[.slice Ao15 t264.length co15, .slice Ao17 t267.length co17] 26 (0, 0)) (bTo BK271.out) hb); have n8_ := ak (blk_below (g := gb278) (o := .cells #[.slice (some ad293) t272.length co20, .slice Ao24 t275.length co24] 26 (0, 0)) (bTo BK278.out) hb); have n9_ := ak (below_step (by repeat (first | (with_reducible first | exact HB.out | apply below_alloc | apply pw_below_drewN | apply below_drew1 | refine below_set ?_ GE270.out | refine below_set ?_ GE271.out | refine below_set ?_ GE278.out) | exact HB.out)) hb); clear HO_271000; clear HO_271001; clear HO_272000; clear HO_272001; clear HO_279000; clear HO_279001; clear BK270; clear BK271; clear BK278; clear HB; have HO_271000 := n0_; have HO_271001 := n1_; have HO_272000 := n2_; have HO_272001 := n3_; have HO_279000 := n4_; have HO_279001 := n5_; have BK270 := n6_; have BK271 := n7_; have BK278 := n8_; have HB := n9_; clear n0_ n1_ n2_ n3_ n4_ n5_ n6_ n7_ n8_ n9_; (try clear hb); (try clear hb2); (try clear hk); (try clear hi); have hcz44_0 : w43.cell? ⟨gb270, 0, none⟩ = some (.slice Ao11 t258.length co11) := (blk_cell BK270.out 0).trans rfl; have hcz44_1 : w43.cell? ⟨gb270, 1, none⟩ = some (.slice Ao14 t261.length co14) := (blk_cell BK270.out 1).trans rfl; have hfz44_0 := blk_frozen BK270.out 0; have hfz44_1 := blk_frozen BK270.out 1) | ((with_reducible refine gate_callee (f := 22) rfl ?_); refine goesL_ (some 53) rfl rfl Try.func22 (by kernel_rfl) rfl #[.agg #[.slice Ao11 t258.length co11, .slice Ao14 t261.length co14], .string ((rd_T37 t272 x6_1).f0)] rfl (by (try simp only [List.map_toArray, List.map_cons, List.map_nil]); first | done | rfl | (simp only [List.length_drop, List.length_take]; rfl)) ?_; (with_reducible refine (impl_OutcomeOf.calls k1 _ _ t258 _ _ t261 ((rd_T37 t272 x6_1).f0) t295 _ ?side1 ?side2 ?side3 ?side4 A35.out).mono ?_); (case side1 => repeat (first | exact (Kd.R_reads' HO_271000.out).2.2 | (with_reducible refine Kd.C_alloc ?_ _) | (with_reducible refine Kd.C_drewN ?_ _) | (with_reducible refine Kd.C_drew ?_))); (case side2 => exact (Kd.R_reads' HO_271000.out).2.1); (case side3 => repeat (first | exact (Kd.R_reads' HO_271001.out).2.2 | (with_reducible refine Kd.C_alloc ?_ _) | (with_reducible refine Kd.C_drewN ?_ _) | (with_reducible refine Kd.C_drew ?_))); (case side4 => exact (Kd.R_reads' HO_271001.out).2.1); rintro e w45 ⟨rfl, hb⟩; refine ⟨_, rfl, ?_⟩; have n0_ := ak (Kd.R_below (rTo HO_271000.out) hb); have n1_ := ak (Kd.R_below (rTo HO_271001.out) hb); have n2_ := ak (Kd.R_below (rTo HO_272000.out) hb); have n3_ := ak (Kd.R_below (rTo HO_272001.out) hb); have n4_ := ak (Kd.R_below (rTo HO_279000.out) hb); have n5_ := ak (Kd.R_below (rTo HO_279001.out) hb); have n6_ := ak (blk_below (g := gb270) (o := .cells #[.slice Ao11 t258.length co11, .slice Ao14 t261.length co14] 26 (0, 0)) (bTo BK270.out) hb); have n7_ := ak (blk_below (g := gb271) (o := .cells #[.slice Ao15 t264.length co15, .slice Ao17 t267.length co17] 26 (0, 0)) (bTo BK271.out) hb); have n8_ := ak (blk_below (g := gb278) (o := .cells #[.slice (some ad293) t272.length co20, .slice Ao24 t275.length co24] 26 (0, 0)) (bTo BK278.out) hb); have n9_ := ak (below_step (by repeat (first | (with_reducible first | exact HB.out | apply below_alloc | apply pw_below_drewN | apply below_drew1 | refine below_set ?_ GE270.out | refine below_set ?_ GE271.out | refine below_set ?_ GE278.out) | exact HB.out)) hb); clear HO_271000; clear HO_271001; clear HO_272000; clear HO_272001; clear HO_279000; clear HO_279001; clear BK270; clear BK271; clear BK278; clear HB; have HO_271000 := n0_; have HO_271001 := n1_; have HO_272000 := n2_; have HO_272001 := n3_; have HO_279000 := n4_; have HO_279001 := n5_; have BK270 := n6_; have BK271 := n7_; have BK278 := n8_; have HB := n9_; clear n0_ n1_ n2_ n3_ n4_ n5_ n6_ n7_ n8_ n9_; (try clear hb); (try clear hb2); (try clear hk); (try clear hi); have hcz46_0 : w45.cell? ⟨gb278, 0, none⟩ = some (.slice (some ad293) t272.length co20) := (blk_cell BK278.out 0).trans rfl; have hcz46_1 : w45.cell? ⟨gb278, 1, none⟩ = some (.slice Ao24 t275.length co24) := (blk_cell BK278.out 1).trans rfl; have hfz46_0 := blk_frozen BK278.out 0; have hfz46_1 := blk_frozen BK278.out 1) | ((with_reducible refine gate_callee (f := 22) rfl ?_); refine goesL_ (some 56) rfl rfl Try.func22 (by kernel_rfl) rfl #[.agg #[.slice (some ad293) t272.length co20, .slice Ao24 t275.length co24], .string ((rd_T37 t272 x6_1).f0)] rfl (by (try simp only [List.map_toArray, List.map_cons, List.map_nil]); first | done | rfl | (simp only [List.length_drop, List.length_take]; rfl)) ?_; (with_reducible refine (impl_OutcomeOf.calls k1 _ _ t272 _ _ t275 ((rd_T37 t272 x6_1).f0) t296 _ ?side1 ?side2 ?side3 ?side4 A36.out).mono ?_); (case side1 => repeat (first | exact (Kd.R_reads' HO_279000.out).2.2 | (with_reducible refine Kd.C_alloc ?_ _) | (with_reducible refine Kd.C_drewN ?_ _) | (with_reducible refine Kd.C_drew ?_))); (case side2 => exact (Kd.R_reads' HO_279000.out).2.1); (case side3 => repeat (first | exact (Kd.R_reads' HO_279001.out).2.2 | (with_reducible refine Kd.C_alloc ?_ _) | (with_reducible refine Kd.C_drewN ?_ _) | (with_reducible refine Kd.C_drew ?_))); (case side4 => exact (Kd.R_reads' HO_279001.out).2.1); rintro e w47 ⟨rfl, hb⟩; refine ⟨_, rfl, ?_⟩; have n0_ := ak (Kd.R_below (rTo HO_271000.out) hb); have n1_ := ak (Kd.R_below (rTo HO_271001.out) hb); have n2_ := ak (Kd.R_below (rTo HO_272000.out) hb); have n3_ := ak (Kd.R_below (rTo HO_272001.out) hb); have n4_ := ak (Kd.R_below (rTo HO_279000.out) hb); have n5_ := ak (Kd.R_below (rTo HO_279001.out) hb); have n6_ := ak (blk_below (g := gb270) (o := .cells #[.slice Ao11 t258.length co11, .slice Ao14 t261.length co14] 26 (0, 0)) (bTo BK270.out) hb); have n7_ := ak (blk_below (g := gb271) (o := .cells #[.slice Ao15 t264.length co15, .slice Ao17 t267.length co17] 26 (0, 0)) (bTo BK271.out) hb); have n8_ := ak (blk_below (g := gb278) (o := .cells #[.slice (some ad293) t272.length co20, .slice Ao24 t275.length co24] 26 (0, 0)) (bTo BK278.out) hb); have n9_ := ak (below_step (by repeat (first | (with_reducible first | exact HB.out | apply below_alloc | apply pw_below_drewN | apply below_drew1 | refine below_set ?_ GE270.out | refine below_set ?_ GE271.out | refine below_set ?_ GE278.out) | exact HB.out)) hb); clear HO_271000; clear HO_271001; clear HO_272000; clear HO_272001; clear HO_279000; clear HO_279001; clear BK270; clear BK271; clear BK278; clear HB; have HO_271000 := n0_; have HO_271001 := n1_; have HO_272000 := n2_; have HO_272001 := n3_; have HO_279000 := n4_; have HO_279001 := n5_; have BK270 := n6_; have BK271 := n7_; have BK278 := n8_; have HB := n9_; clear n0_ n1_ n2_ n3_ n4_ n5_ n6_ n7_ n8_ n9_; (try clear hb); (try clear hb2); (try clear hk); (try clear hi)))
         go_roundg k1
         case measure => have := HK1.out; omega
         case rel => exact ⟨(wrap64 (x6_1 + 1)), (by first | rfl | (simp; done) | (simp [*]; done)), H', ⟨by have := HK1.out; omega⟩, ⟨by (with_reducible repeat (first | apply Kd.R_alloc | apply Kd.R_drewN | apply Kd.R_drew)); exact HO_271000.out⟩, ⟨by (with_reducible repeat (first | apply Kd.R_alloc | apply Kd.R_drewN | apply Kd.R_drew)); exact HO_271001.out⟩, ⟨by (with_reducible repeat (first | apply Kd.R_alloc | apply Kd.R_drewN | apply Kd.R_drew)); exact HO_272000.out⟩, ⟨by (with_reducible repeat (first | apply Kd.R_alloc | apply Kd.R_drewN | apply Kd.R_drew)); exact HO_272001.out⟩, ⟨by (with_reducible repeat (first | apply Kd.R_alloc | apply Kd.R_drewN | apply Kd.R_drew)); exact HO_279000.out⟩, ⟨by (with_reducible repeat (first | apply Kd.R_alloc | apply Kd.R_drewN | apply Kd.R_drew)); exact HO_279001.out⟩, ⟨by (with_reducible repeat (first | apply blk_drewN | apply blk_drew | apply blk_alloc)); exact BK270.out⟩, ⟨by (with_reducible repeat (first | apply blk_drewN | apply blk_drew | apply blk_alloc)); exact BK271.out⟩, ⟨by (with_reducible repeat (first | apply blk_drewN | apply blk_drew | apply blk_alloc)); exact BK278.out⟩, ⟨by repeat (first | (with_reducible first | exact HB.out | apply below_alloc | apply pw_below_drewN | apply below_drew1 | refine below_set ?_ GE270.out | refine below_set ?_ GE271.out | refine below_set ?_ GE278.out) | exact HB.out)⟩⟩
        ·rw [if_neg c37] at H
         have c37b0 : (t296 == t295) = false := beq_eq_false_iff_ne.mpr c37
         have c37b1 : (t296 != t295) = true := bne_iff_ne.mpr c37
         obtain rfl := Option.some.inj H
         have hnb48 := NB278_270.out
         have hnc48 := NB270_278.out
         have hnb49 := NB278_271.out
         have hnc49 := NB271_278.out
         have hcz50_0 : wr.cell? ⟨gb278, 0, none⟩ = some (.slice Ao20 t272.length co20) := (blk_cell BK278.out 0).trans rfl
         have hcz50_1 : wr.cell? ⟨gb278, 1, none⟩ = some (.slice Ao24 t275.length co24) := (blk_cell BK278.out 1).trans rfl
         have hfz50_0 := blk_frozen BK278.out 0
         have hfz50_1 := blk_frozen BK278.out 1
         have p293 : 0 ≤ (x6_1 : Int) := of_decide_eq_true (by first | (with_reducible assumption) | assumption)
         have q293 : x6_1 < (t272.length : Int) := of_decide_eq_true (by first | (with_reducible assumption) | assumption)
         obtain ⟨ad293, e293, hx293_0, hx293_1⟩ := at_T37 (Kd.R_reads' HO_279000.out).2.2 x6_1 p293 q293
         cases e293
         replace p293 := eq_true p293
         replace q293 := eq_true q293
         have hnb51 := NB271_270.out
         have hnc51 := NB270_271.out
         have hcz52_0 : wr.cell? ⟨gb271, 0, none⟩ = some (.slice Ao15 t264.length co15) := (blk_cell BK271.out 0).trans rfl
         have hcz52_1 : wr.cell? ⟨gb271, 1, none⟩ = some (.slice Ao17 t267.length co17) := (blk_cell BK271.out 1).trans rfl
         have hfz52_0 := blk_frozen BK271.out 0
         have hfz52_1 := blk_frozen BK271.out 1
         go_wp2_with (first | ((with_reducible refine gate_callee (f := 22) rfl ?_); refine goesL_ (some 48) rfl rfl Try.func22 (by kernel_rfl) rfl #[.agg #[.slice Ao15 t264.length co15, .slice Ao17 t267.length co17], .string ((rd_T37 t272 x6_1).f0)] rfl (by (try simp only [List.map_toArray, List.map_cons, List.map_nil]); first | done | rfl | (simp only [List.length_drop, List.length_take]; rfl)) ?_; (with_reducible refine (impl_OutcomeOf.calls k1 _ _ t264 _ _ t267 ((rd_T37 t272 x6_1).f0) t294 _ ?side1 ?side2 ?side3 ?side4 A33.out).mono ?_); (case side1 => repeat (first | exact (Kd.R_reads' HO_272000.out).2.2 | (with_reducible refine Kd.C_alloc ?_ _) | (with_reducible refine Kd.C_drewN ?_ _) | (with_reducible refine Kd.C_drew ?_))); (case side2 => exact (Kd.R_reads' HO_272000.out).2.1); (case side3 => repeat (first | exact (Kd.R_reads' HO_272001.out).2.2 | (with_reducible refine Kd.C_alloc ?_ _) | (with_reducible refine Kd.C_drewN ?_ _) | (with_reducible refine Kd.C_drew ?_))); (case side4 => exact (Kd.R_reads' HO_272001.out).2.1); rintro e w53 ⟨rfl, hb⟩; refine ⟨_, rfl, ?_⟩; have n0_ := ak (Kd.R_below (rTo HO_271000.out) hb); have n1_ := ak (Kd.R_below (rTo HO_271001.out) hb); have n2_ := ak (Kd.R_below (rTo HO_272000.out) hb); have n3_ := ak (Kd.R_below (rTo HO_272001.out) hb); have n4_ := ak (Kd.R_below (rTo HO_279000.out) hb); have n5_ := ak (Kd.R_below (rTo HO_279001.out) hb); have n6_ := ak (blk_below (g := gb270) (o := .cells #[.slice Ao11 t258.length co11, .slice Ao14 t261.length co14] 26 (0, 0)) (bTo BK270.out) hb); have n7_ := ak (blk_below (g := gb271) (o := .cells #[.slice Ao15 t264.length co15, .slice Ao17 t267.length co17] 26 (0, 0)) (bTo BK271.out) hb); have n8_ := ak (blk_below (g := gb278) (o := .cells #[.slice (some ad293) t272.length co20, .slice Ao24 t275.length co24] 26 (0, 0)) (bTo BK278.out) hb); have n9_ := ak (below_step (by repeat (first | (with_reducible first | exact HB.out | apply below_alloc | apply pw_below_drewN | apply below_drew1 | refine below_set ?_ GE270.out | refine below_set ?_ GE271.out | refine below_set ?_ GE278.out) | exact HB.out)) hb); clear HO_271000; clear HO_271001; clear HO_272000; clear HO_272001; clear HO_279000; clear HO_279001; clear BK270; clear BK271; clear BK278; clear HB; have HO_271000 := n0_; have HO_271001 := n1_; have HO_272000 := n2_; have HO_272001 := n3_; have HO_279000 := n4_; have HO_279001 := n5_; have BK270 := n6_; have BK271 := n7_; have BK278 := n8_; have HB := n9_; clear n0_ n1_ n2_ n3_ n4_ n5_ n6_ n7_ n8_ n9_; (try clear hb); (try clear hb2); (try clear hk); (try clear hi); have hcz54_0 : w53.cell? ⟨gb270, 0, none⟩ = some (.slice Ao11 t258.length co11) := (blk_cell BK270.out 0).trans rfl; have hcz54_1 : w53.cell? ⟨gb270, 1, none⟩ = some (.slice Ao14 t261.length co14) := (blk_cell BK270.out 1).trans rfl; have hfz54_0 := blk_frozen BK270.out 0; have hfz54_1 := blk_frozen BK270.out 1) | ((with_reducible refine gate_callee (f := 22) rfl ?_); refine goesL_ (some 53) rfl rfl Try.func22 (by kernel_rfl) rfl #[.agg #[.slice Ao11 t258.length co11, .slice Ao14 t261.length co14], .string ((rd_T37 t272 x6_1).f0)] rfl (by (try simp only [List.map_toArray, List.map_cons, List.map_nil]); first | done | rfl | (simp only [List.length_drop, List.length_take]; rfl)) ?_; (with_reducible refine (impl_OutcomeOf.calls k1 _ _ t258 _ _ t261 ((rd_T37 t272 x6_1).f0) t295 _ ?side1 ?side2 ?side3 ?side4 A35.out).mono ?_); (case side1 => repeat (first | exact (Kd.R_reads' HO_271000.out).2.2 | (with_reducible refine Kd.C_alloc ?_ _) | (with_reducible refine Kd.C_drewN ?_ _) | (with_reducible refine Kd.C_drew ?_))); (case side2 => exact (Kd.R_reads' HO_271000.out).2.1); (case side3 => repeat (first | exact (Kd.R_reads' HO_271001.out).2.2 | (with_reducible refine Kd.C_alloc ?_ _) | (with_reducible refine Kd.C_drewN ?_ _) | (with_reducible refine Kd.C_drew ?_))); (case side4 => exact (Kd.R_reads' HO_271001.out).2.1); rintro e w55 ⟨rfl, hb⟩; refine ⟨_, rfl, ?_⟩; have n0_ := ak (Kd.R_below (rTo HO_271000.out) hb); have n1_ := ak (Kd.R_below (rTo HO_271001.out) hb); have n2_ := ak (Kd.R_below (rTo HO_272000.out) hb); have n3_ := ak (Kd.R_below (rTo HO_272001.out) hb); have n4_ := ak (Kd.R_below (rTo HO_279000.out) hb); have n5_ := ak (Kd.R_below (rTo HO_279001.out) hb); have n6_ := ak (blk_below (g := gb270) (o := .cells #[.slice Ao11 t258.length co11, .slice Ao14 t261.length co14] 26 (0, 0)) (bTo BK270.out) hb); have n7_ := ak (blk_below (g := gb271) (o := .cells #[.slice Ao15 t264.length co15, .slice Ao17 t267.length co17] 26 (0, 0)) (bTo BK271.out) hb); have n8_ := ak (blk_below (g := gb278) (o := .cells #[.slice (some ad293) t272.length co20, .slice Ao24 t275.length co24] 26 (0, 0)) (bTo BK278.out) hb); have n9_ := ak (below_step (by repeat (first | (with_reducible first | exact HB.out | apply below_alloc | apply pw_below_drewN | apply below_drew1 | refine below_set ?_ GE270.out | refine below_set ?_ GE271.out | refine below_set ?_ GE278.out) | exact HB.out)) hb); clear HO_271000; clear HO_271001; clear HO_272000; clear HO_272001; clear HO_279000; clear HO_279001; clear BK270; clear BK271; clear BK278; clear HB; have HO_271000 := n0_; have HO_271001 := n1_; have HO_272000 := n2_; have HO_272001 := n3_; have HO_279000 := n4_; have HO_279001 := n5_; have BK270 := n6_; have BK271 := n7_; have BK278 := n8_; have HB := n9_; clear n0_ n1_ n2_ n3_ n4_ n5_ n6_ n7_ n8_ n9_; (try clear hb); (try clear hb2); (try clear hk); (try clear hi); have hcz56_0 : w55.cell? ⟨gb278, 0, none⟩ = some (.slice (some ad293) t272.length co20) := (blk_cell BK278.out 0).trans rfl; have hcz56_1 : w55.cell? ⟨gb278, 1, none⟩ = some (.slice Ao24 t275.length co24) := (blk_cell BK278.out 1).trans rfl; have hfz56_0 := blk_frozen BK278.out 0; have hfz56_1 := blk_frozen BK278.out 1) | ((with_reducible refine gate_callee (f := 22) rfl ?_); refine goesL_ (some 56) rfl rfl Try.func22 (by kernel_rfl) rfl #[.agg #[.slice (some ad293) t272.length co20, .slice Ao24 t275.length co24], .string ((rd_T37 t272 x6_1).f0)] rfl (by (try simp only [List.map_toArray, List.map_cons, List.map_nil]); first | done | rfl | (simp only [List.length_drop, List.length_take]; rfl)) ?_; (with_reducible refine (impl_OutcomeOf.calls k1 _ _ t272 _ _ t275 ((rd_T37 t272 x6_1).f0) t296 _ ?side1 ?side2 ?side3 ?side4 A36.out).mono ?_); (case side1 => repeat (first | exact (Kd.R_reads' HO_279000.out).2.2 | (with_reducible refine Kd.C_alloc ?_ _) | (with_reducible refine Kd.C_drewN ?_ _) | (with_reducible refine Kd.C_drew ?_))); (case side2 => exact (Kd.R_reads' HO_279000.out).2.1); (case side3 => repeat (first | exact (Kd.R_reads' HO_279001.out).2.2 | (with_reducible refine Kd.C_alloc ?_ _) | (with_reducible refine Kd.C_drewN ?_ _) | (with_reducible refine Kd.C_drew ?_))); (case side4 => exact (Kd.R_reads' HO_279001.out).2.1); rintro e w57 ⟨rfl, hb⟩; refine ⟨_, rfl, ?_⟩; have n0_ := ak (Kd.R_below (rTo HO_271000.out) hb); have n1_ := ak (Kd.R_below (rTo HO_271001.out) hb); have n2_ := ak (Kd.R_below (rTo HO_272000.out) hb); have n3_ := ak (Kd.R_below (rTo HO_272001.out) hb); have n4_ := ak (Kd.R_below (rTo HO_279000.out) hb); have n5_ := ak (Kd.R_below (rTo HO_279001.out) hb); have n6_ := ak (blk_below (g := gb270) (o := .cells #[.slice Ao11 t258.length co11, .slice Ao14 t261.length co14] 26 (0, 0)) (bTo BK270.out) hb); have n7_ := ak (blk_below (g := gb271) (o := .cells #[.slice Ao15 t264.length co15, .slice Ao17 t267.length co17] 26 (0, 0)) (bTo BK271.out) hb); have n8_ := ak (blk_below (g := gb278) (o := .cells #[.slice (some ad293) t272.length co20, .slice Ao24 t275.length co24] 26 (0, 0)) (bTo BK278.out) hb); have n9_ := ak (below_step (by repeat (first | (with_reducible first | exact HB.out | apply below_alloc | apply pw_below_drewN | apply below_drew1 | refine below_set ?_ GE270.out | refine below_set ?_ GE271.out | refine below_set ?_ GE278.out) | exact HB.out)) hb); clear HO_271000; clear HO_271001; clear HO_272000; clear HO_272001; clear HO_279000; clear HO_279001; clear BK270; clear BK271; clear BK278; clear HB; have HO_271000 := n0_; have HO_271001 := n1_; have HO_272000 := n2_; have HO_272001 := n3_; have HO_279000 := n4_; have HO_279001 := n5_; have BK270 := n6_; have BK271 := n7_; have BK278 := n8_; have HB := n9_; clear n0_ n1_ n2_ n3_ n4_ n5_ n6_ n7_ n8_ n9_; (try clear hb); (try clear hb2); (try clear hk); (try clear hi)))
         go_ret
         exact ⟨by first | rfl | (simp [errW_none, errW_some] <;> rfl) | (simp [*, errW_none, errW_some] <;> rfl), by repeat (first | (with_reducible first | exact HB.out | apply below_alloc | apply pw_below_drewN | apply below_drew1 | refine below_set ?_ GE270.out | refine below_set ?_ GE271.out | refine below_set ?_ GE278.out) | exact HB.out)⟩
       ·rw [if_neg c34] at H
        have c34b0 : decide (t294 < 0) = false := decide_eq_false c34
        clear c34
        replace H := Option.bind_eq_some_iff.mp H
        obtain ⟨t297, A580, H⟩ := H
        replace H : (if t297 = t294 then (laws_FnMergeReports.l0 k1 (wrap64 (x6_1 + 1)) t258 t261 t264 t267 t272 t275) else (some false)) = some r := H
        have A58 := ak A580
        clear A580
        by_cases c59 : t297 = t294
        ·rw [if_pos c59] at H
         have c59b0 : (t297 == t294) = true := beq_iff_eq.mpr c59
         have c59b1 : (t297 != t294) = false := bne_eq_false_iff_eq.mpr c59
         clear c59
         have H' := ak H
         clear H
         have hnb60 := NB278_270.out
         have hnc60 := NB270_278.out
         have hnb61 := NB278_271.out
         have hnc61 := NB271_278.out
         have hcz62_0 : wr.cell? ⟨gb278, 0, none⟩ = some (.slice Ao20 t272.length co20) := (blk_cell BK278.out 0).trans rfl
         have hcz62_1 : wr.cell? ⟨gb278, 1, none⟩ = some (.slice Ao24 t275.length co24) := (blk_cell BK278.out 1).trans rfl
         have hfz62_0 := blk_frozen BK278.out 0
         have hfz62_1 := blk_frozen BK278.out 1
         have p293 : 0 ≤ (x6_1 : Int) := of_decide_eq_true (by first | (with_reducible assumption) | assumption)
         have q293 : x6_1 < (t272.length : Int) := of_decide_eq_true (by first | (with_reducible assumption) | assumption)
         obtain ⟨ad293, e293, hx293_0, hx293_1⟩ := at_T37 (Kd.R_reads' HO_279000.out).2.2 x6_1 p293 q293
         cases e293
         replace p293 := eq_true p293
         replace q293 := eq_true q293
         have hnb63 := NB271_270.out
         have hnc63 := NB270_271.out
         have hcz64_0 : wr.cell? ⟨gb271, 0, none⟩ = some (.slice Ao15 t264.length co15) := (blk_cell BK271.out 0).trans rfl
         have hcz64_1 : wr.cell? ⟨gb271, 1, none⟩ = some (.slice Ao17 t267.length co17) := (blk_cell BK271.out 1).trans rfl
         have hfz64_0 := blk_frozen BK271.out 0
         have hfz64_1 := blk_frozen BK271.out 1
         go_wp2_with (first | ((with_reducible refine gate_callee (f := 22) rfl ?_); refine goesL_ (some 48) rfl rfl Try.func22 (by kernel_rfl) rfl #[.agg #[.slice Ao15 t264.length co15, .slice Ao17 t267.length co17], .string ((rd_T37 t272 x6_1).f0)] rfl (by (try simp only [List.map_toArray, List.map_cons, List.map_nil]); first | done | rfl | (simp only [List.length_drop, List.length_take]; rfl)) ?_; (with_reducible refine (impl_OutcomeOf.calls k1 _ _ t264 _ _ t267 ((rd_T37 t272 x6_1).f0) t294 _ ?side1 ?side2 ?side3 ?side4 A33.out).mono ?_); (case side1 => repeat (first | exact (Kd.R_reads' HO_272000.out).2.2 | (with_reducible refine Kd.C_alloc ?_ _) | (with_reducible refine Kd.C_drewN ?_ _) | (with_reducible refine Kd.C_drew ?_))); (case side2 => exact (Kd.R_reads' HO_272000.out).2.1); (case side3 => repeat (first | exact (Kd.R_reads' HO_272001.out).2.2 | (with_reducible refine Kd.C_alloc ?_ _) | (with_reducible refine Kd.C_drewN ?_ _) | (with_reducible refine Kd.C_drew ?_))); (case side4 => exact (Kd.R_reads' HO_272001.out).2.1); rintro e w65 ⟨rfl, hb⟩; refine ⟨_, rfl, ?_⟩; have n0_ := ak (Kd.R_below (rTo HO_271000.out) hb); have n1_ := ak (Kd.R_below (rTo HO_271001.out) hb); have n2_ := ak (Kd.R_below (rTo HO_272000.out) hb); have n3_ := ak (Kd.R_below (rTo HO_272001.out) hb); have n4_ := ak (Kd.R_below (rTo HO_279000.out) hb); have n5_ := ak (Kd.R_below (rTo HO_279001.out) hb); have n6_ := ak (blk_below (g := gb270) (o := .cells #[.slice Ao11 t258.length co11, .slice Ao14 t261.length co14] 26 (0, 0)) (bTo BK270.out) hb); have n7_ := ak (blk_below (g := gb271) (o := .cells #[.slice Ao15 t264.length co15, .slice Ao17 t267.length co17] 26 (0, 0)) (bTo BK271.out) hb); have n8_ := ak (blk_below (g := gb278) (o := .cells #[.slice (some ad293) t272.length co20, .slice Ao24 t275.length co24] 26 (0, 0)) (bTo BK278.out) hb); have n9_ := ak (below_step (by repeat (first | (with_reducible first | exact HB.out | apply below_alloc | apply pw_below_drewN | apply below_drew1 | refine below_set ?_ GE270.out | refine below_set ?_ GE271.out | refine below_set ?_ GE278.out) | exact HB.out)) hb); clear HO_271000; clear HO_271001; clear HO_272000; clear HO_272001; clear HO_279000; clear HO_279001; clear BK270; clear BK271; clear BK278; clear HB; have HO_271000 := n0_; have HO_271001 := n1_; have HO_272000 := n2_; have HO_272001 := n3_; have HO_279000 := n4_; have HO_279001 := n5_; have BK270 := n6_; have BK271 := n7_; have BK278 := n8_; have HB := n9_; clear n0_ n1_ n2_ n3_ n4_ n5_ n6_ n7_ n8_ n9_; (try clear hb); (try clear hb2); (try clear hk); (try clear hi); have hcz66_0 : w65.cell? ⟨gb278, 0, none⟩ = some (.slice (some ad293) t272.length co20) := (blk_cell BK278.out 0).trans rfl; have hcz66_1 : w65.cell? ⟨gb278, 1, none⟩ = some (.slice Ao24 t275.length co24) := (blk_cell BK278.out 1).trans rfl; have hfz66_0 := blk_frozen BK278.out 0; have hfz66_1 := blk_frozen BK278.out 1) | ((with_reducible refine gate_callee (f := 22) rfl ?_); refine goesL_ (some 56) rfl rfl Try.func22 (by kernel_rfl) rfl #[.agg #[.slice (some ad293) t272.length co20, .slice Ao24 t275.length co24], .string ((rd_T37 t272 x6_1).f0)] rfl (by (try simp only [List.map_toArray, List.map_cons, List.map_nil]); first | done | rfl | (simp only [List.length_drop, List.length_take]; rfl)) ?_; (with_reducible refine (impl_OutcomeOf.calls k1 _ _ t272 _ _ t275 ((rd_T37 t272 x6_1).f0) t297 _ ?side1 ?side2 ?side3 ?side4 A58.out).mono ?_); (case side1 => repeat (first | exact (Kd.R_reads' HO_279000.out).2.2 | (with_reducible refine Kd.C_alloc ?_ _) | (with_reducible refine Kd.C_drewN ?_ _) | (with_reducible refine Kd.C_drew ?_))); (case side2 => exact (Kd.R_reads' HO_279000.out).2.1); (case side3 => repeat (first | exact (Kd.R_reads' HO_279001.out).2.2 | (with_reducible refine Kd.C_alloc ?_ _) | (with_reducible refine Kd.C_drewN ?_ _) | (with_reducible refine Kd.C_drew ?_))); (case side4 => exact (Kd.R_reads' HO_279001.out).2.1); rintro e w67 ⟨rfl, hb⟩; refine ⟨_, rfl, ?_⟩; have n0_ := ak (Kd.R_below (rTo HO_271000.out) hb); have n1_ := ak (Kd.R_below (rTo HO_271001.out) hb); have n2_ := ak (Kd.R_below (rTo HO_272000.out) hb); have n3_ := ak (Kd.R_below (rTo HO_272001.out) hb); have n4_ := ak (Kd.R_below (rTo HO_279000.out) hb); have n5_ := ak (Kd.R_below (rTo HO_279001.out) hb); have n6_ := ak (blk_below (g := gb270) (o := .cells #[.slice Ao11 t258.length co11, .slice Ao14 t261.length co14] 26 (0, 0)) (bTo BK270.out) hb); have n7_ := ak (blk_below (g := gb271) (o := .cells #[.slice Ao15 t264.length co15, .slice Ao17 t267.length co17] 26 (0, 0)) (bTo BK271.out) hb); have n8_ := ak (blk_below (g := gb278) (o := .cells #[.slice (some ad293) t272.length co20, .slice Ao24 t275.length co24] 26 (0, 0)) (bTo BK278.out) hb); have n9_ := ak (below_step (by repeat (first | (with_reducible first | exact HB.out | apply below_alloc | apply pw_below_drewN | apply below_drew1 | refine below_set ?_ GE270.out | refine below_set ?_ GE271.out | refine below_set ?_ GE278.out) | exact HB.out)) hb); clear HO_271000; clear HO_271001; clear HO_272000; clear HO_272001; clear HO_279000; clear HO_279001; clear BK270; clear BK271; clear BK278; clear HB; have HO_271000 := n0_; have HO_271001 := n1_; have HO_272000 := n2_; have HO_272001 := n3_; have HO_279000 := n4_; have HO_279001 := n5_; have BK270 := n6_; have BK271 := n7_; have BK278 := n8_; have HB := n9_; clear n0_ n1_ n2_ n3_ n4_ n5_ n6_ n7_ n8_ n9_; (try clear hb); (try clear hb2); (try clear hk); (try clear hi)))
         go_roundg k1
         case measure => have := HK1.out; omega
         case rel => exact ⟨(wrap64 (x6_1 + 1)), (by first | rfl | (simp; done) | (simp [*]; done)), H', ⟨by have := HK1.out; omega⟩, ⟨by (with_reducible repeat (first | apply Kd.R_alloc | apply Kd.R_drewN | apply Kd.R_drew)); exact HO_271000.out⟩, ⟨by (with_reducible repeat (first | apply Kd.R_alloc | apply Kd.R_drewN | apply Kd.R_drew)); exact HO_271001.out⟩, ⟨by (with_reducible repeat (first | apply Kd.R_alloc | apply Kd.R_drewN | apply Kd.R_drew)); exact HO_272000.out⟩, ⟨by (with_reducible repeat (first | apply Kd.R_alloc | apply Kd.R_drewN | apply Kd.R_drew)); exact HO_272001.out⟩, ⟨by (with_reducible repeat (first | apply Kd.R_alloc | apply Kd.R_drewN | apply Kd.R_drew)); exact HO_279000.out⟩, ⟨by (with_reducible repeat (first | apply Kd.R_alloc | apply Kd.R_drewN | apply Kd.R_drew)); exact HO_279001.out⟩, ⟨by (with_reducible repeat (first | apply blk_drewN | apply blk_drew | apply blk_alloc)); exact BK270.out⟩, ⟨by (with_reducible repeat (first | apply blk_drewN | apply blk_drew | apply blk_alloc)); exact BK271.out⟩, ⟨by (with_reducible repeat (first | apply blk_drewN | apply blk_drew | apply blk_alloc)); exact BK278.out⟩, ⟨by repeat (first | (with_reducible first | exact HB.out | apply below_alloc | apply pw_below_drewN | apply below_drew1 | refine below_set ?_ GE270.out | refine below_set ?_ GE271.out | refine below_set ?_ GE278.out) | exact HB.out)⟩⟩
        ·rw [if_neg c59] at H
         have c59b0 : (t297 == t294) = false := beq_eq_false_iff_ne.mpr c59
         have c59b1 : (t297 != t294) = true := bne_iff_ne.mpr c59
         obtain rfl := Option.some.inj H
         have hnb68 := NB278_270.out
         have hnc68 := NB270_278.out
         have hnb69 := NB278_271.out
         have hnc69 := NB271_278.out
         have hcz70_0 : wr.cell? ⟨gb278, 0, none⟩ = some (.slice Ao20 t272.length co20) := (blk_cell BK278.out 0).trans rfl
         have hcz70_1 : wr.cell? ⟨gb278, 1, none⟩ = some (.slice Ao24 t275.length co24) := (blk_cell BK278.out 1).trans rfl
         have hfz70_0 := blk_frozen BK278.out 0
         have hfz70_1 := blk_frozen BK278.out 1
         have p293 : 0 ≤ (x6_1 : Int) := of_decide_eq_true (by first | (with_reducible assumption) | assumption)
         have q293 : x6_1 < (t272.length : Int) := of_decide_eq_true (by first | (with_reducible assumption) | assumption)
         obtain ⟨ad293, e293, hx293_0, hx293_1⟩ := at_T37 (Kd.R_reads' HO_279000.out).2.2 x6_1 p293 q293
         cases e293
         replace p293 := eq_true p293
         replace q293 := eq_true q293
         have hnb71 := NB271_270.out
         have hnc71 := NB270_271.out
         have hcz72_0 : wr.cell? ⟨gb271, 0, none⟩ = some (.slice Ao15 t264.length co15) := (blk_cell BK271.out 0).trans rfl
         have hcz72_1 : wr.cell? ⟨gb271, 1, none⟩ = some (.slice Ao17 t267.length co17) := (blk_cell BK271.out 1).trans rfl
         have hfz72_0 := blk_frozen BK271.out 0
         have hfz72_1 := blk_frozen BK271.out 1
         go_wp2_with (first | ((with_reducible refine gate_callee (f := 22) rfl ?_); refine goesL_ (some 48) rfl rfl Try.func22 (by kernel_rfl) rfl #[.agg #[.slice Ao15 t264.length co15, .slice Ao17 t267.length co17], .string ((rd_T37 t272 x6_1).f0)] rfl (by (try simp only [List.map_toArray, List.map_cons, List.map_nil]); first | done | rfl | (simp only [List.length_drop, List.length_take]; rfl)) ?_; (with_reducible refine (impl_OutcomeOf.calls k1 _ _ t264 _ _ t267 ((rd_T37 t272 x6_1).f0) t294 _ ?side1 ?side2 ?side3 ?side4 A33.out).mono ?_); (case side1 => repeat (first | exact (Kd.R_reads' HO_272000.out).2.2 | (with_reducible refine Kd.C_alloc ?_ _) | (with_reducible refine Kd.C_drewN ?_ _) | (with_reducible refine Kd.C_drew ?_))); (case side2 => exact (Kd.R_reads' HO_272000.out).2.1); (case side3 => repeat (first | exact (Kd.R_reads' HO_272001.out).2.2 | (with_reducible refine Kd.C_alloc ?_ _) | (with_reducible refine Kd.C_drewN ?_ _) | (with_reducible refine Kd.C_drew ?_))); (case side4 => exact (Kd.R_reads' HO_272001.out).2.1); rintro e w73 ⟨rfl, hb⟩; refine ⟨_, rfl, ?_⟩; have n0_ := ak (Kd.R_below (rTo HO_271000.out) hb); have n1_ := ak (Kd.R_below (rTo HO_271001.out) hb); have n2_ := ak (Kd.R_below (rTo HO_272000.out) hb); have n3_ := ak (Kd.R_below (rTo HO_272001.out) hb); have n4_ := ak (Kd.R_below (rTo HO_279000.out) hb); have n5_ := ak (Kd.R_below (rTo HO_279001.out) hb); have n6_ := ak (blk_below (g := gb270) (o := .cells #[.slice Ao11 t258.length co11, .slice Ao14 t261.length co14] 26 (0, 0)) (bTo BK270.out) hb); have n7_ := ak (blk_below (g := gb271) (o := .cells #[.slice Ao15 t264.length co15, .slice Ao17 t267.length co17] 26 (0, 0)) (bTo BK271.out) hb); have n8_ := ak (blk_below (g := gb278) (o := .cells #[.slice (some ad293) t272.length co20, .slice Ao24 t275.length co24] 26 (0, 0)) (bTo BK278.out) hb); have n9_ := ak (below_step (by repeat (first | (with_reducible first | exact HB.out | apply below_alloc | apply pw_below_drewN | apply below_drew1 | refine below_set ?_ GE270.out | refine below_set ?_ GE271.out | refine below_set ?_ GE278.out) | exact HB.out)) hb); clear HO_271000; clear HO_271001; clear HO_272000; clear HO_272001; clear HO_279000; clear HO_279001; clear BK270; clear BK271; clear BK278; clear HB; have HO_271000 := n0_; have HO_271001 := n1_; have HO_272000 := n2_; have HO_272001 := n3_; have HO_279000 := n4_; have HO_279001 := n5_; have BK270 := n6_; have BK271 := n7_; have BK278 := n8_; have HB := n9_; clear n0_ n1_ n2_ n3_ n4_ n5_ n6_ n7_ n8_ n9_; (try clear hb); (try clear hb2); (try clear hk); (try clear hi); have hcz74_0 : w73.cell? ⟨gb278, 0, none⟩ = some (.slice (some ad293) t272.length co20) := (blk_cell BK278.out 0).trans rfl; have hcz74_1 : w73.cell? ⟨gb278, 1, none⟩ = some (.slice Ao24 t275.length co24) := (blk_cell BK278.out 1).trans rfl; have hfz74_0 := blk_frozen BK278.out 0; have hfz74_1 := blk_frozen BK278.out 1) | ((with_reducible refine gate_callee (f := 22) rfl ?_); refine goesL_ (some 56) rfl rfl Try.func22 (by kernel_rfl) rfl #[.agg #[.slice (some ad293) t272.length co20, .slice Ao24 t275.length co24], .string ((rd_T37 t272 x6_1).f0)] rfl (by (try simp only [List.map_toArray, List.map_cons, List.map_nil]); first | done | rfl | (simp only [List.length_drop, List.length_take]; rfl)) ?_; (with_reducible refine (impl_OutcomeOf.calls k1 _ _ t272 _ _ t275 ((rd_T37 t272 x6_1).f0) t297 _ ?side1 ?side2 ?side3 ?side4 A58.out).mono ?_); (case side1 => repeat (first | exact (Kd.R_reads' HO_279000.out).2.2 | (with_reducible refine Kd.C_alloc ?_ _) | (with_reducible refine Kd.C_drewN ?_ _) | (with_reducible refine Kd.C_drew ?_))); (case side2 => exact (Kd.R_reads' HO_279000.out).2.1); (case side3 => repeat (first | exact (Kd.R_reads' HO_279001.out).2.2 | (with_reducible refine Kd.C_alloc ?_ _) | (with_reducible refine Kd.C_drewN ?_ _) | (with_reducible refine Kd.C_drew ?_))); (case side4 => exact (Kd.R_reads' HO_279001.out).2.1); rintro e w75 ⟨rfl, hb⟩; refine ⟨_, rfl, ?_⟩; have n0_ := ak (Kd.R_below (rTo HO_271000.out) hb); have n1_ := ak (Kd.R_below (rTo HO_271001.out) hb); have n2_ := ak (Kd.R_below (rTo HO_272000.out) hb); have n3_ := ak (Kd.R_below (rTo HO_272001.out) hb); have n4_ := ak (Kd.R_below (rTo HO_279000.out) hb); have n5_ := ak (Kd.R_below (rTo HO_279001.out) hb); have n6_ := ak (blk_below (g := gb270) (o := .cells #[.slice Ao11 t258.length co11, .slice Ao14 t261.length co14] 26 (0, 0)) (bTo BK270.out) hb); have n7_ := ak (blk_below (g := gb271) (o := .cells #[.slice Ao15 t264.length co15, .slice Ao17 t267.length co17] 26 (0, 0)) (bTo BK271.out) hb); have n8_ := ak (blk_below (g := gb278) (o := .cells #[.slice (some ad293) t272.length co20, .slice Ao24 t275.length co24] 26 (0, 0)) (bTo BK278.out) hb); have n9_ := ak (below_step (by repeat (first | (with_reducible first | exact HB.out | apply below_alloc | apply pw_below_drewN | apply below_drew1 | refine below_set ?_ GE270.out | refine below_set ?_ GE271.out | refine below_set ?_ GE278.out) | exact HB.out)) hb); clear HO_271000; clear HO_271001; clear HO_272000; clear HO_272001; clear HO_279000; clear HO_279001; clear BK270; clear BK271; clear BK278; clear HB; have HO_271000 := n0_; have HO_271001 := n1_; have HO_272000 := n2_; have HO_272001 := n3_; have HO_279000 := n4_; have HO_279001 := n5_; have BK270 := n6_; have BK271 := n7_; have BK278 := n8_; have HB := n9_; clear n0_ n1_ n2_ n3_ n4_ n5_ n6_ n7_ n8_ n9_; (try clear hb); (try clear hb2); (try clear hk); (try clear hi)))
         go_ret
         exact ⟨by first | rfl | (simp [errW_none, errW_some] <;> rfl) | (simp [*, errW_none, errW_some] <;> rfl), by repeat (first | (with_reducible first | exact HB.out | apply below_alloc | apply pw_below_drewN | apply below_drew1 | refine below_set ?_ GE270.out | refine below_set ?_ GE271.out | refine below_set ?_ GE278.out) | exact HB.out)⟩
      ·rw [if_neg c32] at H
       exact absurd H (by simp)
     ·rw [if_neg c31] at H
      have c31b0 : decide (x6_1 < (t272.length : Int)) = false := decide_eq_false c31
      clear c31
      replace H := Option.bind_eq_some_iff.mp H
      obtain ⟨⟨t286, t289⟩, A760, H⟩ := H
      replace H : ((laws_equalReport.f k1 t286 t289 t258 t261).bind fun t292 => (if t292 = true then (some ((t275.length : Int) == (wrap64 ((t261.length : Int) + (t267.length : Int))))) else (some false))) = some r := H
      have A76 := ak A760
      clear A760
      replace H := Option.bind_eq_some_iff.mp H
      obtain ⟨t292, A770, H⟩ := H
      replace H : (if t292 = true then (some ((t275.length : Int) == (wrap64 ((t261.length : Int) + (t267.length : Int))))) else (some false)) = some r := H
      have A77 := ak A770
      clear A770
      by_cases c78 : t292 = true
      ·subst c78
       have H1 : (some ((t275.length : Int) == (wrap64 ((t261.length : Int) + (t267.length : Int))))) = some r := by rw [if_pos rfl] at H; exact H
       clear H
       have H := H1
       clear H1
       obtain rfl := Option.some.inj H
       have hnb79 := NB278_270.out
       have hnc79 := NB270_278.out
       have hnb80 := NB278_271.out
       have hnc80 := NB271_278.out
       have hcz81_0 : wr.cell? ⟨gb278, 0, none⟩ = some (.slice Ao20 t272.length co20) := (blk_cell BK278.out 0).trans rfl
       have hcz81_1 : wr.cell? ⟨gb278, 1, none⟩ = some (.slice Ao24 t275.length co24) := (blk_cell BK278.out 1).trans rfl
       have hfz81_0 := blk_frozen BK278.out 0
       have hfz81_1 := blk_frozen BK278.out 1
       try go_wp2
       have n0_ := ak (Kd.R_drew HO_271000.out)
       have n1_ := ak (Kd.R_drew HO_271001.out)
       have n2_ := ak (Kd.R_drew HO_272000.out)
       have n3_ := ak (Kd.R_drew HO_272001.out)
       have n4_ := ak (Kd.R_drew HO_279000.out)
       have n5_ := ak (Kd.R_drew HO_279001.out)
       have n6_ := ak (blk_drew BK270.out)
       have n7_ := ak (blk_drew BK271.out)
       have n8_ := ak (blk_drew BK278.out)
       have n9_ := ak (below_drew1 HB.out)
       clear HO_271000
       clear HO_271001
       clear HO_272000
       clear HO_272001
       clear HO_279000
       clear HO_279001
       clear BK270
       clear BK271
       clear BK278
       clear HB
       have HO_271000 := n0_
       have HO_271001 := n1_
       have HO_272000 := n2_
       have HO_272001 := n3_
       have HO_279000 := n4_
       have HO_279001 := n5_
       have BK270 := n6_
       have BK271 := n7_
       have BK278 := n8_
       have HB := n9_
       clear n0_ n1_ n2_ n3_ n4_ n5_ n6_ n7_ n8_ n9_
       refine start_ (n := 19) (S := fun w' => w'.cell? ⟨gb270, 0, none⟩ = some (.slice Ao11 t258.length co11) ∧ w'.cell? ⟨gb270, 1, none⟩ = some (.slice Ao14 t261.length co14) ∧ w'.cell? ⟨gb278, 0, none⟩ = some (.slice Ao20 t272.length co20) ∧ w'.cell? ⟨gb278, 1, none⟩ = some (.slice Ao24 t275.length co24) ∧ w'.cell? ⟨gb271, 0, none⟩ = some (.slice Ao15 t264.length co15) ∧ w'.cell? ⟨gb271, 1, none⟩ = some (.slice Ao17 t267.length co17)) (ds := []) #[false, false, false, false, false, false, false, false, false, false, false, false, false, false, false, false, false, false, false] (by kernel_rfl) rfl rfl ⟨(blk_cell BK270.out 0).trans rfl, (blk_cell BK270.out 1).trans rfl, (blk_cell BK278.out 0).trans rfl, (blk_cell BK278.out 1).trans rfl, (blk_cell BK271.out 0).trans rfl, (blk_cell BK271.out 1).trans rfl⟩ (fun hHeld => ?_); refine with_tabW laws_FnMergeReports.tab16 laws_FnMergeReports.bits16 (fun HT_ HW_ => ?_)
       generalize wr.drew = w82 at HO_271000 HO_271001 HO_272000 HO_272001 HO_279000 HO_279001 BK270 BK271 BK278 HB hHeld ⊢
       refine pure_ (i := 1) (N := some 60) (v := ?_) (a' := ?_) #[false, true, false, false, false, false, false, false, false, false, false, false, false, false, false, false, false, false, false] rfl rfl (any_of HT_.out (by kernel_rfl)) (fun _ _ _ h => h) (Or.inl ⟨by rfl, ?_⟩) ?_ ?_
       rotate_left
       ·intro w'
        go_simp
        with_reducible rfl
       rotate_left
       ·simp only [Act.put, List.setIfInBounds_toArray, List.set_cons_zero, List.set_cons_succ, i64_w, i32_w]
        rfl
       refine take_ (i := 0) (N := some 59) (v := ?_) (a' := ?_) #[true, true, false, false, false, false, false, false, false, false, false, false, false, false, false, false, false, false, false] rfl rfl (take_ofW HT_.out HW_.out (by kernel_rfl)) (fun _ _ _ h => h) (Or.inl ⟨by rfl, ?_⟩) hHeld ?_ ?_
       rotate_left
       ·rintro w' ⟨s0, s1, s2, s3, s4, s5⟩
        go_simp
        with_reducible rfl
       rotate_left
       ·simp only [Act.put, List.setIfInBounds_toArray, List.set_cons_zero, List.set_cons_succ, i64_w, i32_w]
        rfl
       refine take_ (i := 3) (N := some 62) (v := ?_) (a' := ?_) #[true, true, false, true, false, false, false, false, false, false, false, false, false, false, false, false, false, false, false] rfl rfl (take_ofW HT_.out HW_.out (by kernel_rfl)) (fun _ _ _ h => h) (Or.inl ⟨by rfl, ?_⟩) hHeld ?_ ?_
       rotate_left
       ·rintro w' ⟨s0, s1, s2, s3, s4, s5⟩
        go_simp
        with_reducible rfl
       rotate_left
       ·simp only [Act.put, List.setIfInBounds_toArray, List.set_cons_zero, List.set_cons_succ, i64_w, i32_w]
        rfl
       refine one_ (i := 2) (N := some 61) #[true, true, true, true, false, false, false, false, false, false, false, false, false, false, false, false, false, false, false] rfl rfl (one_of HT_.out (by kernel_rfl)) (by decide) (fun K hK => ?_)
       refine goes_ Try.func19 (by kernel_rfl) rfl #[.agg #[.slice Ao11 t258.length co11, .slice Ao14 t261.length co14], .agg #[.slice none 0 0, .slice none 0 0]] (by rfl) rfl rfl (by (try simp only [List.map_toArray, List.map_cons, List.map_nil]); first | done | rfl | (simp only [List.length_drop, List.length_take]; rfl)) ?_
       refine (impl_MergeReports.calls k1 _ _ t258 _ _ t261 _ _ ([] : List (S37)) _ _ ([] : List ByteArray) t286 t289 _ ?side1 ?side2 ?side3 ?side4 ?side5 ?side6 ?side7 ?side8 A76.out).mono ?_
       (case side1 => repeat (first | exact (Kd.R_reads' HO_271000.out).2.2 | (with_reducible refine Kd.C_alloc ?_ _) | (with_reducible refine Kd.C_drewN ?_ _) | (with_reducible refine Kd.C_drew ?_)))
       (case side2 => exact (Kd.R_reads' HO_271000.out).2.1)
       (case side3 => repeat (first | exact (Kd.R_reads' HO_271001.out).2.2 | (with_reducible refine Kd.C_alloc ?_ _) | (with_reducible refine Kd.C_drewN ?_ _) | (with_reducible refine Kd.C_drew ?_)))
       (case side4 => exact (Kd.R_reads' HO_271001.out).2.1)
       (case side5 => exact Kd.C_nil _ _)
       (case side6 => exact Nat.le_refl _)
       (case side7 => exact Kd.C_nil _ _)
       (case side8 => exact Nat.le_refl _)
       rintro e w83 ⟨v287, v290, rfl, ho0, ho1, hb⟩
       refine ⟨_, rfl, ?_⟩
       have n0_ := ak (Kd.R_elder' (rTo HO_271000.out) (Kd.R_base ho0) hb)
       have n1_ := ak (Kd.R_elder' (rTo HO_271001.out) (Kd.R_base ho1) hb)
       have n2_ := ak (Kd.R_elder' (rTo HO_272000.out) (Kd.R_base ho0) hb)
       have n3_ := ak (Kd.R_elder' (rTo HO_272001.out) (Kd.R_base ho1) hb)
       have n4_ := ak (Kd.R_elder' (rTo HO_279000.out) (Kd.R_base ho0) hb)
       have n5_ := ak (Kd.R_elder' (rTo HO_279001.out) (Kd.R_base ho1) hb)
       have n6_ := ak (Kd.R_lower (Kd.R_new' (Kd.R_new' (Kd.R_new' ho0 (Kd.R_lt (rTo HO_271000.out))) (Kd.R_lt (rTo HO_272000.out))) (Kd.R_lt (rTo HO_279000.out))) (below_size (by repeat (first | (with_reducible first | exact HB.out | apply below_alloc | apply pw_below_drewN | apply below_drew1 | refine below_set ?_ GE270.out | refine below_set ?_ GE271.out | refine below_set ?_ GE278.out) | exact HB.out))))
       have n7_ := ak (Kd.R_lower (Kd.R_new' (Kd.R_new' (Kd.R_new' ho1 (Kd.R_lt (rTo HO_271001.out))) (Kd.R_lt (rTo HO_272001.out))) (Kd.R_lt (rTo HO_279001.out))) (below_size (by repeat (first | (with_reducible first | exact HB.out | apply below_alloc | apply pw_below_drewN | apply below_drew1 | refine below_set ?_ GE270.out | refine below_set ?_ GE271.out | refine below_set ?_ GE278.out) | exact HB.out))))
       have n8_ := ak (blk_below (g := gb270) (o := .cells #[.slice Ao11 t258.length co11, .slice Ao14 t261.length co14] 26 (0, 0)) (bTo BK270.out) hb)
       have n9_ := ak (blk_below (g := gb271) (o := .cells #[.slice Ao15 t264.length co15, .slice Ao17 t267.length co17] 26 (0, 0)) (bTo BK271.out) hb)
       have n10_ := ak (blk_below (g := gb278) (o := .cells #[.slice Ao20 t272.length co20, .slice Ao24 t275.length co24] 26 (0, 0)) (bTo BK278.out) hb)
       have n11_ := ak (below_step (by repeat (first | (with_reducible first | exact HB.out | apply below_alloc | apply pw_below_drewN | apply below_drew1 | refine below_set ?_ GE270.out | refine below_set ?_ GE271.out | refine below_set ?_ GE278.out) | exact HB.out)) hb)
       clear HO_271000
       clear HO_271001
       clear HO_272000
       clear HO_272001
       clear HO_279000
       clear HO_279001
       clear BK270
       clear BK271
       clear BK278
       clear HB
       have HO_271000 := n0_
       have HO_271001 := n1_
       have HO_272000 := n2_
       have HO_272001 := n3_
       have HO_279000 := n4_
       have HO_279001 := n5_
       have HO288 := n6_
       have HO291 := n7_
       have BK270 := n8_
       have BK271 := n9_
       have BK278 := n10_
       have HB := n11_
       clear n0_ n1_ n2_ n3_ n4_ n5_ n6_ n7_ n8_ n9_ n10_ n11_
       (try clear hb)
       (try clear hb2)
       (try clear hk)
       (try clear hi)
       (try clear ho0)
       (try clear ho1)
       obtain ⟨Ao84, co84, eo84⟩ := Kd.R_slice HO288.out
       (first | subst eo84 | (injection eo84 with f1_ f2_ f3_; have f4_ := f1_.symm; have f5_ := f3_.symm; clear f1_ f2_ f3_; subst f4_; subst f5_))
       obtain ⟨Ao85, co85, eo85⟩ := Kd.R_slice HO291.out
       (first | subst eo85 | (injection eo85 with f1_ f2_ f3_; have f4_ := f1_.symm; have f5_ := f3_.symm; clear f1_ f2_ f3_; subst f4_; subst f5_))
       refine hK.out _ _ ⟨(blk_cell BK270.out 0).trans rfl, (blk_cell BK270.out 1).trans rfl, (blk_cell BK278.out 0).trans rfl, (blk_cell BK278.out 1).trans rfl, (blk_cell BK271.out 0).trans rfl, (blk_cell BK271.out 1).trans rfl⟩ (fun hHeld => ?_)
       clear hK K
       refine norm_ (a' := ?_) ?_ ?_
       rotate_left
       ·show Act.put _ (some 61) _ = _
        simp only [Act.put, List.setIfInBounds_toArray, List.set_cons_zero, List.set_cons_succ, i64_w, i32_w]
        rfl
       refine one_ (i := 4) (N := some 63) #[true, true, true, true, true, false, false, false, false, false, false, false, false, false, false, false, false, false, false] rfl rfl (one_of HT_.out (by kernel_rfl)) (by decide) (fun K hK => ?_)
       refine goes_ Try.func20 (by kernel_rfl) rfl #[.agg #[.slice Ao84 t286.length co84, .slice Ao85 t289.length co85], .agg #[.slice Ao11 t258.length co11, .slice Ao14 t261.length co14]] (by rfl) rfl rfl (by (try simp only [List.map_toArray, List.map_cons, List.map_nil]); first | done | rfl | (simp only [List.length_drop, List.length_take]; rfl)) ?_
       with_reducible refine (laws_equalReport.calls k1 _ _ t286 _ _ t289 _ _ t258 _ _ t261 true _ ?side1 ?side2 ?side3 ?side4 ?side5 ?side6 ?side7 ?side8 A77.out).mono ?_
       (case side1 => repeat (first | exact (Kd.R_reads' HO288.out).2.2 | (with_reducible refine Kd.C_alloc ?_ _) | (with_reducible refine Kd.C_drewN ?_ _) | (with_reducible refine Kd.C_drew ?_)))
       (case side2 => exact (Kd.R_reads' HO288.out).2.1)
       (case side3 => repeat (first | exact (Kd.R_reads' HO291.out).2.2 | (with_reducible refine Kd.C_alloc ?_ _) | (with_reducible refine Kd.C_drewN ?_ _) | (with_reducible refine Kd.C_drew ?_)))
       (case side4 => exact (Kd.R_reads' HO291.out).2.1)
       (case side5 => repeat (first | exact (Kd.R_reads' HO_271000.out).2.2 | (with_reducible refine Kd.C_alloc ?_ _) | (with_reducible refine Kd.C_drewN ?_ _) | (with_reducible refine Kd.C_drew ?_)))
       (case side6 => exact (Kd.R_reads' HO_271000.out).2.1)
       (case side7 => repeat (first | exact (Kd.R_reads' HO_271001.out).2.2 | (with_reducible refine Kd.C_alloc ?_ _) | (with_reducible refine Kd.C_drewN ?_ _) | (with_reducible refine Kd.C_drew ?_)))
       (case side8 => exact (Kd.R_reads' HO_271001.out).2.1)
       rintro e w86 ⟨rfl, hb⟩
       refine ⟨_, rfl, ?_⟩
       have n0_ := ak (Kd.R_below (rTo HO_271000.out) hb)
       have n1_ := ak (Kd.R_below (rTo HO_271001.out) hb)
       have n2_ := ak (Kd.R_below (rTo HO_272000.out) hb)
       have n3_ := ak (Kd.R_below (rTo HO_272001.out) hb)
       have n4_ := ak (Kd.R_below (rTo HO_279000.out) hb)
       have n5_ := ak (Kd.R_below (rTo HO_279001.out) hb)
       have n6_ := ak (Kd.R_below (rTo HO288.out) hb)
       have n7_ := ak (Kd.R_below (rTo HO291.out) hb)
       have n8_ := ak (blk_below (g := gb270) (o := .cells #[.slice Ao11 t258.length co11, .slice Ao14 t261.length co14] 26 (0, 0)) (bTo BK270.out) hb)
       have n9_ := ak (blk_below (g := gb271) (o := .cells #[.slice Ao15 t264.length co15, .slice Ao17 t267.length co17] 26 (0, 0)) (bTo BK271.out) hb)
       have n10_ := ak (blk_below (g := gb278) (o := .cells #[.slice Ao20 t272.length co20, .slice Ao24 t275.length co24] 26 (0, 0)) (bTo BK278.out) hb)
       have n11_ := ak (below_step (by repeat (first | (with_reducible first | exact HB.out | apply below_alloc | apply pw_below_drewN | apply below_drew1 | refine below_set ?_ GE270.out | refine below_set ?_ GE271.out | refine below_set ?_ GE278.out) | exact HB.out)) hb)
       clear HO_271000
       clear HO_271001
       clear HO_272000
       clear HO_272001
       clear HO_279000
       clear HO_279001
       clear HO288
       clear HO291
       clear BK270
       clear BK271
       clear BK278
       clear HB
       have HO_271000 := n0_
       have HO_271001 := n1_
       have HO_272000 := n2_
       have HO_272001 := n3_
       have HO_279000 := n4_
       have HO_279001 := n5_
       have HO288 := n6_
       have HO291 := n7_
       have BK270 := n8_
       have BK271 := n9_
       have BK278 := n10_
       have HB := n11_
       clear n0_ n1_ n2_ n3_ n4_ n5_ n6_ n7_ n8_ n9_ n10_ n11_
       (try clear hb)
       (try clear hb2)
       (try clear hk)
       (try clear hi)
       refine hK.out _ _ ⟨(blk_cell BK270.out 0).trans rfl, (blk_cell BK270.out 1).trans rfl, (blk_cell BK278.out 0).trans rfl, (blk_cell BK278.out 1).trans rfl, (blk_cell BK271.out 0).trans rfl, (blk_cell BK271.out 1).trans rfl⟩ (fun hHeld => ?_)
       clear hK K
       refine norm_ (a' := ?_) ?_ ?_
       rotate_left
       ·show Act.put _ (some 63) _ = _
        simp only [Act.put, List.setIfInBounds_toArray, List.set_cons_zero, List.set_cons_succ, i64_w, i32_w]
        rfl
       refine pure_ (i := 5) (N := some 64) (v := ?_) (a' := ?_) #[true, true, true, true, true, true, false, false, false, false, false, false, false, false, false, false, false, false, false] rfl rfl (any_of HT_.out (by kernel_rfl)) (fun _ _ _ h => h) (Or.inl ⟨by rfl, ?_⟩) ?_ ?_
       rotate_left
       ·intro w'
        go_simp
        with_reducible rfl
       rotate_left
       ·simp only [Act.put, List.setIfInBounds_toArray, List.set_cons_zero, List.set_cons_succ, i64_w, i32_w]
        rfl
       refine pure_ (i := 6) (N := some 65) (v := ?_) (a' := ?_) #[true, true, true, true, true, true, true, false, false, false, false, false, false, false, false, false, false, false, false] rfl rfl (any_of HT_.out (by kernel_rfl)) (fun _ _ _ h => h) (Or.inl ⟨by rfl, ?_⟩) ?_ ?_
       rotate_left
       ·intro w'
        go_simp
        with_reducible rfl
       rotate_left
       ·simp only [Act.put, List.setIfInBounds_toArray, List.set_cons_zero, List.set_cons_succ, i64_w, i32_w]
        rfl
       refine pure_ (i := 9) (N := some 68) (v := ?_) (a' := ?_) #[true, true, true, true, true, true, true, false, false, true, false, false, false, false, false, false, false, false, false] rfl rfl (any_of HT_.out (by kernel_rfl)) (fun _ _ _ h => h) (Or.inl ⟨by rfl, ?_⟩) ?_ ?_
       rotate_left
       ·intro w'
        go_simp
        with_reducible rfl
       rotate_left
       ·simp only [Act.put, List.setIfInBounds_toArray, List.set_cons_zero, List.set_cons_succ, i64_w, i32_w]
        rfl
       refine pure_ (i := 12) (N := some 71) (v := ?_) (a' := ?_) #[true, true, true, true, true, true, true, false, false, true, false, false, true, false, false, false, false, false, false] rfl rfl (any_of HT_.out (by kernel_rfl)) (fun _ _ _ h => h) (Or.inl ⟨by rfl, ?_⟩) ?_ ?_
       rotate_left
       ·intro w'
        go_simp
        with_reducible rfl
       rotate_left
       ·simp only [Act.put, List.setIfInBounds_toArray, List.set_cons_zero, List.set_cons_succ, i64_w, i32_w]
        rfl
       refine take_ (i := 7) (N := some 66) (v := ?_) (a' := ?_) #[true, true, true, true, true, true, true, true, false, true, false, false, true, false, false, false, false, false, false] rfl rfl (take_ofW HT_.out HW_.out (by kernel_rfl)) (fun _ _ _ h => h) (Or.inl ⟨by rfl, ?_⟩) hHeld ?_ ?_
       rotate_left
       ·rintro w' ⟨s0, s1, s2, s3, s4, s5⟩
        go_simp
        with_reducible rfl
       rotate_left
       ·simp only [Act.put, List.setIfInBounds_toArray, List.set_cons_zero, List.set_cons_succ, i64_w, i32_w]
        rfl
       refine pure_ (i := 8) (N := some 67) (v := ?_) (a' := ?_) #[true, true, true, true, true, true, true, true, true, true, false, false, true, false, false, false, false, false, false] rfl rfl (any_of HT_.out (by kernel_rfl)) (fun _ _ _ h => h) (Or.inl ⟨by rfl, ?_⟩) ?_ ?_
       rotate_left
       ·intro w'
        go_simp
        with_reducible rfl
       rotate_left
       ·simp only [Act.put, List.setIfInBounds_toArray, List.set_cons_zero, List.set_cons_succ, i64_w, i32_w]
        rfl
       refine take_ (i := 10) (N := some 69) (v := ?_) (a' := ?_) #[true, true, true, true, true, true, true, true, true, true, true, false, true, false, false, false, false, false, false] rfl rfl (take_ofW HT_.out HW_.out (by kernel_rfl)) (fun _ _ _ h => h) (Or.inl ⟨by rfl, ?_⟩) hHeld ?_ ?_
       rotate_left
       ·rintro w' ⟨s0, s1, s2, s3, s4, s5⟩
        go_simp
        with_reducible rfl
       rotate_left
       ·simp only [Act.put, List.setIfInBounds_toArray, List.set_cons_zero, List.set_cons_succ, i64_w, i32_w]
        rfl
       refine pure_ (i := 11) (N := some 70) (v := ?_) (a' := ?_) #[true, true, true, true, true, true, true, true, true, true, true, true, true, false, false, false, false, false, false] rfl rfl (any_of HT_.out (by kernel_rfl)) (fun _ _ _ h => h) (Or.inl ⟨by rfl, ?_⟩) ?_ ?_
       rotate_left
       ·intro w'
        go_simp
        with_reducible rfl
       rotate_left
       ·simp only [Act.put, List.setIfInBounds_toArray, List.set_cons_zero, List.set_cons_succ, i64_w, i32_w]
        rfl
       refine take_ (i := 13) (N := some 72) (v := ?_) (a' := ?_) #[true, true, true, true, true, true, true, true, true, true, true, true, true, true, false, false, false, false, false] rfl rfl (take_ofW HT_.out HW_.out (by kernel_rfl)) (fun _ _ _ h => h) (Or.inl ⟨by rfl, ?_⟩) hHeld ?_ ?_
       rotate_left
       ·rintro w' ⟨s0, s1, s2, s3, s4, s5⟩
        go_simp
        with_reducible rfl
       rotate_left
       ·simp only [Act.put, List.setIfInBounds_toArray, List.set_cons_zero, List.set_cons_succ, i64_w, i32_w]
        rfl
       refine pure_ (i := 14) (N := some 73) (v := ?_) (a' := ?_) #[true, true, true, true, true, true, true, true, true, true, true, true, true, true, true, false, false, false, false] rfl rfl (any_of HT_.out (by kernel_rfl)) (fun _ _ _ h => h) (Or.inl ⟨by rfl, ?_⟩) ?_ ?_
       rotate_left
       ·intro w'
        go_simp
        with_reducible rfl
       rotate_left
       ·simp only [Act.put, List.setIfInBounds_toArray, List.set_cons_zero, List.set_cons_succ, i64_w, i32_w]
        rfl
       refine pure_ (i := 15) (N := some 74) (v := ?_) (a' := ?_) #[true, true, true, true, true, true, true, true, true, true, true, true, true, true, true, true, false, false, false] rfl rfl (any_of HT_.out (by kernel_rfl)) (fun _ _ _ h => h) (Or.inl ⟨by rfl, ?_⟩) ?_ ?_
       rotate_left
       ·intro w'
        go_simp
        with_reducible rfl
       rotate_left
       ·simp only [Act.put, List.setIfInBounds_toArray, List.set_cons_zero, List.set_cons_succ, i64_w, i32_w]
        rfl
       refine pure_ (i := 16) (N := some 75) (v := ?_) (a' := ?_) #[true, true, true, true, true, true, true, true, true, true, true, true, true, true, true, true, true, false, false] rfl rfl (any_of HT_.out (by kernel_rfl)) (fun _ _ _ h => h) (Or.inl ⟨by rfl, ?_⟩) ?_ ?_
       rotate_left
       ·intro w'
        go_simp
        with_reducible rfl
       rotate_left
       ·simp only [Act.put, List.setIfInBounds_toArray, List.set_cons_zero, List.set_cons_succ, i64_w, i32_w]
        rfl
       refine pure_ (i := 17) (N := some 76) (v := ?_) (a' := ?_) #[true, true, true, true, true, true, true, true, true, true, true, true, true, true, true, true, true, true, false] rfl rfl (any_of HT_.out (by kernel_rfl)) (fun _ _ _ h => h) (Or.inl ⟨by rfl, ?_⟩) ?_ ?_
       rotate_left
       ·intro w'
        go_simp
        with_reducible rfl
       rotate_left
       ·simp only [Act.put, List.setIfInBounds_toArray, List.set_cons_zero, List.set_cons_succ, i64_w, i32_w]
        rfl
       refine pure_ (i := 18) (N := some 2) (v := ?_) (a' := ?_) #[true, true, true, true, true, true, true, true, true, true, true, true, true, true, true, true, true, true, true] rfl rfl (any_of HT_.out (by kernel_rfl)) (fun _ _ _ h => h) (Or.inl ⟨by rfl, ?_⟩) ?_ ?_
       rotate_left
       ·intro w'
        go_simp
        with_reducible rfl
       rotate_left
       ·simp only [Act.put, List.setIfInBounds_toArray, List.set_cons_zero, List.set_cons_succ, i64_w, i32_w]
        rfl
       refine done_ (done_of HT_.out (by kernel_rfl)) ?_
       try go_wp2
       go_ret
       exact ⟨by first | rfl | (simp [errW_none, errW_some] <;> rfl) | (simp [*, errW_none, errW_some] <;> rfl), by repeat (first | (with_reducible first | exact HB.out | apply below_alloc | apply pw_below_drewN | apply below_drew1 | refine below_set ?_ GE270.out | refine below_set ?_ GE271.out | refine below_set ?_ GE278.out) | exact HB.out)⟩
      ·replace c78 := Bool.eq_false_iff.mpr c78
       subst c78
       have H1 : (some false) = some r := by rw [if_neg (show ¬ (false = true) by decide)] at H; exact H
       clear H
       have H := H1
       clear H1
       obtain rfl := Option.some.inj H
       have hnb87 := NB278_270.out
       have hnc87 := NB270_278.out
       have hnb88 := NB278_271.out
       have hnc88 := NB271_278.out
       have hcz89_0 : wr.cell? ⟨gb278, 0, none⟩ = some (.slice Ao20 t272.length co20) := (blk_cell BK278.out 0).trans rfl
       have hcz89_1 : wr.cell? ⟨gb278, 1, none⟩ = some (.slice Ao24 t275.length co24) := (blk_cell BK278.out 1).trans rfl
       have hfz89_0 := blk_frozen BK278.out 0
       have hfz89_1 := blk_frozen BK278.out 1
       try go_wp2
       have n0_ := ak (Kd.R_drew HO_271000.out)
       have n1_ := ak (Kd.R_drew HO_271001.out)
       have n2_ := ak (Kd.R_drew HO_272000.out)
       have n3_ := ak (Kd.R_drew HO_272001.out)
       have n4_ := ak (Kd.R_drew HO_279000.out)
       have n5_ := ak (Kd.R_drew HO_279001.out)
       have n6_ := ak (blk_drew BK270.out)
       have n7_ := ak (blk_drew BK271.out)
       have n8_ := ak (blk_drew BK278.out)
       have n9_ := ak (below_drew1 HB.out)
       clear HO_271000
       clear HO_271001
       clear HO_272000
       clear HO_272001
       clear HO_279000
       clear HO_279001
       clear BK270
       clear BK271
       clear BK278
       clear HB
       have HO_271000 := n0_
       have HO_271001 := n1_
       have HO_272000 := n2_
       have HO_272001 := n3_
       have HO_279000 := n4_
       have HO_279001 := n5_
       have BK270 := n6_
       have BK271 := n7_
       have BK278 := n8_
       have HB := n9_
       clear n0_ n1_ n2_ n3_ n4_ n5_ n6_ n7_ n8_ n9_
       refine start_ (n := 19) (S := fun w' => w'.cell? ⟨gb270, 0, none⟩ = some (.slice Ao11 t258.length co11) ∧ w'.cell? ⟨gb270, 1, none⟩ = some (.slice Ao14 t261.length co14)) (ds := []) #[false, false, false, false, false, false, false, false, false, false, false, false, false, false, false, false, false, false, false] (by kernel_rfl) rfl rfl ⟨(blk_cell BK270.out 0).trans rfl, (blk_cell BK270.out 1).trans rfl⟩ (fun hHeld => ?_); refine with_tabW laws_FnMergeReports.tab16 laws_FnMergeReports.bits16 (fun HT_ HW_ => ?_)
       generalize wr.drew = w90 at HO_271000 HO_271001 HO_272000 HO_272001 HO_279000 HO_279001 BK270 BK271 BK278 HB hHeld ⊢
       refine pure_ (i := 1) (N := some 60) (v := ?_) (a' := ?_) #[false, true, false, false, false, false, false, false, false, false, false, false, false, false, false, false, false, false, false] rfl rfl (any_of HT_.out (by kernel_rfl)) (fun _ _ _ h => h) (Or.inl ⟨by rfl, ?_⟩) ?_ ?_
       rotate_left
       ·intro w'
        go_simp
        with_reducible rfl
       rotate_left
       ·simp only [Act.put, List.setIfInBounds_toArray, List.set_cons_zero, List.set_cons_succ, i64_w, i32_w]
        rfl
       refine take_ (i := 0) (N := some 59) (v := ?_) (a' := ?_) #[true, true, false, false, false, false, false, false, false, false, false, false, false, false, false, false, false, false, false] rfl rfl (take_ofW HT_.out HW_.out (by kernel_rfl)) (fun _ _ _ h => h) (Or.inl ⟨by rfl, ?_⟩) hHeld ?_ ?_
       rotate_left
       ·rintro w' ⟨s0, s1⟩
        go_simp
        with_reducible rfl
       rotate_left
       ·simp only [Act.put, List.setIfInBounds_toArray, List.set_cons_zero, List.set_cons_succ, i64_w, i32_w]
        rfl
       refine take_ (i := 3) (N := some 62) (v := ?_) (a' := ?_) #[true, true, false, true, false, false, false, false, false, false, false, false, false, false, false, false, false, false, false] rfl rfl (take_ofW HT_.out HW_.out (by kernel_rfl)) (fun _ _ _ h => h) (Or.inl ⟨by rfl, ?_⟩) hHeld ?_ ?_
       rotate_left
       ·rintro w' ⟨s0, s1⟩
        go_simp
        with_reducible rfl
       rotate_left
       ·simp only [Act.put, List.setIfInBounds_toArray, List.set_cons_zero, List.set_cons_succ, i64_w, i32_w]
        rfl
       refine one_ (i := 2) (N := some 61) #[true, true, true, true, false, false, false, false, false, false, false, false, false, false, false, false, false, false, false] rfl rfl (one_of HT_.out (by kernel_rfl)) (by decide) (fun K hK => ?_)
       refine goes_ Try.func19 (by kernel_rfl) rfl #[.agg #[.slice Ao11 t258.length co11, .slice Ao14 t261.length co14], .agg #[.slice none 0 0, .slice none 0 0]] (by rfl) rfl rfl (by (try simp only [List.map_toArray, List.map_cons, List.map_nil]); first | done | rfl | (simp only [List.length_drop, List.length_take]; rfl)) ?_
       refine (impl_MergeReports.calls k1 _ _ t258 _ _ t261 _ _ ([] : List (S37)) _ _ ([] : List ByteArray) t286 t289 _ ?side1 ?side2 ?side3 ?side4 ?side5 ?side6 ?side7 ?side8 A76.out).mono ?_
       (case side1 => repeat (first | exact (Kd.R_reads' HO_271000.out).2.2 | (with_reducible refine Kd.C_alloc ?_ _) | (with_reducible refine Kd.C_drewN ?_ _) | (with_reducible refine Kd.C_drew ?_)))
       (case side2 => exact (Kd.R_reads' HO_271000.out).2.1)
       (case side3 => repeat (first | exact (Kd.R_reads' HO_271001.out).2.2 | (with_reducible refine Kd.C_alloc ?_ _) | (with_reducible refine Kd.C_drewN ?_ _) | (with_reducible refine Kd.C_drew ?_)))
       (case side4 => exact (Kd.R_reads' HO_271001.out).2.1)
       (case side5 => exact Kd.C_nil _ _)
       (case side6 => exact Nat.le_refl _)
       (case side7 => exact Kd.C_nil _ _)
       (case side8 => exact Nat.le_refl _)
       rintro e w91 ⟨v287, v290, rfl, ho0, ho1, hb⟩
       refine ⟨_, rfl, ?_⟩
       have n0_ := ak (Kd.R_elder' (rTo HO_271000.out) (Kd.R_base ho0) hb)
       have n1_ := ak (Kd.R_elder' (rTo HO_271001.out) (Kd.R_base ho1) hb)
       have n2_ := ak (Kd.R_elder' (rTo HO_272000.out) (Kd.R_base ho0) hb)
       have n3_ := ak (Kd.R_elder' (rTo HO_272001.out) (Kd.R_base ho1) hb)
       have n4_ := ak (Kd.R_elder' (rTo HO_279000.out) (Kd.R_base ho0) hb)
       have n5_ := ak (Kd.R_elder' (rTo HO_279001.out) (Kd.R_base ho1) hb)
       have n6_ := ak (Kd.R_lower (Kd.R_new' (Kd.R_new' (Kd.R_new' ho0 (Kd.R_lt (rTo HO_271000.out))) (Kd.R_lt (rTo HO_272000.out))) (Kd.R_lt (rTo HO_279000.out))) (below_size (by repeat (first | (with_reducible first | exact HB.out | apply below_alloc | apply pw_below_drewN | apply below_drew1 | refine below_set ?_ GE270.out | refine below_set ?_ GE271.out | refine below_set ?_ GE278.out) | exact HB.out))))
       have n7_ := ak (Kd.R_lower (Kd.R_new' (Kd.R_new' (Kd.R_new' ho1 (Kd.R_lt (rTo HO_271001.out))) (Kd.R_lt (rTo HO_272001.out))) (Kd.R_lt (rTo HO_279001.out))) (below_size (by repeat (first | (with_reducible first | exact HB.out | apply below_alloc | apply pw_below_drewN | apply below_drew1 | refine below_set ?_ GE270.out | refine below_set ?_ GE271.out | refine below_set ?_ GE278.out) | exact HB.out))))
       have n8_ := ak (blk_below (g := gb270) (o := .cells #[.slice Ao11 t258.length co11, .slice Ao14 t261.length co14] 26 (0, 0)) (bTo BK270.out) hb)
       have n9_ := ak (blk_below (g := gb271) (o := .cells #[.slice Ao15 t264.length co15, .slice Ao17 t267.length co17] 26 (0, 0)) (bTo BK271.out) hb)
       have n10_ := ak (blk_below (g := gb278) (o := .cells #[.slice Ao20 t272.length co20, .slice Ao24 t275.length co24] 26 (0, 0)) (bTo BK278.out) hb)
       have n11_ := ak (below_step (by repeat (first | (with_reducible first | exact HB.out | apply below_alloc | apply pw_below_drewN | apply below_drew1 | refine below_set ?_ GE270.out | refine below_set ?_ GE271.out | refine below_set ?_ GE278.out) | exact HB.out)) hb)
       clear HO_271000
       clear HO_271001
       clear HO_272000
       clear HO_272001
       clear HO_279000
       clear HO_279001
       clear BK270
       clear BK271
       clear BK278
       clear HB
       have HO_271000 := n0_
       have HO_271001 := n1_
       have HO_272000 := n2_
       have HO_272001 := n3_
       have HO_279000 := n4_
       have HO_279001 := n5_
       have HO288 := n6_
       have HO291 := n7_
       have BK270 := n8_
       have BK271 := n9_
       have BK278 := n10_
       have HB := n11_
       clear n0_ n1_ n2_ n3_ n4_ n5_ n6_ n7_ n8_ n9_ n10_ n11_
       (try clear hb)
       (try clear hb2)
       (try clear hk)
       (try clear hi)
       (try clear ho0)
       (try clear ho1)
       obtain ⟨Ao92, co92, eo92⟩ := Kd.R_slice HO288.out
       (first | subst eo92 | (injection eo92 with f1_ f2_ f3_; have f4_ := f1_.symm; have f5_ := f3_.symm; clear f1_ f2_ f3_; subst f4_; subst f5_))
       obtain ⟨Ao93, co93, eo93⟩ := Kd.R_slice HO291.out
       (first | subst eo93 | (injection eo93 with f1_ f2_ f3_; have f4_ := f1_.symm; have f5_ := f3_.symm; clear f1_ f2_ f3_; subst f4_; subst f5_))
       refine hK.out _ _ ⟨(blk_cell BK270.out 0).trans rfl, (blk_cell BK270.out 1).trans rfl⟩ (fun hHeld => ?_)
       clear hK K
       refine norm_ (a' := ?_) ?_ ?_
       rotate_left
       ·show Act.put _ (some 61) _ = _
        simp only [Act.put, List.setIfInBounds_toArray, List.set_cons_zero, List.set_cons_succ, i64_w, i32_w]
        rfl
       refine one_ (i := 4) (N := some 63) #[true, true, true, true, true, false, false, false, false, false, false, false, false, false, false, false, false, false, false] rfl rfl (one_of HT_.out (by kernel_rfl)) (by decide) (fun K hK => ?_)
       refine goes_ Try.func20 (by kernel_rfl) rfl #[.agg #[.slice Ao92 t286.length co92, .slice Ao93 t289.length co93], .agg #[.slice Ao11 t258.length co11, .slice Ao14 t261.length co14]] (by rfl) rfl rfl (by (try simp only [List.map_toArray, List.map_cons, List.map_nil]); first | done | rfl | (simp only [List.length_drop, List.length_take]; rfl)) ?_
       with_reducible refine (laws_equalReport.calls k1 _ _ t286 _ _ t289 _ _ t258 _ _ t261 false _ ?side1 ?side2 ?side3 ?side4 ?side5 ?side6 ?side7 ?side8 A77.out).mono ?_
       (case side1 => repeat (first | exact (Kd.R_reads' HO288.out).2.2 | (with_reducible refine Kd.C_alloc ?_ _) | (with_reducible refine Kd.C_drewN ?_ _) | (with_reducible refine Kd.C_drew ?_)))
       (case side2 => exact (Kd.R_reads' HO288.out).2.1)
       (case side3 => repeat (first | exact (Kd.R_reads' HO291.out).2.2 | (with_reducible refine Kd.C_alloc ?_ _) | (with_reducible refine Kd.C_drewN ?_ _) | (with_reducible refine Kd.C_drew ?_)))
       (case side4 => exact (Kd.R_reads' HO291.out).2.1)
       (case side5 => repeat (first | exact (Kd.R_reads' HO_271000.out).2.2 | (with_reducible refine Kd.C_alloc ?_ _) | (with_reducible refine Kd.C_drewN ?_ _) | (with_reducible refine Kd.C_drew ?_)))
       (case side6 => exact (Kd.R_reads' HO_271000.out).2.1)
       (case side7 => repeat (first | exact (Kd.R_reads' HO_271001.out).2.2 | (with_reducible refine Kd.C_alloc ?_ _) | (with_reducible refine Kd.C_drewN ?_ _) | (with_reducible refine Kd.C_drew ?_)))
       (case side8 => exact (Kd.R_reads' HO_271001.out).2.1)
       rintro e w94 ⟨rfl, hb⟩
       refine ⟨_, rfl, ?_⟩
       have n0_ := ak (Kd.R_below (rTo HO_271000.out) hb)
       have n1_ := ak (Kd.R_below (rTo HO_271001.out) hb)
       have n2_ := ak (Kd.R_below (rTo HO_272000.out) hb)
       have n3_ := ak (Kd.R_below (rTo HO_272001.out) hb)
       have n4_ := ak (Kd.R_below (rTo HO_279000.out) hb)
       have n5_ := ak (Kd.R_below (rTo HO_279001.out) hb)
       have n6_ := ak (Kd.R_below (rTo HO288.out) hb)
       have n7_ := ak (Kd.R_below (rTo HO291.out) hb)
       have n8_ := ak (blk_below (g := gb270) (o := .cells #[.slice Ao11 t258.length co11, .slice Ao14 t261.length co14] 26 (0, 0)) (bTo BK270.out) hb)
       have n9_ := ak (blk_below (g := gb271) (o := .cells #[.slice Ao15 t264.length co15, .slice Ao17 t267.length co17] 26 (0, 0)) (bTo BK271.out) hb)
       have n10_ := ak (blk_below (g := gb278) (o := .cells #[.slice Ao20 t272.length co20, .slice Ao24 t275.length co24] 26 (0, 0)) (bTo BK278.out) hb)
       have n11_ := ak (below_step (by repeat (first | (with_reducible first | exact HB.out | apply below_alloc | apply pw_below_drewN | apply below_drew1 | refine below_set ?_ GE270.out | refine below_set ?_ GE271.out | refine below_set ?_ GE278.out) | exact HB.out)) hb)
       clear HO_271000
       clear HO_271001
       clear HO_272000
       clear HO_272001
       clear HO_279000
       clear HO_279001
       clear HO288
       clear HO291
       clear BK270
       clear BK271
       clear BK278
       clear HB
       have HO_271000 := n0_
       have HO_271001 := n1_
       have HO_272000 := n2_
       have HO_272001 := n3_
       have HO_279000 := n4_
       have HO_279001 := n5_
       have HO288 := n6_
       have HO291 := n7_
       have BK270 := n8_
       have BK271 := n9_
       have BK278 := n10_
       have HB := n11_
       clear n0_ n1_ n2_ n3_ n4_ n5_ n6_ n7_ n8_ n9_ n10_ n11_
       (try clear hb)
       (try clear hb2)
       (try clear hk)
       (try clear hi)
       refine hK.out _ _ ⟨(blk_cell BK270.out 0).trans rfl, (blk_cell BK270.out 1).trans rfl⟩ (fun hHeld => ?_)
       clear hK K
       refine norm_ (a' := ?_) ?_ ?_
       rotate_left
       ·show Act.put _ (some 63) _ = _
        simp only [Act.put, List.setIfInBounds_toArray, List.set_cons_zero, List.set_cons_succ, i64_w, i32_w]
        rfl
       refine pure_ (i := 5) (N := some 64) (v := ?_) (a' := ?_) #[true, true, true, true, true, true, false, false, false, false, false, false, false, false, false, false, false, false, false] rfl rfl (any_of HT_.out (by kernel_rfl)) (fun _ _ _ h => h) (Or.inl ⟨by rfl, ?_⟩) ?_ ?_
       rotate_left
       ·intro w'
        go_simp
        with_reducible rfl
       rotate_left
       ·simp only [Act.put, List.setIfInBounds_toArray, List.set_cons_zero, List.set_cons_succ, i64_w, i32_w]
        rfl
       refine pure_ (i := 6) (N := some 65) (v := undef) (a' := ?_) #[true, true, true, true, true, true, true, false, false, false, false, false, false, false, false, false, false, false, false] rfl rfl (any_of HT_.out (by kernel_rfl)) (fun _ _ _ h => h) (Or.inr ⟨by rfl, rfl⟩) ?_ ?_
       rotate_left
       ·simp only [Act.put, List.setIfInBounds_toArray, List.set_cons_zero, List.set_cons_succ, i64_w, i32_w]
        rfl
       refine pure_ (i := 7) (N := some 66) (v := undef) (a' := ?_) #[true, true, true, true, true, true, true, true, false, false, false, false, false, false, false, false, false, false, false] rfl rfl (any_of HT_.out (by kernel_rfl)) (fun _ _ _ h => h) (Or.inr ⟨by rfl, rfl⟩) ?_ ?_
       rotate_left
       ·simp only [Act.put, List.setIfInBounds_toArray, List.set_cons_zero, List.set_cons_succ, i64_w, i32_w]
        rfl
       refine pure_ (i := 8) (N := some 67) (v := undef) (a' := ?_) #[true, true, true, true, true, true, true, true, true, false, false, false, false, false, false, false, false, false, false] rfl rfl (any_of HT_.out (by kernel_rfl)) (fun _ _ _ h => h) (Or.inr ⟨by rfl, rfl⟩) ?_ ?_
       rotate_left
       ·simp only [Act.put, List.setIfInBounds_toArray, List.set_cons_zero, List.set_cons_succ, i64_w, i32_w]
        rfl
       refine pure_ (i := 9) (N := some 68) (v := undef) (a' := ?_) #[true, true, true, true, true, true, true, true, true, true, false, false, false, false, false, false, false, false, false] rfl rfl (any_of HT_.out (by kernel_rfl)) (fun _ _ _ h => h) (Or.inr ⟨by rfl, rfl⟩) ?_ ?_
       rotate_left
       ·simp only [Act.put, List.setIfInBounds_toArray, List.set_cons_zero, List.set_cons_succ, i64_w, i32_w]
        rfl
       refine pure_ (i := 10) (N := some 69) (v := undef) (a' := ?_) #[true, true, true, true, true, true, true, true, true, true, true, false, false, false, false, false, false, false, false] rfl rfl (any_of HT_.out (by kernel_rfl)) (fun _ _ _ h => h) (Or.inr ⟨by rfl, rfl⟩) ?_ ?_
       rotate_left
       ·simp only [Act.put, List.setIfInBounds_toArray, List.set_cons_zero, List.set_cons_succ, i64_w, i32_w]
        rfl
       refine pure_ (i := 11) (N := some 70) (v := undef) (a' := ?_) #[true, true, true, true, true, true, true, true, true, true, true, true, false, false, false, false, false, false, false] rfl rfl (any_of HT_.out (by kernel_rfl)) (fun _ _ _ h => h) (Or.inr ⟨by rfl, rfl⟩) ?_ ?_
       rotate_left
       ·simp only [Act.put, List.setIfInBounds_toArray, List.set_cons_zero, List.set_cons_succ, i64_w, i32_w]
        rfl
       refine pure_ (i := 12) (N := some 71) (v := undef) (a' := ?_) #[true, true, true, true, true, true, true, true, true, true, true, true, true, false, false, false, false, false, false] rfl rfl (any_of HT_.out (by kernel_rfl)) (fun _ _ _ h => h) (Or.inr ⟨by rfl, rfl⟩) ?_ ?_
       rotate_left
       ·simp only [Act.put, List.setIfInBounds_toArray, List.set_cons_zero, List.set_cons_succ, i64_w, i32_w]
        rfl
       refine pure_ (i := 13) (N := some 72) (v := undef) (a' := ?_) #[true, true, true, true, true, true, true, true, true, true, true, true, true, true, false, false, false, false, false] rfl rfl (any_of HT_.out (by kernel_rfl)) (fun _ _ _ h => h) (Or.inr ⟨by rfl, rfl⟩) ?_ ?_
       rotate_left
       ·simp only [Act.put, List.setIfInBounds_toArray, List.set_cons_zero, List.set_cons_succ, i64_w, i32_w]
        rfl
       refine pure_ (i := 14) (N := some 73) (v := undef) (a' := ?_) #[true, true, true, true, true, true, true, true, true, true, true, true, true, true, true, false, false, false, false] rfl rfl (any_of HT_.out (by kernel_rfl)) (fun _ _ _ h => h) (Or.inr ⟨by rfl, rfl⟩) ?_ ?_
       rotate_left
       ·simp only [Act.put, List.setIfInBounds_toArray, List.set_cons_zero, List.set_cons_succ, i64_w, i32_w]
        rfl
       refine pure_ (i := 15) (N := some 74) (v := undef) (a' := ?_) #[true, true, true, true, true, true, true, true, true, true, true, true, true, true, true, true, false, false, false] rfl rfl (any_of HT_.out (by kernel_rfl)) (fun _ _ _ h => h) (Or.inr ⟨by rfl, rfl⟩) ?_ ?_
       rotate_left
       ·simp only [Act.put, List.setIfInBounds_toArray, List.set_cons_zero, List.set_cons_succ, i64_w, i32_w]
        rfl
       refine pure_ (i := 16) (N := some 75) (v := undef) (a' := ?_) #[true, true, true, true, true, true, true, true, true, true, true, true, true, true, true, true, true, false, false] rfl rfl (any_of HT_.out (by kernel_rfl)) (fun _ _ _ h => h) (Or.inr ⟨by rfl, rfl⟩) ?_ ?_
       rotate_left
       ·simp only [Act.put, List.setIfInBounds_toArray, List.set_cons_zero, List.set_cons_succ, i64_w, i32_w]
        rfl
       refine pure_ (i := 17) (N := some 76) (v := ?_) (a' := ?_) #[true, true, true, true, true, true, true, true, true, true, true, true, true, true, true, true, true, true, false] rfl rfl (any_of HT_.out (by kernel_rfl)) (fun _ _ _ h => h) (Or.inl ⟨by rfl, ?_⟩) ?_ ?_
       rotate_left
       ·intro w'
        go_simp
        with_reducible rfl
       rotate_left
       ·simp only [Act.put, List.setIfInBounds_toArray, List.set_cons_zero, List.set_cons_succ, i64_w, i32_w]
        rfl
       refine pure_ (i := 18) (N := some 2) (v := ?_) (a' := ?_) #[true, true, true, true, true, true, true, true, true, true, true, true, true, true, true, true, true, true, true] rfl rfl (any_of HT_.out (by kernel_rfl)) (fun _ _ _ h => h) (Or.inl ⟨by rfl, ?_⟩) ?_ ?_
       rotate_left
       ·intro w'
        go_simp
        with_reducible rfl
       rotate_left
       ·simp only [Act.put, List.setIfInBounds_toArray, List.set_cons_zero, List.set_cons_succ, i64_w, i32_w]
        rfl
       refine done_ (done_of HT_.out (by kernel_rfl)) ?_
       try go_wp2
       go_ret
       exact ⟨by first | rfl | (simp [errW_none, errW_some] <;> rfl) | (simp [*, errW_none, errW_some] <;> rfl), by repeat (first | (with_reducible first | exact HB.out | apply below_alloc | apply pw_below_drewN | apply below_drew1 | refine below_set ?_ GE270.out | refine below_set ?_ GE271.out | refine below_set ?_ GE278.out) | exact HB.out)⟩
  ·replace c7 := Bool.eq_false_iff.mpr c7
   subst c7
   have H1 : ((spec_MergeReports.f k t258 t261 t264 t267).bind fun bt298 => ((laws_equalReport.f k t272 t275 bt298.1 bt298.2).bind fun t304 => (some t304))) = some r := by rw [if_neg (show ¬ (false = true) by decide)] at H; exact H
   clear H
   have H := H1
   clear H1
   replace H := Option.bind_eq_some_iff.mp H
   obtain ⟨⟨t298, t301⟩, A950, H⟩ := H
   replace H : ((laws_equalReport.f k t272 t275 t298 t301).bind fun t304 => (some t304)) = some r := H
   have A95 := ak A950
   clear A950
   replace H := Option.bind_eq_some_iff.mp H
   obtain ⟨t304, A960, H⟩ := H
   replace H : (some t304) = some r := H
   have A96 := ak A960
   clear A960
   obtain rfl := Option.some.inj H
   go_enter Try.func4, Try.ntmps4
   try go_wp2_with (first | ((with_reducible refine gate_callee (f := 18) rfl ?_); refine goesL_ (some 14) rfl rfl Try.func18 (by kernel_rfl) rfl #[.slice A0 l0.length c0] rfl (by (try simp only [List.map_toArray, List.map_cons, List.map_nil]); first | done | rfl | (simp only [List.length_drop, List.length_take]; rfl)) ?_; (with_reducible refine (spec_DrawMergeReports.calls k _ _ l0 t258 t261 t264 t267 _ ?side1 ?side2 A3.out).mono ?_); (case side1 => repeat (first | exact HR0.out | (with_reducible refine Kd.C_alloc ?_ _) | (with_reducible refine Kd.C_drewN ?_ _) | (with_reducible refine Kd.C_drew ?_))); (case side2 => exact HC0.out); rintro e w97 ⟨v259, v262, v265, v268, rfl, ho0, ho1, ho2, ho3, hb⟩; refine ⟨_, rfl, ?_⟩; have n0_ := ak (Kd.R_lower ho0 (below_size (by repeat (first | (with_reducible first | exact HB.out | apply below_alloc | apply pw_below_drewN | apply below_drew1) | exact HB.out)))); have n1_ := ak (Kd.R_lower ho1 (below_size (by repeat (first | (with_reducible first | exact HB.out | apply below_alloc | apply pw_below_drewN | apply below_drew1) | exact HB.out)))); have n2_ := ak (Kd.R_lower ho2 (below_size (by repeat (first | (with_reducible first | exact HB.out | apply below_alloc | apply pw_below_drewN | apply below_drew1) | exact HB.out)))); have n3_ := ak (Kd.R_lower ho3 (below_size (by repeat (first | (with_reducible first | exact HB.out | apply below_alloc | apply pw_below_drewN | apply below_drew1) | exact HB.out)))); have n4_ := ak (below_step (by repeat (first | (with_reducible first | exact HB.out | apply below_alloc | apply pw_below_drewN | apply below_drew1) | exact HB.out)) hb); clear HB; have HO260 := n0_; have HO263 := n1_; have HO266 := n2_; have HO269 := n3_; have HB := n4_; clear n0_ n1_ n2_ n3_ n4_; (try clear hb); (try clear hb2); (try clear hk); (try clear hi); (try clear ho0); (try clear ho1); (try clear ho2); (try clear ho3)) | ((with_reducible refine gate_dst (N := 3) rfl ?_); (try (refine gate_guard (by rfl) ?_; dsimp only)); refine box_event ?hg (N := 3) ?hd (cs := #[.slice none 0 0, .slice none 0 0]) (t := 26) ?hr ?_; (case hd => rfl); (case hg => rfl); (case hr => first | (go_simp; done) | (go_simp; rfl)); intro gb270 hg w98 hbox hb; have n0_ := ak (Kd.R_below (rTo HO260.out) hb); have n1_ := ak (Kd.R_below (rTo HO263.out) hb); have n2_ := ak (Kd.R_below (rTo HO266.out) hb); have n3_ := ak (Kd.R_below (rTo HO269.out) hb); have n4_ := ak (below_step (by repeat (first | (with_reducible first | exact HB.out | apply below_alloc | apply pw_below_drewN | apply below_drew1) | exact HB.out)) hb); have n5_ := ak (hbox); have n6_ := ak ((by rw [hg]; exact (below_size (by repeat (first | (with_reducible first | exact HB.out | apply below_alloc | apply pw_below_drewN | apply below_drew1) | exact HB.out))) : w.heap.size ≤ gb270)); have n7_ := ak ((by rw [hg]; exact (below_size (by repeat (first | (with_reducible first | exact HB.out | apply below_alloc | apply pw_below_drewN | apply below_drew1) | exact HB.out))) : w.heap.size ≤ gb270)); clear HO260; clear HO263; clear HO266; clear HO269; clear HB; have HO260 := n0_; have HO263 := n1_; have HO266 := n2_; have HO269 := n3_; have HB := n4_; have BK270 := n5_; have GW270 := n6_; have GE270 := n7_; clear n0_ n1_ n2_ n3_ n4_ n5_ n6_ n7_; clear hb hbox hg) | ((with_reducible refine gate_dst (N := 4) rfl ?_); (try (refine gate_guard (by rfl) ?_; dsimp only)); refine box_event ?hg (N := 4) ?hd (cs := #[.slice none 0 0, .slice none 0 0]) (t := 26) ?hr ?_; (case hd => rfl); (case hg => rfl); (case hr => first | (go_simp; done) | (go_simp; rfl)); intro gb271 hg w99 hbox hb; have n0_ := ak (Kd.R_below (rTo HO260.out) hb); have n1_ := ak (Kd.R_below (rTo HO263.out) hb); have n2_ := ak (Kd.R_below (rTo HO266.out) hb); have n3_ := ak (Kd.R_below (rTo HO269.out) hb); have n4_ := ak (blk_below (g := gb270) (o := .cells #[.slice none 0 0, .slice none 0 0] 26 (0, 0)) (bTo BK270.out) hb); have n5_ := ak (below_step (by repeat (first | (with_reducible first | exact HB.out | apply below_alloc | apply pw_below_drewN | apply below_drew1 | refine below_set ?_ GE270.out) | exact HB.out)) hb); have n6_ := ak (hbox); have n7_ := ak ((by rw [hg]; exact (below_size (by repeat (first | (with_reducible first | exact HB.out | apply below_alloc | apply pw_below_drewN | apply below_drew1 | refine below_set ?_ GE270.out) | exact HB.out))) : w.heap.size ≤ gb271)); have n8_ := ak ((by rw [hg]; exact (below_size (by repeat (first | (with_reducible first | exact HB.out | apply below_alloc | apply pw_below_drewN | apply below_drew1 | refine below_set ?_ GE270.out) | exact HB.out))) : w.heap.size ≤ gb271)); have n9_ := ak ((by rw [hg]; exact Nat.ne_of_lt (blk_lt (g := gb270) (o := .cells #[.slice none 0 0, .slice none 0 0] 26 (0, 0)) (bTo BK270.out)) : gb270 ≠ gb271)); have n10_ := ak ((by rw [hg]; exact Nat.ne_of_gt (blk_lt (g := gb270) (o := .cells #[.slice none 0 0, .slice none 0 0] 26 (0, 0)) (bTo BK270.out)) : gb271 ≠ gb270)); clear HO260; clear HO263; clear HO266; clear HO269; clear BK270; clear HB; have HO260 := n0_; have HO263 := n1_; have HO266 := n2_; have HO269 := n3_; have BK270 := n4_; have HB := n5_; have BK271 := n6_; have GW271 := n7_; have GE271 := n8_; have NB270_271 := n9_; have NB271_270 := n10_; clear n0_ n1_ n2_ n3_ n4_ n5_ n6_ n7_ n8_ n9_ n10_; clear hb hbox hg; obtain ⟨Ao100, co100, eo100⟩ := Kd.R_slice HO260.out; subst eo100; have hnb101 := NB270_271.out; have hnc101 := NB271_270.out; have hcz102_0 : w99.cell? ⟨gb270, 0, none⟩ = some (.slice none 0 0) := (blk_cell BK270.out 0).trans rfl; have hcz102_1 : w99.cell? ⟨gb270, 1, none⟩ = some (.slice none 0 0) := (blk_cell BK270.out 1).trans rfl; have hfz102_0 := blk_frozen BK270.out 0; have hfz102_1 := blk_frozen BK270.out 1; obtain ⟨Ao103, co103, eo103⟩ := Kd.R_slice HO263.out; subst eo103; obtain ⟨Ao104, co104, eo104⟩ := Kd.R_slice HO266.out; subst eo104; have hcz105_0 : w99.cell? ⟨gb271, 0, none⟩ = some (.slice none 0 0) := (blk_cell BK271.out 0).trans rfl; have hcz105_1 : w99.cell? ⟨gb271, 1, none⟩ = some (.slice none 0 0) := (blk_cell BK271.out 1).trans rfl; have hfz105_0 := blk_frozen BK271.out 0; have hfz105_1 := blk_frozen BK271.out 1; obtain ⟨Ao106, co106, eo106⟩ := Kd.R_slice HO269.out; subst eo106) | ((with_reducible refine gate_callee (f := 19) rfl ?_); refine goesL_ (some 19) rfl rfl Try.func19 (by kernel_rfl) rfl #[.agg #[.slice Ao100 t258.length co100, .slice Ao103 t261.length co103], .agg #[.slice Ao104 t264.length co104, .slice Ao106 t267.length co106]] rfl (by (try simp only [List.map_toArray, List.map_cons, List.map_nil]); first | done | rfl | (simp only [List.length_drop, List.length_take]; rfl)) ?_; (with_reducible refine (impl_MergeReports.calls k _ _ t258 _ _ t261 _ _ t264 _ _ t267 t272 t275 _ ?side1 ?side2 ?side3 ?side4 ?side5 ?side6 ?side7 ?side8 A4.out).mono ?_); (case side1 => refine (Kd.R_reads' (e := 37) (base := w.heap.size) (ok := fun k_ => some k_ ≠ (.slice Ao104 t264.length co104 : Value).ownBlock) (n := t258.length) (c := co100) ?_).2.2; exact (by (with_reducible repeat (first | apply Kd.R_alloc | apply Kd.R_drewN | apply Kd.R_drew)); exact (Kd.R_mono (Kd.R_mono (Kd.R_far (p := ⟨gb271, 1, none⟩) (Kd.R_far (p := ⟨gb271, 0, none⟩) (Kd.R_far (p := ⟨gb270, 1, none⟩) (Kd.R_far (p := ⟨gb270, 0, none⟩) (Kd.R_types (Kd.R_types HO260.out BK270.out (by decide)) BK271.out (by decide)) (fun _ hk => (gives hk)) (.slice Ao100 t258.length co100)) (fun _ hk => (gives hk)) (.slice Ao103 t261.length co103)) (fun _ hk => hk.2) (.slice Ao104 t264.length co104)) (fun _ hk => hk.2) (.slice Ao106 t267.length co106)) (fun _ h_ => h_.1)) (fun _ h_ => h_.1)))); (case side2 => exact (Kd.R_reads' HO260.out).2.1); (case side3 => refine (Kd.R_reads' (e := 9) (base := w.heap.size) (ok := fun k_ => some k_ ≠ (.slice Ao106 t267.length co106 : Value).ownBlock) (n := t261.length) (c := co103) ?_).2.2; exact (by (with_reducible repeat (first | apply Kd.R_alloc | apply Kd.R_drewN | apply Kd.R_drew)); exact (Kd.R_mono (Kd.R_mono (Kd.R_far (p := ⟨gb271, 1, none⟩) (Kd.R_far (p := ⟨gb271, 0, none⟩) (Kd.R_far (p := ⟨gb270, 1, none⟩) (Kd.R_far (p := ⟨gb270, 0, none⟩) (Kd.R_types (Kd.R_types HO263.out BK270.out (by decide)) BK271.out (by decide)) (fun _ hk => (gives hk)) (.slice Ao100 t258.length co100)) (fun _ hk => (gives hk)) (.slice Ao103 t261.length co103)) (fun _ hk => hk.2) (.slice Ao104 t264.length co104)) (fun _ hk => hk.2) (.slice Ao106 t267.length co106)) (fun _ h_ => h_.1)) (fun _ h_ => h_.1)))); (case side4 => exact (Kd.R_reads' HO263.out).2.1); (case side5 => refine (Kd.R_reads' (e := 37) (base := w.heap.size) (ok := fun k_ => some k_ ≠ (.slice Ao100 t258.length co100 : Value).ownBlock) (n := t264.length) (c := co104) ?_).2.2; exact (by (with_reducible repeat (first | apply Kd.R_alloc | apply Kd.R_drewN | apply Kd.R_drew)); exact (Kd.R_mono (Kd.R_mono (Kd.R_far (p := ⟨gb271, 1, none⟩) (Kd.R_far (p := ⟨gb271, 0, none⟩) (Kd.R_far (p := ⟨gb270, 1, none⟩) (Kd.R_far (p := ⟨gb270, 0, none⟩) (Kd.R_types (Kd.R_types HO266.out BK270.out (by decide)) BK271.out (by decide)) (fun _ hk => (gives hk)) (.slice Ao100 t258.length co100)) (fun _ hk => (gives hk)) (.slice Ao103 t261.length co103)) (fun _ hk => hk.2) (.slice Ao104 t264.length co104)) (fun _ hk => hk.2) (.slice Ao106 t267.length co106)) (fun _ h_ => h_.1)) (fun _ h_ => h_.1)))); (case side6 => exact (Kd.R_reads' HO266.out).2.1); (case side7 => refine (Kd.R_reads' (e := 9) (base := w.heap.size) (ok := fun k_ => some k_ ≠ (.slice Ao103 t261.length co103 : Value).ownBlock) (n := t267.length) (c := co106) ?_).2.2; exact (by (with_reducible repeat (first | apply Kd.R_alloc | apply Kd.R_drewN | apply Kd.R_drew)); exact (Kd.R_mono (Kd.R_mono (Kd.R_far (p := ⟨gb271, 1, none⟩) (Kd.R_far (p := ⟨gb271, 0, none⟩) (Kd.R_far (p := ⟨gb270, 1, none⟩) (Kd.R_far (p := ⟨gb270, 0, none⟩) (Kd.R_types (Kd.R_types HO269.out BK270.out (by decide)) BK271.out (by decide)) (fun _ hk => (gives hk)) (.slice Ao100 t258.length co100)) (fun _ hk => (gives hk)) (.slice Ao103 t261.length co103)) (fun _ hk => hk.2) (.slice Ao104 t264.length co104)) (fun _ hk => hk.2) (.slice Ao106 t267.length co106)) (fun _ h_ => h_.1)) (fun _ h_ => h_.1)))); (case side8 => exact (Kd.R_reads' HO269.out).2.1); rintro e w107 ⟨v273, v276, rfl, ho0, ho1, hb⟩; refine ⟨_, rfl, ?_⟩; have n0_ := ak (Kd.R_elder' (by (with_reducible repeat (first | apply Kd.R_alloc | apply Kd.R_drewN | apply Kd.R_drew)); exact (Kd.R_mono (Kd.R_mono (Kd.R_far (p := ⟨gb271, 1, none⟩) (Kd.R_far (p := ⟨gb271, 0, none⟩) (Kd.R_far (p := ⟨gb270, 1, none⟩) (Kd.R_far (p := ⟨gb270, 0, none⟩) (Kd.R_types (Kd.R_types HO260.out BK270.out (by decide)) BK271.out (by decide)) (fun _ hk => (gives hk)) (.slice Ao100 t258.length co100)) (fun _ hk => (gives hk)) (.slice Ao103 t261.length co103)) (fun _ hk => hk.2) (.slice Ao104 t264.length co104)) (fun _ hk => hk.2) (.slice Ao106 t267.length co106)) (fun _ h_ => h_.1)) (fun _ h_ => h_.1))) (Kd.R_base ho0) hb); have n1_ := ak (Kd.R_elder' (by (with_reducible repeat (first | apply Kd.R_alloc | apply Kd.R_drewN | apply Kd.R_drew)); exact (Kd.R_mono (Kd.R_mono (Kd.R_far (p := ⟨gb271, 1, none⟩) (Kd.R_far (p := ⟨gb271, 0, none⟩) (Kd.R_far (p := ⟨gb270, 1, none⟩) (Kd.R_far (p := ⟨gb270, 0, none⟩) (Kd.R_types (Kd.R_types HO263.out BK270.out (by decide)) BK271.out (by decide)) (fun _ hk => (gives hk)) (.slice Ao100 t258.length co100)) (fun _ hk => (gives hk)) (.slice Ao103 t261.length co103)) (fun _ hk => hk.2) (.slice Ao104 t264.length co104)) (fun _ hk => hk.2) (.slice Ao106 t267.length co106)) (fun _ h_ => h_.1)) (fun _ h_ => h_.1))) (Kd.R_base ho1) hb); have n2_ := ak (Kd.R_elder' (by (with_reducible repeat (first | apply Kd.R_alloc | apply Kd.R_drewN | apply Kd.R_drew)); exact (Kd.R_mono (Kd.R_mono (Kd.R_far (p := ⟨gb271, 1, none⟩) (Kd.R_far (p := ⟨gb271, 0, none⟩) (Kd.R_far (p := ⟨gb270, 1, none⟩) (Kd.R_far (p := ⟨gb270, 0, none⟩) (Kd.R_types (Kd.R_types HO266.out BK270.out (by decide)) BK271.out (by decide)) (fun _ hk => (gives hk)) (.slice Ao100 t258.length co100)) (fun _ hk => (gives hk)) (.slice Ao103 t261.length co103)) (fun _ hk => hk.2) (.slice Ao104 t264.length co104)) (fun _ hk => hk.2) (.slice Ao106 t267.length co106)) (fun _ h_ => h_.1)) (fun _ h_ => h_.1))) (Kd.R_base ho0) hb); have n3_ := ak (Kd.R_elder' (by (with_reducible repeat (first | apply Kd.R_alloc | apply Kd.R_drewN | apply Kd.R_drew)); exact (Kd.R_mono (Kd.R_mono (Kd.R_far (p := ⟨gb271, 1, none⟩) (Kd.R_far (p := ⟨gb271, 0, none⟩) (Kd.R_far (p := ⟨gb270, 1, none⟩) (Kd.R_far (p := ⟨gb270, 0, none⟩) (Kd.R_types (Kd.R_types HO269.out BK270.out (by decide)) BK271.out (by decide)) (fun _ hk => (gives hk)) (.slice Ao100 t258.length co100)) (fun _ hk => (gives hk)) (.slice Ao103 t261.length co103)) (fun _ hk => hk.2) (.slice Ao104 t264.length co104)) (fun _ hk => hk.2) (.slice Ao106 t267.length co106)) (fun _ h_ => h_.1)) (fun _ h_ => h_.1))) (Kd.R_base ho1) hb); have n4_ := ak (Kd.R_lower (Kd.R_new' (Kd.R_new' ho0 (Kd.R_lt (by (with_reducible repeat (first | apply Kd.R_alloc | apply Kd.R_drewN | apply Kd.R_drew)); exact (Kd.R_mono (Kd.R_mono (Kd.R_far (p := ⟨gb271, 1, none⟩) (Kd.R_far (p := ⟨gb271, 0, none⟩) (Kd.R_far (p := ⟨gb270, 1, none⟩) (Kd.R_far (p := ⟨gb270, 0, none⟩) (Kd.R_types (Kd.R_types HO260.out BK270.out (by decide)) BK271.out (by decide)) (fun _ hk => (gives hk)) (.slice Ao100 t258.length co100)) (fun _ hk => (gives hk)) (.slice Ao103 t261.length co103)) (fun _ hk => hk.2) (.slice Ao104 t264.length co104)) (fun _ hk => hk.2) (.slice Ao106 t267.length co106)) (fun _ h_ => h_.1)) (fun _ h_ => h_.1))))) (Kd.R_lt (by (with_reducible repeat (first | apply Kd.R_alloc | apply Kd.R_drewN | apply Kd.R_drew)); exact (Kd.R_mono (Kd.R_mono (Kd.R_far (p := ⟨gb271, 1, none⟩) (Kd.R_far (p := ⟨gb271, 0, none⟩) (Kd.R_far (p := ⟨gb270, 1, none⟩) (Kd.R_far (p := ⟨gb270, 0, none⟩) (Kd.R_types (Kd.R_types HO266.out BK270.out (by decide)) BK271.out (by decide)) (fun _ hk => (gives hk)) (.slice Ao100 t258.length co100)) (fun _ hk => (gives hk)) (.slice Ao103 t261.length co103)) (fun _ hk => hk.2) (.slice Ao104 t264.length co104)) (fun _ hk => hk.2) (.slice Ao106 t267.length co106)) (fun _ h_ => h_.1)) (fun _ h_ => h_.1))))) (below_size (by repeat (first | (with_reducible first | exact HB.out | apply below_alloc | apply pw_below_drewN | apply below_drew1 | refine below_set ?_ GE270.out | refine below_set ?_ GE271.out) | exact HB.out)))); have n5_ := ak (Kd.R_lower (Kd.R_new' (Kd.R_new' ho1 (Kd.R_lt (by (with_reducible repeat (first | apply Kd.R_alloc | apply Kd.R_drewN | apply Kd.R_drew)); exact (Kd.R_mono (Kd.R_mono (Kd.R_far (p := ⟨gb271, 1, none⟩) (Kd.R_far (p := ⟨gb271, 0, none⟩) (Kd.R_far (p := ⟨gb270, 1, none⟩) (Kd.R_far (p := ⟨gb270, 0, none⟩) (Kd.R_types (Kd.R_types HO263.out BK270.out (by decide)) BK271.out (by decide)) (fun _ hk => (gives hk)) (.slice Ao100 t258.length co100)) (fun _ hk => (gives hk)) (.slice Ao103 t261.length co103)) (fun _ hk => hk.2) (.slice Ao104 t264.length co104)) (fun _ hk => hk.2) (.slice Ao106 t267.length co106)) (fun _ h_ => h_.1)) (fun _ h_ => h_.1))))) (Kd.R_lt (by (with_reducible repeat (first | apply Kd.R_alloc | apply Kd.R_drewN | apply Kd.R_drew)); exact (Kd.R_mono (Kd.R_mono (Kd.R_far (p := ⟨gb271, 1, none⟩) (Kd.R_far (p := ⟨gb271, 0, none⟩) (Kd.R_far (p := ⟨gb270, 1, none⟩) (Kd.R_far (p := ⟨gb270, 0, none⟩) (Kd.R_types (Kd.R_types HO269.out BK270.out (by decide)) BK271.out (by decide)) (fun _ hk => (gives hk)) (.slice Ao100 t258.length co100)) (fun _ hk => (gives hk)) (.slice Ao103 t261.length co103)) (fun _ hk => hk.2) (.slice Ao104 t264.length co104)) (fun _ hk => hk.2) (.slice Ao106 t267.length co106)) (fun _ h_ => h_.1)) (fun _ h_ => h_.1))))) (below_size (by repeat (first | (with_reducible first | exact HB.out | apply below_alloc | apply pw_below_drewN | apply below_drew1 | refine below_set ?_ GE270.out | refine below_set ?_ GE271.out) | exact HB.out)))); have n6_ := ak (blk_below (g := gb270) (o := .cells #[.slice Ao100 t258.length co100, .slice Ao103 t261.length co103] 26 (0, 0)) (by (with_reducible repeat (first | apply blk_drewN | apply blk_drew | apply blk_alloc)); refine blk_far ?_ NB270_271.out _; (with_reducible repeat (first | apply blk_drewN | apply blk_drew | apply blk_alloc)); refine blk_far ?_ NB270_271.out _; (with_reducible repeat (first | apply blk_drewN | apply blk_drew | apply blk_alloc)); refine blk_put (cs := #[.slice Ao100 t258.length co100, .slice none 0 0]) ?_ 1 _ rfl; (with_reducible repeat (first | apply blk_drewN | apply blk_drew | apply blk_alloc)); refine blk_put (cs := #[.slice none 0 0, .slice none 0 0]) ?_ 0 _ rfl; (with_reducible repeat (first | apply blk_drewN | apply blk_drew | apply blk_alloc)); exact BK270.out) hb); have n7_ := ak (blk_below (g := gb271) (o := .cells #[.slice Ao104 t264.length co104, .slice Ao106 t267.length co106] 26 (0, 0)) (by (with_reducible repeat (first | apply blk_drewN | apply blk_drew | apply blk_alloc)); refine blk_put (cs := #[.slice Ao104 t264.length co104, .slice none 0 0]) ?_ 1 _ rfl; (with_reducible repeat (first | apply blk_drewN | apply blk_drew | apply blk_alloc)); refine blk_put (cs := #[.slice none 0 0, .slice none 0 0]) ?_ 0 _ rfl; (with_reducible repeat (first | apply blk_drewN | apply blk_drew | apply blk_alloc)); refine blk_far ?_ NB271_270.out _; (with_reducible repeat (first | apply blk_drewN | apply blk_drew | apply blk_alloc)); refine blk_far ?_ NB271_270.out _; (with_reducible repeat (first | apply blk_drewN | apply blk_drew | apply blk_alloc)); exact BK271.out) hb); have n8_ := ak (below_step (by repeat (first | (with_reducible first | exact HB.out | apply below_alloc | apply pw_below_drewN | apply below_drew1 | refine below_set ?_ GE270.out | refine below_set ?_ GE271.out) | exact HB.out)) hb); clear HO260; clear HO263; clear HO266; clear HO269; clear BK270; clear BK271; clear HB; have HO260 := n0_; have HO263 := n1_; have HO266 := n2_; have HO269 := n3_; have HO274 := n4_; have HO277 := n5_; have BK270 := n6_; have BK271 := n7_; have HB := n8_; clear n0_ n1_ n2_ n3_ n4_ n5_ n6_ n7_ n8_; (try clear hb); (try clear hb2); (try clear hk); (try clear hi); (try clear ho0); (try clear ho1)) | ((with_reducible refine gate_dst (N := 5) rfl ?_); (try (refine gate_guard (by rfl) ?_; dsimp only)); refine box_event ?hg (N := 5) ?hd (cs := #[.slice none 0 0, .slice none 0 0]) (t := 26) ?hr ?_; (case hd => rfl); (case hg => rfl); (case hr => first | (go_simp; done) | (go_simp; rfl)); intro gb278 hg w108 hbox hb; have n0_ := ak (Kd.R_below (rTo HO260.out) hb); have n1_ := ak (Kd.R_below (rTo HO263.out) hb); have n2_ := ak (Kd.R_below (rTo HO266.out) hb); have n3_ := ak (Kd.R_below (rTo HO269.out) hb); have n4_ := ak (Kd.R_below (rTo HO274.out) hb); have n5_ := ak (Kd.R_below (rTo HO277.out) hb); have n6_ := ak (blk_below (g := gb270) (o := .cells #[.slice Ao100 t258.length co100, .slice Ao103 t261.length co103] 26 (0, 0)) (bTo BK270.out) hb); have n7_ := ak (blk_below (g := gb271) (o := .cells #[.slice Ao104 t264.length co104, .slice Ao106 t267.length co106] 26 (0, 0)) (bTo BK271.out) hb); have n8_ := ak (below_step (by repeat (first | (with_reducible first | exact HB.out | apply below_alloc | apply pw_below_drewN | apply below_drew1 | refine below_set ?_ GE270.out | refine below_set ?_ GE271.out) | exact HB.out)) hb); have n9_ := ak (hbox); have n10_ := ak ((by rw [hg]; exact (below_size (by repeat (first | (with_reducible first | exact HB.out | apply below_alloc | apply pw_below_drewN | apply below_drew1 | refine below_set ?_ GE270.out | refine below_set ?_ GE271.out) | exact HB.out))) : w.heap.size ≤ gb278)); have n11_ := ak ((by rw [hg]; exact (below_size (by repeat (first | (with_reducible first | exact HB.out | apply below_alloc | apply pw_below_drewN | apply below_drew1 | refine below_set ?_ GE270.out | refine below_set ?_ GE271.out) | exact HB.out))) : w.heap.size ≤ gb278)); have n12_ := ak ((by rw [hg]; exact Nat.ne_of_lt (blk_lt (g := gb270) (o := .cells #[.slice Ao100 t258.length co100, .slice Ao103 t261.length co103] 26 (0, 0)) (bTo BK270.out)) : gb270 ≠ gb278)); have n13_ := ak ((by rw [hg]; exact Nat.ne_of_gt (blk_lt (g := gb270) (o := .cells #[.slice Ao100 t258.length co100, .slice Ao103 t261.length co103] 26 (0, 0)) (bTo BK270.out)) : gb278 ≠ gb270)); have n14_ := ak ((by rw [hg]; exact Nat.ne_of_lt (blk_lt (g := gb271) (o := .cells #[.slice Ao104 t264.length co104, .slice Ao106 t267.length co106] 26 (0, 0)) (bTo BK271.out)) : gb271 ≠ gb278)); have n15_ := ak ((by rw [hg]; exact Nat.ne_of_gt (blk_lt (g := gb271) (o := .cells #[.slice Ao104 t264.length co104, .slice Ao106 t267.length co106] 26 (0, 0)) (bTo BK271.out)) : gb278 ≠ gb271)); clear HO260; clear HO263; clear HO266; clear HO269; clear HO274; clear HO277; clear BK270; clear BK271; clear HB; have HO260 := n0_; have HO263 := n1_; have HO266 := n2_; have HO269 := n3_; have HO274 := n4_; have HO277 := n5_; have BK270 := n6_; have BK271 := n7_; have HB := n8_; have BK278 := n9_; have GW278 := n10_; have GE278 := n11_; have NB270_278 := n12_; have NB278_270 := n13_; have NB271_278 := n14_; have NB278_271 := n15_; clear n0_ n1_ n2_ n3_ n4_ n5_ n6_ n7_ n8_ n9_ n10_ n11_ n12_ n13_ n14_ n15_; clear hb hbox hg; obtain ⟨Ao109, co109, eo109⟩ := Kd.R_slice HO274.out; subst eo109; have hnb110 := NB278_270.out; have hnc110 := NB270_278.out; have hnb111 := NB278_271.out; have hnc111 := NB271_278.out; have hcz112_0 : w108.cell? ⟨gb278, 0, none⟩ = some (.slice none 0 0) := (blk_cell BK278.out 0).trans rfl; have hcz112_1 : w108.cell? ⟨gb278, 1, none⟩ = some (.slice none 0 0) := (blk_cell BK278.out 1).trans rfl; have hfz112_0 := blk_frozen BK278.out 0; have hfz112_1 := blk_frozen BK278.out 1; obtain ⟨Ao113, co113, eo113⟩ := Kd.R_slice HO277.out; subst eo113))
   have n0_ : Aside0 (Kd.R k37 37 ((w108.setCell ⟨gb278, 0, none⟩ (.slice Ao109 t272.length co109)).setCell ⟨gb278, 1, none⟩ (.slice Ao113 t275.length co113)) w.heap.size (fun k_ => some k_ ≠ (.slice Ao104 t264.length co104 : Value).ownBlock ∧ some k_ ≠ (.slice Ao109 t272.length co109 : Value).ownBlock) (.slice Ao100 t258.length co100) t258) := ⟨by (with_reducible repeat (first | apply Kd.R_alloc | apply Kd.R_drewN | apply Kd.R_drew)); exact Kd.R_mono (Kd.R_far (p := ⟨gb278, 1, none⟩) (Kd.R_far (p := ⟨gb278, 0, none⟩) (Kd.R_types HO260.out BK278.out (by decide)) (fun _ hk => hk.2) (.slice Ao109 t272.length co109)) (fun _ hk => hk.2) (.slice Ao113 t275.length co113)) (fun _ hk => ⟨(gives hk), (gives hk)⟩)⟩
   have n1_ : Aside0 (Kd.R Kd.string 9 ((w108.setCell ⟨gb278, 0, none⟩ (.slice Ao109 t272.length co109)).setCell ⟨gb278, 1, none⟩ (.slice Ao113 t275.length co113)) w.heap.size (fun k_ => some k_ ≠ (.slice Ao106 t267.length co106 : Value).ownBlock ∧ some k_ ≠ (.slice Ao113 t275.length co113 : Value).ownBlock) (.slice Ao103 t261.length co103) t261) := ⟨by (with_reducible repeat (first | apply Kd.R_alloc | apply Kd.R_drewN | apply Kd.R_drew)); exact Kd.R_mono (Kd.R_far (p := ⟨gb278, 1, none⟩) (Kd.R_far (p := ⟨gb278, 0, none⟩) (Kd.R_types HO263.out BK278.out (by decide)) (fun _ hk => hk.2) (.slice Ao109 t272.length co109)) (fun _ hk => hk.2) (.slice Ao113 t275.length co113)) (fun _ hk => ⟨(gives hk), (gives hk)⟩)⟩
   have n2_ : Aside0 (Kd.R k37 37 ((w108.setCell ⟨gb278, 0, none⟩ (.slice Ao109 t272.length co109)).setCell ⟨gb278, 1, none⟩ (.slice Ao113 t275.length co113)) w.heap.size (fun k_ => some k_ ≠ (.slice Ao100 t258.length co100 : Value).ownBlock ∧ some k_ ≠ (.slice Ao109 t272.length co109 : Value).ownBlock) (.slice Ao104 t264.length co104) t264) := ⟨by (with_reducible repeat (first | apply Kd.R_alloc | apply Kd.R_drewN | apply Kd.R_drew)); exact Kd.R_mono (Kd.R_far (p := ⟨gb278, 1, none⟩) (Kd.R_far (p := ⟨gb278, 0, none⟩) (Kd.R_types HO266.out BK278.out (by decide)) (fun _ hk => hk.2) (.slice Ao109 t272.length co109)) (fun _ hk => hk.2) (.slice Ao113 t275.length co113)) (fun _ hk => ⟨(gives hk), (gives hk)⟩)⟩
   have n3_ : Aside0 (Kd.R Kd.string 9 ((w108.setCell ⟨gb278, 0, none⟩ (.slice Ao109 t272.length co109)).setCell ⟨gb278, 1, none⟩ (.slice Ao113 t275.length co113)) w.heap.size (fun k_ => some k_ ≠ (.slice Ao103 t261.length co103 : Value).ownBlock ∧ some k_ ≠ (.slice Ao113 t275.length co113 : Value).ownBlock) (.slice Ao106 t267.length co106) t267) := ⟨by (with_reducible repeat (first | apply Kd.R_alloc | apply Kd.R_drewN | apply Kd.R_drew)); exact Kd.R_mono (Kd.R_far (p := ⟨gb278, 1, none⟩) (Kd.R_far (p := ⟨gb278, 0, none⟩) (Kd.R_types HO269.out BK278.out (by decide)) (fun _ hk => hk.2) (.slice Ao109 t272.length co109)) (fun _ hk => hk.2) (.slice Ao113 t275.length co113)) (fun _ hk => ⟨(gives hk), (gives hk)⟩)⟩
   have n4_ : Aside0 (Kd.R k37 37 ((w108.setCell ⟨gb278, 0, none⟩ (.slice Ao109 t272.length co109)).setCell ⟨gb278, 1, none⟩ (.slice Ao113 t275.length co113)) w.heap.size (fun k_ => some k_ ≠ (.slice Ao100 t258.length co100 : Value).ownBlock ∧ some k_ ≠ (.slice Ao104 t264.length co104 : Value).ownBlock) (.slice Ao109 t272.length co109) t272) := ⟨by (with_reducible repeat (first | apply Kd.R_alloc | apply Kd.R_drewN | apply Kd.R_drew)); exact Kd.R_mono (Kd.R_far (p := ⟨gb278, 1, none⟩) (Kd.R_far (p := ⟨gb278, 0, none⟩) (Kd.R_types HO274.out BK278.out (by decide)) (fun _ hk => hk.2) (.slice Ao109 t272.length co109)) (fun _ hk => hk.2) (.slice Ao113 t275.length co113)) (fun _ hk => ⟨(gives hk), (gives hk)⟩)⟩
   have n5_ : Aside0 (Kd.R Kd.string 9 ((w108.setCell ⟨gb278, 0, none⟩ (.slice Ao109 t272.length co109)).setCell ⟨gb278, 1, none⟩ (.slice Ao113 t275.length co113)) w.heap.size (fun k_ => some k_ ≠ (.slice Ao103 t261.length co103 : Value).ownBlock ∧ some k_ ≠ (.slice Ao106 t267.length co106 : Value).ownBlock) (.slice Ao113 t275.length co113) t275) := ⟨by (with_reducible repeat (first | apply Kd.R_alloc | apply Kd.R_drewN | apply Kd.R_drew)); exact Kd.R_mono (Kd.R_far (p := ⟨gb278, 1, none⟩) (Kd.R_far (p := ⟨gb278, 0, none⟩) (Kd.R_types HO277.out BK278.out (by decide)) (fun _ hk => hk.2) (.slice Ao109 t272.length co109)) (fun _ hk => hk.2) (.slice Ao113 t275.length co113)) (fun _ hk => ⟨(gives hk), (gives hk)⟩)⟩
   have n6_ : Aside0 (((w108.setCell ⟨gb278, 0, none⟩ (.slice Ao109 t272.length co109)).setCell ⟨gb278, 1, none⟩ (.slice Ao113 t275.length co113)).heap[gb270]? = some (.cells #[.slice Ao100 t258.length co100, .slice Ao103 t261.length co103] 26 (0, 0))) := ⟨by (with_reducible repeat (first | apply blk_drewN | apply blk_drew | apply blk_alloc)); refine blk_far ?_ NB270_278.out _; (with_reducible repeat (first | apply blk_drewN | apply blk_drew | apply blk_alloc)); refine blk_far ?_ NB270_278.out _; (with_reducible repeat (first | apply blk_drewN | apply blk_drew | apply blk_alloc)); exact BK270.out⟩
   have n7_ : Aside0 (((w108.setCell ⟨gb278, 0, none⟩ (.slice Ao109 t272.length co109)).setCell ⟨gb278, 1, none⟩ (.slice Ao113 t275.length co113)).heap[gb271]? = some (.cells #[.slice Ao104 t264.length co104, .slice Ao106 t267.length co106] 26 (0, 0))) := ⟨by (with_reducible repeat (first | apply blk_drewN | apply blk_drew | apply blk_alloc)); refine blk_far ?_ NB271_278.out _; (with_reducible repeat (first | apply blk_drewN | apply blk_drew | apply blk_alloc)); refine blk_far ?_ NB271_278.out _; (with_reducible repeat (first | apply blk_drewN | apply blk_drew | apply blk_alloc)); exact BK271.out⟩
   have n8_ : Aside0 (((w108.setCell ⟨gb278, 0, none⟩ (.slice Ao109 t272.length co109)).setCell ⟨gb278, 1, none⟩ (.slice Ao113 t275.length co113)).heap[gb278]? = some (.cells #[.slice Ao109 t272.length co109, .slice Ao113 t275.length co113] 26 (0, 0))) := ⟨by (with_reducible repeat (first | apply blk_drewN | apply blk_drew | apply blk_alloc)); refine blk_put (cs := #[.slice Ao109 t272.length co109, .slice none 0 0]) ?_ 1 _ rfl; (with_reducible repeat (first | apply blk_drewN | apply blk_drew | apply blk_alloc)); refine blk_put (cs := #[.slice none 0 0, .slice none 0 0]) ?_ 0 _ rfl; (with_reducible repeat (first | apply blk_drewN | apply blk_drew | apply blk_alloc)); exact BK278.out⟩
   have n9_ : Aside0 (Below w.heap.size w ((w108.setCell ⟨gb278, 0, none⟩ (.slice Ao109 t272.length co109)).setCell ⟨gb278, 1, none⟩ (.slice Ao113 t275.length co113))) := ⟨by repeat (first | (with_reducible first | exact HB.out | apply below_alloc | apply pw_below_drewN | apply below_drew1 | refine below_set ?_ GE270.out | refine below_set ?_ GE271.out | refine below_set ?_ GE278.out) | exact HB.out)⟩
   (try clear HO260)
   (try clear HO263)
   (try clear HO266)
   (try clear HO269)
   (try clear HO274)
   (try clear HO277)
   (try clear BK270)
   (try clear BK271)
   (try clear BK278)
   (try clear HB)
   generalize ((w108.setCell ⟨gb278, 0, none⟩ (.slice Ao109 t272.length co109)).setCell ⟨gb278, 1, none⟩ (.slice Ao113 t275.length co113)) = w114 at n0_ n1_ n2_ n3_ n4_ n5_ n6_ n7_ n8_ n9_ ⊢
   have HO260 := n0_
   have HO263 := n1_
   have HO266 := n2_
   have HO269 := n3_
   have HO274 := n4_
   have HO277 := n5_
   have BK270 := n6_
   have BK271 := n7_
   have BK278 := n8_
   have HB := n9_
   clear n0_ n1_ n2_ n3_ n4_ n5_ n6_ n7_ n8_ n9_
   have n0_ := ak (Kd.R_drew HO260.out)
   have n1_ := ak (Kd.R_drew HO263.out)
   have n2_ := ak (Kd.R_drew HO266.out)
   have n3_ := ak (Kd.R_drew HO269.out)
   have n4_ := ak (Kd.R_drew HO274.out)
   have n5_ := ak (Kd.R_drew HO277.out)
   have n6_ := ak (blk_drew BK270.out)
   have n7_ := ak (blk_drew BK271.out)
   have n8_ := ak (blk_drew BK278.out)
   have n9_ := ak (below_drew1 HB.out)
   clear HO260
   clear HO263
   clear HO266
   clear HO269
   clear HO274
   clear HO277
   clear BK270
   clear BK271
   clear BK278
   clear HB
   have HO260 := n0_
   have HO263 := n1_
   have HO266 := n2_
   have HO269 := n3_
   have HO274 := n4_
   have HO277 := n5_
   have BK270 := n6_
   have BK271 := n7_
   have BK278 := n8_
   have HB := n9_
   clear n0_ n1_ n2_ n3_ n4_ n5_ n6_ n7_ n8_ n9_
   refine start_ (n := 8) (S := fun w' => w'.cell? ⟨gb278, 0, none⟩ = some (.slice Ao109 t272.length co109) ∧ w'.cell? ⟨gb278, 1, none⟩ = some (.slice Ao113 t275.length co113) ∧ w'.cell? ⟨gb270, 0, none⟩ = some (.slice Ao100 t258.length co100) ∧ w'.cell? ⟨gb270, 1, none⟩ = some (.slice Ao103 t261.length co103) ∧ w'.cell? ⟨gb271, 0, none⟩ = some (.slice Ao104 t264.length co104) ∧ w'.cell? ⟨gb271, 1, none⟩ = some (.slice Ao106 t267.length co106)) (ds := []) #[false, false, false, false, false, false, false, false] (by kernel_rfl) rfl rfl ⟨(blk_cell BK278.out 0).trans rfl, (blk_cell BK278.out 1).trans rfl, (blk_cell BK270.out 0).trans rfl, (blk_cell BK270.out 1).trans rfl, (blk_cell BK271.out 0).trans rfl, (blk_cell BK271.out 1).trans rfl⟩ (fun hHeld => ?_); refine with_tabW laws_FnMergeReports.tab5 laws_FnMergeReports.bits5 (fun HT_ HW_ => ?_)
   generalize w114.drew = w115 at HO260 HO263 HO266 HO269 HO274 HO277 BK270 BK271 BK278 HB hHeld ⊢
   refine take_ (i := 0) (N := some 20) (v := ?_) (a' := ?_) #[true, false, false, false, false, false, false, false] rfl rfl (take_ofW HT_.out HW_.out (by kernel_rfl)) (fun _ _ _ h => h) (Or.inl ⟨by rfl, ?_⟩) hHeld ?_ ?_
   rotate_left
   ·rintro w' ⟨s0, s1, s2, s3, s4, s5⟩
    go_simp
    with_reducible rfl
   rotate_left
   ·simp only [Act.put, List.setIfInBounds_toArray, List.set_cons_zero, List.set_cons_succ, i64_w, i32_w]
    rfl
   refine take_ (i := 1) (N := some 21) (v := ?_) (a' := ?_) #[true, true, false, false, false, false, false, false] rfl rfl (take_ofW HT_.out HW_.out (by kernel_rfl)) (fun _ _ _ h => h) (Or.inl ⟨by rfl, ?_⟩) hHeld ?_ ?_
   rotate_left
   ·rintro w' ⟨s0, s1, s2, s3, s4, s5⟩
    go_simp
    with_reducible rfl
   rotate_left
   ·simp only [Act.put, List.setIfInBounds_toArray, List.set_cons_zero, List.set_cons_succ, i64_w, i32_w]
    rfl
   refine take_ (i := 2) (N := some 22) (v := ?_) (a' := ?_) #[true, true, true, false, false, false, false, false] rfl rfl (take_ofW HT_.out HW_.out (by kernel_rfl)) (fun _ _ _ h => h) (Or.inl ⟨by rfl, ?_⟩) hHeld ?_ ?_
   rotate_left
   ·rintro w' ⟨s0, s1, s2, s3, s4, s5⟩
    go_simp
    with_reducible rfl
   rotate_left
   ·simp only [Act.put, List.setIfInBounds_toArray, List.set_cons_zero, List.set_cons_succ, i64_w, i32_w]
    rfl
   refine one_ (i := 3) (N := some 23) #[true, true, true, true, false, false, false, false] rfl rfl (one_of HT_.out (by kernel_rfl)) (by decide) (fun K hK => ?_)
   refine goes_ Try.func21 (by kernel_rfl) rfl #[.agg #[.slice Ao100 t258.length co100, .slice Ao103 t261.length co103], .agg #[.slice Ao104 t264.length co104, .slice Ao106 t267.length co106]] (by rfl) rfl rfl (by (try simp only [List.map_toArray, List.map_cons, List.map_nil]); first | done | rfl | (simp only [List.length_drop, List.length_take]; rfl)) ?_
   with_reducible refine (spec_MergeReports.calls k _ _ t258 _ _ t261 _ _ t264 _ _ t267 t279 t282 _ ?side1 ?side2 ?side3 ?side4 ?side5 ?side6 ?side7 ?side8 A5.out).mono ?_
   (case side1 => repeat (first | exact (Kd.R_reads' HO260.out).2.2 | (with_reducible refine Kd.C_alloc ?_ _) | (with_reducible refine Kd.C_drewN ?_ _) | (with_reducible refine Kd.C_drew ?_)))
   (case side2 => exact (Kd.R_reads' HO260.out).2.1)
   (case side3 => repeat (first | exact (Kd.R_reads' HO263.out).2.2 | (with_reducible refine Kd.C_alloc ?_ _) | (with_reducible refine Kd.C_drewN ?_ _) | (with_reducible refine Kd.C_drew ?_)))
   (case side4 => exact (Kd.R_reads' HO263.out).2.1)
   (case side5 => repeat (first | exact (Kd.R_reads' HO266.out).2.2 | (with_reducible refine Kd.C_alloc ?_ _) | (with_reducible refine Kd.C_drewN ?_ _) | (with_reducible refine Kd.C_drew ?_)))
   (case side6 => exact (Kd.R_reads' HO266.out).2.1)
   (case side7 => repeat (first | exact (Kd.R_reads' HO269.out).2.2 | (with_reducible refine Kd.C_alloc ?_ _) | (with_reducible refine Kd.C_drewN ?_ _) | (with_reducible refine Kd.C_drew ?_)))
   (case side8 => exact (Kd.R_reads' HO269.out).2.1)
   rintro e w116 ⟨v280, v283, rfl, ho0, ho1, hb⟩
   refine ⟨_, rfl, ?_⟩
   have n0_ := ak (Kd.R_elder' (rTo HO260.out) (Kd.R_base ho0) hb)
   have n1_ := ak (Kd.R_elder' (rTo HO263.out) (Kd.R_base ho1) hb)
   have n2_ := ak (Kd.R_elder' (rTo HO266.out) (Kd.R_base ho0) hb)
   have n3_ := ak (Kd.R_elder' (rTo HO269.out) (Kd.R_base ho1) hb)
   have n4_ := ak (Kd.R_elder' (rTo HO274.out) (Kd.R_base ho0) hb)
   have n5_ := ak (Kd.R_elder' (rTo HO277.out) (Kd.R_base ho1) hb)
   have n6_ := ak (Kd.R_lower (Kd.R_new' (Kd.R_new' (Kd.R_new' ho0 (Kd.R_lt (rTo HO260.out))) (Kd.R_lt (rTo HO266.out))) (Kd.R_lt (rTo HO274.out))) (below_size (by repeat (first | (with_reducible first | exact HB.out | apply below_alloc | apply pw_below_drewN | apply below_drew1 | refine below_set ?_ GE270.out | refine below_set ?_ GE271.out | refine below_set ?_ GE278.out) | exact HB.out))))
   have n7_ := ak (Kd.R_lower (Kd.R_new' (Kd.R_new' (Kd.R_new' ho1 (Kd.R_lt (rTo HO263.out))) (Kd.R_lt (rTo HO269.out))) (Kd.R_lt (rTo HO277.out))) (below_size (by repeat (first | (with_reducible first | exact HB.out | apply below_alloc | apply pw_below_drewN | apply below_drew1 | refine below_set ?_ GE270.out | refine below_set ?_ GE271.out | refine below_set ?_ GE278.out) | exact HB.out))))
   have n8_ := ak (blk_below (g := gb270) (o := .cells #[.slice Ao100 t258.length co100, .slice Ao103 t261.length co103] 26 (0, 0)) (bTo BK270.out) hb)
   have n9_ := ak (blk_below (g := gb271) (o := .cells #[.slice Ao104 t264.length co104, .slice Ao106 t267.length co106] 26 (0, 0)) (bTo BK271.out) hb)
   have n10_ := ak (blk_below (g := gb278) (o := .cells #[.slice Ao109 t272.length co109, .slice Ao113 t275.length co113] 26 (0, 0)) (bTo BK278.out) hb)
   have n11_ := ak (below_step (by repeat (first | (with_reducible first | exact HB.out | apply below_alloc | apply pw_below_drewN | apply below_drew1 | refine below_set ?_ GE270.out | refine below_set ?_ GE271.out | refine below_set ?_ GE278.out) | exact HB.out)) hb)
   clear HO260
   clear HO263
   clear HO266
   clear HO269
   clear HO274
   clear HO277
   clear BK270
   clear BK271
   clear BK278
   clear HB
   have HO260 := n0_
   have HO263 := n1_
   have HO266 := n2_
   have HO269 := n3_
   have HO274 := n4_
   have HO277 := n5_
   have HO281 := n6_
   have HO284 := n7_
   have BK270 := n8_
   have BK271 := n9_
   have BK278 := n10_
   have HB := n11_
   clear n0_ n1_ n2_ n3_ n4_ n5_ n6_ n7_ n8_ n9_ n10_ n11_
   (try clear hb)
   (try clear hb2)
   (try clear hk)
   (try clear hi)
   (try clear ho0)
   (try clear ho1)
   obtain ⟨Ao117, co117, eo117⟩ := Kd.R_slice HO281.out
   (first | subst eo117 | (injection eo117 with f1_ f2_ f3_; have f4_ := f1_.symm; have f5_ := f3_.symm; clear f1_ f2_ f3_; subst f4_; subst f5_))
   obtain ⟨Ao118, co118, eo118⟩ := Kd.R_slice HO284.out
   (first | subst eo118 | (injection eo118 with f1_ f2_ f3_; have f4_ := f1_.symm; have f5_ := f3_.symm; clear f1_ f2_ f3_; subst f4_; subst f5_))
   refine hK.out _ _ ⟨(blk_cell BK278.out 0).trans rfl, (blk_cell BK278.out 1).trans rfl, (blk_cell BK270.out 0).trans rfl, (blk_cell BK270.out 1).trans rfl, (blk_cell BK271.out 0).trans rfl, (blk_cell BK271.out 1).trans rfl⟩ (fun hHeld => ?_)
   clear hK K
   refine norm_ (a' := ?_) ?_ ?_
   rotate_left
   ·show Act.put _ (some 23) _ = _
    simp only [Act.put, List.setIfInBounds_toArray, List.set_cons_zero, List.set_cons_succ, i64_w, i32_w]
    rfl
   refine one_ (i := 4) (N := some 24) #[true, true, true, true, true, false, false, false] rfl rfl (one_of HT_.out (by kernel_rfl)) (by decide) (fun K hK => ?_)
   refine goes_ Try.func20 (by kernel_rfl) rfl #[.agg #[.slice Ao109 t272.length co109, .slice Ao113 t275.length co113], .agg #[.slice Ao117 t279.length co117, .slice Ao118 t282.length co118]] (by rfl) rfl rfl (by (try simp only [List.map_toArray, List.map_cons, List.map_nil]); first | done | rfl | (simp only [List.length_drop, List.length_take]; rfl)) ?_
   with_reducible refine (laws_equalReport.calls k _ _ t272 _ _ t275 _ _ t279 _ _ t282 false _ ?side1 ?side2 ?side3 ?side4 ?side5 ?side6 ?side7 ?side8 A6.out).mono ?_
   (case side1 => repeat (first | exact (Kd.R_reads' HO274.out).2.2 | (with_reducible refine Kd.C_alloc ?_ _) | (with_reducible refine Kd.C_drewN ?_ _) | (with_reducible refine Kd.C_drew ?_)))
   (case side2 => exact (Kd.R_reads' HO274.out).2.1)
   (case side3 => repeat (first | exact (Kd.R_reads' HO277.out).2.2 | (with_reducible refine Kd.C_alloc ?_ _) | (with_reducible refine Kd.C_drewN ?_ _) | (with_reducible refine Kd.C_drew ?_)))
   (case side4 => exact (Kd.R_reads' HO277.out).2.1)
   (case side5 => repeat (first | exact (Kd.R_reads' HO281.out).2.2 | (with_reducible refine Kd.C_alloc ?_ _) | (with_reducible refine Kd.C_drewN ?_ _) | (with_reducible refine Kd.C_drew ?_)))
   (case side6 => exact (Kd.R_reads' HO281.out).2.1)
   (case side7 => repeat (first | exact (Kd.R_reads' HO284.out).2.2 | (with_reducible refine Kd.C_alloc ?_ _) | (with_reducible refine Kd.C_drewN ?_ _) | (with_reducible refine Kd.C_drew ?_)))
   (case side8 => exact (Kd.R_reads' HO284.out).2.1)
   rintro e w119 ⟨rfl, hb⟩
   refine ⟨_, rfl, ?_⟩
   have n0_ := ak (Kd.R_below (rTo HO260.out) hb)
   have n1_ := ak (Kd.R_below (rTo HO263.out) hb)
   have n2_ := ak (Kd.R_below (rTo HO266.out) hb)
   have n3_ := ak (Kd.R_below (rTo HO269.out) hb)
   have n4_ := ak (Kd.R_below (rTo HO274.out) hb)
   have n5_ := ak (Kd.R_below (rTo HO277.out) hb)
   have n6_ := ak (Kd.R_below (rTo HO281.out) hb)
   have n7_ := ak (Kd.R_below (rTo HO284.out) hb)
   have n8_ := ak (blk_below (g := gb270) (o := .cells #[.slice Ao100 t258.length co100, .slice Ao103 t261.length co103] 26 (0, 0)) (bTo BK270.out) hb)
   have n9_ := ak (blk_below (g := gb271) (o := .cells #[.slice Ao104 t264.length co104, .slice Ao106 t267.length co106] 26 (0, 0)) (bTo BK271.out) hb)
   have n10_ := ak (blk_below (g := gb278) (o := .cells #[.slice Ao109 t272.length co109, .slice Ao113 t275.length co113] 26 (0, 0)) (bTo BK278.out) hb)
   have n11_ := ak (below_step (by repeat (first | (with_reducible first | exact HB.out | apply below_alloc | apply pw_below_drewN | apply below_drew1 | refine below_set ?_ GE270.out | refine below_set ?_ GE271.out | refine below_set ?_ GE278.out) | exact HB.out)) hb)
   clear HO260
   clear HO263
   clear HO266
   clear HO269
   clear HO274
   clear HO277
   clear HO281
   clear HO284
   clear BK270
   clear BK271
   clear BK278
   clear HB
   have HO260 := n0_
   have HO263 := n1_
   have HO266 := n2_
   have HO269 := n3_
   have HO274 := n4_
   have HO277 := n5_
   have HO281 := n6_
   have HO284 := n7_
   have BK270 := n8_
   have BK271 := n9_
   have BK278 := n10_
   have HB := n11_
   clear n0_ n1_ n2_ n3_ n4_ n5_ n6_ n7_ n8_ n9_ n10_ n11_
   (try clear hb)
   (try clear hb2)
   (try clear hk)
   (try clear hi)
   refine hK.out _ _ ⟨(blk_cell BK278.out 0).trans rfl, (blk_cell BK278.out 1).trans rfl, (blk_cell BK270.out 0).trans rfl, (blk_cell BK270.out 1).trans rfl, (blk_cell BK271.out 0).trans rfl, (blk_cell BK271.out 1).trans rfl⟩ (fun hHeld => ?_)
   clear hK K
   refine norm_ (a' := ?_) ?_ ?_
   rotate_left
   ·show Act.put _ (some 24) _ = _
    simp only [Act.put, List.setIfInBounds_toArray, List.set_cons_zero, List.set_cons_succ, i64_w, i32_w]
    rfl
   refine pure_ (i := 5) (N := some 25) (v := ?_) (a' := ?_) #[true, true, true, true, true, true, false, false] rfl rfl (any_of HT_.out (by kernel_rfl)) (fun _ _ _ h => h) (Or.inl ⟨by rfl, ?_⟩) ?_ ?_
   rotate_left
   ·intro w'
    go_simp
    with_reducible rfl
   rotate_left
   ·simp only [Act.put, List.setIfInBounds_toArray, List.set_cons_zero, List.set_cons_succ, i64_w, i32_w]
    rfl
   refine pure_ (i := 6) (N := some 26) (v := ?_) (a' := ?_) #[true, true, true, true, true, true, true, false] rfl rfl (any_of HT_.out (by kernel_rfl)) (fun _ _ _ h => h) (Or.inl ⟨by rfl, ?_⟩) ?_ ?_
   rotate_left
   ·intro w'
    go_simp
    with_reducible rfl
   rotate_left
   ·simp only [Act.put, List.setIfInBounds_toArray, List.set_cons_zero, List.set_cons_succ, i64_w, i32_w]
    rfl
   refine pure_ (i := 7) (N := some 27) (v := ?_) (a' := ?_) #[true, true, true, true, true, true, true, true] rfl rfl (any_of HT_.out (by kernel_rfl)) (fun _ _ _ h => h) (Or.inl ⟨by rfl, ?_⟩) ?_ ?_
   rotate_left
   ·intro w'
    go_simp
    with_reducible rfl
   rotate_left
   ·simp only [Act.put, List.setIfInBounds_toArray, List.set_cons_zero, List.set_cons_succ, i64_w, i32_w]
    rfl
   refine done_ (done_of HT_.out (by kernel_rfl)) ?_
   try go_wp2
   have n0_ := ak (Kd.R_drew HO260.out)
   have n1_ := ak (Kd.R_drew HO263.out)
   have n2_ := ak (Kd.R_drew HO266.out)
   have n3_ := ak (Kd.R_drew HO269.out)
   have n4_ := ak (Kd.R_drew HO274.out)
   have n5_ := ak (Kd.R_drew HO277.out)
   have n6_ := ak (Kd.R_drew HO281.out)
   have n7_ := ak (Kd.R_drew HO284.out)
   have n8_ := ak (blk_drew BK270.out)
   have n9_ := ak (blk_drew BK271.out)
   have n10_ := ak (blk_drew BK278.out)
   have n11_ := ak (below_drew1 HB.out)
   clear HO260
   clear HO263
   clear HO266
   clear HO269
   clear HO274
   clear HO277
   clear HO281
   clear HO284
   clear BK270
   clear BK271
   clear BK278
   clear HB
   have HO260 := n0_
   have HO263 := n1_
   have HO266 := n2_
   have HO269 := n3_
   have HO274 := n4_
   have HO277 := n5_
   have HO281 := n6_
   have HO284 := n7_
   have BK270 := n8_
   have BK271 := n9_
   have BK278 := n10_
   have HB := n11_
   clear n0_ n1_ n2_ n3_ n4_ n5_ n6_ n7_ n8_ n9_ n10_ n11_
   refine start_ (n := 6) (S := fun w' => w'.cell? ⟨gb278, 0, none⟩ = some (.slice Ao109 t272.length co109) ∧ w'.cell? ⟨gb278, 1, none⟩ = some (.slice Ao113 t275.length co113) ∧ w'.cell? ⟨gb270, 0, none⟩ = some (.slice Ao100 t258.length co100) ∧ w'.cell? ⟨gb270, 1, none⟩ = some (.slice Ao103 t261.length co103) ∧ w'.cell? ⟨gb271, 0, none⟩ = some (.slice Ao104 t264.length co104) ∧ w'.cell? ⟨gb271, 1, none⟩ = some (.slice Ao106 t267.length co106)) (ds := []) #[false, false, false, false, false, false] (by kernel_rfl) rfl rfl ⟨(blk_cell BK278.out 0).trans rfl, (blk_cell BK278.out 1).trans rfl, (blk_cell BK270.out 0).trans rfl, (blk_cell BK270.out 1).trans rfl, (blk_cell BK271.out 0).trans rfl, (blk_cell BK271.out 1).trans rfl⟩ (fun hHeld => ?_)
   generalize w119.drew = w120 at HO260 HO263 HO266 HO269 HO274 HO277 HO281 HO284 BK270 BK271 BK278 HB hHeld ⊢
   refine take_ (i := 0) (N := some 28) (v := ?_) (a' := ?_) #[true, false, false, false, false, false] rfl rfl (by kernel_rfl) (fun _ _ _ h => h) (Or.inl ⟨by rfl, ?_⟩) hHeld ?_ ?_
   rotate_left
   ·rintro w' ⟨s0, s1, s2, s3, s4, s5⟩
    go_simp
    with_reducible rfl
   rotate_left
   ·simp only [Act.put, List.setIfInBounds_toArray, List.set_cons_zero, List.set_cons_succ, i64_w, i32_w]
    rfl
   refine take_ (i := 1) (N := some 29) (v := ?_) (a' := ?_) #[true, true, false, false, false, false] rfl rfl (by kernel_rfl) (fun _ _ _ h => h) (Or.inl ⟨by rfl, ?_⟩) hHeld ?_ ?_
   rotate_left
   ·rintro w' ⟨s0, s1, s2, s3, s4, s5⟩
    go_simp
    with_reducible rfl
   rotate_left
   ·simp only [Act.put, List.setIfInBounds_toArray, List.set_cons_zero, List.set_cons_succ, i64_w, i32_w]
    rfl
   refine take_ (i := 2) (N := some 30) (v := ?_) (a' := ?_) #[true, true, true, false, false, false] rfl rfl (by kernel_rfl) (fun _ _ _ h => h) (Or.inl ⟨by rfl, ?_⟩) hHeld ?_ ?_
   rotate_left
   ·rintro w' ⟨s0, s1, s2, s3, s4, s5⟩
    go_simp
    with_reducible rfl
   rotate_left
   ·simp only [Act.put, List.setIfInBounds_toArray, List.set_cons_zero, List.set_cons_succ, i64_w, i32_w]
    rfl
   refine one_ (i := 3) (N := some 31) #[true, true, true, true, false, false] rfl rfl (by kernel_rfl) (by decide) (fun K hK => ?_)
   refine goes_ Try.func21 (by kernel_rfl) rfl #[.agg #[.slice Ao100 t258.length co100, .slice Ao103 t261.length co103], .agg #[.slice Ao104 t264.length co104, .slice Ao106 t267.length co106]] (by rfl) rfl rfl (by (try simp only [List.map_toArray, List.map_cons, List.map_nil]); first | done | rfl | (simp only [List.length_drop, List.length_take]; rfl)) ?_
   with_reducible refine (spec_MergeReports.calls k _ _ t258 _ _ t261 _ _ t264 _ _ t267 t298 t301 _ ?side1 ?side2 ?side3 ?side4 ?side5 ?side6 ?side7 ?side8 A95.out).mono ?_
   (case side1 => repeat (first | exact (Kd.R_reads' HO260.out).2.2 | (with_reducible refine Kd.C_alloc ?_ _) | (with_reducible refine Kd.C_drewN ?_ _) | (with_reducible refine Kd.C_drew ?_)))
   (case side2 => exact (Kd.R_reads' HO260.out).2.1)
   (case side3 => repeat (first | exact (Kd.R_reads' HO263.out).2.2 | (with_reducible refine Kd.C_alloc ?_ _) | (with_reducible refine Kd.C_drewN ?_ _) | (with_reducible refine Kd.C_drew ?_)))
   (case side4 => exact (Kd.R_reads' HO263.out).2.1)
   (case side5 => repeat (first | exact (Kd.R_reads' HO266.out).2.2 | (with_reducible refine Kd.C_alloc ?_ _) | (with_reducible refine Kd.C_drewN ?_ _) | (with_reducible refine Kd.C_drew ?_)))
   (case side6 => exact (Kd.R_reads' HO266.out).2.1)
   (case side7 => repeat (first | exact (Kd.R_reads' HO269.out).2.2 | (with_reducible refine Kd.C_alloc ?_ _) | (with_reducible refine Kd.C_drewN ?_ _) | (with_reducible refine Kd.C_drew ?_)))
   (case side8 => exact (Kd.R_reads' HO269.out).2.1)
   rintro e w121 ⟨v299, v302, rfl, ho0, ho1, hb⟩
   refine ⟨_, rfl, ?_⟩
   have n0_ := ak (Kd.R_elder' (rTo HO260.out) (Kd.R_base ho0) hb)
   have n1_ := ak (Kd.R_elder' (rTo HO263.out) (Kd.R_base ho1) hb)
   have n2_ := ak (Kd.R_elder' (rTo HO266.out) (Kd.R_base ho0) hb)
   have n3_ := ak (Kd.R_elder' (rTo HO269.out) (Kd.R_base ho1) hb)
   have n4_ := ak (Kd.R_elder' (rTo HO274.out) (Kd.R_base ho0) hb)
   have n5_ := ak (Kd.R_elder' (rTo HO277.out) (Kd.R_base ho1) hb)
   have n6_ := ak (Kd.R_elder' (rTo HO281.out) (Kd.R_base ho0) hb)
   have n7_ := ak (Kd.R_elder' (rTo HO284.out) (Kd.R_base ho1) hb)
   have n8_ := ak (Kd.R_lower (Kd.R_new' (Kd.R_new' (Kd.R_new' (Kd.R_new' ho0 (Kd.R_lt (rTo HO260.out))) (Kd.R_lt (rTo HO266.out))) (Kd.R_lt (rTo HO274.out))) (Kd.R_lt (rTo HO281.out))) (below_size (by repeat (first | (with_reducible first | exact HB.out | apply below_alloc | apply pw_below_drewN | apply below_drew1 | refine below_set ?_ GE270.out | refine below_set ?_ GE271.out | refine below_set ?_ GE278.out) | exact HB.out))))
   have n9_ := ak (Kd.R_lower (Kd.R_new' (Kd.R_new' (Kd.R_new' (Kd.R_new' ho1 (Kd.R_lt (rTo HO263.out))) (Kd.R_lt (rTo HO269.out))) (Kd.R_lt (rTo HO277.out))) (Kd.R_lt (rTo HO284.out))) (below_size (by repeat (first | (with_reducible first | exact HB.out | apply below_alloc | apply pw_below_drewN | apply below_drew1 | refine below_set ?_ GE270.out | refine below_set ?_ GE271.out | refine below_set ?_ GE278.out) | exact HB.out))))
   have n10_ := ak (blk_below (g := gb270) (o := .cells #[.slice Ao100 t258.length co100, .slice Ao103 t261.length co103] 26 (0, 0)) (bTo BK270.out) hb)
   have n11_ := ak (blk_below (g := gb271) (o := .cells #[.slice Ao104 t264.length co104, .slice Ao106 t267.length co106] 26 (0, 0)) (bTo BK271.out) hb)
   have n12_ := ak (blk_below (g := gb278) (o := .cells #[.slice Ao109 t272.length co109, .slice Ao113 t275.length co113] 26 (0, 0)) (bTo BK278.out) hb)
   have n13_ := ak (below_step (by repeat (first | (with_reducible first | exact HB.out | apply below_alloc | apply pw_below_drewN | apply below_drew1 | refine below_set ?_ GE270.out | refine below_set ?_ GE271.out | refine below_set ?_ GE278.out) | exact HB.out)) hb)
   clear HO260
   clear HO263
   clear HO266
   clear HO269
   clear HO274
   clear HO277
   clear HO281
   clear HO284
   clear BK270
   clear BK271
   clear BK278
   clear HB
   have HO260 := n0_
   have HO263 := n1_
   have HO266 := n2_
   have HO269 := n3_
   have HO274 := n4_
   have HO277 := n5_
   have HO281 := n6_
   have HO284 := n7_
   have HO300 := n8_
   have HO303 := n9_
   have BK270 := n10_
   have BK271 := n11_
   have BK278 := n12_
   have HB := n13_
   clear n0_ n1_ n2_ n3_ n4_ n5_ n6_ n7_ n8_ n9_ n10_ n11_ n12_ n13_
   (try clear hb)
   (try clear hb2)
   (try clear hk)
   (try clear hi)
   (try clear ho0)
   (try clear ho1)
   obtain ⟨Ao122, co122, eo122⟩ := Kd.R_slice HO300.out
   (first | subst eo122 | (injection eo122 with f1_ f2_ f3_; have f4_ := f1_.symm; have f5_ := f3_.symm; clear f1_ f2_ f3_; subst f4_; subst f5_))
   obtain ⟨Ao123, co123, eo123⟩ := Kd.R_slice HO303.out
   (first | subst eo123 | (injection eo123 with f1_ f2_ f3_; have f4_ := f1_.symm; have f5_ := f3_.symm; clear f1_ f2_ f3_; subst f4_; subst f5_))
   refine hK.out _ _ ⟨(blk_cell BK278.out 0).trans rfl, (blk_cell BK278.out 1).trans rfl, (blk_cell BK270.out 0).trans rfl, (blk_cell BK270.out 1).trans rfl, (blk_cell BK271.out 0).trans rfl, (blk_cell BK271.out 1).trans rfl⟩ (fun hHeld => ?_)
   clear hK K
   refine norm_ (a' := ?_) ?_ ?_
   rotate_left
   ·show Act.put _ (some 31) _ = _
    simp only [Act.put, List.setIfInBounds_toArray, List.set_cons_zero, List.set_cons_succ, i64_w, i32_w]
    rfl
   refine one_ (i := 4) (N := some 32) #[true, true, true, true, true, false] rfl rfl (by kernel_rfl) (by decide) (fun K hK => ?_)
   refine goes_ Try.func20 (by kernel_rfl) rfl #[.agg #[.slice Ao109 t272.length co109, .slice Ao113 t275.length co113], .agg #[.slice Ao122 t298.length co122, .slice Ao123 t301.length co123]] (by rfl) rfl rfl (by (try simp only [List.map_toArray, List.map_cons, List.map_nil]); first | done | rfl | (simp only [List.length_drop, List.length_take]; rfl)) ?_
   with_reducible refine (laws_equalReport.calls k _ _ t272 _ _ t275 _ _ t298 _ _ t301 t304 _ ?side1 ?side2 ?side3 ?side4 ?side5 ?side6 ?side7 ?side8 A96.out).mono ?_
   (case side1 => repeat (first | exact (Kd.R_reads' HO274.out).2.2 | (with_reducible refine Kd.C_alloc ?_ _) | (with_reducible refine Kd.C_drewN ?_ _) | (with_reducible refine Kd.C_drew ?_)))
   (case side2 => exact (Kd.R_reads' HO274.out).2.1)
   (case side3 => repeat (first | exact (Kd.R_reads' HO277.out).2.2 | (with_reducible refine Kd.C_alloc ?_ _) | (with_reducible refine Kd.C_drewN ?_ _) | (with_reducible refine Kd.C_drew ?_)))
   (case side4 => exact (Kd.R_reads' HO277.out).2.1)
   (case side5 => repeat (first | exact (Kd.R_reads' HO300.out).2.2 | (with_reducible refine Kd.C_alloc ?_ _) | (with_reducible refine Kd.C_drewN ?_ _) | (with_reducible refine Kd.C_drew ?_)))
   (case side6 => exact (Kd.R_reads' HO300.out).2.1)
   (case side7 => repeat (first | exact (Kd.R_reads' HO303.out).2.2 | (with_reducible refine Kd.C_alloc ?_ _) | (with_reducible refine Kd.C_drewN ?_ _) | (with_reducible refine Kd.C_drew ?_)))
   (case side8 => exact (Kd.R_reads' HO303.out).2.1)
   rintro e w124 ⟨rfl, hb⟩
   refine ⟨_, rfl, ?_⟩
   have n0_ := ak (Kd.R_below (rTo HO260.out) hb)
   have n1_ := ak (Kd.R_below (rTo HO263.out) hb)
   have n2_ := ak (Kd.R_below (rTo HO266.out) hb)
   have n3_ := ak (Kd.R_below (rTo HO269.out) hb)
   have n4_ := ak (Kd.R_below (rTo HO274.out) hb)
   have n5_ := ak (Kd.R_below (rTo HO277.out) hb)
   have n6_ := ak (Kd.R_below (rTo HO281.out) hb)
   have n7_ := ak (Kd.R_below (rTo HO284.out) hb)
   have n8_ := ak (Kd.R_below (rTo HO300.out) hb)
   have n9_ := ak (Kd.R_below (rTo HO303.out) hb)
   have n10_ := ak (blk_below (g := gb270) (o := .cells #[.slice Ao100 t258.length co100, .slice Ao103 t261.length co103] 26 (0, 0)) (bTo BK270.out) hb)
   have n11_ := ak (blk_below (g := gb271) (o := .cells #[.slice Ao104 t264.length co104, .slice Ao106 t267.length co106] 26 (0, 0)) (bTo BK271.out) hb)
   have n12_ := ak (blk_below (g := gb278) (o := .cells #[.slice Ao109 t272.length co109, .slice Ao113 t275.length co113] 26 (0, 0)) (bTo BK278.out) hb)
   have n13_ := ak (below_step (by repeat (first | (with_reducible first | exact HB.out | apply below_alloc | apply pw_below_drewN | apply below_drew1 | refine below_set ?_ GE270.out | refine below_set ?_ GE271.out | refine below_set ?_ GE278.out) | exact HB.out)) hb)
   clear HO260
   clear HO263
   clear HO266
   clear HO269
   clear HO274
   clear HO277
   clear HO281
   clear HO284
   clear HO300
   clear HO303
   clear BK270
   clear BK271
   clear BK278
   clear HB
   have HO260 := n0_
   have HO263 := n1_
   have HO266 := n2_
   have HO269 := n3_
   have HO274 := n4_
   have HO277 := n5_
   have HO281 := n6_
   have HO284 := n7_
   have HO300 := n8_
   have HO303 := n9_
   have BK270 := n10_
   have BK271 := n11_
   have BK278 := n12_
   have HB := n13_
   clear n0_ n1_ n2_ n3_ n4_ n5_ n6_ n7_ n8_ n9_ n10_ n11_ n12_ n13_
   (try clear hb)
   (try clear hb2)
   (try clear hk)
   (try clear hi)
   refine hK.out _ _ ⟨(blk_cell BK278.out 0).trans rfl, (blk_cell BK278.out 1).trans rfl, (blk_cell BK270.out 0).trans rfl, (blk_cell BK270.out 1).trans rfl, (blk_cell BK271.out 0).trans rfl, (blk_cell BK271.out 1).trans rfl⟩ (fun hHeld => ?_)
   clear hK K
   refine norm_ (a' := ?_) ?_ ?_
   rotate_left
   ·show Act.put _ (some 32) _ = _
    simp only [Act.put, List.setIfInBounds_toArray, List.set_cons_zero, List.set_cons_succ, i64_w, i32_w]
    rfl
   refine pure_ (i := 5) (N := some 2) (v := ?_) (a' := ?_) #[true, true, true, true, true, true] rfl rfl (by kernel_rfl) (fun _ _ _ h => h) (Or.inl ⟨by rfl, ?_⟩) ?_ ?_
   rotate_left
   ·intro w'
    go_simp
    with_reducible rfl
   rotate_left
   ·simp only [Act.put, List.setIfInBounds_toArray, List.set_cons_zero, List.set_cons_succ, i64_w, i32_w]
    rfl
   refine done_ (by kernel_rfl) ?_
   try go_wp2
   go_ret
   exact ⟨by first | rfl | (simp [errW_none, errW_some] <;> rfl) | (simp [*, errW_none, errW_some] <;> rfl), by repeat (first | (with_reducible first | exact HB.out | apply below_alloc | apply pw_below_drewN | apply below_drew1 | refine below_set ?_ GE270.out | refine below_set ?_ GE271.out | refine below_set ?_ GE278.out) | exact HB.out)⟩

/-- THE ONE PURE STATEMENT of laws_FnMergeReports: yours. -/
def laws_FnMergeReports.Pure : Prop := ∀ (l0 : List Int), l0.length ≤ maxLen → l0.length * 1 ≤ 140737488351232 → (∀ x ∈ l0, (Lit.int .u8 x).wf = true) → ∃ k, laws_FnMergeReports.f k l0 = some true
theorem laws_FnMergeReports.walk (P : laws_FnMergeReports.Pure) (a0 : Option Addr) (len0 cap0 : Nat) (z0 : List Int) (w : World) (w0 : (a0 = none ∧ len0 = 0 ∧ cap0 = 0 ∧ z0 = []) ∨ ∃ x, a0 = some x ∧ len0 ≤ cap0 ∧ cap0 ≤ maxLen ∧ z0.length = cap0 ∧ (∀ i, i < z0.length → w.cell? (x.add i) = some (.int .u8 (z0.getD i 0))) ∧ ∀ n ∈ z0, (Lit.int .u8 n).wf = true) (y0 : len0 * 1 ≤ 140737488351232) :
  Calls Try.prog 4 #[.slice a0 len0 cap0] w fun e w' => e = .returned (.bool true) ∧ Below w.heap.size w w' := by
 obtain ⟨l0, rfl, hr0, hm0, hw0, hc0⟩ := ReadsInt.ofRowC w0
 obtain ⟨k, h⟩ := P l0 hm0 y0 hw0
 refine (laws_FnMergeReports.calls k _ _ l0 true w (Kd.C_of_reads (d := (0 : Int)) (h1 := fun _ => rfl) hr0) hc0 h).mono ?_
 rintro e w' ⟨rfl, hd⟩
 exact ⟨rfl, hd⟩

end Go.Proofs.Ytfpoihcpjmkbkaa.OFnMergeReports

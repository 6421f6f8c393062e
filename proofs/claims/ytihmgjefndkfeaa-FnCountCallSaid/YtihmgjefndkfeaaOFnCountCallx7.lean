-- Written by a program of this session (the kit's printing program with additions of this session's own); Lean checks it.
import Derived.Test.YtihmgjefndkfeaaOFnCountCallx0
import Derived.Test.YtihmgjefndkfeaaOFnCountCallx1
import Derived.Test.YtihmgjefndkfeaaOFnCountCallx2
import Derived.Test.YtihmgjefndkfeaaOFnCountCallx4
import Derived.Test.YtihmgjefndkfeaaOFnCountCallx6
namespace Go.Proofs.Ytihmgjefndkfeaa.OFnCountCall
open Go.RowKit Go.Proofs.YtihmgjefndkfeaaW.PrintWords Go.Proofs.YtihmgjefndkfeaaW.PrintLast Go.Proofs.YtihmgjefndkfeaaW.PrintMore
attribute [local go_sem] max2_int min2_int max_two min_two max_three min_three max_four min_four   -- for this text's walks alone
set_option linter.unusedVariables false
set_option linter.unusedSimpArgs false

/-! ### laws_FnCountCall: function 7 -/
mutual
def laws_FnCountCall.j0 : Nat → List (S30) → Int → Bool → ByteArray → List Int → Option (Bool)
  | 0, _, _, _, _, _ => none
  | k + 1, x3, x5, x28, x245000, x245001 => if x28 = true then ((spec_CountCall.f k x3 x245000 x245001).bind fun t247 => (some (x5 == t247))) else (laws_FnCountCall.l0 k x3 x5 (([] : List (S30))) 0 x245000 x245001)
def laws_FnCountCall.l0 : Nat → List (S30) → Int → List (S30) → Int → ByteArray → List Int → Option (Bool)
  | 0, _, _, _, _, _, _ => none
  | k + 1, x3, x5, x6, x7, x245000, x245001 => if x7 < x5 then ((some (([(⟨x245000, x245001⟩ : S30)] : List (S30)) : List (S30))).bind fun y251 => (if x6.length + y251.length < 3518437208883 then (laws_FnCountCall.l0 k x3 x5 (x6 ++ y251) (wrap64 (x7 + 1)) x245000 x245001) else (none))) else ((some (([] : List (S30)) : List (S30))).bind fun y257 => (if y257.length + x6.length < 3518437208883 then ((some (y257 ++ x6 : List (S30))).bind fun y260 => ((some (([(⟨x245000, x245001⟩ : S30)] : List (S30)) : List (S30))).bind fun y263 => (if y260.length + y263.length < 3518437208883 then ((impl_CallsOf.f k x3 x245000).bind fun t269 => (if x5 ≤ (t269.length : Int) then ((impl_AnyOrder.f k x3 x6).bind fun t272 => (if t272 = true then ((impl_AnyOrder.f k x3 (y260 ++ y263)).bind fun t273 => (some (!t273))) else (some false))) else (some false))) else (none)))) else (none)))
end
def laws_FnCountCall.f (k : Nat) (l0 : List Int) : Option (Bool) := if (l0.length : Int) > 1048576 then (some true) else ((spec_DrawCountCall.f k l0).bind fun bt237 => ((impl_CountCall.f k bt237.1 bt237.2.1 bt237.2.2).bind fun t245 => ((spec_CountCall.f k bt237.1 bt237.2.1 bt237.2.2).bind fun t246 => (if t245 = t246 then (laws_FnCountCall.j0 k bt237.1 t245 (decide (t245 < 0)) bt237.2.1 bt237.2.2) else (laws_FnCountCall.j0 k bt237.1 t245 true bt237.2.1 bt237.2.2)))))
theorem laws_FnCountCall.mono_l : ∀ k, (∀ y0 y1 y2 y3 y4, LeO (laws_FnCountCall.j0 k y0 y1 y2 y3 y4) (laws_FnCountCall.j0 (k + 1) y0 y1 y2 y3 y4)) ∧ (∀ y0 y1 y2 y3 y4 y5, LeO (laws_FnCountCall.l0 k y0 y1 y2 y3 y4 y5) (laws_FnCountCall.l0 (k + 1) y0 y1 y2 y3 y4 y5))
  | 0 => ⟨fun _ _ _ _ _ r h => by simp [laws_FnCountCall.j0] at h, fun _ _ _ _ _ _ r h => by simp [laws_FnCountCall.l0] at h⟩
  | k + 1 => by
    obtain ⟨ih0, ih1⟩ := laws_FnCountCall.mono_l k
    refine ⟨?_, ?_⟩
    · intro y0 y1 y2 y3 y4
      unfold laws_FnCountCall.j0
      repeat' first
      | (with_reducible exact ih0 _ _ _ _ _)
      | (with_reducible exact ih1 _ _ _ _ _ _)
      | (with_reducible exact impl_AnyOrder.mono _ _ _)
      | (with_reducible exact impl_CallsOf.mono _ _ _)
      | (with_reducible exact impl_CountCall.mono _ _ _ _)
      | (with_reducible exact spec_CountCall.mono _ _ _ _)
      | (with_reducible exact spec_DrawCountCall.mono _ _)
      | (with_reducible exact LeO.refl _)
      | (with_reducible exact LeO.none _)
      | (with_reducible refine LeO.ite ?_ ?_)
      | (with_reducible refine LeO.bind ?_ (fun _ => ?_))
      | exact ih0 _ _ _ _ _
      | exact ih1 _ _ _ _ _ _
      | exact impl_AnyOrder.mono _ _ _
      | exact impl_CallsOf.mono _ _ _
      | exact impl_CountCall.mono _ _ _ _
      | exact spec_CountCall.mono _ _ _ _
      | exact spec_DrawCountCall.mono _ _
      | exact LeO.none _
      | refine LeO.ite ?_ ?_
      | refine LeO.bind ?_ (fun _ => ?_)
    · intro y0 y1 y2 y3 y4 y5
      unfold laws_FnCountCall.l0
      repeat' first
      | (with_reducible exact ih0 _ _ _ _ _)
      | (with_reducible exact ih1 _ _ _ _ _ _)
      | (with_reducible exact impl_AnyOrder.mono _ _ _)
      | (with_reducible exact impl_CallsOf.mono _ _ _)
      | (with_reducible exact impl_CountCall.mono _ _ _ _)
      | (with_reducible exact spec_CountCall.mono _ _ _ _)
      | (with_reducible exact spec_DrawCountCall.mono _ _)
      | (with_reducible exact LeO.refl _)
      | (with_reducible exact LeO.none _)
      | (with_reducible refine LeO.ite ?_ ?_)
      | (with_reducible refine LeO.bind ?_ (fun _ => ?_))
      | exact ih0 _ _ _ _ _
      | exact ih1 _ _ _ _ _ _
      | exact impl_AnyOrder.mono _ _ _
      | exact impl_CallsOf.mono _ _ _
      | exact impl_CountCall.mono _ _ _ _
      | exact spec_CountCall.mono _ _ _ _
      | exact spec_DrawCountCall.mono _ _
      | exact LeO.none _
      | refine LeO.ite ?_ ?_
      | refine LeO.bind ?_ (fun _ => ?_)
theorem laws_FnCountCall.mono : ∀ a0 k, LeO (laws_FnCountCall.f k a0) (laws_FnCountCall.f (k + 1) a0) := by
  intro a0 k
  obtain ⟨ih0, ih1⟩ := laws_FnCountCall.mono_l k
  unfold laws_FnCountCall.f
  repeat' first
      | (with_reducible exact ih0 _ _ _ _ _)
      | (with_reducible exact ih1 _ _ _ _ _ _)
      | (with_reducible exact impl_AnyOrder.mono _ _ _)
      | (with_reducible exact impl_CallsOf.mono _ _ _)
      | (with_reducible exact impl_CountCall.mono _ _ _ _)
      | (with_reducible exact spec_CountCall.mono _ _ _ _)
      | (with_reducible exact spec_DrawCountCall.mono _ _)
      | (with_reducible exact LeO.refl _)
      | (with_reducible exact LeO.none _)
      | (with_reducible refine LeO.ite ?_ ?_)
      | (with_reducible refine LeO.bind ?_ (fun _ => ?_))
      | exact ih0 _ _ _ _ _
      | exact ih1 _ _ _ _ _ _
      | exact impl_AnyOrder.mono _ _ _
      | exact impl_CallsOf.mono _ _ _
      | exact impl_CountCall.mono _ _ _ _
      | exact spec_CountCall.mono _ _ _ _
      | exact spec_DrawCountCall.mono _ _
      | exact LeO.none _
      | refine LeO.ite ?_ ?_
      | refine LeO.bind ?_ (fun _ => ?_)
set_option maxHeartbeats 8000000 in
set_option maxRecDepth 100000 in
theorem laws_FnCountCall.calls (k : Nat) (A0 : Option Addr) (c0 : Nat) (l0 : List Int) (r : Bool) (w : World) (hr0 : Kd.C (Kd.int .u8) w A0 l0.length l0) (hc0 : l0.length ≤ c0) (h : laws_FnCountCall.f k l0 = some r) :
    Calls Try.prog 7 #[.slice A0 l0.length c0] w fun e w' => e = .returned (.bool r) ∧ Below w.heap.size w w' := by
  have hu30 := Try.underlying30
  have HR0 := Aside0.mk hr0
  have HC0 := Aside0.mk hc0
  clear hr0 hc0
  have HB := Aside0.mk (Below.refl w.heap.size w)
  have H : (if (l0.length : Int) > 1048576 then (some true) else ((spec_DrawCountCall.f k l0).bind fun bt237 => ((impl_CountCall.f k bt237.1 bt237.2.1 bt237.2.2).bind fun t245 => ((spec_CountCall.f k bt237.1 bt237.2.1 bt237.2.2).bind fun t246 => (if t245 = t246 then (laws_FnCountCall.j0 k bt237.1 t245 (decide (t245 < 0)) bt237.2.1 bt237.2.2) else (laws_FnCountCall.j0 k bt237.1 t245 true bt237.2.1 bt237.2.2)))))) = some r := h
  clear h
  by_cases c2 : (l0.length : Int) > 1048576
  · rw [if_pos c2] at H
    have c2b0 : decide (1048576 < (l0.length : Int)) = true := decide_eq_true c2
    have c2b1 : decide (1048576 < l0.length) = true := decide_eq_true (by omega)
    clear c2
    obtain rfl := Option.some.inj H
    go_enter Try.func7, Try.ntmps7
    go_wp2
    go_ret
    exact ⟨by first | rfl | (simp [errW_none, errW_some] <;> rfl) | (simp [*, errW_none, errW_some] <;> rfl), by repeat (first | (with_reducible first | exact HB.out | apply below_alloc | apply pw_below_drewN | apply below_drew1) | exact HB.out)⟩
  · rw [if_neg c2] at H
    have c2b0 : decide (1048576 < (l0.length : Int)) = false := decide_eq_false c2
    have c2b1 : decide (1048576 < l0.length) = false := decide_eq_false (by omega)
    clear c2
    replace H := Option.bind_eq_some_iff.mp H
    obtain ⟨⟨t237, t240, t241⟩, A30, H⟩ := H
    replace H : ((impl_CountCall.f k t237 t240 t241).bind fun t245 => ((spec_CountCall.f k t237 t240 t241).bind fun t246 => (if t245 = t246 then (laws_FnCountCall.j0 k t237 t245 (decide (t245 < 0)) t240 t241) else (laws_FnCountCall.j0 k t237 t245 true t240 t241)))) = some r := H
    have A3 := Aside0.mk A30
    clear A30
    replace H := Option.bind_eq_some_iff.mp H
    obtain ⟨t245, A40, H⟩ := H
    replace H : ((spec_CountCall.f k t237 t240 t241).bind fun t246 => (if t245 = t246 then (laws_FnCountCall.j0 k t237 t245 (decide (t245 < 0)) t240 t241) else (laws_FnCountCall.j0 k t237 t245 true t240 t241))) = some r := H
    have A4 := Aside0.mk A40
    clear A40
    have HC5 := Aside0.mk H
    clear H
    go_enter Try.func7, Try.ntmps7
    go_upto_region 5 with (first | ((with_reducible refine gate_callee (f := 25) rfl ?_); refine goesL_ (some 14) rfl rfl Try.func25 (by kernel_rfl) rfl #[.slice A0 l0.length c0] rfl (by (try simp only [List.map_toArray, List.map_cons, List.map_nil]); first | done | rfl | (simp only [List.length_drop, List.length_take]; rfl)) ?_; (with_reducible refine (spec_DrawCountCall.calls k _ _ l0 t237 t240 t241 _ ?side1 ?side2 A3.out).mono ?_); (case side1 => repeat (first | exact HR0.out | (with_reducible refine Kd.C_alloc ?_ _) | (with_reducible refine Kd.C_drewN ?_ _) | (with_reducible refine Kd.C_drew ?_))); (case side2 => exact HC0.out); rintro e w6 ⟨v238, v242, rfl, ho0, ho1, hb⟩; refine ⟨_, rfl, ?_⟩; have n0_ := Aside0.mk (Kd.N_lower (Kd.N_mono (ok' := fun k_ => some k_ ≠ (v242 : Value).ownBlock) (Kd.S_N (Kd.S_bound ho0)) (fun k_ hk_ => hk_.1)) (below_size (by repeat (first | (with_reducible first | exact HB.out | apply below_alloc | apply pw_below_drewN | apply below_drew1) | exact HB.out)))); have n1_ := Aside0.mk (Kd.R_lower ho1 (below_size (by repeat (first | (with_reducible first | exact HB.out | apply below_alloc | apply pw_below_drewN | apply below_drew1) | exact HB.out)))); have n2_ := Aside0.mk (below_step (by repeat (first | (with_reducible first | exact HB.out | apply below_alloc | apply pw_below_drewN | apply below_drew1) | exact HB.out)) hb); clear HB; have HO239 := n0_; have HO243 := n1_; have HB := n2_; clear n0_ n1_ n2_; (try clear hb); (try clear hb2); (try clear hk); (try clear hi); (try clear ho0); (try clear ho1)) | ((with_reducible refine gate_dst (N := 4) rfl ?_); refine box_event ?hg (N := 4) ?hd (cs := #[.string (⟨#[]⟩ : ByteArray), .slice none 0 0]) (t := 30) ?hr ?_; (case hd => rfl); (case hg => rfl); (case hr => first | (go_simp; done) | (go_simp; rfl)); intro gb244 hg w7 hbox hb; have n0_ := Aside0.mk (Kd.N_below (Kd.N_elderB (by (with_reducible repeat (first | apply Kd.N_alloc | apply Kd.N_drewN | apply Kd.N_drew)); exact HO239.out) gb244 (Nat.le_of_eq hg.symm)) hb); have n1_ := Aside0.mk (Kd.R_below (by (with_reducible repeat (first | apply Kd.R_alloc | apply Kd.R_drewN | apply Kd.R_drew)); exact HO243.out) hb); have n2_ := Aside0.mk (below_step (by repeat (first | (with_reducible first | exact HB.out | apply below_alloc | apply pw_below_drewN | apply below_drew1) | exact HB.out)) hb); have n3_ := Aside0.mk (hbox); have n4_ := Aside0.mk ((by rw [hg]; exact (below_size (by repeat (first | (with_reducible first | exact HB.out | apply below_alloc | apply pw_below_drewN | apply below_drew1) | exact HB.out))) : w.heap.size ≤ gb244)); have n5_ := Aside0.mk ((by rw [hg]; exact (below_size (by repeat (first | (with_reducible first | exact HB.out | apply below_alloc | apply pw_below_drewN | apply below_drew1) | exact HB.out))) : w.heap.size ≤ gb244)); clear HO239; clear HO243; clear HB; have HO239 := n0_; have HO243 := n1_; have HB := n2_; have BK244 := n3_; have GW244 := n4_; have GE244 := n5_; clear n0_ n1_ n2_ n3_ n4_ n5_; clear hb hbox hg; have hcz8_0 : w7.cell? ⟨gb244, 0, none⟩ = some (.string (⟨#[]⟩ : ByteArray)) := (blk_cell BK244.out 0).trans rfl; have hcz8_1 : w7.cell? ⟨gb244, 1, none⟩ = some (.slice none 0 0) := (blk_cell BK244.out 1).trans rfl; have hfz8_0 := blk_frozen BK244.out 0; have hfz8_1 := blk_frozen BK244.out 1; obtain ⟨Ao9, co9, eo9⟩ := Kd.R_slice HO243.out; subst eo9; obtain ⟨Ao10, co10, eo10⟩ := Kd.N_slice HO239.out; subst eo10) | ((with_reducible refine gate_callee (f := 26) rfl ?_); refine goesL_ (some 19) rfl rfl Try.func26 (by kernel_rfl) rfl #[.slice Ao10 t237.length co10, .agg #[.string t240, .slice Ao9 t241.length co9]] rfl (by (try simp only [List.map_toArray, List.map_cons, List.map_nil]); first | done | rfl | (simp only [List.length_drop, List.length_take]; rfl)) ?_; (with_reducible refine (impl_CountCall.calls k _ _ t237 t240 _ _ t241 t245 _ ?side1 ?side2 ?side3 ?side4 A4.out).mono ?_); (case side1 => refine (Kd.N_reads' (e := 30) (base := w.heap.size) (ok := fun k_ => (some k_ ≠ (.slice Ao9 t241.length co9 : Value).ownBlock ∧ k_ ≠ gb244)) (n := t237.length) (c := co10) ?_).2.2; exact (by (with_reducible repeat (first | apply Kd.N_alloc | apply Kd.N_drewN | apply Kd.N_drew)); exact (Kd.N_mono (Kd.N_far (p := ⟨gb244, 1, none⟩) (Kd.N_far (p := ⟨gb244, 0, none⟩) (Kd.N_mono HO239.out (fun k_ hk => (⟨hk, hk.2⟩ : _ ∧ k_ ≠ gb244))) (fun _ hk => hk.2) (.string t240)) (fun _ hk => hk.2) (.slice Ao9 t241.length co9)) (fun _ h_ => h_.1)))); (case side2 => exact (Kd.N_reads' HO239.out).2.1); (case side3 => refine (Kd.R_reads' (e := 3) (base := w.heap.size) (ok := fun k_ => True) (n := t241.length) (c := co9) ?_).2.2; exact (by (with_reducible repeat (first | apply Kd.R_alloc | apply Kd.R_drewN | apply Kd.R_drew)); exact (Kd.R_mono (Kd.R_far (p := ⟨gb244, 1, none⟩) (Kd.R_far (p := ⟨gb244, 0, none⟩) (Kd.R_types HO243.out BK244.out (by decide)) (fun _ hk => hk.2) (.string t240)) (fun _ hk => hk.2) (.slice Ao9 t241.length co9)) (fun _ h_ => h_.1)))); (case side4 => exact (Kd.R_reads' HO243.out).2.1); rintro e w11 ⟨rfl, hb⟩; refine ⟨_, rfl, ?_⟩; have n0_ := Aside0.mk (Kd.N_below (by (with_reducible repeat (first | apply Kd.N_alloc | apply Kd.N_drewN | apply Kd.N_drew)); exact (Kd.N_mono (Kd.N_far (p := ⟨gb244, 1, none⟩) (Kd.N_far (p := ⟨gb244, 0, none⟩) (Kd.N_mono HO239.out (fun k_ hk => (⟨hk, hk.2⟩ : _ ∧ k_ ≠ gb244))) (fun _ hk => hk.2) (.string t240)) (fun _ hk => hk.2) (.slice Ao9 t241.length co9)) (fun _ h_ => h_.1))) hb); have n1_ := Aside0.mk (Kd.R_below (by (with_reducible repeat (first | apply Kd.R_alloc | apply Kd.R_drewN | apply Kd.R_drew)); exact (Kd.R_mono (Kd.R_far (p := ⟨gb244, 1, none⟩) (Kd.R_far (p := ⟨gb244, 0, none⟩) (Kd.R_types HO243.out BK244.out (by decide)) (fun _ hk => hk.2) (.string t240)) (fun _ hk => hk.2) (.slice Ao9 t241.length co9)) (fun _ h_ => h_.1))) hb); have n2_ := Aside0.mk (blk_below (g := gb244) (o := .cells #[.string t240, .slice Ao9 t241.length co9] 30 (0, 0)) (by (with_reducible repeat (first | refine blk_drewN ?_ _ | refine blk_drew ?_ | refine blk_alloc ?_ _)); refine blk_put (cs := #[.string t240, .slice none 0 0]) ?_ 1 _ rfl; (with_reducible repeat (first | refine blk_drewN ?_ _ | refine blk_drew ?_ | refine blk_alloc ?_ _)); refine blk_put (cs := #[.string (⟨#[]⟩ : ByteArray), .slice none 0 0]) ?_ 0 _ rfl; (with_reducible repeat (first | refine blk_drewN ?_ _ | refine blk_drew ?_ | refine blk_alloc ?_ _)); exact BK244.out) hb); have n3_ := Aside0.mk (below_step (by repeat (first | (with_reducible first | exact HB.out | apply below_alloc | apply pw_below_drewN | apply below_drew1 | refine below_set ?_ GE244.out) | exact HB.out)) hb); clear HO239; clear HO243; clear BK244; clear HB; have HO239 := n0_; have HO243 := n1_; have BK244 := n2_; have HB := n3_; clear n0_ n1_ n2_ n3_; (try clear hb); (try clear hb2); (try clear hk); (try clear hi)))
    (try simp only [Act.put, List.setIfInBounds_toArray, List.set_cons_zero, List.set_cons_succ])
    go_cut [28] (fun v28 wc => ∃ (kq : Nat) (x28_4 : Bool), v28 = .bool x28_4 ∧ Aside0 (laws_FnCountCall.j0 kq t237 t245 x28_4 t240 t241 = some r) ∧ Aside0 (kq ≤ k) ∧ Aside0 (Kd.N k30 30 wc w.heap.size (fun k_ => k_ ≠ gb244) (.slice Ao10 t237.length co10) t237) ∧ Aside0 (Kd.R (Kd.int .i64) 3 wc w.heap.size (fun _ => True) (.slice Ao9 t241.length co9) t241) ∧ Aside0 (wc.heap[gb244]? = some (.cells #[.string t240, (.slice Ao9 t241.length co9)] 30 (0, 0))) ∧ Aside0 (Below w.heap.size w wc))
    case first =>
      have H := HC5.out
      clear HC5
      replace H := Option.bind_eq_some_iff.mp H
      obtain ⟨t246, A120, H⟩ := H
      replace H : (if t245 = t246 then (laws_FnCountCall.j0 k t237 t245 (decide (t245 < 0)) t240 t241) else (laws_FnCountCall.j0 k t237 t245 true t240 t241)) = some r := H
      have A12 := Aside0.mk A120
      clear A120
      by_cases c13 : t245 = t246
      · rw [if_pos c13] at H
        have c13b0 : (t245 == t246) = true := beq_iff_eq.mpr c13
        have c13b1 : (t245 != t246) = false := bne_eq_false_iff_eq.mpr c13
        clear c13
        (first | rw [c13b0] | (simp only [i64_w, i32_w]; rw [c13b0]) | skip)
        have H' := Aside0.mk H
        clear H
        have hcz14_0 : w11.cell? ⟨gb244, 0, none⟩ = some (.string t240) := (blk_cell BK244.out 0).trans rfl
        have hcz14_1 : w11.cell? ⟨gb244, 1, none⟩ = some (.slice Ao9 t241.length co9) := (blk_cell BK244.out 1).trans rfl
        have hfz14_0 := blk_frozen BK244.out 0
        have hfz14_1 := blk_frozen BK244.out 1
        go_wp2_with (first | ((with_reducible refine gate_callee (f := 27) rfl ?_); refine goesL_ (some 23) rfl rfl Try.func27 (by kernel_rfl) rfl #[.slice Ao10 t237.length co10, .agg #[.string t240, .slice Ao9 t241.length co9]] rfl (by (try simp only [List.map_toArray, List.map_cons, List.map_nil]); first | done | rfl | (simp only [List.length_drop, List.length_take]; rfl)) ?_; (with_reducible refine (spec_CountCall.calls k _ _ t237 t240 _ _ t241 t246 _ ?side1 ?side2 ?side3 ?side4 A12.out).mono ?_); (case side1 => repeat (first | exact (Kd.N_reads' HO239.out).2.2 | (with_reducible refine Kd.C_alloc ?_ _) | (with_reducible refine Kd.C_drewN ?_ _) | (with_reducible refine Kd.C_drew ?_))); (case side2 => exact (Kd.N_reads' HO239.out).2.1); (case side3 => repeat (first | exact (Kd.R_reads' HO243.out).2.2 | (with_reducible refine Kd.C_alloc ?_ _) | (with_reducible refine Kd.C_drewN ?_ _) | (with_reducible refine Kd.C_drew ?_))); (case side4 => exact (Kd.R_reads' HO243.out).2.1); rintro e w15 ⟨rfl, hb⟩; refine ⟨_, rfl, ?_⟩; have n0_ := Aside0.mk (Kd.N_below (by (with_reducible repeat (first | apply Kd.N_alloc | apply Kd.N_drewN | apply Kd.N_drew)); exact HO239.out) hb); have n1_ := Aside0.mk (Kd.R_below (by (with_reducible repeat (first | apply Kd.R_alloc | apply Kd.R_drewN | apply Kd.R_drew)); exact HO243.out) hb); have n2_ := Aside0.mk (blk_below (g := gb244) (o := .cells #[.string t240, .slice Ao9 t241.length co9] 30 (0, 0)) (by (with_reducible repeat (first | refine blk_drewN ?_ _ | refine blk_drew ?_ | refine blk_alloc ?_ _)); exact BK244.out) hb); have n3_ := Aside0.mk (below_step (by repeat (first | (with_reducible first | exact HB.out | apply below_alloc | apply pw_below_drewN | apply below_drew1 | refine below_set ?_ GE244.out) | exact HB.out)) hb); clear HO239; clear HO243; clear BK244; clear HB; have HO239 := n0_; have HO243 := n1_; have BK244 := n2_; have HB := n3_; clear n0_ n1_ n2_ n3_; (try clear hb); (try clear hb2); (try clear hk); (try clear hi)))
        go_meet
        case rel => exact ⟨_, (decide (t245 < 0)), (by first | rfl | (simp; done) | (simp [*]; done)), H', ⟨by first | omega | exact Nat.le_refl _⟩, ⟨by (with_reducible repeat (first | apply Kd.N_alloc | apply Kd.N_drewN | apply Kd.N_drew)); exact Kd.N_mono HO239.out (fun _ hk => hk.2)⟩, ⟨by (with_reducible repeat (first | apply Kd.R_alloc | apply Kd.R_drewN | apply Kd.R_drew)); exact HO243.out⟩, ⟨by (with_reducible repeat (first | refine blk_drewN ?_ _ | refine blk_drew ?_ | refine blk_alloc ?_ _)); exact BK244.out⟩, ⟨by repeat (first | (with_reducible first | exact HB.out | apply below_alloc | apply pw_below_drewN | apply below_drew1 | refine below_set ?_ GE244.out) | exact HB.out)⟩⟩
      · rw [if_neg c13] at H
        have c13b0 : (t245 == t246) = false := beq_eq_false_iff_ne.mpr c13
        have c13b1 : (t245 != t246) = true := bne_iff_ne.mpr c13
        (first | rw [c13b0] | (simp only [i64_w, i32_w]; rw [c13b0]) | skip)
        have H' := Aside0.mk H
        clear H
        have hcz16_0 : w11.cell? ⟨gb244, 0, none⟩ = some (.string t240) := (blk_cell BK244.out 0).trans rfl
        have hcz16_1 : w11.cell? ⟨gb244, 1, none⟩ = some (.slice Ao9 t241.length co9) := (blk_cell BK244.out 1).trans rfl
        have hfz16_0 := blk_frozen BK244.out 0
        have hfz16_1 := blk_frozen BK244.out 1
        go_wp2_with (first | ((with_reducible refine gate_callee (f := 27) rfl ?_); refine goesL_ (some 23) rfl rfl Try.func27 (by kernel_rfl) rfl #[.slice Ao10 t237.length co10, .agg #[.string t240, .slice Ao9 t241.length co9]] rfl (by (try simp only [List.map_toArray, List.map_cons, List.map_nil]); first | done | rfl | (simp only [List.length_drop, List.length_take]; rfl)) ?_; (with_reducible refine (spec_CountCall.calls k _ _ t237 t240 _ _ t241 t246 _ ?side1 ?side2 ?side3 ?side4 A12.out).mono ?_); (case side1 => repeat (first | exact (Kd.N_reads' HO239.out).2.2 | (with_reducible refine Kd.C_alloc ?_ _) | (with_reducible refine Kd.C_drewN ?_ _) | (with_reducible refine Kd.C_drew ?_))); (case side2 => exact (Kd.N_reads' HO239.out).2.1); (case side3 => repeat (first | exact (Kd.R_reads' HO243.out).2.2 | (with_reducible refine Kd.C_alloc ?_ _) | (with_reducible refine Kd.C_drewN ?_ _) | (with_reducible refine Kd.C_drew ?_))); (case side4 => exact (Kd.R_reads' HO243.out).2.1); rintro e w17 ⟨rfl, hb⟩; refine ⟨_, rfl, ?_⟩; have n0_ := Aside0.mk (Kd.N_below (by (with_reducible repeat (first | apply Kd.N_alloc | apply Kd.N_drewN | apply Kd.N_drew)); exact HO239.out) hb); have n1_ := Aside0.mk (Kd.R_below (by (with_reducible repeat (first | apply Kd.R_alloc | apply Kd.R_drewN | apply Kd.R_drew)); exact HO243.out) hb); have n2_ := Aside0.mk (blk_below (g := gb244) (o := .cells #[.string t240, .slice Ao9 t241.length co9] 30 (0, 0)) (by (with_reducible repeat (first | refine blk_drewN ?_ _ | refine blk_drew ?_ | refine blk_alloc ?_ _)); exact BK244.out) hb); have n3_ := Aside0.mk (below_step (by repeat (first | (with_reducible first | exact HB.out | apply below_alloc | apply pw_below_drewN | apply below_drew1 | refine below_set ?_ GE244.out) | exact HB.out)) hb); clear HO239; clear HO243; clear BK244; clear HB; have HO239 := n0_; have HO243 := n1_; have BK244 := n2_; have HB := n3_; clear n0_ n1_ n2_ n3_; (try clear hb); (try clear hb2); (try clear hk); (try clear hi)))
        go_meet
        case rel => exact ⟨_, (true), (by first | rfl | (simp; done) | (simp [*]; done)), H', ⟨by first | omega | exact Nat.le_refl _⟩, ⟨by (with_reducible repeat (first | apply Kd.N_alloc | apply Kd.N_drewN | apply Kd.N_drew)); exact Kd.N_mono HO239.out (fun _ hk => hk.2)⟩, ⟨by (with_reducible repeat (first | apply Kd.R_alloc | apply Kd.R_drewN | apply Kd.R_drew)); exact HO243.out⟩, ⟨by (with_reducible repeat (first | refine blk_drewN ?_ _ | refine blk_drew ?_ | refine blk_alloc ?_ _)); exact BK244.out⟩, ⟨by repeat (first | (with_reducible first | exact HB.out | apply below_alloc | apply pw_below_drewN | apply below_drew1 | refine below_set ?_ GE244.out) | exact HB.out)⟩⟩
    case rest =>
      clear HC5
      try clear c1
      try clear c2
      try clear c2b0
      try clear c2b1
      try clear p2
      try clear c7
      try clear c13
      try clear c13b0
      try clear c13b1
      try clear hcz14_0
      try clear hcz14_1
      try clear hcz16_0
      try clear hcz16_1
      try clear hcz8_0
      try clear hcz8_1
      try clear hfz14_0
      try clear hfz14_1
      try clear hfz16_0
      try clear hfz16_1
      try clear hfz8_0
      try clear hfz8_1
      obtain ⟨kq, x28_4, rfl, HA, HJ4, HO_3, HO_245001, BK244, HB⟩ := hcut
      cases kq with
      | zero => exact absurd HA.out (by simp [laws_FnCountCall.j0])
      | succ kj4 =>
        have H := HA.out
        clear HA
        simp only [laws_FnCountCall.j0] at H
        by_cases c18 : x28_4 = true
        · subst c18
          have H1 : ((spec_CountCall.f kj4 t237 t240 t241).bind fun t247 => (some (t245 == t247))) = some r := by rw [if_pos rfl] at H; exact H
          clear H
          have H := H1
          clear H1
          replace H := Option.bind_eq_some_iff.mp H
          obtain ⟨t247, A190, H⟩ := H
          replace H : (some (t245 == t247)) = some r := H
          have A19 := Aside0.mk A190
          clear A190
          obtain rfl := Option.some.inj H
          have hcz20_0 : wc.cell? ⟨gb244, 0, none⟩ = some (.string t240) := (blk_cell BK244.out 0).trans rfl
          have hcz20_1 : wc.cell? ⟨gb244, 1, none⟩ = some (.slice Ao9 t241.length co9) := (blk_cell BK244.out 1).trans rfl
          have hfz20_0 := blk_frozen BK244.out 0
          have hfz20_1 := blk_frozen BK244.out 1
          go_wp2_with (first | ((with_reducible refine gate_callee (f := 27) rfl ?_); refine goesL_ (some 32) rfl rfl Try.func27 (by kernel_rfl) rfl #[.slice Ao10 t237.length co10, .agg #[.string t240, .slice Ao9 t241.length co9]] rfl (by (try simp only [List.map_toArray, List.map_cons, List.map_nil]); first | done | rfl | (simp only [List.length_drop, List.length_take]; rfl)) ?_; (with_reducible refine (spec_CountCall.calls kj4 _ _ t237 t240 _ _ t241 t247 _ ?side1 ?side2 ?side3 ?side4 A19.out).mono ?_); (case side1 => repeat (first | exact (Kd.N_reads' HO_3.out).2.2 | (with_reducible refine Kd.C_alloc ?_ _) | (with_reducible refine Kd.C_drewN ?_ _) | (with_reducible refine Kd.C_drew ?_))); (case side2 => exact (Kd.N_reads' HO_3.out).2.1); (case side3 => repeat (first | exact (Kd.R_reads' HO_245001.out).2.2 | (with_reducible refine Kd.C_alloc ?_ _) | (with_reducible refine Kd.C_drewN ?_ _) | (with_reducible refine Kd.C_drew ?_))); (case side4 => exact (Kd.R_reads' HO_245001.out).2.1); rintro e w21 ⟨rfl, hb⟩; refine ⟨_, rfl, ?_⟩; have n0_ := Aside0.mk (Kd.N_below (by (with_reducible repeat (first | apply Kd.N_alloc | apply Kd.N_drewN | apply Kd.N_drew)); exact HO_3.out) hb); have n1_ := Aside0.mk (Kd.R_below (by (with_reducible repeat (first | apply Kd.R_alloc | apply Kd.R_drewN | apply Kd.R_drew)); exact HO_245001.out) hb); have n2_ := Aside0.mk (blk_below (g := gb244) (o := .cells #[.string t240, .slice Ao9 t241.length co9] 30 (0, 0)) (by (with_reducible repeat (first | refine blk_drewN ?_ _ | refine blk_drew ?_ | refine blk_alloc ?_ _)); exact BK244.out) hb); have n3_ := Aside0.mk (below_step (by repeat (first | (with_reducible first | exact HB.out | apply below_alloc | apply pw_below_drewN | apply below_drew1 | refine below_set ?_ GE244.out) | exact HB.out)) hb); clear HO_3; clear HO_245001; clear BK244; clear HB; have HO_3 := n0_; have HO_245001 := n1_; have BK244 := n2_; have HB := n3_; clear n0_ n1_ n2_ n3_; (try clear hb); (try clear hb2); (try clear hk); (try clear hi)))
          go_ret
          exact ⟨by first | rfl | (simp [errW_none, errW_some] <;> rfl) | (simp [*, errW_none, errW_some] <;> rfl), by repeat (first | (with_reducible first | exact HB.out | apply below_alloc | apply pw_below_drewN | apply below_drew1 | refine below_set ?_ GE244.out) | exact HB.out)⟩
        · replace c18 := Bool.eq_false_iff.mpr c18
          subst c18
          have H1 : (laws_FnCountCall.l0 kj4 t237 t245 (([] : List (S30))) 0 t240 t241) = some r := by rw [if_neg (show ¬ (false = true) by decide)] at H; exact H
          clear H
          have H := H1
          clear H1
          obtain ⟨y248, hy248⟩ : ∃ y_ : List (S30), y_ = (([] : List (S30))) := ⟨_, rfl⟩
          replace H : (laws_FnCountCall.l0 kj4 t237 t245 y248 0 t240 t241) = some r := by first | (rw [hy248]; with_reducible exact H) | (have H2_ := (Option.bind_some _ _).symm.trans H; rw [hy248]; with_reducible exact H2_) | (have H2_ := (Option.bind_some _ _).symm.trans H; with_reducible exact H2_) | with_reducible exact H | (rw [hy248]; exact H) | exact H
          have Ny248 := Aside0.mk hy248
          clear hy248
          have H' := Aside0.mk H
          clear H
          go_wp2_with (first | ((with_reducible refine gate_dst (N := 34) rfl ?_); refine Kd.N_lit k30 _ 30 ?hg (N' := 34) ?hd (xs := ([] : List (S30))) (inner := []) (ok := (fun k_ => some k_ ≠ (.slice Ao10 t237.length co10 : Value).ownBlock ∧ some k_ ≠ (.slice Ao9 t241.length co9 : Value).ownBlock ∧ k_ ≠ gb244)) (okp := (fun k_ => some k_ ≠ (.slice Ao10 t237.length co10 : Value).ownBlock ∧ some k_ ≠ (.slice Ao9 t241.length co9 : Value).ownBlock ∧ k_ ≠ gb244)) ?hr ?hp (fun _ hk => hk) ((show ∀ k_, wc.heap.size ≤ k_ → (fun k_ => some k_ ≠ (.slice Ao10 t237.length co10 : Value).ownBlock ∧ some k_ ≠ (.slice Ao9 t241.length co9 : Value).ownBlock ∧ k_ ≠ gb244) k_ from fun k_ hk => ⟨Kd.fresh' (Kd.N_lt (by (with_reducible repeat (first | apply Kd.N_alloc | apply Kd.N_drewN | apply Kd.N_drew)); exact HO_3.out)) k_ hk, Kd.fresh' (Kd.R_lt (by (with_reducible repeat (first | apply Kd.R_alloc | apply Kd.R_drewN | apply Kd.R_drew)); exact HO_245001.out)) k_ hk, Kd.freshB (g := gb244) (o := .cells #[.string t240, .slice Ao9 t241.length co9] 30 (0, 0)) (by (with_reducible repeat (first | refine blk_drewN ?_ _ | refine blk_drew ?_ | refine blk_alloc ?_ _)); exact BK244.out) k_ hk⟩) _ (Nat.le_refl _)) (Below.refl _ _) (Nat.le_refl _) (by simp) ?_; (case hd => rfl); (case hg => rfl); (case hr => first | (go_simp; done) | (go_simp; rfl)); (case hp => exact (Reps.none _ _)); intro v249 w22 ho23 hb hg_ hnew_; clear hg_ hnew_; (first | rw [← Ny248.out] at ho23 | (simp only [Int.reduceToNat] at ho23; rw [← Ny248.out] at ho23)); have n0_ := Aside0.mk (Kd.N_elder' (by (with_reducible repeat (first | apply Kd.N_alloc | apply Kd.N_drewN | apply Kd.N_drew)); exact HO_3.out) (Kd.N_base ho23) hb); have n1_ := Aside0.mk (Kd.R_below (by (with_reducible repeat (first | apply Kd.R_alloc | apply Kd.R_drewN | apply Kd.R_drew)); exact HO_245001.out) hb); have n2_ := Aside0.mk (Kd.N_lower ho23 (below_size (by repeat (first | (with_reducible first | exact HB.out | apply below_alloc | apply pw_below_drewN | apply below_drew1 | refine below_set ?_ GE244.out) | exact HB.out)))); have n3_ := Aside0.mk (blk_below (g := gb244) (o := .cells #[.string t240, .slice Ao9 t241.length co9] 30 (0, 0)) (by (with_reducible repeat (first | refine blk_drewN ?_ _ | refine blk_drew ?_ | refine blk_alloc ?_ _)); exact BK244.out) hb); have n4_ := Aside0.mk (below_step (by repeat (first | (with_reducible first | exact HB.out | apply below_alloc | apply pw_below_drewN | apply below_drew1 | refine below_set ?_ GE244.out) | exact HB.out)) hb); clear HO_3; clear HO_245001; clear BK244; clear HB; have HO_3 := n0_; have HO_245001 := n1_; have HO250 := n2_; have BK244 := n3_; have HB := n4_; clear n0_ n1_ n2_ n3_ n4_; clear hb ho23))
          go_loopg [6, 7] kj4 (fun kq v6 v7 w' => ∃ (x6_2 : List (S30)) (x7_2 : Int), v7 = .int .i64 x7_2 ∧ Aside0 (laws_FnCountCall.l0 kq t237 t245 x6_2 x7_2 t240 t241 = some r) ∧ Aside0 (kq ≤ kj4) ∧ Aside0 (Kd.N k30 30 w' w.heap.size (fun k_ => some k_ ≠ (v6 : Value).ownBlock ∧ k_ ≠ gb244) (.slice Ao10 t237.length co10) t237) ∧ Aside0 (Kd.N k30 30 w' w.heap.size (fun k_ => some k_ ≠ ((.slice Ao10 t237.length co10) : Value).ownBlock ∧ k_ ≠ gb244) v6 x6_2) ∧ Aside0 (Kd.R (Kd.int .i64) 3 w' w.heap.size (fun _ => True) (.slice Ao9 t241.length co9) t241) ∧ Aside0 (w'.heap[gb244]? = some (.cells #[.string t240, (.slice Ao9 t241.length co9)] 30 (0, 0))) ∧ Aside0 (Below w.heap.size w w'))
          case atStart => exact ⟨(y248), (0), (by first | rfl | (simp; done) | (simp [*]; done)), H', ⟨Nat.le_refl _⟩, ⟨by (with_reducible repeat (first | apply Kd.N_alloc | apply Kd.N_drewN | apply Kd.N_drew)); exact Kd.N_mono HO_3.out (fun _ hk => ⟨hk.2, hk.1⟩)⟩, ⟨by (with_reducible repeat (first | apply Kd.N_alloc | apply Kd.N_drewN | apply Kd.N_drew)); exact Kd.N_mono HO250.out (fun _ hk => ⟨hk.1, (gives hk)⟩)⟩, ⟨by (with_reducible repeat (first | apply Kd.R_alloc | apply Kd.R_drewN | apply Kd.R_drew)); exact HO_245001.out⟩, ⟨by (with_reducible repeat (first | refine blk_drewN ?_ _ | refine blk_drew ?_ | refine blk_alloc ?_ _)); exact BK244.out⟩, ⟨by repeat (first | (with_reducible first | exact HB.out | apply below_alloc | apply pw_below_drewN | apply below_drew1 | refine below_set ?_ GE244.out) | exact HB.out)⟩⟩
          case round =>
            clear H'
            try clear c1
            try clear c2
            try clear c2b0
            try clear c2b1
            try clear p2
            try clear c7
            try clear c13
            try clear c13b0
            try clear c13b1
            try clear c18
            try clear hcz14_0
            try clear hcz14_1
            try clear hcz16_0
            try clear hcz16_1
            try clear hcz20_0
            try clear hcz20_1
            try clear hcz8_0
            try clear hcz8_1
            try clear hfz14_0
            try clear hfz14_1
            try clear hfz16_0
            try clear hfz16_1
            try clear hfz20_0
            try clear hfz20_1
            try clear hfz8_0
            try clear hfz8_1
            try clear p2
            obtain ⟨x6_2, x7_2, rfl, HA, HK2, HO_3, HO_6, HO_245001, BK244, HB⟩ := hrel
            cases gk with
            | zero => exact absurd HA.out (by simp [laws_FnCountCall.l0])
            | succ k2 =>
              have H := HA.out
              clear HA
              simp only [laws_FnCountCall.l0] at H
              by_cases c24 : x7_2 < t245
              · rw [if_pos c24] at H
                have c24b0 : decide (x7_2 < t245) = true := decide_eq_true c24
                clear c24
                obtain ⟨y251, hy251⟩ : ∃ y_ : List (S30), y_ = (([(⟨t240, t241⟩ : S30)] : List (S30))) := ⟨_, rfl⟩
                replace H : (if x6_2.length + y251.length < 3518437208883 then (laws_FnCountCall.l0 k2 t237 t245 (x6_2 ++ y251) (wrap64 (x7_2 + 1)) t240 t241) else (none)) = some r := by first | (rw [hy251]; with_reducible exact H) | (have H2_ := (Option.bind_some _ _).symm.trans H; rw [hy251]; with_reducible exact H2_) | (have H2_ := (Option.bind_some _ _).symm.trans H; with_reducible exact H2_) | with_reducible exact H | (rw [hy251]; exact H) | exact H
                have Ny251 := Aside0.mk hy251
                clear hy251
                by_cases c25 : x6_2.length + y251.length < 3518437208883
                · rw [if_pos c25] at H
                  have LMc25 := Aside0.mk c25
                  clear c25
                  obtain ⟨y254, hy254⟩ : ∃ y_ : List (S30), y_ = (x6_2 ++ y251) := ⟨_, rfl⟩
                  replace H : (laws_FnCountCall.l0 k2 t237 t245 y254 (wrap64 (x7_2 + 1)) t240 t241) = some r := by first | (rw [hy254]; with_reducible exact H) | (have H2_ := (Option.bind_some _ _).symm.trans H; rw [hy254]; with_reducible exact H2_) | (have H2_ := (Option.bind_some _ _).symm.trans H; with_reducible exact H2_) | with_reducible exact H | (rw [hy254]; exact H) | exact H
                  have Ny254 := Aside0.mk hy254
                  clear hy254
                  have H' := Aside0.mk H
                  clear H
                  have hcz26_0 : wr.cell? ⟨gb244, 0, none⟩ = some (.string t240) := (blk_cell BK244.out 0).trans rfl
                  have hcz26_1 : wr.cell? ⟨gb244, 1, none⟩ = some (.slice Ao9 t241.length co9) := (blk_cell BK244.out 1).trans rfl
                  have hfz26_0 := blk_frozen BK244.out 0
                  have hfz26_1 := blk_frozen BK244.out 1
                  go_wp2_with (first | ((with_reducible refine gate_dst (N := 42) rfl ?_); refine Kd.N_lit k30 _ 30 ?hg (N' := 42) ?hd (xs := ([(⟨t240, t241⟩ : S30)] : List (S30))) (inner := [.string t240, .slice Ao9 t241.length co9]) (ok := (fun k_ => some k_ ≠ (.slice Ao10 t237.length co10 : Value).ownBlock ∧ some k_ ≠ (u6 : Value).ownBlock ∧ k_ ≠ gb244)) (okp := (fun k_ => some k_ ≠ (.slice Ao10 t237.length co10 : Value).ownBlock ∧ some k_ ≠ (u6 : Value).ownBlock ∧ k_ ≠ gb244)) ?hr ?hp (fun _ hk => hk) ((show ∀ k_, wr.heap.size ≤ k_ → (fun k_ => some k_ ≠ (.slice Ao10 t237.length co10 : Value).ownBlock ∧ some k_ ≠ (u6 : Value).ownBlock ∧ k_ ≠ gb244) k_ from fun k_ hk => ⟨Kd.fresh' (Kd.N_lt (by (with_reducible repeat (first | apply Kd.N_alloc | apply Kd.N_drewN | apply Kd.N_drew)); exact HO_3.out)) k_ hk, Kd.fresh' (Kd.N_lt (by (with_reducible repeat (first | apply Kd.N_alloc | apply Kd.N_drewN | apply Kd.N_drew)); exact HO_6.out)) k_ hk, Kd.freshB (g := gb244) (o := .cells #[.string t240, .slice Ao9 t241.length co9] 30 (0, 0)) (by (with_reducible repeat (first | refine blk_drewN ?_ _ | refine blk_drew ?_ | refine blk_alloc ?_ _)); exact BK244.out) k_ hk⟩) _ (Nat.le_refl _)) (Below.refl _ _) (Nat.le_refl _) (by simp) ?_; (case hd => rfl); (case hg => rfl); (case hr => first | (go_simp; done) | (go_simp; rfl)); (case hp => exact (Reps.c2 (show Kd.FK k30 _ _ (⟨t240, t241⟩ : S30) [.string t240, .slice Ao9 t241.length co9] from (k30_mkF _ _ (⟨t240, t241⟩ : S30) (Kd.R_reads' (Kd.R_mono (ok' := (fun k_ => some k_ ≠ (.slice Ao10 t237.length co10 : Value).ownBlock ∧ some k_ ≠ (u6 : Value).ownBlock ∧ k_ ≠ gb244)) (Kd.R_types (Kd.R_apart' (Kd.R_apart' (HO_245001.out) (Kd.N_typed HO_3.out) (by decide)) (Kd.N_typed HO_6.out) (by decide)) BK244.out (by decide)) (fun k_ hk => ⟨(gives hk), ⟨(gives hk), hk.2⟩⟩))).2.1 (Kd.R_F (Kd.R_mono (ok' := (fun k_ => some k_ ≠ (.slice Ao10 t237.length co10 : Value).ownBlock ∧ some k_ ≠ (u6 : Value).ownBlock ∧ k_ ≠ gb244)) (Kd.R_types (Kd.R_apart' (Kd.R_apart' (HO_245001.out) (Kd.N_typed HO_3.out) (by decide)) (Kd.N_typed HO_6.out) (by decide)) BK244.out (by decide)) (fun k_ hk => ⟨(gives hk), ⟨(gives hk), hk.2⟩⟩))))) (Reps.none _ _))); intro v252 w27 ho28 hb hg_ hnew_; clear hg_ hnew_; (first | rw [← Ny251.out] at ho28 | (simp only [Int.reduceToNat] at ho28; rw [← Ny251.out] at ho28)); have n0_ := Aside0.mk (Kd.N_elder' (by (with_reducible repeat (first | apply Kd.N_alloc | apply Kd.N_drewN | apply Kd.N_drew)); exact HO_3.out) (Kd.N_base ho28) hb); have n1_ := Aside0.mk (Kd.N_elder' (by (with_reducible repeat (first | apply Kd.N_alloc | apply Kd.N_drewN | apply Kd.N_drew)); exact HO_6.out) (Kd.N_base ho28) hb); have n2_ := Aside0.mk (Kd.N_lower ho28 (below_size (by repeat (first | (with_reducible first | exact HB.out | apply below_alloc | apply pw_below_drewN | apply below_drew1 | refine below_set ?_ GE244.out) | exact HB.out)))); have n3_ := Aside0.mk (blk_below (g := gb244) (o := .cells #[.string t240, .slice Ao9 t241.length co9] 30 (0, 0)) (by (with_reducible repeat (first | refine blk_drewN ?_ _ | refine blk_drew ?_ | refine blk_alloc ?_ _)); exact BK244.out) hb); have n4_ := Aside0.mk (below_step (by repeat (first | (with_reducible first | exact HB.out | apply below_alloc | apply pw_below_drewN | apply below_drew1 | refine below_set ?_ GE244.out) | exact HB.out)) hb); have m0_ := Aside0.mk (Kd.R_below (by (with_reducible repeat (first | apply Kd.R_alloc | apply Kd.R_drewN | apply Kd.R_drew)); exact HO_245001.out) hb); clear HO_245001; have HO_245001 := m0_; clear m0_; clear HO_3; clear HO_6; clear BK244; clear HB;  have HO_3 := n0_; have HO_6 := n1_; have HO253 := n2_; have BK244 := n3_; have HB := n4_; clear n0_ n1_ n2_ n3_ n4_; clear hb ho28; obtain ⟨Ao30, co30, eo30⟩ := Kd.N_slice HO253.out; subst eo30) | ((with_reducible refine gate_builtin (b := .append) (xs := #[.tmp 40, .tmp 42]) rfl ?_); at_builtin; refine Kd.N_append_rows k30 (w0 := w) w.heap.size rfl (.tmp 40) (.tmp 42) 23 30 (.agg #[(.string ⟨#[]⟩), (.slice none 0 0)]) 40 rfl Try.underlying23 info30 rfl (by decide) (by omega) u6 x6_2 y251 _ _ _ (fun k_ => some k_ ≠ (.slice Ao10 t237.length co10 : Value).ownBlock ∧ k_ ≠ gb244) (fun k_ => ((fun k_ => some k_ ≠ (.slice Ao10 t237.length co10 : Value).ownBlock ∧ k_ ≠ gb244)) k_ ∧ some k_ ≠ (u6 : Value).ownBlock) rfl rfl ?aO ?aR (fun _ hk => hk) ?aF ?aB ?aS ?aL ?_; (case aR => exact (by skip; exact Kd.N_F (Kd.N_mono (ok' := (fun k_ => ((fun k_ => some k_ ≠ (.slice Ao10 t237.length co10 : Value).ownBlock ∧ k_ ≠ gb244)) k_ ∧ some k_ ≠ (u6 : Value).ownBlock)) (HO253.out) (fun k_ hk => ⟨⟨hk.1, (gives hk)⟩, (gives hk)⟩)))); (case aB => exact (by repeat (first | (with_reducible first | exact HB.out | apply below_alloc | apply pw_below_drewN | apply below_drew1 | refine below_set ?_ GE244.out) | exact HB.out))); (case aF => exact (fun k_ hk => ⟨Kd.fresh' (Kd.N_lt (by (with_reducible repeat (first | apply Kd.N_alloc | apply Kd.N_drewN | apply Kd.N_drew)); exact HO_3.out)) k_ hk, Kd.freshB (g := gb244) (o := .cells #[.string t240, .slice Ao9 t241.length co9] 30 (0, 0)) (by (with_reducible repeat (first | refine blk_drewN ?_ _ | refine blk_drew ?_ | refine blk_alloc ?_ _)); exact BK244.out) k_ hk⟩)); (case aO => exact (by (with_reducible repeat (first | apply Kd.N_alloc | apply Kd.N_drewN | apply Kd.N_drew)); exact Kd.N_mono HO_6.out (fun _ hk => ⟨(gives hk), (gives hk)⟩))); (case aS => exact (below_size (by repeat (first | (with_reducible first | exact HB.out | apply below_alloc | apply pw_below_drewN | apply below_drew1 | refine below_set ?_ GE244.out) | exact HB.out)))); (case aL => have := LMc25.out; omega); intro v255 w29 ho hb hg hat; rw [← Ny254.out] at ho; have m0_ := Aside0.mk (Kd.R_mono (Kd.R_grown (Kd.R_apart' (by (with_reducible repeat (first | apply Kd.R_alloc | apply Kd.R_drewN | apply Kd.R_drew)); exact HO_245001.out) (Kd.N_typed (by (with_reducible repeat (first | apply Kd.N_alloc | apply Kd.N_drewN | apply Kd.N_drew)); exact HO_6.out)) (by decide)) hg (fun k hk => hk.2)) (fun _ hk => hk.1)); clear HO_245001; have HO_245001 := m0_; clear m0_; have n0_ := Aside0.mk (Kd.N_afterv (ok := (fun k_ => some k_ ≠ (.slice Ao30 y251.length co30 : Value).ownBlock ∧ k_ ≠ gb244)) (by (with_reducible repeat (first | apply Kd.N_alloc | apply Kd.N_drewN | apply Kd.N_drew)); exact Kd.N_mono HO_3.out (fun _ hk => ⟨⟨hk.2, (gives hk)⟩, (gives hk)⟩)) hg hat); have n1_ := Aside0.mk (blk_grown (g := gb244) (o := .cells #[.string t240, .slice Ao9 t241.length co9] 30 (0, 0)) (by (with_reducible repeat (first | refine blk_drewN ?_ _ | refine blk_drew ?_ | refine blk_alloc ?_ _)); exact BK244.out) hg (Kd.N_away HO_6.out (fun _ hk => (gives hk)))); have n2_ := Aside0.mk (Kd.N_afterv (ok := (fun k_ => some k_ ≠ (.slice Ao10 t237.length co10 : Value).ownBlock ∧ k_ ≠ gb244)) (by (with_reducible repeat (first | apply Kd.N_alloc | apply Kd.N_drewN | apply Kd.N_drew)); exact Kd.N_mono HO253.out (fun _ hk => ⟨⟨hk.1, (gives hk)⟩, (gives hk)⟩)) hg hat); have n3_ := Aside0.mk (hb); have n4_ := Aside0.mk (ho); clear HO_3; clear BK244; clear HO253; clear HB; clear HO_6; have HO_3 := n0_; have BK244 := n1_; have HO253 := n2_; have HB := n3_; have HO256 := n4_; clear n0_ n1_ n2_ n3_ n4_; clear ho hb hg hat))
                  go_roundg k2
                  case measure => have := HJ4.out; have := HK2.out; omega
                  case rel => exact ⟨(y254), (wrap64 (x7_2 + 1)), (by first | rfl | (simp; done) | (simp [*]; done)), H', ⟨by have := HJ4.out; have := HK2.out; omega⟩, ⟨by (with_reducible repeat (first | apply Kd.N_alloc | apply Kd.N_drewN | apply Kd.N_drew)); exact Kd.N_mono HO_3.out (fun _ hk => ⟨hk.2, (gives hk)⟩)⟩, ⟨by (with_reducible repeat (first | apply Kd.N_alloc | apply Kd.N_drewN | apply Kd.N_drew)); exact HO256.out⟩, ⟨by (with_reducible repeat (first | apply Kd.R_alloc | apply Kd.R_drewN | apply Kd.R_drew)); exact HO_245001.out⟩, ⟨by (with_reducible repeat (first | refine blk_drewN ?_ _ | refine blk_drew ?_ | refine blk_alloc ?_ _)); exact BK244.out⟩, ⟨by repeat (first | (with_reducible first | exact HB.out | apply below_alloc | apply pw_below_drewN | apply below_drew1 | refine below_set ?_ GE244.out) | exact HB.out)⟩⟩
                · rw [if_neg c25] at H
                  exact absurd H (by simp)
              · rw [if_neg c24] at H
                have c24b0 : decide (x7_2 < t245) = false := decide_eq_false c24
                clear c24
                obtain ⟨y257, hy257⟩ : ∃ y_ : List (S30), y_ = (([] : List (S30))) := ⟨_, rfl⟩
                replace H : (if y257.length + x6_2.length < 3518437208883 then ((some (y257 ++ x6_2 : List (S30))).bind fun y260 => ((some (([(⟨t240, t241⟩ : S30)] : List (S30)) : List (S30))).bind fun y263 => (if y260.length + y263.length < 3518437208883 then ((impl_CallsOf.f k2 t237 t240).bind fun t269 => (if t245 ≤ (t269.length : Int) then ((impl_AnyOrder.f k2 t237 x6_2).bind fun t272 => (if t272 = true then ((impl_AnyOrder.f k2 t237 (y260 ++ y263)).bind fun t273 => (some (!t273))) else (some false))) else (some false))) else (none)))) else (none)) = some r := by first | (rw [hy257]; with_reducible exact H) | (have H2_ := (Option.bind_some _ _).symm.trans H; rw [hy257]; with_reducible exact H2_) | (have H2_ := (Option.bind_some _ _).symm.trans H; with_reducible exact H2_) | with_reducible exact H | (rw [hy257]; exact H) | exact H
                have Ny257 := Aside0.mk hy257
                clear hy257
                by_cases c31 : y257.length + x6_2.length < 3518437208883
                · rw [if_pos c31] at H
                  have LMc31 := Aside0.mk c31
                  clear c31
                  obtain ⟨y260, hy260⟩ : ∃ y_ : List (S30), y_ = (y257 ++ x6_2) := ⟨_, rfl⟩
                  replace H : ((some (([(⟨t240, t241⟩ : S30)] : List (S30)) : List (S30))).bind fun y263 => (if y260.length + y263.length < 3518437208883 then ((impl_CallsOf.f k2 t237 t240).bind fun t269 => (if t245 ≤ (t269.length : Int) then ((impl_AnyOrder.f k2 t237 x6_2).bind fun t272 => (if t272 = true then ((impl_AnyOrder.f k2 t237 (y260 ++ y263)).bind fun t273 => (some (!t273))) else (some false))) else (some false))) else (none))) = some r := by first | (rw [hy260]; with_reducible exact H) | (have H2_ := (Option.bind_some _ _).symm.trans H; rw [hy260]; with_reducible exact H2_) | (have H2_ := (Option.bind_some _ _).symm.trans H; with_reducible exact H2_) | with_reducible exact H | (rw [hy260]; exact H) | exact H
                  have Ny260 := Aside0.mk hy260
                  clear hy260
                  obtain ⟨y263, hy263⟩ : ∃ y_ : List (S30), y_ = (([(⟨t240, t241⟩ : S30)] : List (S30))) := ⟨_, rfl⟩
                  replace H : (if y260.length + y263.length < 3518437208883 then ((impl_CallsOf.f k2 t237 t240).bind fun t269 => (if t245 ≤ (t269.length : Int) then ((impl_AnyOrder.f k2 t237 x6_2).bind fun t272 => (if t272 = true then ((impl_AnyOrder.f k2 t237 (y260 ++ y263)).bind fun t273 => (some (!t273))) else (some false))) else (some false))) else (none)) = some r := by first | (rw [hy263]; with_reducible exact H) | (have H2_ := (Option.bind_some _ _).symm.trans H; rw [hy263]; with_reducible exact H2_) | (have H2_ := (Option.bind_some _ _).symm.trans H; with_reducible exact H2_) | with_reducible exact H | (rw [hy263]; exact H) | exact H
                  have Ny263 := Aside0.mk hy263
                  clear hy263
                  by_cases c32 : y260.length + y263.length < 3518437208883
                  · rw [if_pos c32] at H
                    have LMc32 := Aside0.mk c32
                    clear c32
                    obtain ⟨y266, hy266⟩ : ∃ y_ : List (S30), y_ = (y260 ++ y263) := ⟨_, rfl⟩
                    replace H : ((impl_CallsOf.f k2 t237 t240).bind fun t269 => (if t245 ≤ (t269.length : Int) then ((impl_AnyOrder.f k2 t237 x6_2).bind fun t272 => (if t272 = true then ((impl_AnyOrder.f k2 t237 y266).bind fun t273 => (some (!t273))) else (some false))) else (some false))) = some r := by first | (rw [hy266]; with_reducible exact H) | (have H2_ := (Option.bind_some _ _).symm.trans H; rw [hy266]; with_reducible exact H2_) | (have H2_ := (Option.bind_some _ _).symm.trans H; with_reducible exact H2_) | with_reducible exact H | (rw [hy266]; exact H) | exact H
                    have Ny266 := Aside0.mk hy266
                    clear hy266
                    replace H := Option.bind_eq_some_iff.mp H
                    obtain ⟨t269, A330, H⟩ := H
                    replace H : (if t245 ≤ (t269.length : Int) then ((impl_AnyOrder.f k2 t237 x6_2).bind fun t272 => (if t272 = true then ((impl_AnyOrder.f k2 t237 y266).bind fun t273 => (some (!t273))) else (some false))) else (some false)) = some r := H
                    have A33 := Aside0.mk A330
                    clear A330
                    by_cases c34 : t245 ≤ (t269.length : Int)
                    · rw [if_pos c34] at H
                      have c34b0 : decide (t245 ≤ (t269.length : Int)) = true := decide_eq_true c34
                      clear c34
                      replace H := Option.bind_eq_some_iff.mp H
                      obtain ⟨t272, A350, H⟩ := H
                      replace H : (if t272 = true then ((impl_AnyOrder.f k2 t237 y266).bind fun t273 => (some (!t273))) else (some false)) = some r := H
                      have A35 := Aside0.mk A350
                      clear A350
                      by_cases c36 : t272 = true
                      · subst c36
                        have H1 : ((impl_AnyOrder.f k2 t237 y266).bind fun t273 => (some (!t273))) = some r := by rw [if_pos rfl] at H; exact H
                        clear H
                        have H := H1
                        clear H1
                        replace H := Option.bind_eq_some_iff.mp H
                        obtain ⟨t273, A370, H⟩ := H
                        replace H : (some (!t273)) = some r := H
                        have A37 := Aside0.mk A370
                        clear A370
                        obtain rfl := Option.some.inj H
                        obtain ⟨Ao38, co38, eo38⟩ := Kd.N_slice HO_6.out
                        subst eo38
                        try go_wp2
                        have n0_ := Aside0.mk (Kd.N_drew HO_3.out)
                        have n1_ := Aside0.mk (Kd.N_drew HO_6.out)
                        have n2_ := Aside0.mk (Kd.R_drew HO_245001.out)
                        have n3_ := Aside0.mk (blk_drew BK244.out)
                        have n4_ := Aside0.mk (below_drew1 HB.out)
                        clear HO_3
                        clear HO_6
                        clear HO_245001
                        clear BK244
                        clear HB
                        have HO_3 := n0_
                        have HO_6 := n1_
                        have HO_245001 := n2_
                        have BK244 := n3_
                        have HB := n4_
                        clear n0_ n1_ n2_ n3_ n4_
                        refine start_ (n := 7) (S := fun w' => w'.cell? ⟨gb244, 0, none⟩ = some (.string t240) ∧ w'.cell? ⟨gb244, 1, none⟩ = some (.slice Ao9 t241.length co9)) (ds := []) #[false, false, false, false, false, false, false] (by kernel_rfl) rfl rfl ⟨(blk_cell BK244.out 0).trans rfl, (blk_cell BK244.out 1).trans rfl⟩ (fun hHeld => ?_)
                        generalize wr.drew = w39 at HO_3 HO_6 HO_245001 BK244 HB hHeld ⊢
                        refine pure_ (i := 1) (N := some 45) (v := ?_) (a' := ?_) #[false, true, false, false, false, false, false] rfl rfl (by kernel_rfl) (fun _ _ _ h => h) (Or.inl ⟨by rfl, ?_⟩) ?_ ?_
                        rotate_left
                        · intro w'
                          go_simp
                          with_reducible rfl
                        rotate_left
                        · simp only [Act.put, List.setIfInBounds_toArray, List.set_cons_zero, List.set_cons_succ, i64_w, i32_w]
                          rfl
                        refine take_ (i := 3) (N := some 47) (v := ?_) (a' := ?_) #[false, true, false, true, false, false, false] rfl rfl (by kernel_rfl) (fun _ _ _ h => h) (Or.inl ⟨by rfl, ?_⟩) hHeld ?_ ?_
                        rotate_left
                        · rintro w' ⟨s0, s1⟩
                          go_simp
                          with_reducible rfl
                        rotate_left
                        · simp only [Act.put, List.setIfInBounds_toArray, List.set_cons_zero, List.set_cons_succ, i64_w, i32_w]
                          rfl
                        refine join_ (σ := Value × Value × Value) 2 #[true, true, true, true, true, false, false] (fun s_ => [(44, s_.1), (46, s_.2.1), (48, s_.2.2)]) (fun s_ w' => (w'.cell? ⟨gb244, 0, none⟩ = some (.string t240) ∧ w'.cell? ⟨gb244, 1, none⟩ = some (.slice Ao9 t241.length co9)) ∧ (Kd.N k30 30 w' w.heap.size (fun k_ => some k_ ≠ (s_.2.2 : Value).ownBlock ∧ some k_ ≠ (.slice Ao10 t237.length co10 : Value).ownBlock ∧ k_ ≠ gb244) s_.2.1 y260) ∧ (Kd.N k30 30 w' w.heap.size (fun k_ => some k_ ≠ (s_.2.1 : Value).ownBlock ∧ some k_ ≠ (.slice Ao10 t237.length co10 : Value).ownBlock ∧ some k_ ≠ (.slice Ao38 x6_2.length co38 : Value).ownBlock ∧ k_ ≠ gb244) s_.2.2 y263) ∧ (Kd.N k30 30 w' w.heap.size (fun k_ => some k_ ≠ (s_.2.1 : Value).ownBlock ∧ some k_ ≠ (s_.2.2 : Value).ownBlock ∧ some k_ ≠ (.slice Ao38 x6_2.length co38 : Value).ownBlock ∧ k_ ≠ gb244) (.slice Ao10 t237.length co10) t237) ∧ (Kd.N k30 30 w' w.heap.size (fun k_ => some k_ ≠ (s_.2.1 : Value).ownBlock ∧ some k_ ≠ (s_.2.2 : Value).ownBlock ∧ some k_ ≠ (.slice Ao10 t237.length co10 : Value).ownBlock ∧ k_ ≠ gb244) (.slice Ao38 x6_2.length co38) x6_2) ∧ (w'.heap[gb244]? = some (.cells #[.string t240, .slice Ao9 t241.length co9] 30 (0, 0))) ∧ (Below w.heap.size w w')) ?_ ?_
                        rotate_left
                        · intro hCont
                          refine two_ (i := 0) (j := 4) (Ni := some 44) (Nj := some 48) #[true, true, false, true, false, false, false] #[false, true, false, true, true, false, false] rfl rfl rfl rfl (by kernel_rfl) (by decide) (by decide) (fun K hK => ?_) (fun K hK => ?_)
                          · skip
                            refine Kd.N_lit_step k30 _ 30 ?hg (N' := 44) ?hd (xs := ([] : List (S30))) (inner := []) (ok := (fun k_ => some k_ ≠ (.slice Ao10 t237.length co10 : Value).ownBlock ∧ some k_ ≠ (.slice Ao38 x6_2.length co38 : Value).ownBlock ∧ some k_ ≠ (.slice Ao9 t241.length co9 : Value).ownBlock ∧ k_ ≠ gb244)) (okp := (fun k_ => some k_ ≠ (.slice Ao10 t237.length co10 : Value).ownBlock ∧ some k_ ≠ (.slice Ao38 x6_2.length co38 : Value).ownBlock ∧ some k_ ≠ (.slice Ao9 t241.length co9 : Value).ownBlock ∧ k_ ≠ gb244)) ?hr ?hp (fun _ hk => hk) ((show ∀ k_, w39.heap.size ≤ k_ → (fun k_ => some k_ ≠ (.slice Ao10 t237.length co10 : Value).ownBlock ∧ some k_ ≠ (.slice Ao38 x6_2.length co38 : Value).ownBlock ∧ some k_ ≠ (.slice Ao9 t241.length co9 : Value).ownBlock ∧ k_ ≠ gb244) k_ from fun k_ hk => ⟨Kd.fresh' (Kd.N_lt (by (with_reducible repeat (first | apply Kd.N_alloc | apply Kd.N_drewN | apply Kd.N_drew)); exact HO_3.out)) k_ hk, Kd.fresh' (Kd.N_lt (by (with_reducible repeat (first | apply Kd.N_alloc | apply Kd.N_drewN | apply Kd.N_drew)); exact HO_6.out)) k_ hk, Kd.fresh' (Kd.R_lt (by (with_reducible repeat (first | apply Kd.R_alloc | apply Kd.R_drewN | apply Kd.R_drew)); exact HO_245001.out)) k_ hk, Kd.freshB (g := gb244) (o := .cells #[.string t240, .slice Ao9 t241.length co9] 30 (0, 0)) (by (with_reducible repeat (first | refine blk_drewN ?_ _ | refine blk_drew ?_ | refine blk_alloc ?_ _)); exact BK244.out) k_ hk⟩) _ (Nat.le_refl _)) (Below.refl _ _) (Nat.le_refl _) (by simp) ?_; (case hd => rfl); (case hg => rfl); (case hr => first | (go_simp; done) | (go_simp; rfl)); (case hp => exact (Reps.none _ _))
                            intro v258 w40 ho41 hb hg_ hnew_
                            clear hg_ hnew_
                            (first | rw [← Ny257.out] at ho41 | (simp only [Int.reduceToNat] at ho41; rw [← Ny257.out] at ho41))
                            have n0_ := Aside0.mk (Kd.N_elder' (by (with_reducible repeat (first | apply Kd.N_alloc | apply Kd.N_drewN | apply Kd.N_drew)); exact HO_3.out) (Kd.N_base ho41) hb)
                            have n1_ := Aside0.mk (Kd.N_elder' (by (with_reducible repeat (first | apply Kd.N_alloc | apply Kd.N_drewN | apply Kd.N_drew)); exact HO_6.out) (Kd.N_base ho41) hb)
                            have n2_ := Aside0.mk (Kd.R_below (by (with_reducible repeat (first | apply Kd.R_alloc | apply Kd.R_drewN | apply Kd.R_drew)); exact HO_245001.out) hb)
                            have n3_ := Aside0.mk (Kd.N_lower ho41 (below_size (by repeat (first | (with_reducible first | exact HB.out | apply below_alloc | apply pw_below_drewN | apply below_drew1 | refine below_set ?_ GE244.out) | exact HB.out))))
                            have n4_ := Aside0.mk (blk_below (g := gb244) (o := .cells #[.string t240, .slice Ao9 t241.length co9] 30 (0, 0)) (by (with_reducible repeat (first | refine blk_drewN ?_ _ | refine blk_drew ?_ | refine blk_alloc ?_ _)); exact BK244.out) hb)
                            have n5_ := Aside0.mk (below_step (by repeat (first | (with_reducible first | exact HB.out | apply below_alloc | apply pw_below_drewN | apply below_drew1 | refine below_set ?_ GE244.out) | exact HB.out)) hb)
                            clear HO_3
                            clear HO_6
                            clear HO_245001
                            clear BK244
                            clear HB
                            have HO_3 := n0_
                            have HO_6 := n1_
                            have HO_245001 := n2_
                            have HO259 := n3_
                            have BK244 := n4_
                            have HB := n5_
                            clear n0_ n1_ n2_ n3_ n4_ n5_
                            clear hb ho41
                            refine hK.out _ _ ⟨(blk_cell BK244.out 0).trans rfl, (blk_cell BK244.out 1).trans rfl⟩ (fun hHeld => ?_)
                            clear hK K
                            refine norm_ (a' := ?_) ?_ ?_
                            rotate_left
                            · show Act.put _ (some 44) _ = _
                              simp only [Act.put, List.setIfInBounds_toArray, List.set_cons_zero, List.set_cons_succ, i64_w, i32_w]
                              rfl
                            refine two_ (i := 2) (j := 4) (Ni := some 46) (Nj := some 48) #[true, true, true, true, false, false, false] #[true, true, false, true, true, false, false] rfl rfl rfl rfl (by kernel_rfl) (by decide) (by decide) (fun K hK => ?_) (fun K hK => ?_)
                            · skip
                              refine Kd.N_append_rows_step k30 (w0 := w) w.heap.size (by rfl) (.tmp 44) (.tmp 45) 23 30 (.agg #[(.string ⟨#[]⟩), (.slice none 0 0)]) 40 rfl Try.underlying23 info30 rfl (by decide) (by omega) v258 y257 x6_2 _ _ _ (fun k_ => some k_ ≠ (.slice Ao10 t237.length co10 : Value).ownBlock ∧ k_ ≠ gb244) (fun k_ => ((fun k_ => some k_ ≠ (.slice Ao10 t237.length co10 : Value).ownBlock ∧ k_ ≠ gb244)) k_ ∧ some k_ ≠ (v258 : Value).ownBlock) rfl rfl ?aO ?aR (fun _ hk => hk) ?aF ?aB ?aS ?aL ?_
                              (case aR => exact (by skip; exact Kd.N_F (Kd.N_mono (ok' := (fun k_ => ((fun k_ => some k_ ≠ (.slice Ao10 t237.length co10 : Value).ownBlock ∧ k_ ≠ gb244)) k_ ∧ some k_ ≠ (v258 : Value).ownBlock)) (HO_6.out) (fun k_ hk => ⟨⟨(gives hk), (gives hk)⟩, hk.2⟩))))
                              (case aB => exact (by repeat (first | (with_reducible first | exact HB.out | apply below_alloc | apply pw_below_drewN | apply below_drew1 | refine below_set ?_ GE244.out) | exact HB.out)))
                              (case aF => exact (fun k_ hk => ⟨Kd.fresh' (Kd.N_lt (by (with_reducible repeat (first | apply Kd.N_alloc | apply Kd.N_drewN | apply Kd.N_drew)); exact HO_3.out)) k_ hk, Kd.freshB (g := gb244) (o := .cells #[.string t240, .slice Ao9 t241.length co9] 30 (0, 0)) (by (with_reducible repeat (first | refine blk_drewN ?_ _ | refine blk_drew ?_ | refine blk_alloc ?_ _)); exact BK244.out) k_ hk⟩))
                              (case aO => exact (by (with_reducible repeat (first | apply Kd.N_alloc | apply Kd.N_drewN | apply Kd.N_drew)); exact Kd.N_mono HO259.out (fun _ hk => ⟨hk.1, (gives hk)⟩)))
                              (case aS => exact (below_size (by repeat (first | (with_reducible first | exact HB.out | apply below_alloc | apply pw_below_drewN | apply below_drew1 | refine below_set ?_ GE244.out) | exact HB.out))))
                              (case aL => have := LMc31.out; omega)
                              intro v261 w42 ho hb hg hat
                              rw [← Ny260.out] at ho
                              have n0_ := Aside0.mk (Kd.N_afterv (ok := (fun k_ => some k_ ≠ (.slice Ao38 x6_2.length co38 : Value).ownBlock ∧ k_ ≠ gb244)) (by (with_reducible repeat (first | apply Kd.N_alloc | apply Kd.N_drewN | apply Kd.N_drew)); exact HO_3.out) hg hat)
                              have n1_ := Aside0.mk (Kd.N_afterv (ok := (fun k_ => some k_ ≠ (.slice Ao10 t237.length co10 : Value).ownBlock ∧ k_ ≠ gb244)) (by (with_reducible repeat (first | apply Kd.N_alloc | apply Kd.N_drewN | apply Kd.N_drew)); exact HO_6.out) hg hat)
                              have n2_ := Aside0.mk (Kd.R_over' (by (with_reducible repeat (first | apply Kd.R_alloc | apply Kd.R_drewN | apply Kd.R_drew)); exact HO_245001.out) (Kd.N_typed (by (with_reducible repeat (first | apply Kd.N_alloc | apply Kd.N_drewN | apply Kd.N_drew)); exact HO259.out)) (by decide) hg)
                              have n3_ := Aside0.mk (blk_grown (g := gb244) (o := .cells #[.string t240, .slice Ao9 t241.length co9] 30 (0, 0)) (by (with_reducible repeat (first | refine blk_drewN ?_ _ | refine blk_drew ?_ | refine blk_alloc ?_ _)); exact BK244.out) hg (Kd.N_away HO259.out (fun _ hk => (gives hk))))
                              have n4_ := Aside0.mk (hb)
                              have n5_ := Aside0.mk (ho)
                              clear HO_3
                              clear HO_6
                              clear HO_245001
                              clear BK244
                              clear HB
                              clear HO259
                              have HO_3 := n0_
                              have HO_6 := n1_
                              have HO_245001 := n2_
                              have BK244 := n3_
                              have HB := n4_
                              have HO262 := n5_
                              clear n0_ n1_ n2_ n3_ n4_ n5_
                              clear ho hb hg hat
                              refine hK.out _ _ ⟨(blk_cell BK244.out 0).trans rfl, (blk_cell BK244.out 1).trans rfl⟩ (fun hHeld => ?_)
                              clear hK K
                              refine norm_ (a' := ?_) ?_ ?_
                              rotate_left
                              · show Act.put _ (some 46) _ = _
                                simp only [Act.put, List.setIfInBounds_toArray, List.set_cons_zero, List.set_cons_succ, i64_w, i32_w]
                                rfl
                              refine one_ (i := 4) (N := some 48) #[true, true, true, true, true, false, false] rfl rfl (by kernel_rfl) (by decide) (fun K hK => ?_)
                              refine Kd.N_lit_step k30 _ 30 ?hg (N' := 48) ?hd (xs := ([(⟨t240, t241⟩ : S30)] : List (S30))) (inner := [.string t240, .slice Ao9 t241.length co9]) (ok := (fun k_ => some k_ ≠ (.slice Ao10 t237.length co10 : Value).ownBlock ∧ some k_ ≠ (.slice Ao38 x6_2.length co38 : Value).ownBlock ∧ some k_ ≠ (v261 : Value).ownBlock ∧ k_ ≠ gb244)) (okp := (fun k_ => some k_ ≠ (.slice Ao10 t237.length co10 : Value).ownBlock ∧ some k_ ≠ (.slice Ao38 x6_2.length co38 : Value).ownBlock ∧ some k_ ≠ (v261 : Value).ownBlock ∧ k_ ≠ gb244)) ?hr ?hp (fun _ hk => hk) ((show ∀ k_, w42.heap.size ≤ k_ → (fun k_ => some k_ ≠ (.slice Ao10 t237.length co10 : Value).ownBlock ∧ some k_ ≠ (.slice Ao38 x6_2.length co38 : Value).ownBlock ∧ some k_ ≠ (v261 : Value).ownBlock ∧ k_ ≠ gb244) k_ from fun k_ hk => ⟨Kd.fresh' (Kd.N_lt (by (with_reducible repeat (first | apply Kd.N_alloc | apply Kd.N_drewN | apply Kd.N_drew)); exact HO_3.out)) k_ hk, Kd.fresh' (Kd.N_lt (by (with_reducible repeat (first | apply Kd.N_alloc | apply Kd.N_drewN | apply Kd.N_drew)); exact HO_6.out)) k_ hk, Kd.fresh' (Kd.N_lt (by (with_reducible repeat (first | apply Kd.N_alloc | apply Kd.N_drewN | apply Kd.N_drew)); exact HO262.out)) k_ hk, Kd.freshB (g := gb244) (o := .cells #[.string t240, .slice Ao9 t241.length co9] 30 (0, 0)) (by (with_reducible repeat (first | refine blk_drewN ?_ _ | refine blk_drew ?_ | refine blk_alloc ?_ _)); exact BK244.out) k_ hk⟩) _ (Nat.le_refl _)) (Below.refl _ _) (Nat.le_refl _) (by simp) ?_; (case hd => rfl); (case hg => rfl); (case hr => first | (go_simp; done) | (go_simp; rfl)); (case hp => exact (Reps.c2 (show Kd.FK k30 _ _ (⟨t240, t241⟩ : S30) [.string t240, .slice Ao9 t241.length co9] from (k30_mkF _ _ (⟨t240, t241⟩ : S30) (Kd.R_reads' (Kd.R_mono (ok' := (fun k_ => some k_ ≠ (.slice Ao10 t237.length co10 : Value).ownBlock ∧ some k_ ≠ (.slice Ao38 x6_2.length co38 : Value).ownBlock ∧ some k_ ≠ (v261 : Value).ownBlock ∧ k_ ≠ gb244)) (Kd.R_types (Kd.R_apart' (Kd.R_apart' (Kd.R_apart' (HO_245001.out) (Kd.N_typed HO_3.out) (by decide)) (Kd.N_typed HO_6.out) (by decide)) (Kd.N_typed HO262.out) (by decide)) BK244.out (by decide)) (fun k_ hk => ⟨(gives hk), ⟨(gives hk), ⟨(gives hk), hk.2⟩⟩⟩))).2.1 (Kd.R_F (Kd.R_mono (ok' := (fun k_ => some k_ ≠ (.slice Ao10 t237.length co10 : Value).ownBlock ∧ some k_ ≠ (.slice Ao38 x6_2.length co38 : Value).ownBlock ∧ some k_ ≠ (v261 : Value).ownBlock ∧ k_ ≠ gb244)) (Kd.R_types (Kd.R_apart' (Kd.R_apart' (Kd.R_apart' (HO_245001.out) (Kd.N_typed HO_3.out) (by decide)) (Kd.N_typed HO_6.out) (by decide)) (Kd.N_typed HO262.out) (by decide)) BK244.out (by decide)) (fun k_ hk => ⟨(gives hk), ⟨(gives hk), ⟨(gives hk), hk.2⟩⟩⟩))))) (Reps.none _ _)))
                              intro v264 w43 ho44 hb hg_ hnew_
                              clear hg_ hnew_
                              (first | rw [← Ny263.out] at ho44 | (simp only [Int.reduceToNat] at ho44; rw [← Ny263.out] at ho44))
                              have n0_ := Aside0.mk (Kd.N_elder' (by (with_reducible repeat (first | apply Kd.N_alloc | apply Kd.N_drewN | apply Kd.N_drew)); exact HO_3.out) (Kd.N_base ho44) hb)
                              have n1_ := Aside0.mk (Kd.N_elder' (by (with_reducible repeat (first | apply Kd.N_alloc | apply Kd.N_drewN | apply Kd.N_drew)); exact HO_6.out) (Kd.N_base ho44) hb)
                              have n2_ := Aside0.mk (Kd.N_elder' (by (with_reducible repeat (first | apply Kd.N_alloc | apply Kd.N_drewN | apply Kd.N_drew)); exact HO262.out) (Kd.N_base ho44) hb)
                              have n3_ := Aside0.mk (Kd.N_lower ho44 (below_size (by repeat (first | (with_reducible first | exact HB.out | apply below_alloc | apply pw_below_drewN | apply below_drew1 | refine below_set ?_ GE244.out) | exact HB.out))))
                              have n4_ := Aside0.mk (blk_below (g := gb244) (o := .cells #[.string t240, .slice Ao9 t241.length co9] 30 (0, 0)) (by (with_reducible repeat (first | refine blk_drewN ?_ _ | refine blk_drew ?_ | refine blk_alloc ?_ _)); exact BK244.out) hb)
                              have n5_ := Aside0.mk (below_step (by repeat (first | (with_reducible first | exact HB.out | apply below_alloc | apply pw_below_drewN | apply below_drew1 | refine below_set ?_ GE244.out) | exact HB.out)) hb)
                              clear HO_3
                              clear HO_6
                              clear HO262
                              clear BK244
                              clear HB
                              clear HO_245001
                              have HO_3 := n0_
                              have HO_6 := n1_
                              have HO262 := n2_
                              have HO265 := n3_
                              have BK244 := n4_
                              have HB := n5_
                              clear n0_ n1_ n2_ n3_ n4_ n5_
                              clear hb ho44
                              refine hK.out _ _ ⟨(blk_cell BK244.out 0).trans rfl, (blk_cell BK244.out 1).trans rfl⟩ (fun hHeld => ?_)
                              clear hK K
                              refine norm_ (a' := ?_) ?_ ?_
                              rotate_left
                              · show Act.put _ (some 48) _ = _
                                simp only [Act.put, List.setIfInBounds_toArray, List.set_cons_zero, List.set_cons_succ, i64_w, i32_w]
                                rfl
                              exact norm_ (by simp only [putAll, Act.put, List.setIfInBounds_toArray, List.set_cons_zero, List.set_cons_succ]) (hCont (v258, v261, v264) _ ⟨hHeld, (by (with_reducible repeat (first | apply Kd.N_alloc | apply Kd.N_drewN | apply Kd.N_drew)); exact Kd.N_mono HO262.out (fun _ hk => ⟨hk.2, ⟨(gives hk), (gives hk)⟩⟩)), (by (with_reducible repeat (first | apply Kd.N_alloc | apply Kd.N_drewN | apply Kd.N_drew)); exact Kd.N_mono HO265.out (fun _ hk => ⟨(gives hk), ⟨hk.1, ⟨(gives hk), (gives hk)⟩⟩⟩)), (by (with_reducible repeat (first | apply Kd.N_alloc | apply Kd.N_drewN | apply Kd.N_drew)); exact Kd.N_mono HO_3.out (fun _ hk => ⟨(gives hk), ⟨hk.2, ⟨(gives hk), (gives hk)⟩⟩⟩)), (by (with_reducible repeat (first | apply Kd.N_alloc | apply Kd.N_drewN | apply Kd.N_drew)); exact Kd.N_mono HO_6.out (fun _ hk => ⟨(gives hk), ⟨hk.2, ⟨(gives hk), (gives hk)⟩⟩⟩)), (by (with_reducible repeat (first | refine blk_drewN ?_ _ | refine blk_drew ?_ | refine blk_alloc ?_ _)); exact BK244.out), (by repeat (first | (with_reducible first | exact HB.out | apply below_alloc | apply pw_below_drewN | apply below_drew1 | refine below_set ?_ GE244.out) | exact HB.out))⟩)
                            · skip
                              refine Kd.N_lit_step k30 _ 30 ?hg (N' := 48) ?hd (xs := ([(⟨t240, t241⟩ : S30)] : List (S30))) (inner := [.string t240, .slice Ao9 t241.length co9]) (ok := (fun k_ => some k_ ≠ (.slice Ao10 t237.length co10 : Value).ownBlock ∧ some k_ ≠ (.slice Ao38 x6_2.length co38 : Value).ownBlock ∧ some k_ ≠ (v258 : Value).ownBlock ∧ k_ ≠ gb244)) (okp := (fun k_ => some k_ ≠ (.slice Ao10 t237.length co10 : Value).ownBlock ∧ some k_ ≠ (.slice Ao38 x6_2.length co38 : Value).ownBlock ∧ some k_ ≠ (v258 : Value).ownBlock ∧ k_ ≠ gb244)) ?hr ?hp (fun _ hk => hk) ((show ∀ k_, w40.heap.size ≤ k_ → (fun k_ => some k_ ≠ (.slice Ao10 t237.length co10 : Value).ownBlock ∧ some k_ ≠ (.slice Ao38 x6_2.length co38 : Value).ownBlock ∧ some k_ ≠ (v258 : Value).ownBlock ∧ k_ ≠ gb244) k_ from fun k_ hk => ⟨Kd.fresh' (Kd.N_lt (by (with_reducible repeat (first | apply Kd.N_alloc | apply Kd.N_drewN | apply Kd.N_drew)); exact HO_3.out)) k_ hk, Kd.fresh' (Kd.N_lt (by (with_reducible repeat (first | apply Kd.N_alloc | apply Kd.N_drewN | apply Kd.N_drew)); exact HO_6.out)) k_ hk, Kd.fresh' (Kd.N_lt (by (with_reducible repeat (first | apply Kd.N_alloc | apply Kd.N_drewN | apply Kd.N_drew)); exact HO259.out)) k_ hk, Kd.freshB (g := gb244) (o := .cells #[.string t240, .slice Ao9 t241.length co9] 30 (0, 0)) (by (with_reducible repeat (first | refine blk_drewN ?_ _ | refine blk_drew ?_ | refine blk_alloc ?_ _)); exact BK244.out) k_ hk⟩) _ (Nat.le_refl _)) (Below.refl _ _) (Nat.le_refl _) (by simp) ?_; (case hd => rfl); (case hg => rfl); (case hr => first | (go_simp; done) | (go_simp; rfl)); (case hp => exact (Reps.c2 (show Kd.FK k30 _ _ (⟨t240, t241⟩ : S30) [.string t240, .slice Ao9 t241.length co9] from (k30_mkF _ _ (⟨t240, t241⟩ : S30) (Kd.R_reads' (Kd.R_mono (ok' := (fun k_ => some k_ ≠ (.slice Ao10 t237.length co10 : Value).ownBlock ∧ some k_ ≠ (.slice Ao38 x6_2.length co38 : Value).ownBlock ∧ some k_ ≠ (v258 : Value).ownBlock ∧ k_ ≠ gb244)) (Kd.R_types (Kd.R_apart' (Kd.R_apart' (Kd.R_apart' (HO_245001.out) (Kd.N_typed HO_3.out) (by decide)) (Kd.N_typed HO_6.out) (by decide)) (Kd.N_typed HO259.out) (by decide)) BK244.out (by decide)) (fun k_ hk => ⟨(gives hk), ⟨(gives hk), ⟨(gives hk), hk.2⟩⟩⟩))).2.1 (Kd.R_F (Kd.R_mono (ok' := (fun k_ => some k_ ≠ (.slice Ao10 t237.length co10 : Value).ownBlock ∧ some k_ ≠ (.slice Ao38 x6_2.length co38 : Value).ownBlock ∧ some k_ ≠ (v258 : Value).ownBlock ∧ k_ ≠ gb244)) (Kd.R_types (Kd.R_apart' (Kd.R_apart' (Kd.R_apart' (HO_245001.out) (Kd.N_typed HO_3.out) (by decide)) (Kd.N_typed HO_6.out) (by decide)) (Kd.N_typed HO259.out) (by decide)) BK244.out (by decide)) (fun k_ hk => ⟨(gives hk), ⟨(gives hk), ⟨(gives hk), hk.2⟩⟩⟩))))) (Reps.none _ _)))
                              intro v264 w42 ho43 hb hg_ hnew_
                              clear hg_ hnew_
                              (first | rw [← Ny263.out] at ho43 | (simp only [Int.reduceToNat] at ho43; rw [← Ny263.out] at ho43))
                              have n0_ := Aside0.mk (Kd.N_elder' (by (with_reducible repeat (first | apply Kd.N_alloc | apply Kd.N_drewN | apply Kd.N_drew)); exact HO_3.out) (Kd.N_base ho43) hb)
                              have n1_ := Aside0.mk (Kd.N_elder' (by (with_reducible repeat (first | apply Kd.N_alloc | apply Kd.N_drewN | apply Kd.N_drew)); exact HO_6.out) (Kd.N_base ho43) hb)
                              have n2_ := Aside0.mk (Kd.N_elder' (by (with_reducible repeat (first | apply Kd.N_alloc | apply Kd.N_drewN | apply Kd.N_drew)); exact HO259.out) (Kd.N_base ho43) hb)
                              have n3_ := Aside0.mk (Kd.N_lower ho43 (below_size (by repeat (first | (with_reducible first | exact HB.out | apply below_alloc | apply pw_below_drewN | apply below_drew1 | refine below_set ?_ GE244.out) | exact HB.out))))
                              have n4_ := Aside0.mk (blk_below (g := gb244) (o := .cells #[.string t240, .slice Ao9 t241.length co9] 30 (0, 0)) (by (with_reducible repeat (first | refine blk_drewN ?_ _ | refine blk_drew ?_ | refine blk_alloc ?_ _)); exact BK244.out) hb)
                              have n5_ := Aside0.mk (below_step (by repeat (first | (with_reducible first | exact HB.out | apply below_alloc | apply pw_below_drewN | apply below_drew1 | refine below_set ?_ GE244.out) | exact HB.out)) hb)
                              clear HO_3
                              clear HO_6
                              clear HO259
                              clear BK244
                              clear HB
                              clear HO_245001
                              have HO_3 := n0_
                              have HO_6 := n1_
                              have HO259 := n2_
                              have HO265 := n3_
                              have BK244 := n4_
                              have HB := n5_
                              clear n0_ n1_ n2_ n3_ n4_ n5_
                              clear hb ho43
                              refine hK.out _ _ ⟨(blk_cell BK244.out 0).trans rfl, (blk_cell BK244.out 1).trans rfl⟩ (fun hHeld => ?_)
                              clear hK K
                              refine norm_ (a' := ?_) ?_ ?_
                              rotate_left
                              · show Act.put _ (some 48) _ = _
                                simp only [Act.put, List.setIfInBounds_toArray, List.set_cons_zero, List.set_cons_succ, i64_w, i32_w]
                                rfl
                              refine one_ (i := 2) (N := some 46) #[true, true, true, true, true, false, false] rfl rfl (by kernel_rfl) (by decide) (fun K hK => ?_)
                              refine Kd.N_append_rows_step k30 (w0 := w) w.heap.size (by rfl) (.tmp 44) (.tmp 45) 23 30 (.agg #[(.string ⟨#[]⟩), (.slice none 0 0)]) 40 rfl Try.underlying23 info30 rfl (by decide) (by omega) v258 y257 x6_2 _ _ _ (fun k_ => some k_ ≠ (.slice Ao10 t237.length co10 : Value).ownBlock ∧ some k_ ≠ (v264 : Value).ownBlock ∧ k_ ≠ gb244) (fun k_ => ((fun k_ => some k_ ≠ (.slice Ao10 t237.length co10 : Value).ownBlock ∧ some k_ ≠ (v264 : Value).ownBlock ∧ k_ ≠ gb244)) k_ ∧ some k_ ≠ (v258 : Value).ownBlock) rfl rfl ?aO ?aR (fun _ hk => hk) ?aF ?aB ?aS ?aL ?_
                              (case aR => exact (by skip; exact Kd.N_F (Kd.N_mono (ok' := (fun k_ => ((fun k_ => some k_ ≠ (.slice Ao10 t237.length co10 : Value).ownBlock ∧ some k_ ≠ (v264 : Value).ownBlock ∧ k_ ≠ gb244)) k_ ∧ some k_ ≠ (v258 : Value).ownBlock)) (HO_6.out) (fun k_ hk => ⟨⟨(gives hk), ⟨hk.2, (gives hk)⟩⟩, (gives hk)⟩))))
                              (case aB => exact (by repeat (first | (with_reducible first | exact HB.out | apply below_alloc | apply pw_below_drewN | apply below_drew1 | refine below_set ?_ GE244.out) | exact HB.out)))
                              (case aF => exact (fun k_ hk => ⟨Kd.fresh' (Kd.N_lt (by (with_reducible repeat (first | apply Kd.N_alloc | apply Kd.N_drewN | apply Kd.N_drew)); exact HO_3.out)) k_ hk, Kd.fresh' (Kd.N_lt (by (with_reducible repeat (first | apply Kd.N_alloc | apply Kd.N_drewN | apply Kd.N_drew)); exact HO265.out)) k_ hk, Kd.freshB (g := gb244) (o := .cells #[.string t240, .slice Ao9 t241.length co9] 30 (0, 0)) (by (with_reducible repeat (first | refine blk_drewN ?_ _ | refine blk_drew ?_ | refine blk_alloc ?_ _)); exact BK244.out) k_ hk⟩))
                              (case aO => exact (by (with_reducible repeat (first | apply Kd.N_alloc | apply Kd.N_drewN | apply Kd.N_drew)); exact Kd.N_mono HO259.out (fun _ hk => ⟨(gives hk), ⟨hk.2, (gives hk)⟩⟩)))
                              (case aS => exact (below_size (by repeat (first | (with_reducible first | exact HB.out | apply below_alloc | apply pw_below_drewN | apply below_drew1 | refine below_set ?_ GE244.out) | exact HB.out))))
                              (case aL => have := LMc31.out; omega)
                              intro v261 w44 ho hb hg hat
                              rw [← Ny260.out] at ho
                              have n0_ := Aside0.mk (Kd.N_afterv (ok := (fun k_ => some k_ ≠ (.slice Ao38 x6_2.length co38 : Value).ownBlock ∧ some k_ ≠ (v264 : Value).ownBlock ∧ k_ ≠ gb244)) (by (with_reducible repeat (first | apply Kd.N_alloc | apply Kd.N_drewN | apply Kd.N_drew)); exact Kd.N_mono HO_3.out (fun _ hk => ⟨⟨(gives hk), ⟨hk.2, (gives hk)⟩⟩, (gives hk)⟩)) hg hat)
                              have n1_ := Aside0.mk (Kd.N_afterv (ok := (fun k_ => some k_ ≠ (.slice Ao10 t237.length co10 : Value).ownBlock ∧ some k_ ≠ (v264 : Value).ownBlock ∧ k_ ≠ gb244)) (by (with_reducible repeat (first | apply Kd.N_alloc | apply Kd.N_drewN | apply Kd.N_drew)); exact Kd.N_mono HO_6.out (fun _ hk => ⟨⟨(gives hk), ⟨hk.2, (gives hk)⟩⟩, (gives hk)⟩)) hg hat)
                              have n2_ := Aside0.mk (blk_grown (g := gb244) (o := .cells #[.string t240, .slice Ao9 t241.length co9] 30 (0, 0)) (by (with_reducible repeat (first | refine blk_drewN ?_ _ | refine blk_drew ?_ | refine blk_alloc ?_ _)); exact BK244.out) hg (Kd.N_away HO259.out (fun _ hk => (gives hk))))
                              have n3_ := Aside0.mk (Kd.N_afterv (ok := (fun k_ => some k_ ≠ (.slice Ao10 t237.length co10 : Value).ownBlock ∧ some k_ ≠ (.slice Ao38 x6_2.length co38 : Value).ownBlock ∧ k_ ≠ gb244)) (by (with_reducible repeat (first | apply Kd.N_alloc | apply Kd.N_drewN | apply Kd.N_drew)); exact Kd.N_mono HO265.out (fun _ hk => ⟨⟨hk.1, ⟨(gives hk), (gives hk)⟩⟩, (gives hk)⟩)) hg hat)
                              have n4_ := Aside0.mk (hb)
                              have n5_ := Aside0.mk (ho)
                              clear HO_3
                              clear HO_6
                              clear BK244
                              clear HO265
                              clear HB
                              clear HO259
                              have HO_3 := n0_
                              have HO_6 := n1_
                              have BK244 := n2_
                              have HO265 := n3_
                              have HB := n4_
                              have HO262 := n5_
                              clear n0_ n1_ n2_ n3_ n4_ n5_
                              clear ho hb hg hat
                              refine hK.out _ _ ⟨(blk_cell BK244.out 0).trans rfl, (blk_cell BK244.out 1).trans rfl⟩ (fun hHeld => ?_)
                              clear hK K
                              refine norm_ (a' := ?_) ?_ ?_
                              rotate_left
                              · show Act.put _ (some 46) _ = _
                                simp only [Act.put, List.setIfInBounds_toArray, List.set_cons_zero, List.set_cons_succ, i64_w, i32_w]
                                rfl
                              exact norm_ (by simp only [putAll, Act.put, List.setIfInBounds_toArray, List.set_cons_zero, List.set_cons_succ]) (hCont (v258, v261, v264) _ ⟨hHeld, (by (with_reducible repeat (first | apply Kd.N_alloc | apply Kd.N_drewN | apply Kd.N_drew)); exact Kd.N_mono HO262.out (fun _ hk => ⟨(gives hk), ⟨hk.1, (gives hk)⟩⟩)), (by (with_reducible repeat (first | apply Kd.N_alloc | apply Kd.N_drewN | apply Kd.N_drew)); exact Kd.N_mono HO265.out (fun _ hk => ⟨hk.2, ⟨(gives hk), ⟨(gives hk), (gives hk)⟩⟩⟩)), (by (with_reducible repeat (first | apply Kd.N_alloc | apply Kd.N_drewN | apply Kd.N_drew)); exact Kd.N_mono HO_3.out (fun _ hk => ⟨hk.2, ⟨(gives hk), ⟨(gives hk), (gives hk)⟩⟩⟩)), (by (with_reducible repeat (first | apply Kd.N_alloc | apply Kd.N_drewN | apply Kd.N_drew)); exact Kd.N_mono HO_6.out (fun _ hk => ⟨hk.2, ⟨(gives hk), ⟨(gives hk), (gives hk)⟩⟩⟩)), (by (with_reducible repeat (first | refine blk_drewN ?_ _ | refine blk_drew ?_ | refine blk_alloc ?_ _)); exact BK244.out), (by repeat (first | (with_reducible first | exact HB.out | apply below_alloc | apply pw_below_drewN | apply below_drew1 | refine below_set ?_ GE244.out) | exact HB.out))⟩)
                          · skip
                            refine Kd.N_lit_step k30 _ 30 ?hg (N' := 48) ?hd (xs := ([(⟨t240, t241⟩ : S30)] : List (S30))) (inner := [.string t240, .slice Ao9 t241.length co9]) (ok := (fun k_ => some k_ ≠ (.slice Ao10 t237.length co10 : Value).ownBlock ∧ some k_ ≠ (.slice Ao38 x6_2.length co38 : Value).ownBlock ∧ k_ ≠ gb244)) (okp := (fun k_ => some k_ ≠ (.slice Ao10 t237.length co10 : Value).ownBlock ∧ some k_ ≠ (.slice Ao38 x6_2.length co38 : Value).ownBlock ∧ k_ ≠ gb244)) ?hr ?hp (fun _ hk => hk) ((show ∀ k_, w39.heap.size ≤ k_ → (fun k_ => some k_ ≠ (.slice Ao10 t237.length co10 : Value).ownBlock ∧ some k_ ≠ (.slice Ao38 x6_2.length co38 : Value).ownBlock ∧ k_ ≠ gb244) k_ from fun k_ hk => ⟨Kd.fresh' (Kd.N_lt (by (with_reducible repeat (first | apply Kd.N_alloc | apply Kd.N_drewN | apply Kd.N_drew)); exact HO_3.out)) k_ hk, Kd.fresh' (Kd.N_lt (by (with_reducible repeat (first | apply Kd.N_alloc | apply Kd.N_drewN | apply Kd.N_drew)); exact HO_6.out)) k_ hk, Kd.freshB (g := gb244) (o := .cells #[.string t240, .slice Ao9 t241.length co9] 30 (0, 0)) (by (with_reducible repeat (first | refine blk_drewN ?_ _ | refine blk_drew ?_ | refine blk_alloc ?_ _)); exact BK244.out) k_ hk⟩) _ (Nat.le_refl _)) (Below.refl _ _) (Nat.le_refl _) (by simp) ?_; (case hd => rfl); (case hg => rfl); (case hr => first | (go_simp; done) | (go_simp; rfl)); (case hp => exact (Reps.c2 (show Kd.FK k30 _ _ (⟨t240, t241⟩ : S30) [.string t240, .slice Ao9 t241.length co9] from (k30_mkF _ _ (⟨t240, t241⟩ : S30) (Kd.R_reads' (Kd.R_mono (ok' := (fun k_ => some k_ ≠ (.slice Ao10 t237.length co10 : Value).ownBlock ∧ some k_ ≠ (.slice Ao38 x6_2.length co38 : Value).ownBlock ∧ k_ ≠ gb244)) (Kd.R_types (Kd.R_apart' (Kd.R_apart' (HO_245001.out) (Kd.N_typed HO_3.out) (by decide)) (Kd.N_typed HO_6.out) (by decide)) BK244.out (by decide)) (fun k_ hk => ⟨(gives hk), ⟨(gives hk), hk.2⟩⟩))).2.1 (Kd.R_F (Kd.R_mono (ok' := (fun k_ => some k_ ≠ (.slice Ao10 t237.length co10 : Value).ownBlock ∧ some k_ ≠ (.slice Ao38 x6_2.length co38 : Value).ownBlock ∧ k_ ≠ gb244)) (Kd.R_types (Kd.R_apart' (Kd.R_apart' (HO_245001.out) (Kd.N_typed HO_3.out) (by decide)) (Kd.N_typed HO_6.out) (by decide)) BK244.out (by decide)) (fun k_ hk => ⟨(gives hk), ⟨(gives hk), hk.2⟩⟩))))) (Reps.none _ _)))
                            intro v264 w40 ho41 hb hg_ hnew_
                            clear hg_ hnew_
                            (first | rw [← Ny263.out] at ho41 | (simp only [Int.reduceToNat] at ho41; rw [← Ny263.out] at ho41))
                            have n0_ := Aside0.mk (Kd.N_elder' (by (with_reducible repeat (first | apply Kd.N_alloc | apply Kd.N_drewN | apply Kd.N_drew)); exact HO_3.out) (Kd.N_base ho41) hb)
                            have n1_ := Aside0.mk (Kd.N_elder' (by (with_reducible repeat (first | apply Kd.N_alloc | apply Kd.N_drewN | apply Kd.N_drew)); exact HO_6.out) (Kd.N_base ho41) hb)
                            have n2_ := Aside0.mk (Kd.N_lower ho41 (below_size (by repeat (first | (with_reducible first | exact HB.out | apply below_alloc | apply pw_below_drewN | apply below_drew1 | refine below_set ?_ GE244.out) | exact HB.out))))
                            have n3_ := Aside0.mk (blk_below (g := gb244) (o := .cells #[.string t240, .slice Ao9 t241.length co9] 30 (0, 0)) (by (with_reducible repeat (first | refine blk_drewN ?_ _ | refine blk_drew ?_ | refine blk_alloc ?_ _)); exact BK244.out) hb)
                            have n4_ := Aside0.mk (below_step (by repeat (first | (with_reducible first | exact HB.out | apply below_alloc | apply pw_below_drewN | apply below_drew1 | refine below_set ?_ GE244.out) | exact HB.out)) hb)
                            clear HO_3
                            clear HO_6
                            clear BK244
                            clear HB
                            clear HO_245001
                            have HO_3 := n0_
                            have HO_6 := n1_
                            have HO265 := n2_
                            have BK244 := n3_
                            have HB := n4_
                            clear n0_ n1_ n2_ n3_ n4_
                            clear hb ho41
                            refine hK.out _ _ ⟨(blk_cell BK244.out 0).trans rfl, (blk_cell BK244.out 1).trans rfl⟩ (fun hHeld => ?_)
                            clear hK K
                            refine norm_ (a' := ?_) ?_ ?_
                            rotate_left
                            · show Act.put _ (some 48) _ = _
                              simp only [Act.put, List.setIfInBounds_toArray, List.set_cons_zero, List.set_cons_succ, i64_w, i32_w]
                              rfl
                            refine one_ (i := 0) (N := some 44) #[true, true, false, true, true, false, false] rfl rfl (by kernel_rfl) (by decide) (fun K hK => ?_)
                            refine Kd.N_lit_step k30 _ 30 ?hg (N' := 44) ?hd (xs := ([] : List (S30))) (inner := []) (ok := (fun k_ => some k_ ≠ (.slice Ao10 t237.length co10 : Value).ownBlock ∧ some k_ ≠ (.slice Ao38 x6_2.length co38 : Value).ownBlock ∧ some k_ ≠ (v264 : Value).ownBlock ∧ k_ ≠ gb244)) (okp := (fun k_ => some k_ ≠ (.slice Ao10 t237.length co10 : Value).ownBlock ∧ some k_ ≠ (.slice Ao38 x6_2.length co38 : Value).ownBlock ∧ some k_ ≠ (v264 : Value).ownBlock ∧ k_ ≠ gb244)) ?hr ?hp (fun _ hk => hk) ((show ∀ k_, w40.heap.size ≤ k_ → (fun k_ => some k_ ≠ (.slice Ao10 t237.length co10 : Value).ownBlock ∧ some k_ ≠ (.slice Ao38 x6_2.length co38 : Value).ownBlock ∧ some k_ ≠ (v264 : Value).ownBlock ∧ k_ ≠ gb244) k_ from fun k_ hk => ⟨Kd.fresh' (Kd.N_lt (by (with_reducible repeat (first | apply Kd.N_alloc | apply Kd.N_drewN | apply Kd.N_drew)); exact HO_3.out)) k_ hk, Kd.fresh' (Kd.N_lt (by (with_reducible repeat (first | apply Kd.N_alloc | apply Kd.N_drewN | apply Kd.N_drew)); exact HO_6.out)) k_ hk, Kd.fresh' (Kd.N_lt (by (with_reducible repeat (first | apply Kd.N_alloc | apply Kd.N_drewN | apply Kd.N_drew)); exact HO265.out)) k_ hk, Kd.freshB (g := gb244) (o := .cells #[.string t240, .slice Ao9 t241.length co9] 30 (0, 0)) (by (with_reducible repeat (first | refine blk_drewN ?_ _ | refine blk_drew ?_ | refine blk_alloc ?_ _)); exact BK244.out) k_ hk⟩) _ (Nat.le_refl _)) (Below.refl _ _) (Nat.le_refl _) (by simp) ?_; (case hd => rfl); (case hg => rfl); (case hr => first | (go_simp; done) | (go_simp; rfl)); (case hp => exact (Reps.none _ _))
                            intro v258 w42 ho43 hb hg_ hnew_
                            clear hg_ hnew_
                            (first | rw [← Ny257.out] at ho43 | (simp only [Int.reduceToNat] at ho43; rw [← Ny257.out] at ho43))
                            have n0_ := Aside0.mk (Kd.N_elder' (by (with_reducible repeat (first | apply Kd.N_alloc | apply Kd.N_drewN | apply Kd.N_drew)); exact HO_3.out) (Kd.N_base ho43) hb)
                            have n1_ := Aside0.mk (Kd.N_elder' (by (with_reducible repeat (first | apply Kd.N_alloc | apply Kd.N_drewN | apply Kd.N_drew)); exact HO_6.out) (Kd.N_base ho43) hb)
                            have n2_ := Aside0.mk (Kd.N_elder' (by (with_reducible repeat (first | apply Kd.N_alloc | apply Kd.N_drewN | apply Kd.N_drew)); exact HO265.out) (Kd.N_base ho43) hb)
                            have n3_ := Aside0.mk (Kd.N_lower ho43 (below_size (by repeat (first | (with_reducible first | exact HB.out | apply below_alloc | apply pw_below_drewN | apply below_drew1 | refine below_set ?_ GE244.out) | exact HB.out))))
                            have n4_ := Aside0.mk (blk_below (g := gb244) (o := .cells #[.string t240, .slice Ao9 t241.length co9] 30 (0, 0)) (by (with_reducible repeat (first | refine blk_drewN ?_ _ | refine blk_drew ?_ | refine blk_alloc ?_ _)); exact BK244.out) hb)
                            have n5_ := Aside0.mk (below_step (by repeat (first | (with_reducible first | exact HB.out | apply below_alloc | apply pw_below_drewN | apply below_drew1 | refine below_set ?_ GE244.out) | exact HB.out)) hb)
                            clear HO_3
                            clear HO_6
                            clear HO265
                            clear BK244
                            clear HB
                            have HO_3 := n0_
                            have HO_6 := n1_
                            have HO265 := n2_
                            have HO259 := n3_
                            have BK244 := n4_
                            have HB := n5_
                            clear n0_ n1_ n2_ n3_ n4_ n5_
                            clear hb ho43
                            refine hK.out _ _ ⟨(blk_cell BK244.out 0).trans rfl, (blk_cell BK244.out 1).trans rfl⟩ (fun hHeld => ?_)
                            clear hK K
                            refine norm_ (a' := ?_) ?_ ?_
                            rotate_left
                            · show Act.put _ (some 44) _ = _
                              simp only [Act.put, List.setIfInBounds_toArray, List.set_cons_zero, List.set_cons_succ, i64_w, i32_w]
                              rfl
                            refine one_ (i := 2) (N := some 46) #[true, true, true, true, true, false, false] rfl rfl (by kernel_rfl) (by decide) (fun K hK => ?_)
                            refine Kd.N_append_rows_step k30 (w0 := w) w.heap.size (by rfl) (.tmp 44) (.tmp 45) 23 30 (.agg #[(.string ⟨#[]⟩), (.slice none 0 0)]) 40 rfl Try.underlying23 info30 rfl (by decide) (by omega) v258 y257 x6_2 _ _ _ (fun k_ => some k_ ≠ (.slice Ao10 t237.length co10 : Value).ownBlock ∧ some k_ ≠ (v264 : Value).ownBlock ∧ k_ ≠ gb244) (fun k_ => ((fun k_ => some k_ ≠ (.slice Ao10 t237.length co10 : Value).ownBlock ∧ some k_ ≠ (v264 : Value).ownBlock ∧ k_ ≠ gb244)) k_ ∧ some k_ ≠ (v258 : Value).ownBlock) rfl rfl ?aO ?aR (fun _ hk => hk) ?aF ?aB ?aS ?aL ?_
                            (case aR => exact (by skip; exact Kd.N_F (Kd.N_mono (ok' := (fun k_ => ((fun k_ => some k_ ≠ (.slice Ao10 t237.length co10 : Value).ownBlock ∧ some k_ ≠ (v264 : Value).ownBlock ∧ k_ ≠ gb244)) k_ ∧ some k_ ≠ (v258 : Value).ownBlock)) (HO_6.out) (fun k_ hk => ⟨⟨(gives hk), ⟨(gives hk), (gives hk)⟩⟩, hk.2⟩))))
                            (case aB => exact (by repeat (first | (with_reducible first | exact HB.out | apply below_alloc | apply pw_below_drewN | apply below_drew1 | refine below_set ?_ GE244.out) | exact HB.out)))
                            (case aF => exact (fun k_ hk => ⟨Kd.fresh' (Kd.N_lt (by (with_reducible repeat (first | apply Kd.N_alloc | apply Kd.N_drewN | apply Kd.N_drew)); exact HO_3.out)) k_ hk, Kd.fresh' (Kd.N_lt (by (with_reducible repeat (first | apply Kd.N_alloc | apply Kd.N_drewN | apply Kd.N_drew)); exact HO265.out)) k_ hk, Kd.freshB (g := gb244) (o := .cells #[.string t240, .slice Ao9 t241.length co9] 30 (0, 0)) (by (with_reducible repeat (first | refine blk_drewN ?_ _ | refine blk_drew ?_ | refine blk_alloc ?_ _)); exact BK244.out) k_ hk⟩))
                            (case aO => exact (by (with_reducible repeat (first | apply Kd.N_alloc | apply Kd.N_drewN | apply Kd.N_drew)); exact Kd.N_mono HO259.out (fun _ hk => ⟨hk.1, ⟨(gives hk), (gives hk)⟩⟩)))
                            (case aS => exact (below_size (by repeat (first | (with_reducible first | exact HB.out | apply below_alloc | apply pw_below_drewN | apply below_drew1 | refine below_set ?_ GE244.out) | exact HB.out))))
                            (case aL => have := LMc31.out; omega)
                            intro v261 w44 ho hb hg hat
                            rw [← Ny260.out] at ho
                            have n0_ := Aside0.mk (Kd.N_afterv (ok := (fun k_ => some k_ ≠ (.slice Ao38 x6_2.length co38 : Value).ownBlock ∧ some k_ ≠ (v264 : Value).ownBlock ∧ k_ ≠ gb244)) (by (with_reducible repeat (first | apply Kd.N_alloc | apply Kd.N_drewN | apply Kd.N_drew)); exact Kd.N_mono HO_3.out (fun _ hk => ⟨⟨(gives hk), ⟨(gives hk), (gives hk)⟩⟩, hk.2⟩)) hg hat)
                            have n1_ := Aside0.mk (Kd.N_afterv (ok := (fun k_ => some k_ ≠ (.slice Ao10 t237.length co10 : Value).ownBlock ∧ some k_ ≠ (v264 : Value).ownBlock ∧ k_ ≠ gb244)) (by (with_reducible repeat (first | apply Kd.N_alloc | apply Kd.N_drewN | apply Kd.N_drew)); exact Kd.N_mono HO_6.out (fun _ hk => ⟨⟨(gives hk), ⟨(gives hk), (gives hk)⟩⟩, hk.2⟩)) hg hat)
                            have n2_ := Aside0.mk (blk_grown (g := gb244) (o := .cells #[.string t240, .slice Ao9 t241.length co9] 30 (0, 0)) (by (with_reducible repeat (first | refine blk_drewN ?_ _ | refine blk_drew ?_ | refine blk_alloc ?_ _)); exact BK244.out) hg (Kd.N_away HO259.out (fun _ hk => (gives hk))))
                            have n3_ := Aside0.mk (Kd.N_afterv (ok := (fun k_ => some k_ ≠ (.slice Ao10 t237.length co10 : Value).ownBlock ∧ some k_ ≠ (.slice Ao38 x6_2.length co38 : Value).ownBlock ∧ k_ ≠ gb244)) (by (with_reducible repeat (first | apply Kd.N_alloc | apply Kd.N_drewN | apply Kd.N_drew)); exact HO265.out) hg hat)
                            have n4_ := Aside0.mk (hb)
                            have n5_ := Aside0.mk (ho)
                            clear HO_3
                            clear HO_6
                            clear BK244
                            clear HO265
                            clear HB
                            clear HO259
                            have HO_3 := n0_
                            have HO_6 := n1_
                            have BK244 := n2_
                            have HO265 := n3_
                            have HB := n4_
                            have HO262 := n5_
                            clear n0_ n1_ n2_ n3_ n4_ n5_
                            clear ho hb hg hat
                            refine hK.out _ _ ⟨(blk_cell BK244.out 0).trans rfl, (blk_cell BK244.out 1).trans rfl⟩ (fun hHeld => ?_)
                            clear hK K
                            refine norm_ (a' := ?_) ?_ ?_
                            rotate_left
                            · show Act.put _ (some 46) _ = _
                              simp only [Act.put, List.setIfInBounds_toArray, List.set_cons_zero, List.set_cons_succ, i64_w, i32_w]
                              rfl
                            exact norm_ (by simp only [putAll, Act.put, List.setIfInBounds_toArray, List.set_cons_zero, List.set_cons_succ]) (hCont (v258, v261, v264) _ ⟨hHeld, (by (with_reducible repeat (first | apply Kd.N_alloc | apply Kd.N_drewN | apply Kd.N_drew)); exact Kd.N_mono HO262.out (fun _ hk => ⟨(gives hk), ⟨hk.1, (gives hk)⟩⟩)), (by (with_reducible repeat (first | apply Kd.N_alloc | apply Kd.N_drewN | apply Kd.N_drew)); exact Kd.N_mono HO265.out (fun _ hk => ⟨hk.2, ⟨(gives hk), ⟨(gives hk), (gives hk)⟩⟩⟩)), (by (with_reducible repeat (first | apply Kd.N_alloc | apply Kd.N_drewN | apply Kd.N_drew)); exact Kd.N_mono HO_3.out (fun _ hk => ⟨hk.2, ⟨(gives hk), ⟨(gives hk), (gives hk)⟩⟩⟩)), (by (with_reducible repeat (first | apply Kd.N_alloc | apply Kd.N_drewN | apply Kd.N_drew)); exact Kd.N_mono HO_6.out (fun _ hk => ⟨hk.2, ⟨(gives hk), ⟨(gives hk), (gives hk)⟩⟩⟩)), (by (with_reducible repeat (first | refine blk_drewN ?_ _ | refine blk_drew ?_ | refine blk_alloc ?_ _)); exact BK244.out), (by repeat (first | (with_reducible first | exact HB.out | apply below_alloc | apply pw_below_drewN | apply below_drew1 | refine below_set ?_ GE244.out) | exact HB.out))⟩)
                        rintro ⟨v258, v261, v264⟩ w45 ⟨hS_, h0_, h1_, h2_, h3_, h4_, h5_⟩
                        have n0_ : Aside0 (Kd.N k30 30 w45 w.heap.size (fun k_ => some k_ ≠ (v264 : Value).ownBlock ∧ some k_ ≠ (.slice Ao10 t237.length co10 : Value).ownBlock ∧ k_ ≠ gb244) v261 y260) := ⟨h0_⟩
                        have n1_ : Aside0 (Kd.N k30 30 w45 w.heap.size (fun k_ => some k_ ≠ (v261 : Value).ownBlock ∧ some k_ ≠ (.slice Ao10 t237.length co10 : Value).ownBlock ∧ some k_ ≠ (.slice Ao38 x6_2.length co38 : Value).ownBlock ∧ k_ ≠ gb244) v264 y263) := ⟨h1_⟩
                        have n2_ : Aside0 (Kd.N k30 30 w45 w.heap.size (fun k_ => some k_ ≠ (v261 : Value).ownBlock ∧ some k_ ≠ (v264 : Value).ownBlock ∧ some k_ ≠ (.slice Ao38 x6_2.length co38 : Value).ownBlock ∧ k_ ≠ gb244) (.slice Ao10 t237.length co10) t237) := ⟨h2_⟩
                        have n3_ : Aside0 (Kd.N k30 30 w45 w.heap.size (fun k_ => some k_ ≠ (v261 : Value).ownBlock ∧ some k_ ≠ (v264 : Value).ownBlock ∧ some k_ ≠ (.slice Ao10 t237.length co10 : Value).ownBlock ∧ k_ ≠ gb244) (.slice Ao38 x6_2.length co38) x6_2) := ⟨h3_⟩
                        have n4_ : Aside0 (w45.heap[gb244]? = some (.cells #[.string t240, .slice Ao9 t241.length co9] 30 (0, 0))) := ⟨h4_⟩
                        have n5_ : Aside0 (Below w.heap.size w w45) := ⟨h5_⟩
                        clear HO_3
                        clear HO_6
                        clear HO_245001
                        clear BK244
                        clear HB
                        clear h0_ h1_ h2_ h3_ h4_ h5_
                        have HO262 := n0_
                        have HO265 := n1_
                        have HO_3 := n2_
                        have HO_6 := n3_
                        have BK244 := n4_
                        have HB := n5_
                        clear n0_ n1_ n2_ n3_ n4_ n5_
                        have hHeld : w45.cell? ⟨gb244, 0, none⟩ = some (.string t240) ∧ w45.cell? ⟨gb244, 1, none⟩ = some (.slice Ao9 t241.length co9) := hS_
                        obtain ⟨Ao47, co47, eo47⟩ := Kd.N_slice HO265.out
                        (first | subst eo47 | (injection eo47 with f1_ f2_ f3_; have f4_ := f1_.symm; have f5_ := f3_.symm; clear f1_ f2_ f3_; subst f4_; subst f5_))
                        refine norm_ (a' := ?_) ?_ ?_
                        rotate_left
                        · simp only [putAll, Act.put, List.setIfInBounds_toArray, List.set_cons_zero, List.set_cons_succ]
                          rfl
                        refine one_ (i := 5) (N := some 49) #[true, true, true, true, true, true, false] rfl rfl (by kernel_rfl) (by decide) (fun K hK => ?_)
                        refine Kd.N_append_rows_step k30 (w0 := w) w.heap.size (by rfl) (.tmp 46) (.tmp 48) 23 30 (.agg #[(.string ⟨#[]⟩), (.slice none 0 0)]) 40 rfl Try.underlying23 info30 rfl (by decide) (by omega) v261 y260 y263 _ _ _ (fun k_ => some k_ ≠ (.slice Ao10 t237.length co10 : Value).ownBlock ∧ k_ ≠ gb244) (fun k_ => ((fun k_ => some k_ ≠ (.slice Ao10 t237.length co10 : Value).ownBlock ∧ k_ ≠ gb244)) k_ ∧ some k_ ≠ (v261 : Value).ownBlock) rfl rfl ?aO ?aR (fun _ hk => hk) ?aF ?aB ?aS ?aL ?_
                        (case aR => exact (by skip; exact Kd.N_F (Kd.N_mono (ok' := (fun k_ => ((fun k_ => some k_ ≠ (.slice Ao10 t237.length co10 : Value).ownBlock ∧ k_ ≠ gb244)) k_ ∧ some k_ ≠ (v261 : Value).ownBlock)) (HO265.out) (fun k_ hk => ⟨⟨(gives hk), (gives hk)⟩, hk.1⟩))))
                        (case aB => exact (by repeat (first | (with_reducible first | exact HB.out | apply below_alloc | apply pw_below_drewN | apply below_drew1 | refine below_set ?_ GE244.out) | exact HB.out)))
                        (case aF => exact (fun k_ hk => ⟨Kd.fresh' (Kd.N_lt (by (with_reducible repeat (first | apply Kd.N_alloc | apply Kd.N_drewN | apply Kd.N_drew)); exact HO_3.out)) k_ hk, Kd.freshB (g := gb244) (o := .cells #[.string t240, .slice Ao9 t241.length co9] 30 (0, 0)) (by (with_reducible repeat (first | refine blk_drewN ?_ _ | refine blk_drew ?_ | refine blk_alloc ?_ _)); exact BK244.out) k_ hk⟩))
                        (case aO => exact (by (with_reducible repeat (first | apply Kd.N_alloc | apply Kd.N_drewN | apply Kd.N_drew)); exact Kd.N_mono HO262.out (fun _ hk => ⟨(gives hk), (gives hk)⟩)))
                        (case aS => exact (below_size (by repeat (first | (with_reducible first | exact HB.out | apply below_alloc | apply pw_below_drewN | apply below_drew1 | refine below_set ?_ GE244.out) | exact HB.out))))
                        (case aL => have := LMc32.out; omega)
                        intro v267 w46 ho hb hg hat
                        rw [← Ny266.out] at ho
                        have n0_ := Aside0.mk (Kd.N_afterv (ok := (fun k_ => some k_ ≠ (.slice Ao38 x6_2.length co38 : Value).ownBlock ∧ some k_ ≠ (.slice Ao47 y263.length co47 : Value).ownBlock ∧ k_ ≠ gb244)) (by (with_reducible repeat (first | apply Kd.N_alloc | apply Kd.N_drewN | apply Kd.N_drew)); exact Kd.N_mono HO_3.out (fun _ hk => ⟨⟨(gives hk), ⟨(gives hk), (gives hk)⟩⟩, hk.1⟩)) hg hat)
                        have n1_ := Aside0.mk (Kd.N_afterv (ok := (fun k_ => some k_ ≠ (.slice Ao10 t237.length co10 : Value).ownBlock ∧ some k_ ≠ (.slice Ao47 y263.length co47 : Value).ownBlock ∧ k_ ≠ gb244)) (by (with_reducible repeat (first | apply Kd.N_alloc | apply Kd.N_drewN | apply Kd.N_drew)); exact Kd.N_mono HO_6.out (fun _ hk => ⟨⟨(gives hk), ⟨(gives hk), (gives hk)⟩⟩, hk.1⟩)) hg hat)
                        have n2_ := Aside0.mk (blk_grown (g := gb244) (o := .cells #[.string t240, .slice Ao9 t241.length co9] 30 (0, 0)) (by (with_reducible repeat (first | refine blk_drewN ?_ _ | refine blk_drew ?_ | refine blk_alloc ?_ _)); exact BK244.out) hg (Kd.N_away HO262.out (fun _ hk => (gives hk))))
                        have n3_ := Aside0.mk (Kd.N_afterv (ok := (fun k_ => some k_ ≠ (.slice Ao10 t237.length co10 : Value).ownBlock ∧ some k_ ≠ (.slice Ao38 x6_2.length co38 : Value).ownBlock ∧ k_ ≠ gb244)) (by (with_reducible repeat (first | apply Kd.N_alloc | apply Kd.N_drewN | apply Kd.N_drew)); exact Kd.N_mono HO265.out (fun _ hk => ⟨⟨(gives hk), ⟨(gives hk), (gives hk)⟩⟩, hk.1⟩)) hg hat)
                        have n4_ := Aside0.mk (hb)
                        have n5_ := Aside0.mk (ho)
                        clear HO_3
                        clear HO_6
                        clear BK244
                        clear HO265
                        clear HB
                        clear HO262
                        have HO_3 := n0_
                        have HO_6 := n1_
                        have BK244 := n2_
                        have HO265 := n3_
                        have HB := n4_
                        have HO268 := n5_
                        clear n0_ n1_ n2_ n3_ n4_ n5_
                        clear ho hb hg hat
                        refine hK.out _ _ ⟨(blk_cell BK244.out 0).trans rfl, (blk_cell BK244.out 1).trans rfl⟩ (fun hHeld => ?_)
                        clear hK K
                        refine norm_ (a' := ?_) ?_ ?_
                        rotate_left
                        · show Act.put _ (some 49) _ = _
                          simp only [Act.put, List.setIfInBounds_toArray, List.set_cons_zero, List.set_cons_succ, i64_w, i32_w]
                          rfl
                        refine pure_ (i := 6) (N := some 8) (v := ?_) (a' := ?_) #[true, true, true, true, true, true, true] rfl rfl (by kernel_rfl) (fun _ _ _ h => h) (Or.inl ⟨by rfl, ?_⟩) ?_ ?_
                        rotate_left
                        · intro w'
                          go_simp
                          with_reducible rfl
                        rotate_left
                        · simp only [Act.put, List.setIfInBounds_toArray, List.set_cons_zero, List.set_cons_succ, i64_w, i32_w]
                          rfl
                        refine done_ (by kernel_rfl) ?_
                        have hcz48_0 : w46.cell? ⟨gb244, 0, none⟩ = some (.string t240) := (blk_cell BK244.out 0).trans rfl
                        have hcz48_1 : w46.cell? ⟨gb244, 1, none⟩ = some (.slice Ao9 t241.length co9) := (blk_cell BK244.out 1).trans rfl
                        have hfz48_0 := blk_frozen BK244.out 0
                        have hfz48_1 := blk_frozen BK244.out 1
                        try go_wp2_with (first | ((with_reducible refine gate_callee (f := 14) rfl ?_); refine goesL_ (some 54) rfl rfl Try.func14 (by kernel_rfl) rfl #[.slice Ao10 t237.length co10, .string t240] rfl (by (try simp only [List.map_toArray, List.map_cons, List.map_nil]); first | done | rfl | (simp only [List.length_drop, List.length_take]; rfl)) ?_; (with_reducible refine (impl_CallsOf.calls k2 _ _ t237 t240 t269 _ ?side1 ?side2 A33.out).mono ?_); (case side1 => repeat (first | exact (Kd.N_reads' HO_3.out).2.2 | (with_reducible refine Kd.C_alloc ?_ _) | (with_reducible refine Kd.C_drewN ?_ _) | (with_reducible refine Kd.C_drew ?_))); (case side2 => exact (Kd.N_reads' HO_3.out).2.1); rintro e w49 ⟨v270, rfl, ho0, hb⟩; refine ⟨_, rfl, ?_⟩; have n0_ := Aside0.mk (Kd.N_elder' (by (with_reducible repeat (first | apply Kd.N_alloc | apply Kd.N_drewN | apply Kd.N_drew)); exact HO_3.out) (Kd.S_base ho0) hb); have n1_ := Aside0.mk (Kd.N_elder' (by (with_reducible repeat (first | apply Kd.N_alloc | apply Kd.N_drewN | apply Kd.N_drew)); exact HO_6.out) (Kd.S_base ho0) hb); have n2_ := Aside0.mk (Kd.N_elder' (by (with_reducible repeat (first | apply Kd.N_alloc | apply Kd.N_drewN | apply Kd.N_drew)); exact HO265.out) (Kd.S_base ho0) hb); have n3_ := Aside0.mk (Kd.N_elder' (by (with_reducible repeat (first | apply Kd.N_alloc | apply Kd.N_drewN | apply Kd.N_drew)); exact HO268.out) (Kd.S_base ho0) hb); have n4_ := Aside0.mk (Kd.N_lower (Kd.N_mono (ok' := fun k_ => some k_ ≠ (.slice Ao10 t237.length co10 : Value).ownBlock ∧ some k_ ≠ (.slice Ao38 x6_2.length co38 : Value).ownBlock ∧ some k_ ≠ (.slice Ao47 y263.length co47 : Value).ownBlock ∧ some k_ ≠ (v267 : Value).ownBlock ∧ k_ ≠ gb244) (Kd.S_N (Kd.S_bound ho0)) (fun k_ hk_ => ⟨(Kd.fresh' (Kd.N_lt (by (with_reducible repeat (first | apply Kd.N_alloc | apply Kd.N_drewN | apply Kd.N_drew)); exact HO_3.out)) k_ hk_.2.1), (Kd.fresh' (Kd.N_lt (by (with_reducible repeat (first | apply Kd.N_alloc | apply Kd.N_drewN | apply Kd.N_drew)); exact HO_6.out)) k_ hk_.2.1), (Kd.fresh' (Kd.N_lt (by (with_reducible repeat (first | apply Kd.N_alloc | apply Kd.N_drewN | apply Kd.N_drew)); exact HO265.out)) k_ hk_.2.1), (Kd.fresh' (Kd.N_lt (by (with_reducible repeat (first | apply Kd.N_alloc | apply Kd.N_drewN | apply Kd.N_drew)); exact HO268.out)) k_ hk_.2.1), (Kd.freshB (g := gb244) (o := .cells #[.string t240, .slice Ao9 t241.length co9] 30 (0, 0)) (by (with_reducible repeat (first | refine blk_drewN ?_ _ | refine blk_drew ?_ | refine blk_alloc ?_ _)); exact BK244.out) k_ hk_.2.1)⟩)) (below_size (by repeat (first | (with_reducible first | exact HB.out | apply below_alloc | apply pw_below_drewN | apply below_drew1 | refine below_set ?_ GE244.out) | exact HB.out)))); have n5_ := Aside0.mk (blk_below (g := gb244) (o := .cells #[.string t240, .slice Ao9 t241.length co9] 30 (0, 0)) (by (with_reducible repeat (first | refine blk_drewN ?_ _ | refine blk_drew ?_ | refine blk_alloc ?_ _)); exact BK244.out) hb); have n6_ := Aside0.mk (below_step (by repeat (first | (with_reducible first | exact HB.out | apply below_alloc | apply pw_below_drewN | apply below_drew1 | refine below_set ?_ GE244.out) | exact HB.out)) hb); clear HO_3; clear HO_6; clear HO265; clear HO268; clear BK244; clear HB; have HO_3 := n0_; have HO_6 := n1_; have HO265 := n2_; have HO268 := n3_; have HO271 := n4_; have BK244 := n5_; have HB := n6_; clear n0_ n1_ n2_ n3_ n4_ n5_ n6_; (try clear hb); (try clear hb2); (try clear hk); (try clear hi); (try clear ho0); obtain ⟨Ao50, co50, eo50⟩ := Kd.N_slice HO271.out; subst eo50) | (go_at_call 14; (with_reducible refine (impl_CallsOf.calls k2 _ _ t237 t240 t269 _ ?side1 ?side2 A33.out).mono ?_); (case side1 => repeat (first | exact (Kd.N_reads' HO_3.out).2.2 | (with_reducible refine Kd.C_alloc ?_ _) | (with_reducible refine Kd.C_drewN ?_ _) | (with_reducible refine Kd.C_drew ?_))); (case side2 => exact (Kd.N_reads' HO_3.out).2.1); rintro e w49 ⟨v270, rfl, ho0, hb⟩; have n0_ := Aside0.mk (Kd.N_elder' (by (with_reducible repeat (first | apply Kd.N_alloc | apply Kd.N_drewN | apply Kd.N_drew)); exact HO_3.out) (Kd.S_base ho0) hb); have n1_ := Aside0.mk (Kd.N_elder' (by (with_reducible repeat (first | apply Kd.N_alloc | apply Kd.N_drewN | apply Kd.N_drew)); exact HO_6.out) (Kd.S_base ho0) hb); have n2_ := Aside0.mk (Kd.N_elder' (by (with_reducible repeat (first | apply Kd.N_alloc | apply Kd.N_drewN | apply Kd.N_drew)); exact HO265.out) (Kd.S_base ho0) hb); have n3_ := Aside0.mk (Kd.N_elder' (by (with_reducible repeat (first | apply Kd.N_alloc | apply Kd.N_drewN | apply Kd.N_drew)); exact HO268.out) (Kd.S_base ho0) hb); have n4_ := Aside0.mk (Kd.N_lower (Kd.N_mono (ok' := fun k_ => some k_ ≠ (.slice Ao10 t237.length co10 : Value).ownBlock ∧ some k_ ≠ (.slice Ao38 x6_2.length co38 : Value).ownBlock ∧ some k_ ≠ (.slice Ao47 y263.length co47 : Value).ownBlock ∧ some k_ ≠ (v267 : Value).ownBlock ∧ k_ ≠ gb244) (Kd.S_N (Kd.S_bound ho0)) (fun k_ hk_ => ⟨(Kd.fresh' (Kd.N_lt (by (with_reducible repeat (first | apply Kd.N_alloc | apply Kd.N_drewN | apply Kd.N_drew)); exact HO_3.out)) k_ hk_.2.1), (Kd.fresh' (Kd.N_lt (by (with_reducible repeat (first | apply Kd.N_alloc | apply Kd.N_drewN | apply Kd.N_drew)); exact HO_6.out)) k_ hk_.2.1), (Kd.fresh' (Kd.N_lt (by (with_reducible repeat (first | apply Kd.N_alloc | apply Kd.N_drewN | apply Kd.N_drew)); exact HO265.out)) k_ hk_.2.1), (Kd.fresh' (Kd.N_lt (by (with_reducible repeat (first | apply Kd.N_alloc | apply Kd.N_drewN | apply Kd.N_drew)); exact HO268.out)) k_ hk_.2.1), (Kd.freshB (g := gb244) (o := .cells #[.string t240, .slice Ao9 t241.length co9] 30 (0, 0)) (by (with_reducible repeat (first | refine blk_drewN ?_ _ | refine blk_drew ?_ | refine blk_alloc ?_ _)); exact BK244.out) k_ hk_.2.1)⟩)) (below_size (by repeat (first | (with_reducible first | exact HB.out | apply below_alloc | apply pw_below_drewN | apply below_drew1 | refine below_set ?_ GE244.out) | exact HB.out)))); have n5_ := Aside0.mk (blk_below (g := gb244) (o := .cells #[.string t240, .slice Ao9 t241.length co9] 30 (0, 0)) (by (with_reducible repeat (first | refine blk_drewN ?_ _ | refine blk_drew ?_ | refine blk_alloc ?_ _)); exact BK244.out) hb); have n6_ := Aside0.mk (below_step (by repeat (first | (with_reducible first | exact HB.out | apply below_alloc | apply pw_below_drewN | apply below_drew1 | refine below_set ?_ GE244.out) | exact HB.out)) hb); clear HO_3; clear HO_6; clear HO265; clear HO268; clear BK244; clear HB; have HO_3 := n0_; have HO_6 := n1_; have HO265 := n2_; have HO268 := n3_; have HO271 := n4_; have BK244 := n5_; have HB := n6_; clear n0_ n1_ n2_ n3_ n4_ n5_ n6_; (try clear hb); (try clear hb2); (try clear hk); (try clear hi); (try clear ho0); obtain ⟨Ao50, co50, eo50⟩ := Kd.N_slice HO271.out; subst eo50) | (go_at_call 14; (with_reducible refine (impl_CallsOf.calls k2 _ _ t237 t240 t269 _ ?side1 ?side2 A33.out).mono ?_); (case side1 => repeat (first | exact (Kd.N_reads' HO_3.out).2.2 | (with_reducible refine Kd.C_alloc ?_ _) | (with_reducible refine Kd.C_drewN ?_ _) | (with_reducible refine Kd.C_drew ?_))); (case side2 => exact (Kd.N_reads' HO_3.out).2.1); rintro e w49 ⟨v270, rfl, ho0, hb⟩; have n0_ := Aside0.mk (Kd.N_elder' (by (with_reducible repeat (first | apply Kd.N_alloc | apply Kd.N_drewN | apply Kd.N_drew)); exact HO_3.out) (Kd.S_base ho0) hb); have n1_ := Aside0.mk (Kd.N_elder' (by (with_reducible repeat (first | apply Kd.N_alloc | apply Kd.N_drewN | apply Kd.N_drew)); exact HO_6.out) (Kd.S_base ho0) hb); have n2_ := Aside0.mk (Kd.N_elder' (by (with_reducible repeat (first | apply Kd.N_alloc | apply Kd.N_drewN | apply Kd.N_drew)); exact HO265.out) (Kd.S_base ho0) hb); have n3_ := Aside0.mk (Kd.N_elder' (by (with_reducible repeat (first | apply Kd.N_alloc | apply Kd.N_drewN | apply Kd.N_drew)); exact HO268.out) (Kd.S_base ho0) hb); have n4_ := Aside0.mk (Kd.N_lower (Kd.N_mono (ok' := fun k_ => some k_ ≠ (.slice Ao10 t237.length co10 : Value).ownBlock ∧ some k_ ≠ (.slice Ao38 x6_2.length co38 : Value).ownBlock ∧ some k_ ≠ (.slice Ao47 y263.length co47 : Value).ownBlock ∧ some k_ ≠ (v267 : Value).ownBlock ∧ k_ ≠ gb244) (Kd.S_N (Kd.S_bound ho0)) (fun k_ hk_ => ⟨(Kd.fresh' (Kd.N_lt (by (with_reducible repeat (first | apply Kd.N_alloc | apply Kd.N_drewN | apply Kd.N_drew)); exact HO_3.out)) k_ hk_.2.1), (Kd.fresh' (Kd.N_lt (by (with_reducible repeat (first | apply Kd.N_alloc | apply Kd.N_drewN | apply Kd.N_drew)); exact HO_6.out)) k_ hk_.2.1), (Kd.fresh' (Kd.N_lt (by (with_reducible repeat (first | apply Kd.N_alloc | apply Kd.N_drewN | apply Kd.N_drew)); exact HO265.out)) k_ hk_.2.1), (Kd.fresh' (Kd.N_lt (by (with_reducible repeat (first | apply Kd.N_alloc | apply Kd.N_drewN | apply Kd.N_drew)); exact HO268.out)) k_ hk_.2.1), (Kd.freshB (g := gb244) (o := .cells #[.string t240, .slice Ao9 t241.length co9] 30 (0, 0)) (by (with_reducible repeat (first | refine blk_drewN ?_ _ | refine blk_drew ?_ | refine blk_alloc ?_ _)); exact BK244.out) k_ hk_.2.1)⟩)) (below_size (by repeat (first | (with_reducible first | exact HB.out | apply below_alloc | apply pw_below_drewN | apply below_drew1 | refine below_set ?_ GE244.out) | exact HB.out)))); have n5_ := Aside0.mk (blk_below (g := gb244) (o := .cells #[.string t240, .slice Ao9 t241.length co9] 30 (0, 0)) (by (with_reducible repeat (first | refine blk_drewN ?_ _ | refine blk_drew ?_ | refine blk_alloc ?_ _)); exact BK244.out) hb); have n6_ := Aside0.mk (below_step (by repeat (first | (with_reducible first | exact HB.out | apply below_alloc | apply pw_below_drewN | apply below_drew1 | refine below_set ?_ GE244.out) | exact HB.out)) hb); clear HO_3; clear HO_6; clear HO265; clear HO268; clear BK244; clear HB; have HO_3 := n0_; have HO_6 := n1_; have HO265 := n2_; have HO268 := n3_; have HO271 := n4_; have BK244 := n5_; have HB := n6_; clear n0_ n1_ n2_ n3_ n4_ n5_ n6_; (try clear hb); (try clear hb2); (try clear hk); (try clear hi); (try clear ho0); obtain ⟨Ao50, co50, eo50⟩ := Kd.N_slice HO271.out; subst eo50) | (go_at_call 14; (with_reducible refine (impl_CallsOf.calls k2 _ _ t237 t240 t269 _ ?side1 ?side2 A33.out).mono ?_); (case side1 => repeat (first | exact (Kd.N_reads' HO_3.out).2.2 | (with_reducible refine Kd.C_alloc ?_ _) | (with_reducible refine Kd.C_drewN ?_ _) | (with_reducible refine Kd.C_drew ?_))); (case side2 => exact (Kd.N_reads' HO_3.out).2.1); rintro e w49 ⟨v270, rfl, ho0, hb⟩; have n0_ := Aside0.mk (Kd.N_elder' (by (with_reducible repeat (first | apply Kd.N_alloc | apply Kd.N_drewN | apply Kd.N_drew)); exact HO_3.out) (Kd.S_base ho0) hb); have n1_ := Aside0.mk (Kd.N_elder' (by (with_reducible repeat (first | apply Kd.N_alloc | apply Kd.N_drewN | apply Kd.N_drew)); exact HO_6.out) (Kd.S_base ho0) hb); have n2_ := Aside0.mk (Kd.N_elder' (by (with_reducible repeat (first | apply Kd.N_alloc | apply Kd.N_drewN | apply Kd.N_drew)); exact HO265.out) (Kd.S_base ho0) hb); have n3_ := Aside0.mk (Kd.N_elder' (by (with_reducible repeat (first | apply Kd.N_alloc | apply Kd.N_drewN | apply Kd.N_drew)); exact HO268.out) (Kd.S_base ho0) hb); have n4_ := Aside0.mk (Kd.N_lower (Kd.N_mono (ok' := fun k_ => some k_ ≠ (.slice Ao10 t237.length co10 : Value).ownBlock ∧ some k_ ≠ (.slice Ao38 x6_2.length co38 : Value).ownBlock ∧ some k_ ≠ (.slice Ao47 y263.length co47 : Value).ownBlock ∧ some k_ ≠ (v267 : Value).ownBlock ∧ k_ ≠ gb244) (Kd.S_N (Kd.S_bound ho0)) (fun k_ hk_ => ⟨(Kd.fresh' (Kd.N_lt (by (with_reducible repeat (first | apply Kd.N_alloc | apply Kd.N_drewN | apply Kd.N_drew)); exact HO_3.out)) k_ hk_.2.1), (Kd.fresh' (Kd.N_lt (by (with_reducible repeat (first | apply Kd.N_alloc | apply Kd.N_drewN | apply Kd.N_drew)); exact HO_6.out)) k_ hk_.2.1), (Kd.fresh' (Kd.N_lt (by (with_reducible repeat (first | apply Kd.N_alloc | apply Kd.N_drewN | apply Kd.N_drew)); exact HO265.out)) k_ hk_.2.1), (Kd.fresh' (Kd.N_lt (by (with_reducible repeat (first | apply Kd.N_alloc | apply Kd.N_drewN | apply Kd.N_drew)); exact HO268.out)) k_ hk_.2.1), (Kd.freshB (g := gb244) (o := .cells #[.string t240, .slice Ao9 t241.length co9] 30 (0, 0)) (by (with_reducible repeat (first | refine blk_drewN ?_ _ | refine blk_drew ?_ | refine blk_alloc ?_ _)); exact BK244.out) k_ hk_.2.1)⟩)) (below_size (by repeat (first | (with_reducible first | exact HB.out | apply below_alloc | apply pw_below_drewN | apply below_drew1 | refine below_set ?_ GE244.out) | exact HB.out)))); have n5_ := Aside0.mk (blk_below (g := gb244) (o := .cells #[.string t240, .slice Ao9 t241.length co9] 30 (0, 0)) (by (with_reducible repeat (first | refine blk_drewN ?_ _ | refine blk_drew ?_ | refine blk_alloc ?_ _)); exact BK244.out) hb); have n6_ := Aside0.mk (below_step (by repeat (first | (with_reducible first | exact HB.out | apply below_alloc | apply pw_below_drewN | apply below_drew1 | refine below_set ?_ GE244.out) | exact HB.out)) hb); clear HO_3; clear HO_6; clear HO265; clear HO268; clear BK244; clear HB; have HO_3 := n0_; have HO_6 := n1_; have HO265 := n2_; have HO268 := n3_; have HO271 := n4_; have BK244 := n5_; have HB := n6_; clear n0_ n1_ n2_ n3_ n4_ n5_ n6_; (try clear hb); (try clear hb2); (try clear hk); (try clear hi); (try clear ho0); obtain ⟨Ao50, co50, eo50⟩ := Kd.N_slice HO271.out; subst eo50) | (go_at_call 23; (with_reducible refine (impl_AnyOrder.calls k2 _ _ t237 _ _ x6_2 true _ ?side1 ?side2 ?side3 ?side4 A35.out).mono ?_); (case side1 => repeat (first | exact (Kd.N_reads' HO_3.out).2.2 | (with_reducible refine Kd.C_alloc ?_ _) | (with_reducible refine Kd.C_drewN ?_ _) | (with_reducible refine Kd.C_drew ?_))); (case side2 => exact (Kd.N_reads' HO_3.out).2.1); (case side3 => repeat (first | exact (Kd.N_reads' HO_6.out).2.2 | (with_reducible refine Kd.C_alloc ?_ _) | (with_reducible refine Kd.C_drewN ?_ _) | (with_reducible refine Kd.C_drew ?_))); (case side4 => exact (Kd.N_reads' HO_6.out).2.1); rintro e w51 ⟨rfl, hb⟩; have n0_ := Aside0.mk (Kd.N_below (by (with_reducible repeat (first | apply Kd.N_alloc | apply Kd.N_drewN | apply Kd.N_drew)); exact HO_3.out) hb); have n1_ := Aside0.mk (Kd.N_below (by (with_reducible repeat (first | apply Kd.N_alloc | apply Kd.N_drewN | apply Kd.N_drew)); exact HO_6.out) hb); have n2_ := Aside0.mk (Kd.N_below (by (with_reducible repeat (first | apply Kd.N_alloc | apply Kd.N_drewN | apply Kd.N_drew)); exact HO265.out) hb); have n3_ := Aside0.mk (Kd.N_below (by (with_reducible repeat (first | apply Kd.N_alloc | apply Kd.N_drewN | apply Kd.N_drew)); exact HO268.out) hb); have n4_ := Aside0.mk (Kd.N_below (by (with_reducible repeat (first | apply Kd.N_alloc | apply Kd.N_drewN | apply Kd.N_drew)); exact HO271.out) hb); have n5_ := Aside0.mk (blk_below (g := gb244) (o := .cells #[.string t240, .slice Ao9 t241.length co9] 30 (0, 0)) (by (with_reducible repeat (first | refine blk_drewN ?_ _ | refine blk_drew ?_ | refine blk_alloc ?_ _)); exact BK244.out) hb); have n6_ := Aside0.mk (below_step (by repeat (first | (with_reducible first | exact HB.out | apply below_alloc | apply pw_below_drewN | apply below_drew1 | refine below_set ?_ GE244.out) | exact HB.out)) hb); clear HO_3; clear HO_6; clear HO265; clear HO268; clear HO271; clear BK244; clear HB; have HO_3 := n0_; have HO_6 := n1_; have HO265 := n2_; have HO268 := n3_; have HO271 := n4_; have BK244 := n5_; have HB := n6_; clear n0_ n1_ n2_ n3_ n4_ n5_ n6_; (try clear hb); (try clear hb2); (try clear hk); (try clear hi); obtain ⟨Ao52, co52, eo52⟩ := Kd.N_slice HO268.out; subst eo52) | (go_at_call 23; (with_reducible refine (impl_AnyOrder.calls k2 _ _ t237 _ _ y266 t273 _ ?side1 ?side2 ?side3 ?side4 A37.out).mono ?_); (case side1 => repeat (first | exact (Kd.N_reads' HO_3.out).2.2 | (with_reducible refine Kd.C_alloc ?_ _) | (with_reducible refine Kd.C_drewN ?_ _) | (with_reducible refine Kd.C_drew ?_))); (case side2 => exact (Kd.N_reads' HO_3.out).2.1); (case side3 => repeat (first | exact (Kd.N_reads' HO268.out).2.2 | (with_reducible refine Kd.C_alloc ?_ _) | (with_reducible refine Kd.C_drewN ?_ _) | (with_reducible refine Kd.C_drew ?_))); (case side4 => exact (Kd.N_reads' HO268.out).2.1); rintro e w53 ⟨rfl, hb⟩; have n0_ := Aside0.mk (Kd.N_below (by (with_reducible repeat (first | apply Kd.N_alloc | apply Kd.N_drewN | apply Kd.N_drew)); exact HO_3.out) hb); have n1_ := Aside0.mk (Kd.N_below (by (with_reducible repeat (first | apply Kd.N_alloc | apply Kd.N_drewN | apply Kd.N_drew)); exact HO_6.out) hb); have n2_ := Aside0.mk (Kd.N_below (by (with_reducible repeat (first | apply Kd.N_alloc | apply Kd.N_drewN | apply Kd.N_drew)); exact HO265.out) hb); have n3_ := Aside0.mk (Kd.N_below (by (with_reducible repeat (first | apply Kd.N_alloc | apply Kd.N_drewN | apply Kd.N_drew)); exact HO268.out) hb); have n4_ := Aside0.mk (Kd.N_below (by (with_reducible repeat (first | apply Kd.N_alloc | apply Kd.N_drewN | apply Kd.N_drew)); exact HO271.out) hb); have n5_ := Aside0.mk (blk_below (g := gb244) (o := .cells #[.string t240, .slice Ao9 t241.length co9] 30 (0, 0)) (by (with_reducible repeat (first | refine blk_drewN ?_ _ | refine blk_drew ?_ | refine blk_alloc ?_ _)); exact BK244.out) hb); have n6_ := Aside0.mk (below_step (by repeat (first | (with_reducible first | exact HB.out | apply below_alloc | apply pw_below_drewN | apply below_drew1 | refine below_set ?_ GE244.out) | exact HB.out)) hb); clear HO_3; clear HO_6; clear HO265; clear HO268; clear HO271; clear BK244; clear HB; have HO_3 := n0_; have HO_6 := n1_; have HO265 := n2_; have HO268 := n3_; have HO271 := n4_; have BK244 := n5_; have HB := n6_; clear n0_ n1_ n2_ n3_ n4_ n5_ n6_; (try clear hb); (try clear hb2); (try clear hk); (try clear hi)))
                        go_ret
                        exact ⟨by first | rfl | (simp [errW_none, errW_some] <;> rfl) | (simp [*, errW_none, errW_some] <;> rfl), by repeat (first | (with_reducible first | exact HB.out | apply below_alloc | apply pw_below_drewN | apply below_drew1 | refine below_set ?_ GE244.out) | exact HB.out)⟩
                      · replace c36 := Bool.eq_false_iff.mpr c36
                        subst c36
                        have H1 : (some false) = some r := by rw [if_neg (show ¬ (false = true) by decide)] at H; exact H
                        clear H
                        have H := H1
                        clear H1
                        obtain rfl := Option.some.inj H
                        obtain ⟨Ao54, co54, eo54⟩ := Kd.N_slice HO_6.out
                        subst eo54
                        try go_wp2
                        have n0_ := Aside0.mk (Kd.N_drew HO_3.out)
                        have n1_ := Aside0.mk (Kd.N_drew HO_6.out)
                        have n2_ := Aside0.mk (Kd.R_drew HO_245001.out)
                        have n3_ := Aside0.mk (blk_drew BK244.out)
                        have n4_ := Aside0.mk (below_drew1 HB.out)
                        clear HO_3
                        clear HO_6
                        clear HO_245001
                        clear BK244
                        clear HB
                        have HO_3 := n0_
                        have HO_6 := n1_
                        have HO_245001 := n2_
                        have BK244 := n3_
                        have HB := n4_
                        clear n0_ n1_ n2_ n3_ n4_
                        refine start_ (n := 7) (S := fun w' => w'.cell? ⟨gb244, 0, none⟩ = some (.string t240) ∧ w'.cell? ⟨gb244, 1, none⟩ = some (.slice Ao9 t241.length co9)) (ds := []) #[false, false, false, false, false, false, false] (by kernel_rfl) rfl rfl ⟨(blk_cell BK244.out 0).trans rfl, (blk_cell BK244.out 1).trans rfl⟩ (fun hHeld => ?_)
                        generalize wr.drew = w55 at HO_3 HO_6 HO_245001 BK244 HB hHeld ⊢
                        refine pure_ (i := 1) (N := some 45) (v := ?_) (a' := ?_) #[false, true, false, false, false, false, false] rfl rfl (by kernel_rfl) (fun _ _ _ h => h) (Or.inl ⟨by rfl, ?_⟩) ?_ ?_
                        rotate_left
                        · intro w'
                          go_simp
                          with_reducible rfl
                        rotate_left
                        · simp only [Act.put, List.setIfInBounds_toArray, List.set_cons_zero, List.set_cons_succ, i64_w, i32_w]
                          rfl
                        refine take_ (i := 3) (N := some 47) (v := ?_) (a' := ?_) #[false, true, false, true, false, false, false] rfl rfl (by kernel_rfl) (fun _ _ _ h => h) (Or.inl ⟨by rfl, ?_⟩) hHeld ?_ ?_
                        rotate_left
                        · rintro w' ⟨s0, s1⟩
                          go_simp
                          with_reducible rfl
                        rotate_left
                        · simp only [Act.put, List.setIfInBounds_toArray, List.set_cons_zero, List.set_cons_succ, i64_w, i32_w]
                          rfl
                        refine join_ (σ := Value × Value × Value) 2 #[true, true, true, true, true, false, false] (fun s_ => [(44, s_.1), (46, s_.2.1), (48, s_.2.2)]) (fun s_ w' => (w'.cell? ⟨gb244, 0, none⟩ = some (.string t240) ∧ w'.cell? ⟨gb244, 1, none⟩ = some (.slice Ao9 t241.length co9)) ∧ (Kd.N k30 30 w' w.heap.size (fun k_ => some k_ ≠ (s_.2.2 : Value).ownBlock ∧ some k_ ≠ (.slice Ao10 t237.length co10 : Value).ownBlock ∧ k_ ≠ gb244) s_.2.1 y260) ∧ (Kd.N k30 30 w' w.heap.size (fun k_ => some k_ ≠ (s_.2.1 : Value).ownBlock ∧ some k_ ≠ (.slice Ao10 t237.length co10 : Value).ownBlock ∧ some k_ ≠ (.slice Ao54 x6_2.length co54 : Value).ownBlock ∧ k_ ≠ gb244) s_.2.2 y263) ∧ (Kd.N k30 30 w' w.heap.size (fun k_ => some k_ ≠ (s_.2.1 : Value).ownBlock ∧ some k_ ≠ (s_.2.2 : Value).ownBlock ∧ some k_ ≠ (.slice Ao54 x6_2.length co54 : Value).ownBlock ∧ k_ ≠ gb244) (.slice Ao10 t237.length co10) t237) ∧ (Kd.N k30 30 w' w.heap.size (fun k_ => some k_ ≠ (s_.2.1 : Value).ownBlock ∧ some k_ ≠ (s_.2.2 : Value).ownBlock ∧ some k_ ≠ (.slice Ao10 t237.length co10 : Value).ownBlock ∧ k_ ≠ gb244) (.slice Ao54 x6_2.length co54) x6_2) ∧ (w'.heap[gb244]? = some (.cells #[.string t240, .slice Ao9 t241.length co9] 30 (0, 0))) ∧ (Below w.heap.size w w')) ?_ ?_
                        rotate_left
                        · intro hCont
                          refine two_ (i := 0) (j := 4) (Ni := some 44) (Nj := some 48) #[true, true, false, true, false, false, false] #[false, true, false, true, true, false, false] rfl rfl rfl rfl (by kernel_rfl) (by decide) (by decide) (fun K hK => ?_) (fun K hK => ?_)
                          · skip
                            refine Kd.N_lit_step k30 _ 30 ?hg (N' := 44) ?hd (xs := ([] : List (S30))) (inner := []) (ok := (fun k_ => some k_ ≠ (.slice Ao10 t237.length co10 : Value).ownBlock ∧ some k_ ≠ (.slice Ao54 x6_2.length co54 : Value).ownBlock ∧ some k_ ≠ (.slice Ao9 t241.length co9 : Value).ownBlock ∧ k_ ≠ gb244)) (okp := (fun k_ => some k_ ≠ (.slice Ao10 t237.length co10 : Value).ownBlock ∧ some k_ ≠ (.slice Ao54 x6_2.length co54 : Value).ownBlock ∧ some k_ ≠ (.slice Ao9 t241.length co9 : Value).ownBlock ∧ k_ ≠ gb244)) ?hr ?hp (fun _ hk => hk) ((show ∀ k_, w55.heap.size ≤ k_ → (fun k_ => some k_ ≠ (.slice Ao10 t237.length co10 : Value).ownBlock ∧ some k_ ≠ (.slice Ao54 x6_2.length co54 : Value).ownBlock ∧ some k_ ≠ (.slice Ao9 t241.length co9 : Value).ownBlock ∧ k_ ≠ gb244) k_ from fun k_ hk => ⟨Kd.fresh' (Kd.N_lt (by (with_reducible repeat (first | apply Kd.N_alloc | apply Kd.N_drewN | apply Kd.N_drew)); exact HO_3.out)) k_ hk, Kd.fresh' (Kd.N_lt (by (with_reducible repeat (first | apply Kd.N_alloc | apply Kd.N_drewN | apply Kd.N_drew)); exact HO_6.out)) k_ hk, Kd.fresh' (Kd.R_lt (by (with_reducible repeat (first | apply Kd.R_alloc | apply Kd.R_drewN | apply Kd.R_drew)); exact HO_245001.out)) k_ hk, Kd.freshB (g := gb244) (o := .cells #[.string t240, .slice Ao9 t241.length co9] 30 (0, 0)) (by (with_reducible repeat (first | refine blk_drewN ?_ _ | refine blk_drew ?_ | refine blk_alloc ?_ _)); exact BK244.out) k_ hk⟩) _ (Nat.le_refl _)) (Below.refl _ _) (Nat.le_refl _) (by simp) ?_; (case hd => rfl); (case hg => rfl); (case hr => first | (go_simp; done) | (go_simp; rfl)); (case hp => exact (Reps.none _ _))
                            intro v258 w56 ho57 hb hg_ hnew_
                            clear hg_ hnew_
                            (first | rw [← Ny257.out] at ho57 | (simp only [Int.reduceToNat] at ho57; rw [← Ny257.out] at ho57))
                            have n0_ := Aside0.mk (Kd.N_elder' (by (with_reducible repeat (first | apply Kd.N_alloc | apply Kd.N_drewN | apply Kd.N_drew)); exact HO_3.out) (Kd.N_base ho57) hb)
                            have n1_ := Aside0.mk (Kd.N_elder' (by (with_reducible repeat (first | apply Kd.N_alloc | apply Kd.N_drewN | apply Kd.N_drew)); exact HO_6.out) (Kd.N_base ho57) hb)
                            have n2_ := Aside0.mk (Kd.R_below (by (with_reducible repeat (first | apply Kd.R_alloc | apply Kd.R_drewN | apply Kd.R_drew)); exact HO_245001.out) hb)
                            have n3_ := Aside0.mk (Kd.N_lower ho57 (below_size (by repeat (first | (with_reducible first | exact HB.out | apply below_alloc | apply pw_below_drewN | apply below_drew1 | refine below_set ?_ GE244.out) | exact HB.out))))
                            have n4_ := Aside0.mk (blk_below (g := gb244) (o := .cells #[.string t240, .slice Ao9 t241.length co9] 30 (0, 0)) (by (with_reducible repeat (first | refine blk_drewN ?_ _ | refine blk_drew ?_ | refine blk_alloc ?_ _)); exact BK244.out) hb)
                            have n5_ := Aside0.mk (below_step (by repeat (first | (with_reducible first | exact HB.out | apply below_alloc | apply pw_below_drewN | apply below_drew1 | refine below_set ?_ GE244.out) | exact HB.out)) hb)
                            clear HO_3
                            clear HO_6
                            clear HO_245001
                            clear BK244
                            clear HB
                            have HO_3 := n0_
                            have HO_6 := n1_
                            have HO_245001 := n2_
                            have HO259 := n3_
                            have BK244 := n4_
                            have HB := n5_
                            clear n0_ n1_ n2_ n3_ n4_ n5_
                            clear hb ho57
                            refine hK.out _ _ ⟨(blk_cell BK244.out 0).trans rfl, (blk_cell BK244.out 1).trans rfl⟩ (fun hHeld => ?_)
                            clear hK K
                            refine norm_ (a' := ?_) ?_ ?_
                            rotate_left
                            · show Act.put _ (some 44) _ = _
                              simp only [Act.put, List.setIfInBounds_toArray, List.set_cons_zero, List.set_cons_succ, i64_w, i32_w]
                              rfl
                            refine two_ (i := 2) (j := 4) (Ni := some 46) (Nj := some 48) #[true, true, true, true, false, false, false] #[true, true, false, true, true, false, false] rfl rfl rfl rfl (by kernel_rfl) (by decide) (by decide) (fun K hK => ?_) (fun K hK => ?_)
                            · skip
                              refine Kd.N_append_rows_step k30 (w0 := w) w.heap.size (by rfl) (.tmp 44) (.tmp 45) 23 30 (.agg #[(.string ⟨#[]⟩), (.slice none 0 0)]) 40 rfl Try.underlying23 info30 rfl (by decide) (by omega) v258 y257 x6_2 _ _ _ (fun k_ => some k_ ≠ (.slice Ao10 t237.length co10 : Value).ownBlock ∧ k_ ≠ gb244) (fun k_ => ((fun k_ => some k_ ≠ (.slice Ao10 t237.length co10 : Value).ownBlock ∧ k_ ≠ gb244)) k_ ∧ some k_ ≠ (v258 : Value).ownBlock) rfl rfl ?aO ?aR (fun _ hk => hk) ?aF ?aB ?aS ?aL ?_
                              (case aR => exact (by skip; exact Kd.N_F (Kd.N_mono (ok' := (fun k_ => ((fun k_ => some k_ ≠ (.slice Ao10 t237.length co10 : Value).ownBlock ∧ k_ ≠ gb244)) k_ ∧ some k_ ≠ (v258 : Value).ownBlock)) (HO_6.out) (fun k_ hk => ⟨⟨(gives hk), (gives hk)⟩, hk.2⟩))))
                              (case aB => exact (by repeat (first | (with_reducible first | exact HB.out | apply below_alloc | apply pw_below_drewN | apply below_drew1 | refine below_set ?_ GE244.out) | exact HB.out)))
                              (case aF => exact (fun k_ hk => ⟨Kd.fresh' (Kd.N_lt (by (with_reducible repeat (first | apply Kd.N_alloc | apply Kd.N_drewN | apply Kd.N_drew)); exact HO_3.out)) k_ hk, Kd.freshB (g := gb244) (o := .cells #[.string t240, .slice Ao9 t241.length co9] 30 (0, 0)) (by (with_reducible repeat (first | refine blk_drewN ?_ _ | refine blk_drew ?_ | refine blk_alloc ?_ _)); exact BK244.out) k_ hk⟩))
                              (case aO => exact (by (with_reducible repeat (first | apply Kd.N_alloc | apply Kd.N_drewN | apply Kd.N_drew)); exact Kd.N_mono HO259.out (fun _ hk => ⟨hk.1, (gives hk)⟩)))
                              (case aS => exact (below_size (by repeat (first | (with_reducible first | exact HB.out | apply below_alloc | apply pw_below_drewN | apply below_drew1 | refine below_set ?_ GE244.out) | exact HB.out))))
                              (case aL => have := LMc31.out; omega)
                              intro v261 w58 ho hb hg hat
                              rw [← Ny260.out] at ho
                              have n0_ := Aside0.mk (Kd.N_afterv (ok := (fun k_ => some k_ ≠ (.slice Ao54 x6_2.length co54 : Value).ownBlock ∧ k_ ≠ gb244)) (by (with_reducible repeat (first | apply Kd.N_alloc | apply Kd.N_drewN | apply Kd.N_drew)); exact HO_3.out) hg hat)
                              have n1_ := Aside0.mk (Kd.N_afterv (ok := (fun k_ => some k_ ≠ (.slice Ao10 t237.length co10 : Value).ownBlock ∧ k_ ≠ gb244)) (by (with_reducible repeat (first | apply Kd.N_alloc | apply Kd.N_drewN | apply Kd.N_drew)); exact HO_6.out) hg hat)
                              have n2_ := Aside0.mk (Kd.R_over' (by (with_reducible repeat (first | apply Kd.R_alloc | apply Kd.R_drewN | apply Kd.R_drew)); exact HO_245001.out) (Kd.N_typed (by (with_reducible repeat (first | apply Kd.N_alloc | apply Kd.N_drewN | apply Kd.N_drew)); exact HO259.out)) (by decide) hg)
                              have n3_ := Aside0.mk (blk_grown (g := gb244) (o := .cells #[.string t240, .slice Ao9 t241.length co9] 30 (0, 0)) (by (with_reducible repeat (first | refine blk_drewN ?_ _ | refine blk_drew ?_ | refine blk_alloc ?_ _)); exact BK244.out) hg (Kd.N_away HO259.out (fun _ hk => (gives hk))))
                              have n4_ := Aside0.mk (hb)
                              have n5_ := Aside0.mk (ho)
                              clear HO_3
                              clear HO_6
                              clear HO_245001
                              clear BK244
                              clear HB
                              clear HO259
                              have HO_3 := n0_
                              have HO_6 := n1_
                              have HO_245001 := n2_
                              have BK244 := n3_
                              have HB := n4_
                              have HO262 := n5_
                              clear n0_ n1_ n2_ n3_ n4_ n5_
                              clear ho hb hg hat
                              refine hK.out _ _ ⟨(blk_cell BK244.out 0).trans rfl, (blk_cell BK244.out 1).trans rfl⟩ (fun hHeld => ?_)
                              clear hK K
                              refine norm_ (a' := ?_) ?_ ?_
                              rotate_left
                              · show Act.put _ (some 46) _ = _
                                simp only [Act.put, List.setIfInBounds_toArray, List.set_cons_zero, List.set_cons_succ, i64_w, i32_w]
                                rfl
                              refine one_ (i := 4) (N := some 48) #[true, true, true, true, true, false, false] rfl rfl (by kernel_rfl) (by decide) (fun K hK => ?_)
                              refine Kd.N_lit_step k30 _ 30 ?hg (N' := 48) ?hd (xs := ([(⟨t240, t241⟩ : S30)] : List (S30))) (inner := [.string t240, .slice Ao9 t241.length co9]) (ok := (fun k_ => some k_ ≠ (.slice Ao10 t237.length co10 : Value).ownBlock ∧ some k_ ≠ (.slice Ao54 x6_2.length co54 : Value).ownBlock ∧ some k_ ≠ (v261 : Value).ownBlock ∧ k_ ≠ gb244)) (okp := (fun k_ => some k_ ≠ (.slice Ao10 t237.length co10 : Value).ownBlock ∧ some k_ ≠ (.slice Ao54 x6_2.length co54 : Value).ownBlock ∧ some k_ ≠ (v261 : Value).ownBlock ∧ k_ ≠ gb244)) ?hr ?hp (fun _ hk => hk) ((show ∀ k_, w58.heap.size ≤ k_ → (fun k_ => some k_ ≠ (.slice Ao10 t237.length co10 : Value).ownBlock ∧ some k_ ≠ (.slice Ao54 x6_2.length co54 : Value).ownBlock ∧ some k_ ≠ (v261 : Value).ownBlock ∧ k_ ≠ gb244) k_ from fun k_ hk => ⟨Kd.fresh' (Kd.N_lt (by (with_reducible repeat (first | apply Kd.N_alloc | apply Kd.N_drewN | apply Kd.N_drew)); exact HO_3.out)) k_ hk, Kd.fresh' (Kd.N_lt (by (with_reducible repeat (first | apply Kd.N_alloc | apply Kd.N_drewN | apply Kd.N_drew)); exact HO_6.out)) k_ hk, Kd.fresh' (Kd.N_lt (by (with_reducible repeat (first | apply Kd.N_alloc | apply Kd.N_drewN | apply Kd.N_drew)); exact HO262.out)) k_ hk, Kd.freshB (g := gb244) (o := .cells #[.string t240, .slice Ao9 t241.length co9] 30 (0, 0)) (by (with_reducible repeat (first | refine blk_drewN ?_ _ | refine blk_drew ?_ | refine blk_alloc ?_ _)); exact BK244.out) k_ hk⟩) _ (Nat.le_refl _)) (Below.refl _ _) (Nat.le_refl _) (by simp) ?_; (case hd => rfl); (case hg => rfl); (case hr => first | (go_simp; done) | (go_simp; rfl)); (case hp => exact (Reps.c2 (show Kd.FK k30 _ _ (⟨t240, t241⟩ : S30) [.string t240, .slice Ao9 t241.length co9] from (k30_mkF _ _ (⟨t240, t241⟩ : S30) (Kd.R_reads' (Kd.R_mono (ok' := (fun k_ => some k_ ≠ (.slice Ao10 t237.length co10 : Value).ownBlock ∧ some k_ ≠ (.slice Ao54 x6_2.length co54 : Value).ownBlock ∧ some k_ ≠ (v261 : Value).ownBlock ∧ k_ ≠ gb244)) (Kd.R_types (Kd.R_apart' (Kd.R_apart' (Kd.R_apart' (HO_245001.out) (Kd.N_typed HO_3.out) (by decide)) (Kd.N_typed HO_6.out) (by decide)) (Kd.N_typed HO262.out) (by decide)) BK244.out (by decide)) (fun k_ hk => ⟨(gives hk), ⟨(gives hk), ⟨(gives hk), hk.2⟩⟩⟩))).2.1 (Kd.R_F (Kd.R_mono (ok' := (fun k_ => some k_ ≠ (.slice Ao10 t237.length co10 : Value).ownBlock ∧ some k_ ≠ (.slice Ao54 x6_2.length co54 : Value).ownBlock ∧ some k_ ≠ (v261 : Value).ownBlock ∧ k_ ≠ gb244)) (Kd.R_types (Kd.R_apart' (Kd.R_apart' (Kd.R_apart' (HO_245001.out) (Kd.N_typed HO_3.out) (by decide)) (Kd.N_typed HO_6.out) (by decide)) (Kd.N_typed HO262.out) (by decide)) BK244.out (by decide)) (fun k_ hk => ⟨(gives hk), ⟨(gives hk), ⟨(gives hk), hk.2⟩⟩⟩))))) (Reps.none _ _)))
                              intro v264 w59 ho60 hb hg_ hnew_
                              clear hg_ hnew_
                              (first | rw [← Ny263.out] at ho60 | (simp only [Int.reduceToNat] at ho60; rw [← Ny263.out] at ho60))
                              have n0_ := Aside0.mk (Kd.N_elder' (by (with_reducible repeat (first | apply Kd.N_alloc | apply Kd.N_drewN | apply Kd.N_drew)); exact HO_3.out) (Kd.N_base ho60) hb)
                              have n1_ := Aside0.mk (Kd.N_elder' (by (with_reducible repeat (first | apply Kd.N_alloc | apply Kd.N_drewN | apply Kd.N_drew)); exact HO_6.out) (Kd.N_base ho60) hb)
                              have n2_ := Aside0.mk (Kd.N_elder' (by (with_reducible repeat (first | apply Kd.N_alloc | apply Kd.N_drewN | apply Kd.N_drew)); exact HO262.out) (Kd.N_base ho60) hb)
                              have n3_ := Aside0.mk (Kd.N_lower ho60 (below_size (by repeat (first | (with_reducible first | exact HB.out | apply below_alloc | apply pw_below_drewN | apply below_drew1 | refine below_set ?_ GE244.out) | exact HB.out))))
                              have n4_ := Aside0.mk (blk_below (g := gb244) (o := .cells #[.string t240, .slice Ao9 t241.length co9] 30 (0, 0)) (by (with_reducible repeat (first | refine blk_drewN ?_ _ | refine blk_drew ?_ | refine blk_alloc ?_ _)); exact BK244.out) hb)
                              have n5_ := Aside0.mk (below_step (by repeat (first | (with_reducible first | exact HB.out | apply below_alloc | apply pw_below_drewN | apply below_drew1 | refine below_set ?_ GE244.out) | exact HB.out)) hb)
                              clear HO_3
                              clear HO_6
                              clear HO262
                              clear BK244
                              clear HB
                              clear HO_245001
                              have HO_3 := n0_
                              have HO_6 := n1_
                              have HO262 := n2_
                              have HO265 := n3_
                              have BK244 := n4_
                              have HB := n5_
                              clear n0_ n1_ n2_ n3_ n4_ n5_
                              clear hb ho60
                              refine hK.out _ _ ⟨(blk_cell BK244.out 0).trans rfl, (blk_cell BK244.out 1).trans rfl⟩ (fun hHeld => ?_)
                              clear hK K
                              refine norm_ (a' := ?_) ?_ ?_
                              rotate_left
                              · show Act.put _ (some 48) _ = _
                                simp only [Act.put, List.setIfInBounds_toArray, List.set_cons_zero, List.set_cons_succ, i64_w, i32_w]
                                rfl
                              exact norm_ (by simp only [putAll, Act.put, List.setIfInBounds_toArray, List.set_cons_zero, List.set_cons_succ]) (hCont (v258, v261, v264) _ ⟨hHeld, (by (with_reducible repeat (first | apply Kd.N_alloc | apply Kd.N_drewN | apply Kd.N_drew)); exact Kd.N_mono HO262.out (fun _ hk => ⟨hk.2, ⟨(gives hk), (gives hk)⟩⟩)), (by (with_reducible repeat (first | apply Kd.N_alloc | apply Kd.N_drewN | apply Kd.N_drew)); exact Kd.N_mono HO265.out (fun _ hk => ⟨(gives hk), ⟨hk.1, ⟨(gives hk), (gives hk)⟩⟩⟩)), (by (with_reducible repeat (first | apply Kd.N_alloc | apply Kd.N_drewN | apply Kd.N_drew)); exact Kd.N_mono HO_3.out (fun _ hk => ⟨(gives hk), ⟨hk.2, ⟨(gives hk), (gives hk)⟩⟩⟩)), (by (with_reducible repeat (first | apply Kd.N_alloc | apply Kd.N_drewN | apply Kd.N_drew)); exact Kd.N_mono HO_6.out (fun _ hk => ⟨(gives hk), ⟨hk.2, ⟨(gives hk), (gives hk)⟩⟩⟩)), (by (with_reducible repeat (first | refine blk_drewN ?_ _ | refine blk_drew ?_ | refine blk_alloc ?_ _)); exact BK244.out), (by repeat (first | (with_reducible first | exact HB.out | apply below_alloc | apply pw_below_drewN | apply below_drew1 | refine below_set ?_ GE244.out) | exact HB.out))⟩)
                            · skip
                              refine Kd.N_lit_step k30 _ 30 ?hg (N' := 48) ?hd (xs := ([(⟨t240, t241⟩ : S30)] : List (S30))) (inner := [.string t240, .slice Ao9 t241.length co9]) (ok := (fun k_ => some k_ ≠ (.slice Ao10 t237.length co10 : Value).ownBlock ∧ some k_ ≠ (.slice Ao54 x6_2.length co54 : Value).ownBlock ∧ some k_ ≠ (v258 : Value).ownBlock ∧ k_ ≠ gb244)) (okp := (fun k_ => some k_ ≠ (.slice Ao10 t237.length co10 : Value).ownBlock ∧ some k_ ≠ (.slice Ao54 x6_2.length co54 : Value).ownBlock ∧ some k_ ≠ (v258 : Value).ownBlock ∧ k_ ≠ gb244)) ?hr ?hp (fun _ hk => hk) ((show ∀ k_, w56.heap.size ≤ k_ → (fun k_ => some k_ ≠ (.slice Ao10 t237.length co10 : Value).ownBlock ∧ some k_ ≠ (.slice Ao54 x6_2.length co54 : Value).ownBlock ∧ some k_ ≠ (v258 : Value).ownBlock ∧ k_ ≠ gb244) k_ from fun k_ hk => ⟨Kd.fresh' (Kd.N_lt (by (with_reducible repeat (first | apply Kd.N_alloc | apply Kd.N_drewN | apply Kd.N_drew)); exact HO_3.out)) k_ hk, Kd.fresh' (Kd.N_lt (by (with_reducible repeat (first | apply Kd.N_alloc | apply Kd.N_drewN | apply Kd.N_drew)); exact HO_6.out)) k_ hk, Kd.fresh' (Kd.N_lt (by (with_reducible repeat (first | apply Kd.N_alloc | apply Kd.N_drewN | apply Kd.N_drew)); exact HO259.out)) k_ hk, Kd.freshB (g := gb244) (o := .cells #[.string t240, .slice Ao9 t241.length co9] 30 (0, 0)) (by (with_reducible repeat (first | refine blk_drewN ?_ _ | refine blk_drew ?_ | refine blk_alloc ?_ _)); exact BK244.out) k_ hk⟩) _ (Nat.le_refl _)) (Below.refl _ _) (Nat.le_refl _) (by simp) ?_; (case hd => rfl); (case hg => rfl); (case hr => first | (go_simp; done) | (go_simp; rfl)); (case hp => exact (Reps.c2 (show Kd.FK k30 _ _ (⟨t240, t241⟩ : S30) [.string t240, .slice Ao9 t241.length co9] from (k30_mkF _ _ (⟨t240, t241⟩ : S30) (Kd.R_reads' (Kd.R_mono (ok' := (fun k_ => some k_ ≠ (.slice Ao10 t237.length co10 : Value).ownBlock ∧ some k_ ≠ (.slice Ao54 x6_2.length co54 : Value).ownBlock ∧ some k_ ≠ (v258 : Value).ownBlock ∧ k_ ≠ gb244)) (Kd.R_types (Kd.R_apart' (Kd.R_apart' (Kd.R_apart' (HO_245001.out) (Kd.N_typed HO_3.out) (by decide)) (Kd.N_typed HO_6.out) (by decide)) (Kd.N_typed HO259.out) (by decide)) BK244.out (by decide)) (fun k_ hk => ⟨(gives hk), ⟨(gives hk), ⟨(gives hk), hk.2⟩⟩⟩))).2.1 (Kd.R_F (Kd.R_mono (ok' := (fun k_ => some k_ ≠ (.slice Ao10 t237.length co10 : Value).ownBlock ∧ some k_ ≠ (.slice Ao54 x6_2.length co54 : Value).ownBlock ∧ some k_ ≠ (v258 : Value).ownBlock ∧ k_ ≠ gb244)) (Kd.R_types (Kd.R_apart' (Kd.R_apart' (Kd.R_apart' (HO_245001.out) (Kd.N_typed HO_3.out) (by decide)) (Kd.N_typed HO_6.out) (by decide)) (Kd.N_typed HO259.out) (by decide)) BK244.out (by decide)) (fun k_ hk => ⟨(gives hk), ⟨(gives hk), ⟨(gives hk), hk.2⟩⟩⟩))))) (Reps.none _ _)))
                              intro v264 w58 ho59 hb hg_ hnew_
                              clear hg_ hnew_
                              (first | rw [← Ny263.out] at ho59 | (simp only [Int.reduceToNat] at ho59; rw [← Ny263.out] at ho59))
                              have n0_ := Aside0.mk (Kd.N_elder' (by (with_reducible repeat (first | apply Kd.N_alloc | apply Kd.N_drewN | apply Kd.N_drew)); exact HO_3.out) (Kd.N_base ho59) hb)
                              have n1_ := Aside0.mk (Kd.N_elder' (by (with_reducible repeat (first | apply Kd.N_alloc | apply Kd.N_drewN | apply Kd.N_drew)); exact HO_6.out) (Kd.N_base ho59) hb)
                              have n2_ := Aside0.mk (Kd.N_elder' (by (with_reducible repeat (first | apply Kd.N_alloc | apply Kd.N_drewN | apply Kd.N_drew)); exact HO259.out) (Kd.N_base ho59) hb)
                              have n3_ := Aside0.mk (Kd.N_lower ho59 (below_size (by repeat (first | (with_reducible first | exact HB.out | apply below_alloc | apply pw_below_drewN | apply below_drew1 | refine below_set ?_ GE244.out) | exact HB.out))))
                              have n4_ := Aside0.mk (blk_below (g := gb244) (o := .cells #[.string t240, .slice Ao9 t241.length co9] 30 (0, 0)) (by (with_reducible repeat (first | refine blk_drewN ?_ _ | refine blk_drew ?_ | refine blk_alloc ?_ _)); exact BK244.out) hb)
                              have n5_ := Aside0.mk (below_step (by repeat (first | (with_reducible first | exact HB.out | apply below_alloc | apply pw_below_drewN | apply below_drew1 | refine below_set ?_ GE244.out) | exact HB.out)) hb)
                              clear HO_3
                              clear HO_6
                              clear HO259
                              clear BK244
                              clear HB
                              clear HO_245001
                              have HO_3 := n0_
                              have HO_6 := n1_
                              have HO259 := n2_
                              have HO265 := n3_
                              have BK244 := n4_
                              have HB := n5_
                              clear n0_ n1_ n2_ n3_ n4_ n5_
                              clear hb ho59
                              refine hK.out _ _ ⟨(blk_cell BK244.out 0).trans rfl, (blk_cell BK244.out 1).trans rfl⟩ (fun hHeld => ?_)
                              clear hK K
                              refine norm_ (a' := ?_) ?_ ?_
                              rotate_left
                              · show Act.put _ (some 48) _ = _
                                simp only [Act.put, List.setIfInBounds_toArray, List.set_cons_zero, List.set_cons_succ, i64_w, i32_w]
                                rfl
                              refine one_ (i := 2) (N := some 46) #[true, true, true, true, true, false, false] rfl rfl (by kernel_rfl) (by decide) (fun K hK => ?_)
                              refine Kd.N_append_rows_step k30 (w0 := w) w.heap.size (by rfl) (.tmp 44) (.tmp 45) 23 30 (.agg #[(.string ⟨#[]⟩), (.slice none 0 0)]) 40 rfl Try.underlying23 info30 rfl (by decide) (by omega) v258 y257 x6_2 _ _ _ (fun k_ => some k_ ≠ (.slice Ao10 t237.length co10 : Value).ownBlock ∧ some k_ ≠ (v264 : Value).ownBlock ∧ k_ ≠ gb244) (fun k_ => ((fun k_ => some k_ ≠ (.slice Ao10 t237.length co10 : Value).ownBlock ∧ some k_ ≠ (v264 : Value).ownBlock ∧ k_ ≠ gb244)) k_ ∧ some k_ ≠ (v258 : Value).ownBlock) rfl rfl ?aO ?aR (fun _ hk => hk) ?aF ?aB ?aS ?aL ?_
                              (case aR => exact (by skip; exact Kd.N_F (Kd.N_mono (ok' := (fun k_ => ((fun k_ => some k_ ≠ (.slice Ao10 t237.length co10 : Value).ownBlock ∧ some k_ ≠ (v264 : Value).ownBlock ∧ k_ ≠ gb244)) k_ ∧ some k_ ≠ (v258 : Value).ownBlock)) (HO_6.out) (fun k_ hk => ⟨⟨(gives hk), ⟨hk.2, (gives hk)⟩⟩, (gives hk)⟩))))
                              (case aB => exact (by repeat (first | (with_reducible first | exact HB.out | apply below_alloc | apply pw_below_drewN | apply below_drew1 | refine below_set ?_ GE244.out) | exact HB.out)))
                              (case aF => exact (fun k_ hk => ⟨Kd.fresh' (Kd.N_lt (by (with_reducible repeat (first | apply Kd.N_alloc | apply Kd.N_drewN | apply Kd.N_drew)); exact HO_3.out)) k_ hk, Kd.fresh' (Kd.N_lt (by (with_reducible repeat (first | apply Kd.N_alloc | apply Kd.N_drewN | apply Kd.N_drew)); exact HO265.out)) k_ hk, Kd.freshB (g := gb244) (o := .cells #[.string t240, .slice Ao9 t241.length co9] 30 (0, 0)) (by (with_reducible repeat (first | refine blk_drewN ?_ _ | refine blk_drew ?_ | refine blk_alloc ?_ _)); exact BK244.out) k_ hk⟩))
                              (case aO => exact (by (with_reducible repeat (first | apply Kd.N_alloc | apply Kd.N_drewN | apply Kd.N_drew)); exact Kd.N_mono HO259.out (fun _ hk => ⟨(gives hk), ⟨hk.2, (gives hk)⟩⟩)))
                              (case aS => exact (below_size (by repeat (first | (with_reducible first | exact HB.out | apply below_alloc | apply pw_below_drewN | apply below_drew1 | refine below_set ?_ GE244.out) | exact HB.out))))
                              (case aL => have := LMc31.out; omega)
                              intro v261 w60 ho hb hg hat
                              rw [← Ny260.out] at ho
                              have n0_ := Aside0.mk (Kd.N_afterv (ok := (fun k_ => some k_ ≠ (.slice Ao54 x6_2.length co54 : Value).ownBlock ∧ some k_ ≠ (v264 : Value).ownBlock ∧ k_ ≠ gb244)) (by (with_reducible repeat (first | apply Kd.N_alloc | apply Kd.N_drewN | apply Kd.N_drew)); exact Kd.N_mono HO_3.out (fun _ hk => ⟨⟨(gives hk), ⟨hk.2, (gives hk)⟩⟩, (gives hk)⟩)) hg hat)
                              have n1_ := Aside0.mk (Kd.N_afterv (ok := (fun k_ => some k_ ≠ (.slice Ao10 t237.length co10 : Value).ownBlock ∧ some k_ ≠ (v264 : Value).ownBlock ∧ k_ ≠ gb244)) (by (with_reducible repeat (first | apply Kd.N_alloc | apply Kd.N_drewN | apply Kd.N_drew)); exact Kd.N_mono HO_6.out (fun _ hk => ⟨⟨(gives hk), ⟨hk.2, (gives hk)⟩⟩, (gives hk)⟩)) hg hat)
                              have n2_ := Aside0.mk (blk_grown (g := gb244) (o := .cells #[.string t240, .slice Ao9 t241.length co9] 30 (0, 0)) (by (with_reducible repeat (first | refine blk_drewN ?_ _ | refine blk_drew ?_ | refine blk_alloc ?_ _)); exact BK244.out) hg (Kd.N_away HO259.out (fun _ hk => (gives hk))))
                              have n3_ := Aside0.mk (Kd.N_afterv (ok := (fun k_ => some k_ ≠ (.slice Ao10 t237.length co10 : Value).ownBlock ∧ some k_ ≠ (.slice Ao54 x6_2.length co54 : Value).ownBlock ∧ k_ ≠ gb244)) (by (with_reducible repeat (first | apply Kd.N_alloc | apply Kd.N_drewN | apply Kd.N_drew)); exact Kd.N_mono HO265.out (fun _ hk => ⟨⟨hk.1, ⟨(gives hk), (gives hk)⟩⟩, (gives hk)⟩)) hg hat)
                              have n4_ := Aside0.mk (hb)
                              have n5_ := Aside0.mk (ho)
                              clear HO_3
                              clear HO_6
                              clear BK244
                              clear HO265
                              clear HB
                              clear HO259
                              have HO_3 := n0_
                              have HO_6 := n1_
                              have BK244 := n2_
                              have HO265 := n3_
                              have HB := n4_
                              have HO262 := n5_
                              clear n0_ n1_ n2_ n3_ n4_ n5_
                              clear ho hb hg hat
                              refine hK.out _ _ ⟨(blk_cell BK244.out 0).trans rfl, (blk_cell BK244.out 1).trans rfl⟩ (fun hHeld => ?_)
                              clear hK K
                              refine norm_ (a' := ?_) ?_ ?_
                              rotate_left
                              · show Act.put _ (some 46) _ = _
                                simp only [Act.put, List.setIfInBounds_toArray, List.set_cons_zero, List.set_cons_succ, i64_w, i32_w]
                                rfl
                              exact norm_ (by simp only [putAll, Act.put, List.setIfInBounds_toArray, List.set_cons_zero, List.set_cons_succ]) (hCont (v258, v261, v264) _ ⟨hHeld, (by (with_reducible repeat (first | apply Kd.N_alloc | apply Kd.N_drewN | apply Kd.N_drew)); exact Kd.N_mono HO262.out (fun _ hk => ⟨(gives hk), ⟨hk.1, (gives hk)⟩⟩)), (by (with_reducible repeat (first | apply Kd.N_alloc | apply Kd.N_drewN | apply Kd.N_drew)); exact Kd.N_mono HO265.out (fun _ hk => ⟨hk.2, ⟨(gives hk), ⟨(gives hk), (gives hk)⟩⟩⟩)), (by (with_reducible repeat (first | apply Kd.N_alloc | apply Kd.N_drewN | apply Kd.N_drew)); exact Kd.N_mono HO_3.out (fun _ hk => ⟨hk.2, ⟨(gives hk), ⟨(gives hk), (gives hk)⟩⟩⟩)), (by (with_reducible repeat (first | apply Kd.N_alloc | apply Kd.N_drewN | apply Kd.N_drew)); exact Kd.N_mono HO_6.out (fun _ hk => ⟨hk.2, ⟨(gives hk), ⟨(gives hk), (gives hk)⟩⟩⟩)), (by (with_reducible repeat (first | refine blk_drewN ?_ _ | refine blk_drew ?_ | refine blk_alloc ?_ _)); exact BK244.out), (by repeat (first | (with_reducible first | exact HB.out | apply below_alloc | apply pw_below_drewN | apply below_drew1 | refine below_set ?_ GE244.out) | exact HB.out))⟩)
                          · skip
                            refine Kd.N_lit_step k30 _ 30 ?hg (N' := 48) ?hd (xs := ([(⟨t240, t241⟩ : S30)] : List (S30))) (inner := [.string t240, .slice Ao9 t241.length co9]) (ok := (fun k_ => some k_ ≠ (.slice Ao10 t237.length co10 : Value).ownBlock ∧ some k_ ≠ (.slice Ao54 x6_2.length co54 : Value).ownBlock ∧ k_ ≠ gb244)) (okp := (fun k_ => some k_ ≠ (.slice Ao10 t237.length co10 : Value).ownBlock ∧ some k_ ≠ (.slice Ao54 x6_2.length co54 : Value).ownBlock ∧ k_ ≠ gb244)) ?hr ?hp (fun _ hk => hk) ((show ∀ k_, w55.heap.size ≤ k_ → (fun k_ => some k_ ≠ (.slice Ao10 t237.length co10 : Value).ownBlock ∧ some k_ ≠ (.slice Ao54 x6_2.length co54 : Value).ownBlock ∧ k_ ≠ gb244) k_ from fun k_ hk => ⟨Kd.fresh' (Kd.N_lt (by (with_reducible repeat (first | apply Kd.N_alloc | apply Kd.N_drewN | apply Kd.N_drew)); exact HO_3.out)) k_ hk, Kd.fresh' (Kd.N_lt (by (with_reducible repeat (first | apply Kd.N_alloc | apply Kd.N_drewN | apply Kd.N_drew)); exact HO_6.out)) k_ hk, Kd.freshB (g := gb244) (o := .cells #[.string t240, .slice Ao9 t241.length co9] 30 (0, 0)) (by (with_reducible repeat (first | refine blk_drewN ?_ _ | refine blk_drew ?_ | refine blk_alloc ?_ _)); exact BK244.out) k_ hk⟩) _ (Nat.le_refl _)) (Below.refl _ _) (Nat.le_refl _) (by simp) ?_; (case hd => rfl); (case hg => rfl); (case hr => first | (go_simp; done) | (go_simp; rfl)); (case hp => exact (Reps.c2 (show Kd.FK k30 _ _ (⟨t240, t241⟩ : S30) [.string t240, .slice Ao9 t241.length co9] from (k30_mkF _ _ (⟨t240, t241⟩ : S30) (Kd.R_reads' (Kd.R_mono (ok' := (fun k_ => some k_ ≠ (.slice Ao10 t237.length co10 : Value).ownBlock ∧ some k_ ≠ (.slice Ao54 x6_2.length co54 : Value).ownBlock ∧ k_ ≠ gb244)) (Kd.R_types (Kd.R_apart' (Kd.R_apart' (HO_245001.out) (Kd.N_typed HO_3.out) (by decide)) (Kd.N_typed HO_6.out) (by decide)) BK244.out (by decide)) (fun k_ hk => ⟨(gives hk), ⟨(gives hk), hk.2⟩⟩))).2.1 (Kd.R_F (Kd.R_mono (ok' := (fun k_ => some k_ ≠ (.slice Ao10 t237.length co10 : Value).ownBlock ∧ some k_ ≠ (.slice Ao54 x6_2.length co54 : Value).ownBlock ∧ k_ ≠ gb244)) (Kd.R_types (Kd.R_apart' (Kd.R_apart' (HO_245001.out) (Kd.N_typed HO_3.out) (by decide)) (Kd.N_typed HO_6.out) (by decide)) BK244.out (by decide)) (fun k_ hk => ⟨(gives hk), ⟨(gives hk), hk.2⟩⟩))))) (Reps.none _ _)))
                            intro v264 w56 ho57 hb hg_ hnew_
                            clear hg_ hnew_
                            (first | rw [← Ny263.out] at ho57 | (simp only [Int.reduceToNat] at ho57; rw [← Ny263.out] at ho57))
                            have n0_ := Aside0.mk (Kd.N_elder' (by (with_reducible repeat (first | apply Kd.N_alloc | apply Kd.N_drewN | apply Kd.N_drew)); exact HO_3.out) (Kd.N_base ho57) hb)
                            have n1_ := Aside0.mk (Kd.N_elder' (by (with_reducible repeat (first | apply Kd.N_alloc | apply Kd.N_drewN | apply Kd.N_drew)); exact HO_6.out) (Kd.N_base ho57) hb)
                            have n2_ := Aside0.mk (Kd.N_lower ho57 (below_size (by repeat (first | (with_reducible first | exact HB.out | apply below_alloc | apply pw_below_drewN | apply below_drew1 | refine below_set ?_ GE244.out) | exact HB.out))))
                            have n3_ := Aside0.mk (blk_below (g := gb244) (o := .cells #[.string t240, .slice Ao9 t241.length co9] 30 (0, 0)) (by (with_reducible repeat (first | refine blk_drewN ?_ _ | refine blk_drew ?_ | refine blk_alloc ?_ _)); exact BK244.out) hb)
                            have n4_ := Aside0.mk (below_step (by repeat (first | (with_reducible first | exact HB.out | apply below_alloc | apply pw_below_drewN | apply below_drew1 | refine below_set ?_ GE244.out) | exact HB.out)) hb)
                            clear HO_3
                            clear HO_6
                            clear BK244
                            clear HB
                            clear HO_245001
                            have HO_3 := n0_
                            have HO_6 := n1_
                            have HO265 := n2_
                            have BK244 := n3_
                            have HB := n4_
                            clear n0_ n1_ n2_ n3_ n4_
                            clear hb ho57
                            refine hK.out _ _ ⟨(blk_cell BK244.out 0).trans rfl, (blk_cell BK244.out 1).trans rfl⟩ (fun hHeld => ?_)
                            clear hK K
                            refine norm_ (a' := ?_) ?_ ?_
                            rotate_left
                            · show Act.put _ (some 48) _ = _
                              simp only [Act.put, List.setIfInBounds_toArray, List.set_cons_zero, List.set_cons_succ, i64_w, i32_w]
                              rfl
                            refine one_ (i := 0) (N := some 44) #[true, true, false, true, true, false, false] rfl rfl (by kernel_rfl) (by decide) (fun K hK => ?_)
                            refine Kd.N_lit_step k30 _ 30 ?hg (N' := 44) ?hd (xs := ([] : List (S30))) (inner := []) (ok := (fun k_ => some k_ ≠ (.slice Ao10 t237.length co10 : Value).ownBlock ∧ some k_ ≠ (.slice Ao54 x6_2.length co54 : Value).ownBlock ∧ some k_ ≠ (v264 : Value).ownBlock ∧ k_ ≠ gb244)) (okp := (fun k_ => some k_ ≠ (.slice Ao10 t237.length co10 : Value).ownBlock ∧ some k_ ≠ (.slice Ao54 x6_2.length co54 : Value).ownBlock ∧ some k_ ≠ (v264 : Value).ownBlock ∧ k_ ≠ gb244)) ?hr ?hp (fun _ hk => hk) ((show ∀ k_, w56.heap.size ≤ k_ → (fun k_ => some k_ ≠ (.slice Ao10 t237.length co10 : Value).ownBlock ∧ some k_ ≠ (.slice Ao54 x6_2.length co54 : Value).ownBlock ∧ some k_ ≠ (v264 : Value).ownBlock ∧ k_ ≠ gb244) k_ from fun k_ hk => ⟨Kd.fresh' (Kd.N_lt (by (with_reducible repeat (first | apply Kd.N_alloc | apply Kd.N_drewN | apply Kd.N_drew)); exact HO_3.out)) k_ hk, Kd.fresh' (Kd.N_lt (by (with_reducible repeat (first | apply Kd.N_alloc | apply Kd.N_drewN | apply Kd.N_drew)); exact HO_6.out)) k_ hk, Kd.fresh' (Kd.N_lt (by (with_reducible repeat (first | apply Kd.N_alloc | apply Kd.N_drewN | apply Kd.N_drew)); exact HO265.out)) k_ hk, Kd.freshB (g := gb244) (o := .cells #[.string t240, .slice Ao9 t241.length co9] 30 (0, 0)) (by (with_reducible repeat (first | refine blk_drewN ?_ _ | refine blk_drew ?_ | refine blk_alloc ?_ _)); exact BK244.out) k_ hk⟩) _ (Nat.le_refl _)) (Below.refl _ _) (Nat.le_refl _) (by simp) ?_; (case hd => rfl); (case hg => rfl); (case hr => first | (go_simp; done) | (go_simp; rfl)); (case hp => exact (Reps.none _ _))
                            intro v258 w58 ho59 hb hg_ hnew_
                            clear hg_ hnew_
                            (first | rw [← Ny257.out] at ho59 | (simp only [Int.reduceToNat] at ho59; rw [← Ny257.out] at ho59))
                            have n0_ := Aside0.mk (Kd.N_elder' (by (with_reducible repeat (first | apply Kd.N_alloc | apply Kd.N_drewN | apply Kd.N_drew)); exact HO_3.out) (Kd.N_base ho59) hb)
                            have n1_ := Aside0.mk (Kd.N_elder' (by (with_reducible repeat (first | apply Kd.N_alloc | apply Kd.N_drewN | apply Kd.N_drew)); exact HO_6.out) (Kd.N_base ho59) hb)
                            have n2_ := Aside0.mk (Kd.N_elder' (by (with_reducible repeat (first | apply Kd.N_alloc | apply Kd.N_drewN | apply Kd.N_drew)); exact HO265.out) (Kd.N_base ho59) hb)
                            have n3_ := Aside0.mk (Kd.N_lower ho59 (below_size (by repeat (first | (with_reducible first | exact HB.out | apply below_alloc | apply pw_below_drewN | apply below_drew1 | refine below_set ?_ GE244.out) | exact HB.out))))
                            have n4_ := Aside0.mk (blk_below (g := gb244) (o := .cells #[.string t240, .slice Ao9 t241.length co9] 30 (0, 0)) (by (with_reducible repeat (first | refine blk_drewN ?_ _ | refine blk_drew ?_ | refine blk_alloc ?_ _)); exact BK244.out) hb)
                            have n5_ := Aside0.mk (below_step (by repeat (first | (with_reducible first | exact HB.out | apply below_alloc | apply pw_below_drewN | apply below_drew1 | refine below_set ?_ GE244.out) | exact HB.out)) hb)
                            clear HO_3
                            clear HO_6
                            clear HO265
                            clear BK244
                            clear HB
                            have HO_3 := n0_
                            have HO_6 := n1_
                            have HO265 := n2_
                            have HO259 := n3_
                            have BK244 := n4_
                            have HB := n5_
                            clear n0_ n1_ n2_ n3_ n4_ n5_
                            clear hb ho59
                            refine hK.out _ _ ⟨(blk_cell BK244.out 0).trans rfl, (blk_cell BK244.out 1).trans rfl⟩ (fun hHeld => ?_)
                            clear hK K
                            refine norm_ (a' := ?_) ?_ ?_
                            rotate_left
                            · show Act.put _ (some 44) _ = _
                              simp only [Act.put, List.setIfInBounds_toArray, List.set_cons_zero, List.set_cons_succ, i64_w, i32_w]
                              rfl
                            refine one_ (i := 2) (N := some 46) #[true, true, true, true, true, false, false] rfl rfl (by kernel_rfl) (by decide) (fun K hK => ?_)
                            refine Kd.N_append_rows_step k30 (w0 := w) w.heap.size (by rfl) (.tmp 44) (.tmp 45) 23 30 (.agg #[(.string ⟨#[]⟩), (.slice none 0 0)]) 40 rfl Try.underlying23 info30 rfl (by decide) (by omega) v258 y257 x6_2 _ _ _ (fun k_ => some k_ ≠ (.slice Ao10 t237.length co10 : Value).ownBlock ∧ some k_ ≠ (v264 : Value).ownBlock ∧ k_ ≠ gb244) (fun k_ => ((fun k_ => some k_ ≠ (.slice Ao10 t237.length co10 : Value).ownBlock ∧ some k_ ≠ (v264 : Value).ownBlock ∧ k_ ≠ gb244)) k_ ∧ some k_ ≠ (v258 : Value).ownBlock) rfl rfl ?aO ?aR (fun _ hk => hk) ?aF ?aB ?aS ?aL ?_
                            (case aR => exact (by skip; exact Kd.N_F (Kd.N_mono (ok' := (fun k_ => ((fun k_ => some k_ ≠ (.slice Ao10 t237.length co10 : Value).ownBlock ∧ some k_ ≠ (v264 : Value).ownBlock ∧ k_ ≠ gb244)) k_ ∧ some k_ ≠ (v258 : Value).ownBlock)) (HO_6.out) (fun k_ hk => ⟨⟨(gives hk), ⟨(gives hk), (gives hk)⟩⟩, hk.2⟩))))
                            (case aB => exact (by repeat (first | (with_reducible first | exact HB.out | apply below_alloc | apply pw_below_drewN | apply below_drew1 | refine below_set ?_ GE244.out) | exact HB.out)))
                            (case aF => exact (fun k_ hk => ⟨Kd.fresh' (Kd.N_lt (by (with_reducible repeat (first | apply Kd.N_alloc | apply Kd.N_drewN | apply Kd.N_drew)); exact HO_3.out)) k_ hk, Kd.fresh' (Kd.N_lt (by (with_reducible repeat (first | apply Kd.N_alloc | apply Kd.N_drewN | apply Kd.N_drew)); exact HO265.out)) k_ hk, Kd.freshB (g := gb244) (o := .cells #[.string t240, .slice Ao9 t241.length co9] 30 (0, 0)) (by (with_reducible repeat (first | refine blk_drewN ?_ _ | refine blk_drew ?_ | refine blk_alloc ?_ _)); exact BK244.out) k_ hk⟩))
                            (case aO => exact (by (with_reducible repeat (first | apply Kd.N_alloc | apply Kd.N_drewN | apply Kd.N_drew)); exact Kd.N_mono HO259.out (fun _ hk => ⟨hk.1, ⟨(gives hk), (gives hk)⟩⟩)))
                            (case aS => exact (below_size (by repeat (first | (with_reducible first | exact HB.out | apply below_alloc | apply pw_below_drewN | apply below_drew1 | refine below_set ?_ GE244.out) | exact HB.out))))
                            (case aL => have := LMc31.out; omega)
                            intro v261 w60 ho hb hg hat
                            rw [← Ny260.out] at ho
                            have n0_ := Aside0.mk (Kd.N_afterv (ok := (fun k_ => some k_ ≠ (.slice Ao54 x6_2.length co54 : Value).ownBlock ∧ some k_ ≠ (v264 : Value).ownBlock ∧ k_ ≠ gb244)) (by (with_reducible repeat (first | apply Kd.N_alloc | apply Kd.N_drewN | apply Kd.N_drew)); exact Kd.N_mono HO_3.out (fun _ hk => ⟨⟨(gives hk), ⟨(gives hk), (gives hk)⟩⟩, hk.2⟩)) hg hat)
                            have n1_ := Aside0.mk (Kd.N_afterv (ok := (fun k_ => some k_ ≠ (.slice Ao10 t237.length co10 : Value).ownBlock ∧ some k_ ≠ (v264 : Value).ownBlock ∧ k_ ≠ gb244)) (by (with_reducible repeat (first | apply Kd.N_alloc | apply Kd.N_drewN | apply Kd.N_drew)); exact Kd.N_mono HO_6.out (fun _ hk => ⟨⟨(gives hk), ⟨(gives hk), (gives hk)⟩⟩, hk.2⟩)) hg hat)
                            have n2_ := Aside0.mk (blk_grown (g := gb244) (o := .cells #[.string t240, .slice Ao9 t241.length co9] 30 (0, 0)) (by (with_reducible repeat (first | refine blk_drewN ?_ _ | refine blk_drew ?_ | refine blk_alloc ?_ _)); exact BK244.out) hg (Kd.N_away HO259.out (fun _ hk => (gives hk))))
                            have n3_ := Aside0.mk (Kd.N_afterv (ok := (fun k_ => some k_ ≠ (.slice Ao10 t237.length co10 : Value).ownBlock ∧ some k_ ≠ (.slice Ao54 x6_2.length co54 : Value).ownBlock ∧ k_ ≠ gb244)) (by (with_reducible repeat (first | apply Kd.N_alloc | apply Kd.N_drewN | apply Kd.N_drew)); exact HO265.out) hg hat)
                            have n4_ := Aside0.mk (hb)
                            have n5_ := Aside0.mk (ho)
                            clear HO_3
                            clear HO_6
                            clear BK244
                            clear HO265
                            clear HB
                            clear HO259
                            have HO_3 := n0_
                            have HO_6 := n1_
                            have BK244 := n2_
                            have HO265 := n3_
                            have HB := n4_
                            have HO262 := n5_
                            clear n0_ n1_ n2_ n3_ n4_ n5_
                            clear ho hb hg hat
                            refine hK.out _ _ ⟨(blk_cell BK244.out 0).trans rfl, (blk_cell BK244.out 1).trans rfl⟩ (fun hHeld => ?_)
                            clear hK K
                            refine norm_ (a' := ?_) ?_ ?_
                            rotate_left
                            · show Act.put _ (some 46) _ = _
                              simp only [Act.put, List.setIfInBounds_toArray, List.set_cons_zero, List.set_cons_succ, i64_w, i32_w]
                              rfl
                            exact norm_ (by simp only [putAll, Act.put, List.setIfInBounds_toArray, List.set_cons_zero, List.set_cons_succ]) (hCont (v258, v261, v264) _ ⟨hHeld, (by (with_reducible repeat (first | apply Kd.N_alloc | apply Kd.N_drewN | apply Kd.N_drew)); exact Kd.N_mono HO262.out (fun _ hk => ⟨(gives hk), ⟨hk.1, (gives hk)⟩⟩)), (by (with_reducible repeat (first | apply Kd.N_alloc | apply Kd.N_drewN | apply Kd.N_drew)); exact Kd.N_mono HO265.out (fun _ hk => ⟨hk.2, ⟨(gives hk), ⟨(gives hk), (gives hk)⟩⟩⟩)), (by (with_reducible repeat (first | apply Kd.N_alloc | apply Kd.N_drewN | apply Kd.N_drew)); exact Kd.N_mono HO_3.out (fun _ hk => ⟨hk.2, ⟨(gives hk), ⟨(gives hk), (gives hk)⟩⟩⟩)), (by (with_reducible repeat (first | apply Kd.N_alloc | apply Kd.N_drewN | apply Kd.N_drew)); exact Kd.N_mono HO_6.out (fun _ hk => ⟨hk.2, ⟨(gives hk), ⟨(gives hk), (gives hk)⟩⟩⟩)), (by (with_reducible repeat (first | refine blk_drewN ?_ _ | refine blk_drew ?_ | refine blk_alloc ?_ _)); exact BK244.out), (by repeat (first | (with_reducible first | exact HB.out | apply below_alloc | apply pw_below_drewN | apply below_drew1 | refine below_set ?_ GE244.out) | exact HB.out))⟩)
                        rintro ⟨v258, v261, v264⟩ w61 ⟨hS_, h0_, h1_, h2_, h3_, h4_, h5_⟩
                        have n0_ : Aside0 (Kd.N k30 30 w61 w.heap.size (fun k_ => some k_ ≠ (v264 : Value).ownBlock ∧ some k_ ≠ (.slice Ao10 t237.length co10 : Value).ownBlock ∧ k_ ≠ gb244) v261 y260) := ⟨h0_⟩
                        have n1_ : Aside0 (Kd.N k30 30 w61 w.heap.size (fun k_ => some k_ ≠ (v261 : Value).ownBlock ∧ some k_ ≠ (.slice Ao10 t237.length co10 : Value).ownBlock ∧ some k_ ≠ (.slice Ao54 x6_2.length co54 : Value).ownBlock ∧ k_ ≠ gb244) v264 y263) := ⟨h1_⟩
                        have n2_ : Aside0 (Kd.N k30 30 w61 w.heap.size (fun k_ => some k_ ≠ (v261 : Value).ownBlock ∧ some k_ ≠ (v264 : Value).ownBlock ∧ some k_ ≠ (.slice Ao54 x6_2.length co54 : Value).ownBlock ∧ k_ ≠ gb244) (.slice Ao10 t237.length co10) t237) := ⟨h2_⟩
                        have n3_ : Aside0 (Kd.N k30 30 w61 w.heap.size (fun k_ => some k_ ≠ (v261 : Value).ownBlock ∧ some k_ ≠ (v264 : Value).ownBlock ∧ some k_ ≠ (.slice Ao10 t237.length co10 : Value).ownBlock ∧ k_ ≠ gb244) (.slice Ao54 x6_2.length co54) x6_2) := ⟨h3_⟩
                        have n4_ : Aside0 (w61.heap[gb244]? = some (.cells #[.string t240, .slice Ao9 t241.length co9] 30 (0, 0))) := ⟨h4_⟩
                        have n5_ : Aside0 (Below w.heap.size w w61) := ⟨h5_⟩
                        clear HO_3
                        clear HO_6
                        clear HO_245001
                        clear BK244
                        clear HB
                        clear h0_ h1_ h2_ h3_ h4_ h5_
                        have HO262 := n0_
                        have HO265 := n1_
                        have HO_3 := n2_
                        have HO_6 := n3_
                        have BK244 := n4_
                        have HB := n5_
                        clear n0_ n1_ n2_ n3_ n4_ n5_
                        have hHeld : w61.cell? ⟨gb244, 0, none⟩ = some (.string t240) ∧ w61.cell? ⟨gb244, 1, none⟩ = some (.slice Ao9 t241.length co9) := hS_
                        obtain ⟨Ao63, co63, eo63⟩ := Kd.N_slice HO265.out
                        (first | subst eo63 | (injection eo63 with f1_ f2_ f3_; have f4_ := f1_.symm; have f5_ := f3_.symm; clear f1_ f2_ f3_; subst f4_; subst f5_))
                        refine norm_ (a' := ?_) ?_ ?_
                        rotate_left
                        · simp only [putAll, Act.put, List.setIfInBounds_toArray, List.set_cons_zero, List.set_cons_succ]
                          rfl
                        refine one_ (i := 5) (N := some 49) #[true, true, true, true, true, true, false] rfl rfl (by kernel_rfl) (by decide) (fun K hK => ?_)
                        refine Kd.N_append_rows_step k30 (w0 := w) w.heap.size (by rfl) (.tmp 46) (.tmp 48) 23 30 (.agg #[(.string ⟨#[]⟩), (.slice none 0 0)]) 40 rfl Try.underlying23 info30 rfl (by decide) (by omega) v261 y260 y263 _ _ _ (fun k_ => some k_ ≠ (.slice Ao10 t237.length co10 : Value).ownBlock ∧ k_ ≠ gb244) (fun k_ => ((fun k_ => some k_ ≠ (.slice Ao10 t237.length co10 : Value).ownBlock ∧ k_ ≠ gb244)) k_ ∧ some k_ ≠ (v261 : Value).ownBlock) rfl rfl ?aO ?aR (fun _ hk => hk) ?aF ?aB ?aS ?aL ?_
                        (case aR => exact (by skip; exact Kd.N_F (Kd.N_mono (ok' := (fun k_ => ((fun k_ => some k_ ≠ (.slice Ao10 t237.length co10 : Value).ownBlock ∧ k_ ≠ gb244)) k_ ∧ some k_ ≠ (v261 : Value).ownBlock)) (HO265.out) (fun k_ hk => ⟨⟨(gives hk), (gives hk)⟩, hk.1⟩))))
                        (case aB => exact (by repeat (first | (with_reducible first | exact HB.out | apply below_alloc | apply pw_below_drewN | apply below_drew1 | refine below_set ?_ GE244.out) | exact HB.out)))
                        (case aF => exact (fun k_ hk => ⟨Kd.fresh' (Kd.N_lt (by (with_reducible repeat (first | apply Kd.N_alloc | apply Kd.N_drewN | apply Kd.N_drew)); exact HO_3.out)) k_ hk, Kd.freshB (g := gb244) (o := .cells #[.string t240, .slice Ao9 t241.length co9] 30 (0, 0)) (by (with_reducible repeat (first | refine blk_drewN ?_ _ | refine blk_drew ?_ | refine blk_alloc ?_ _)); exact BK244.out) k_ hk⟩))
                        (case aO => exact (by (with_reducible repeat (first | apply Kd.N_alloc | apply Kd.N_drewN | apply Kd.N_drew)); exact Kd.N_mono HO262.out (fun _ hk => ⟨(gives hk), (gives hk)⟩)))
                        (case aS => exact (below_size (by repeat (first | (with_reducible first | exact HB.out | apply below_alloc | apply pw_below_drewN | apply below_drew1 | refine below_set ?_ GE244.out) | exact HB.out))))
                        (case aL => have := LMc32.out; omega)
                        intro v267 w62 ho hb hg hat
                        rw [← Ny266.out] at ho
                        have n0_ := Aside0.mk (Kd.N_afterv (ok := (fun k_ => some k_ ≠ (.slice Ao54 x6_2.length co54 : Value).ownBlock ∧ some k_ ≠ (.slice Ao63 y263.length co63 : Value).ownBlock ∧ k_ ≠ gb244)) (by (with_reducible repeat (first | apply Kd.N_alloc | apply Kd.N_drewN | apply Kd.N_drew)); exact Kd.N_mono HO_3.out (fun _ hk => ⟨⟨(gives hk), ⟨(gives hk), (gives hk)⟩⟩, hk.1⟩)) hg hat)
                        have n1_ := Aside0.mk (Kd.N_afterv (ok := (fun k_ => some k_ ≠ (.slice Ao10 t237.length co10 : Value).ownBlock ∧ some k_ ≠ (.slice Ao63 y263.length co63 : Value).ownBlock ∧ k_ ≠ gb244)) (by (with_reducible repeat (first | apply Kd.N_alloc | apply Kd.N_drewN | apply Kd.N_drew)); exact Kd.N_mono HO_6.out (fun _ hk => ⟨⟨(gives hk), ⟨(gives hk), (gives hk)⟩⟩, hk.1⟩)) hg hat)
                        have n2_ := Aside0.mk (blk_grown (g := gb244) (o := .cells #[.string t240, .slice Ao9 t241.length co9] 30 (0, 0)) (by (with_reducible repeat (first | refine blk_drewN ?_ _ | refine blk_drew ?_ | refine blk_alloc ?_ _)); exact BK244.out) hg (Kd.N_away HO262.out (fun _ hk => (gives hk))))
                        have n3_ := Aside0.mk (Kd.N_afterv (ok := (fun k_ => some k_ ≠ (.slice Ao10 t237.length co10 : Value).ownBlock ∧ some k_ ≠ (.slice Ao54 x6_2.length co54 : Value).ownBlock ∧ k_ ≠ gb244)) (by (with_reducible repeat (first | apply Kd.N_alloc | apply Kd.N_drewN | apply Kd.N_drew)); exact Kd.N_mono HO265.out (fun _ hk => ⟨⟨(gives hk), ⟨(gives hk), (gives hk)⟩⟩, hk.1⟩)) hg hat)
                        have n4_ := Aside0.mk (hb)
                        have n5_ := Aside0.mk (ho)
                        clear HO_3
                        clear HO_6
                        clear BK244
                        clear HO265
                        clear HB
                        clear HO262
                        have HO_3 := n0_
                        have HO_6 := n1_
                        have BK244 := n2_
                        have HO265 := n3_
                        have HB := n4_
                        have HO268 := n5_
                        clear n0_ n1_ n2_ n3_ n4_ n5_
                        clear ho hb hg hat
                        refine hK.out _ _ ⟨(blk_cell BK244.out 0).trans rfl, (blk_cell BK244.out 1).trans rfl⟩ (fun hHeld => ?_)
                        clear hK K
                        refine norm_ (a' := ?_) ?_ ?_
                        rotate_left
                        · show Act.put _ (some 49) _ = _
                          simp only [Act.put, List.setIfInBounds_toArray, List.set_cons_zero, List.set_cons_succ, i64_w, i32_w]
                          rfl
                        refine pure_ (i := 6) (N := some 8) (v := ?_) (a' := ?_) #[true, true, true, true, true, true, true] rfl rfl (by kernel_rfl) (fun _ _ _ h => h) (Or.inl ⟨by rfl, ?_⟩) ?_ ?_
                        rotate_left
                        · intro w'
                          go_simp
                          with_reducible rfl
                        rotate_left
                        · simp only [Act.put, List.setIfInBounds_toArray, List.set_cons_zero, List.set_cons_succ, i64_w, i32_w]
                          rfl
                        refine done_ (by kernel_rfl) ?_
                        have hcz64_0 : w62.cell? ⟨gb244, 0, none⟩ = some (.string t240) := (blk_cell BK244.out 0).trans rfl
                        have hcz64_1 : w62.cell? ⟨gb244, 1, none⟩ = some (.slice Ao9 t241.length co9) := (blk_cell BK244.out 1).trans rfl
                        have hfz64_0 := blk_frozen BK244.out 0
                        have hfz64_1 := blk_frozen BK244.out 1
                        try go_wp2_with (first | ((with_reducible refine gate_callee (f := 14) rfl ?_); refine goesL_ (some 54) rfl rfl Try.func14 (by kernel_rfl) rfl #[.slice Ao10 t237.length co10, .string t240] rfl (by (try simp only [List.map_toArray, List.map_cons, List.map_nil]); first | done | rfl | (simp only [List.length_drop, List.length_take]; rfl)) ?_; (with_reducible refine (impl_CallsOf.calls k2 _ _ t237 t240 t269 _ ?side1 ?side2 A33.out).mono ?_); (case side1 => repeat (first | exact (Kd.N_reads' HO_3.out).2.2 | (with_reducible refine Kd.C_alloc ?_ _) | (with_reducible refine Kd.C_drewN ?_ _) | (with_reducible refine Kd.C_drew ?_))); (case side2 => exact (Kd.N_reads' HO_3.out).2.1); rintro e w65 ⟨v270, rfl, ho0, hb⟩; refine ⟨_, rfl, ?_⟩; have n0_ := Aside0.mk (Kd.N_elder' (by (with_reducible repeat (first | apply Kd.N_alloc | apply Kd.N_drewN | apply Kd.N_drew)); exact HO_3.out) (Kd.S_base ho0) hb); have n1_ := Aside0.mk (Kd.N_elder' (by (with_reducible repeat (first | apply Kd.N_alloc | apply Kd.N_drewN | apply Kd.N_drew)); exact HO_6.out) (Kd.S_base ho0) hb); have n2_ := Aside0.mk (Kd.N_elder' (by (with_reducible repeat (first | apply Kd.N_alloc | apply Kd.N_drewN | apply Kd.N_drew)); exact HO265.out) (Kd.S_base ho0) hb); have n3_ := Aside0.mk (Kd.N_elder' (by (with_reducible repeat (first | apply Kd.N_alloc | apply Kd.N_drewN | apply Kd.N_drew)); exact HO268.out) (Kd.S_base ho0) hb); have n4_ := Aside0.mk (Kd.N_lower (Kd.N_mono (ok' := fun k_ => some k_ ≠ (.slice Ao10 t237.length co10 : Value).ownBlock ∧ some k_ ≠ (.slice Ao54 x6_2.length co54 : Value).ownBlock ∧ some k_ ≠ (.slice Ao63 y263.length co63 : Value).ownBlock ∧ some k_ ≠ (v267 : Value).ownBlock ∧ k_ ≠ gb244) (Kd.S_N (Kd.S_bound ho0)) (fun k_ hk_ => ⟨(Kd.fresh' (Kd.N_lt (by (with_reducible repeat (first | apply Kd.N_alloc | apply Kd.N_drewN | apply Kd.N_drew)); exact HO_3.out)) k_ hk_.2.1), (Kd.fresh' (Kd.N_lt (by (with_reducible repeat (first | apply Kd.N_alloc | apply Kd.N_drewN | apply Kd.N_drew)); exact HO_6.out)) k_ hk_.2.1), (Kd.fresh' (Kd.N_lt (by (with_reducible repeat (first | apply Kd.N_alloc | apply Kd.N_drewN | apply Kd.N_drew)); exact HO265.out)) k_ hk_.2.1), (Kd.fresh' (Kd.N_lt (by (with_reducible repeat (first | apply Kd.N_alloc | apply Kd.N_drewN | apply Kd.N_drew)); exact HO268.out)) k_ hk_.2.1), (Kd.freshB (g := gb244) (o := .cells #[.string t240, .slice Ao9 t241.length co9] 30 (0, 0)) (by (with_reducible repeat (first | refine blk_drewN ?_ _ | refine blk_drew ?_ | refine blk_alloc ?_ _)); exact BK244.out) k_ hk_.2.1)⟩)) (below_size (by repeat (first | (with_reducible first | exact HB.out | apply below_alloc | apply pw_below_drewN | apply below_drew1 | refine below_set ?_ GE244.out) | exact HB.out)))); have n5_ := Aside0.mk (blk_below (g := gb244) (o := .cells #[.string t240, .slice Ao9 t241.length co9] 30 (0, 0)) (by (with_reducible repeat (first | refine blk_drewN ?_ _ | refine blk_drew ?_ | refine blk_alloc ?_ _)); exact BK244.out) hb); have n6_ := Aside0.mk (below_step (by repeat (first | (with_reducible first | exact HB.out | apply below_alloc | apply pw_below_drewN | apply below_drew1 | refine below_set ?_ GE244.out) | exact HB.out)) hb); clear HO_3; clear HO_6; clear HO265; clear HO268; clear BK244; clear HB; have HO_3 := n0_; have HO_6 := n1_; have HO265 := n2_; have HO268 := n3_; have HO271 := n4_; have BK244 := n5_; have HB := n6_; clear n0_ n1_ n2_ n3_ n4_ n5_ n6_; (try clear hb); (try clear hb2); (try clear hk); (try clear hi); (try clear ho0); obtain ⟨Ao66, co66, eo66⟩ := Kd.N_slice HO271.out; subst eo66) | (go_at_call 14; (with_reducible refine (impl_CallsOf.calls k2 _ _ t237 t240 t269 _ ?side1 ?side2 A33.out).mono ?_); (case side1 => repeat (first | exact (Kd.N_reads' HO_3.out).2.2 | (with_reducible refine Kd.C_alloc ?_ _) | (with_reducible refine Kd.C_drewN ?_ _) | (with_reducible refine Kd.C_drew ?_))); (case side2 => exact (Kd.N_reads' HO_3.out).2.1); rintro e w65 ⟨v270, rfl, ho0, hb⟩; have n0_ := Aside0.mk (Kd.N_elder' (by (with_reducible repeat (first | apply Kd.N_alloc | apply Kd.N_drewN | apply Kd.N_drew)); exact HO_3.out) (Kd.S_base ho0) hb); have n1_ := Aside0.mk (Kd.N_elder' (by (with_reducible repeat (first | apply Kd.N_alloc | apply Kd.N_drewN | apply Kd.N_drew)); exact HO_6.out) (Kd.S_base ho0) hb); have n2_ := Aside0.mk (Kd.N_elder' (by (with_reducible repeat (first | apply Kd.N_alloc | apply Kd.N_drewN | apply Kd.N_drew)); exact HO265.out) (Kd.S_base ho0) hb); have n3_ := Aside0.mk (Kd.N_elder' (by (with_reducible repeat (first | apply Kd.N_alloc | apply Kd.N_drewN | apply Kd.N_drew)); exact HO268.out) (Kd.S_base ho0) hb); have n4_ := Aside0.mk (Kd.N_lower (Kd.N_mono (ok' := fun k_ => some k_ ≠ (.slice Ao10 t237.length co10 : Value).ownBlock ∧ some k_ ≠ (.slice Ao54 x6_2.length co54 : Value).ownBlock ∧ some k_ ≠ (.slice Ao63 y263.length co63 : Value).ownBlock ∧ some k_ ≠ (v267 : Value).ownBlock ∧ k_ ≠ gb244) (Kd.S_N (Kd.S_bound ho0)) (fun k_ hk_ => ⟨(Kd.fresh' (Kd.N_lt (by (with_reducible repeat (first | apply Kd.N_alloc | apply Kd.N_drewN | apply Kd.N_drew)); exact HO_3.out)) k_ hk_.2.1), (Kd.fresh' (Kd.N_lt (by (with_reducible repeat (first | apply Kd.N_alloc | apply Kd.N_drewN | apply Kd.N_drew)); exact HO_6.out)) k_ hk_.2.1), (Kd.fresh' (Kd.N_lt (by (with_reducible repeat (first | apply Kd.N_alloc | apply Kd.N_drewN | apply Kd.N_drew)); exact HO265.out)) k_ hk_.2.1), (Kd.fresh' (Kd.N_lt (by (with_reducible repeat (first | apply Kd.N_alloc | apply Kd.N_drewN | apply Kd.N_drew)); exact HO268.out)) k_ hk_.2.1), (Kd.freshB (g := gb244) (o := .cells #[.string t240, .slice Ao9 t241.length co9] 30 (0, 0)) (by (with_reducible repeat (first | refine blk_drewN ?_ _ | refine blk_drew ?_ | refine blk_alloc ?_ _)); exact BK244.out) k_ hk_.2.1)⟩)) (below_size (by repeat (first | (with_reducible first | exact HB.out | apply below_alloc | apply pw_below_drewN | apply below_drew1 | refine below_set ?_ GE244.out) | exact HB.out)))); have n5_ := Aside0.mk (blk_below (g := gb244) (o := .cells #[.string t240, .slice Ao9 t241.length co9] 30 (0, 0)) (by (with_reducible repeat (first | refine blk_drewN ?_ _ | refine blk_drew ?_ | refine blk_alloc ?_ _)); exact BK244.out) hb); have n6_ := Aside0.mk (below_step (by repeat (first | (with_reducible first | exact HB.out | apply below_alloc | apply pw_below_drewN | apply below_drew1 | refine below_set ?_ GE244.out) | exact HB.out)) hb); clear HO_3; clear HO_6; clear HO265; clear HO268; clear BK244; clear HB; have HO_3 := n0_; have HO_6 := n1_; have HO265 := n2_; have HO268 := n3_; have HO271 := n4_; have BK244 := n5_; have HB := n6_; clear n0_ n1_ n2_ n3_ n4_ n5_ n6_; (try clear hb); (try clear hb2); (try clear hk); (try clear hi); (try clear ho0); obtain ⟨Ao66, co66, eo66⟩ := Kd.N_slice HO271.out; subst eo66) | (go_at_call 14; (with_reducible refine (impl_CallsOf.calls k2 _ _ t237 t240 t269 _ ?side1 ?side2 A33.out).mono ?_); (case side1 => repeat (first | exact (Kd.N_reads' HO_3.out).2.2 | (with_reducible refine Kd.C_alloc ?_ _) | (with_reducible refine Kd.C_drewN ?_ _) | (with_reducible refine Kd.C_drew ?_))); (case side2 => exact (Kd.N_reads' HO_3.out).2.1); rintro e w65 ⟨v270, rfl, ho0, hb⟩; have n0_ := Aside0.mk (Kd.N_elder' (by (with_reducible repeat (first | apply Kd.N_alloc | apply Kd.N_drewN | apply Kd.N_drew)); exact HO_3.out) (Kd.S_base ho0) hb); have n1_ := Aside0.mk (Kd.N_elder' (by (with_reducible repeat (first | apply Kd.N_alloc | apply Kd.N_drewN | apply Kd.N_drew)); exact HO_6.out) (Kd.S_base ho0) hb); have n2_ := Aside0.mk (Kd.N_elder' (by (with_reducible repeat (first | apply Kd.N_alloc | apply Kd.N_drewN | apply Kd.N_drew)); exact HO265.out) (Kd.S_base ho0) hb); have n3_ := Aside0.mk (Kd.N_elder' (by (with_reducible repeat (first | apply Kd.N_alloc | apply Kd.N_drewN | apply Kd.N_drew)); exact HO268.out) (Kd.S_base ho0) hb); have n4_ := Aside0.mk (Kd.N_lower (Kd.N_mono (ok' := fun k_ => some k_ ≠ (.slice Ao10 t237.length co10 : Value).ownBlock ∧ some k_ ≠ (.slice Ao54 x6_2.length co54 : Value).ownBlock ∧ some k_ ≠ (.slice Ao63 y263.length co63 : Value).ownBlock ∧ some k_ ≠ (v267 : Value).ownBlock ∧ k_ ≠ gb244) (Kd.S_N (Kd.S_bound ho0)) (fun k_ hk_ => ⟨(Kd.fresh' (Kd.N_lt (by (with_reducible repeat (first | apply Kd.N_alloc | apply Kd.N_drewN | apply Kd.N_drew)); exact HO_3.out)) k_ hk_.2.1), (Kd.fresh' (Kd.N_lt (by (with_reducible repeat (first | apply Kd.N_alloc | apply Kd.N_drewN | apply Kd.N_drew)); exact HO_6.out)) k_ hk_.2.1), (Kd.fresh' (Kd.N_lt (by (with_reducible repeat (first | apply Kd.N_alloc | apply Kd.N_drewN | apply Kd.N_drew)); exact HO265.out)) k_ hk_.2.1), (Kd.fresh' (Kd.N_lt (by (with_reducible repeat (first | apply Kd.N_alloc | apply Kd.N_drewN | apply Kd.N_drew)); exact HO268.out)) k_ hk_.2.1), (Kd.freshB (g := gb244) (o := .cells #[.string t240, .slice Ao9 t241.length co9] 30 (0, 0)) (by (with_reducible repeat (first | refine blk_drewN ?_ _ | refine blk_drew ?_ | refine blk_alloc ?_ _)); exact BK244.out) k_ hk_.2.1)⟩)) (below_size (by repeat (first | (with_reducible first | exact HB.out | apply below_alloc | apply pw_below_drewN | apply below_drew1 | refine below_set ?_ GE244.out) | exact HB.out)))); have n5_ := Aside0.mk (blk_below (g := gb244) (o := .cells #[.string t240, .slice Ao9 t241.length co9] 30 (0, 0)) (by (with_reducible repeat (first | refine blk_drewN ?_ _ | refine blk_drew ?_ | refine blk_alloc ?_ _)); exact BK244.out) hb); have n6_ := Aside0.mk (below_step (by repeat (first | (with_reducible first | exact HB.out | apply below_alloc | apply pw_below_drewN | apply below_drew1 | refine below_set ?_ GE244.out) | exact HB.out)) hb); clear HO_3; clear HO_6; clear HO265; clear HO268; clear BK244; clear HB; have HO_3 := n0_; have HO_6 := n1_; have HO265 := n2_; have HO268 := n3_; have HO271 := n4_; have BK244 := n5_; have HB := n6_; clear n0_ n1_ n2_ n3_ n4_ n5_ n6_; (try clear hb); (try clear hb2); (try clear hk); (try clear hi); (try clear ho0); obtain ⟨Ao66, co66, eo66⟩ := Kd.N_slice HO271.out; subst eo66) | (go_at_call 14; (with_reducible refine (impl_CallsOf.calls k2 _ _ t237 t240 t269 _ ?side1 ?side2 A33.out).mono ?_); (case side1 => repeat (first | exact (Kd.N_reads' HO_3.out).2.2 | (with_reducible refine Kd.C_alloc ?_ _) | (with_reducible refine Kd.C_drewN ?_ _) | (with_reducible refine Kd.C_drew ?_))); (case side2 => exact (Kd.N_reads' HO_3.out).2.1); rintro e w65 ⟨v270, rfl, ho0, hb⟩; have n0_ := Aside0.mk (Kd.N_elder' (by (with_reducible repeat (first | apply Kd.N_alloc | apply Kd.N_drewN | apply Kd.N_drew)); exact HO_3.out) (Kd.S_base ho0) hb); have n1_ := Aside0.mk (Kd.N_elder' (by (with_reducible repeat (first | apply Kd.N_alloc | apply Kd.N_drewN | apply Kd.N_drew)); exact HO_6.out) (Kd.S_base ho0) hb); have n2_ := Aside0.mk (Kd.N_elder' (by (with_reducible repeat (first | apply Kd.N_alloc | apply Kd.N_drewN | apply Kd.N_drew)); exact HO265.out) (Kd.S_base ho0) hb); have n3_ := Aside0.mk (Kd.N_elder' (by (with_reducible repeat (first | apply Kd.N_alloc | apply Kd.N_drewN | apply Kd.N_drew)); exact HO268.out) (Kd.S_base ho0) hb); have n4_ := Aside0.mk (Kd.N_lower (Kd.N_mono (ok' := fun k_ => some k_ ≠ (.slice Ao10 t237.length co10 : Value).ownBlock ∧ some k_ ≠ (.slice Ao54 x6_2.length co54 : Value).ownBlock ∧ some k_ ≠ (.slice Ao63 y263.length co63 : Value).ownBlock ∧ some k_ ≠ (v267 : Value).ownBlock ∧ k_ ≠ gb244) (Kd.S_N (Kd.S_bound ho0)) (fun k_ hk_ => ⟨(Kd.fresh' (Kd.N_lt (by (with_reducible repeat (first | apply Kd.N_alloc | apply Kd.N_drewN | apply Kd.N_drew)); exact HO_3.out)) k_ hk_.2.1), (Kd.fresh' (Kd.N_lt (by (with_reducible repeat (first | apply Kd.N_alloc | apply Kd.N_drewN | apply Kd.N_drew)); exact HO_6.out)) k_ hk_.2.1), (Kd.fresh' (Kd.N_lt (by (with_reducible repeat (first | apply Kd.N_alloc | apply Kd.N_drewN | apply Kd.N_drew)); exact HO265.out)) k_ hk_.2.1), (Kd.fresh' (Kd.N_lt (by (with_reducible repeat (first | apply Kd.N_alloc | apply Kd.N_drewN | apply Kd.N_drew)); exact HO268.out)) k_ hk_.2.1), (Kd.freshB (g := gb244) (o := .cells #[.string t240, .slice Ao9 t241.length co9] 30 (0, 0)) (by (with_reducible repeat (first | refine blk_drewN ?_ _ | refine blk_drew ?_ | refine blk_alloc ?_ _)); exact BK244.out) k_ hk_.2.1)⟩)) (below_size (by repeat (first | (with_reducible first | exact HB.out | apply below_alloc | apply pw_below_drewN | apply below_drew1 | refine below_set ?_ GE244.out) | exact HB.out)))); have n5_ := Aside0.mk (blk_below (g := gb244) (o := .cells #[.string t240, .slice Ao9 t241.length co9] 30 (0, 0)) (by (with_reducible repeat (first | refine blk_drewN ?_ _ | refine blk_drew ?_ | refine blk_alloc ?_ _)); exact BK244.out) hb); have n6_ := Aside0.mk (below_step (by repeat (first | (with_reducible first | exact HB.out | apply below_alloc | apply pw_below_drewN | apply below_drew1 | refine below_set ?_ GE244.out) | exact HB.out)) hb); clear HO_3; clear HO_6; clear HO265; clear HO268; clear BK244; clear HB; have HO_3 := n0_; have HO_6 := n1_; have HO265 := n2_; have HO268 := n3_; have HO271 := n4_; have BK244 := n5_; have HB := n6_; clear n0_ n1_ n2_ n3_ n4_ n5_ n6_; (try clear hb); (try clear hb2); (try clear hk); (try clear hi); (try clear ho0); obtain ⟨Ao66, co66, eo66⟩ := Kd.N_slice HO271.out; subst eo66) | (go_at_call 23; (with_reducible refine (impl_AnyOrder.calls k2 _ _ t237 _ _ x6_2 false _ ?side1 ?side2 ?side3 ?side4 A35.out).mono ?_); (case side1 => repeat (first | exact (Kd.N_reads' HO_3.out).2.2 | (with_reducible refine Kd.C_alloc ?_ _) | (with_reducible refine Kd.C_drewN ?_ _) | (with_reducible refine Kd.C_drew ?_))); (case side2 => exact (Kd.N_reads' HO_3.out).2.1); (case side3 => repeat (first | exact (Kd.N_reads' HO_6.out).2.2 | (with_reducible refine Kd.C_alloc ?_ _) | (with_reducible refine Kd.C_drewN ?_ _) | (with_reducible refine Kd.C_drew ?_))); (case side4 => exact (Kd.N_reads' HO_6.out).2.1); rintro e w67 ⟨rfl, hb⟩; have n0_ := Aside0.mk (Kd.N_below (by (with_reducible repeat (first | apply Kd.N_alloc | apply Kd.N_drewN | apply Kd.N_drew)); exact HO_3.out) hb); have n1_ := Aside0.mk (Kd.N_below (by (with_reducible repeat (first | apply Kd.N_alloc | apply Kd.N_drewN | apply Kd.N_drew)); exact HO_6.out) hb); have n2_ := Aside0.mk (Kd.N_below (by (with_reducible repeat (first | apply Kd.N_alloc | apply Kd.N_drewN | apply Kd.N_drew)); exact HO265.out) hb); have n3_ := Aside0.mk (Kd.N_below (by (with_reducible repeat (first | apply Kd.N_alloc | apply Kd.N_drewN | apply Kd.N_drew)); exact HO268.out) hb); have n4_ := Aside0.mk (Kd.N_below (by (with_reducible repeat (first | apply Kd.N_alloc | apply Kd.N_drewN | apply Kd.N_drew)); exact HO271.out) hb); have n5_ := Aside0.mk (blk_below (g := gb244) (o := .cells #[.string t240, .slice Ao9 t241.length co9] 30 (0, 0)) (by (with_reducible repeat (first | refine blk_drewN ?_ _ | refine blk_drew ?_ | refine blk_alloc ?_ _)); exact BK244.out) hb); have n6_ := Aside0.mk (below_step (by repeat (first | (with_reducible first | exact HB.out | apply below_alloc | apply pw_below_drewN | apply below_drew1 | refine below_set ?_ GE244.out) | exact HB.out)) hb); clear HO_3; clear HO_6; clear HO265; clear HO268; clear HO271; clear BK244; clear HB; have HO_3 := n0_; have HO_6 := n1_; have HO265 := n2_; have HO268 := n3_; have HO271 := n4_; have BK244 := n5_; have HB := n6_; clear n0_ n1_ n2_ n3_ n4_ n5_ n6_; (try clear hb); (try clear hb2); (try clear hk); (try clear hi)))
                        go_ret
                        exact ⟨by first | rfl | (simp [errW_none, errW_some] <;> rfl) | (simp [*, errW_none, errW_some] <;> rfl), by repeat (first | (with_reducible first | exact HB.out | apply below_alloc | apply pw_below_drewN | apply below_drew1 | refine below_set ?_ GE244.out) | exact HB.out)⟩
                    · rw [if_neg c34] at H
                      have c34b0 : decide (t245 ≤ (t269.length : Int)) = false := decide_eq_false c34
                      clear c34
                      obtain rfl := Option.some.inj H
                      obtain ⟨Ao68, co68, eo68⟩ := Kd.N_slice HO_6.out
                      subst eo68
                      try go_wp2
                      have n0_ := Aside0.mk (Kd.N_drew HO_3.out)
                      have n1_ := Aside0.mk (Kd.N_drew HO_6.out)
                      have n2_ := Aside0.mk (Kd.R_drew HO_245001.out)
                      have n3_ := Aside0.mk (blk_drew BK244.out)
                      have n4_ := Aside0.mk (below_drew1 HB.out)
                      clear HO_3
                      clear HO_6
                      clear HO_245001
                      clear BK244
                      clear HB
                      have HO_3 := n0_
                      have HO_6 := n1_
                      have HO_245001 := n2_
                      have BK244 := n3_
                      have HB := n4_
                      clear n0_ n1_ n2_ n3_ n4_
                      refine start_ (n := 7) (S := fun w' => w'.cell? ⟨gb244, 0, none⟩ = some (.string t240) ∧ w'.cell? ⟨gb244, 1, none⟩ = some (.slice Ao9 t241.length co9)) (ds := []) #[false, false, false, false, false, false, false] (by kernel_rfl) rfl rfl ⟨(blk_cell BK244.out 0).trans rfl, (blk_cell BK244.out 1).trans rfl⟩ (fun hHeld => ?_)
                      generalize wr.drew = w69 at HO_3 HO_6 HO_245001 BK244 HB hHeld ⊢
                      refine pure_ (i := 1) (N := some 45) (v := ?_) (a' := ?_) #[false, true, false, false, false, false, false] rfl rfl (by kernel_rfl) (fun _ _ _ h => h) (Or.inl ⟨by rfl, ?_⟩) ?_ ?_
                      rotate_left
                      · intro w'
                        go_simp
                        with_reducible rfl
                      rotate_left
                      · simp only [Act.put, List.setIfInBounds_toArray, List.set_cons_zero, List.set_cons_succ, i64_w, i32_w]
                        rfl
                      refine take_ (i := 3) (N := some 47) (v := ?_) (a' := ?_) #[false, true, false, true, false, false, false] rfl rfl (by kernel_rfl) (fun _ _ _ h => h) (Or.inl ⟨by rfl, ?_⟩) hHeld ?_ ?_
                      rotate_left
                      · rintro w' ⟨s0, s1⟩
                        go_simp
                        with_reducible rfl
                      rotate_left
                      · simp only [Act.put, List.setIfInBounds_toArray, List.set_cons_zero, List.set_cons_succ, i64_w, i32_w]
                        rfl
                      refine join_ (σ := Value × Value × Value) 2 #[true, true, true, true, true, false, false] (fun s_ => [(44, s_.1), (46, s_.2.1), (48, s_.2.2)]) (fun s_ w' => (w'.cell? ⟨gb244, 0, none⟩ = some (.string t240) ∧ w'.cell? ⟨gb244, 1, none⟩ = some (.slice Ao9 t241.length co9)) ∧ (Kd.N k30 30 w' w.heap.size (fun k_ => some k_ ≠ (s_.2.2 : Value).ownBlock ∧ some k_ ≠ (.slice Ao10 t237.length co10 : Value).ownBlock ∧ k_ ≠ gb244) s_.2.1 y260) ∧ (Kd.N k30 30 w' w.heap.size (fun k_ => some k_ ≠ (s_.2.1 : Value).ownBlock ∧ some k_ ≠ (.slice Ao10 t237.length co10 : Value).ownBlock ∧ some k_ ≠ (.slice Ao68 x6_2.length co68 : Value).ownBlock ∧ k_ ≠ gb244) s_.2.2 y263) ∧ (Kd.N k30 30 w' w.heap.size (fun k_ => some k_ ≠ (s_.2.1 : Value).ownBlock ∧ some k_ ≠ (s_.2.2 : Value).ownBlock ∧ some k_ ≠ (.slice Ao68 x6_2.length co68 : Value).ownBlock ∧ k_ ≠ gb244) (.slice Ao10 t237.length co10) t237) ∧ (Kd.N k30 30 w' w.heap.size (fun k_ => some k_ ≠ (s_.2.1 : Value).ownBlock ∧ some k_ ≠ (s_.2.2 : Value).ownBlock ∧ some k_ ≠ (.slice Ao10 t237.length co10 : Value).ownBlock ∧ k_ ≠ gb244) (.slice Ao68 x6_2.length co68) x6_2) ∧ (w'.heap[gb244]? = some (.cells #[.string t240, .slice Ao9 t241.length co9] 30 (0, 0))) ∧ (Below w.heap.size w w')) ?_ ?_
                      rotate_left
                      · intro hCont
                        refine two_ (i := 0) (j := 4) (Ni := some 44) (Nj := some 48) #[true, true, false, true, false, false, false] #[false, true, false, true, true, false, false] rfl rfl rfl rfl (by kernel_rfl) (by decide) (by decide) (fun K hK => ?_) (fun K hK => ?_)
                        · skip
                          refine Kd.N_lit_step k30 _ 30 ?hg (N' := 44) ?hd (xs := ([] : List (S30))) (inner := []) (ok := (fun k_ => some k_ ≠ (.slice Ao10 t237.length co10 : Value).ownBlock ∧ some k_ ≠ (.slice Ao68 x6_2.length co68 : Value).ownBlock ∧ some k_ ≠ (.slice Ao9 t241.length co9 : Value).ownBlock ∧ k_ ≠ gb244)) (okp := (fun k_ => some k_ ≠ (.slice Ao10 t237.length co10 : Value).ownBlock ∧ some k_ ≠ (.slice Ao68 x6_2.length co68 : Value).ownBlock ∧ some k_ ≠ (.slice Ao9 t241.length co9 : Value).ownBlock ∧ k_ ≠ gb244)) ?hr ?hp (fun _ hk => hk) ((show ∀ k_, w69.heap.size ≤ k_ → (fun k_ => some k_ ≠ (.slice Ao10 t237.length co10 : Value).ownBlock ∧ some k_ ≠ (.slice Ao68 x6_2.length co68 : Value).ownBlock ∧ some k_ ≠ (.slice Ao9 t241.length co9 : Value).ownBlock ∧ k_ ≠ gb244) k_ from fun k_ hk => ⟨Kd.fresh' (Kd.N_lt (by (with_reducible repeat (first | apply Kd.N_alloc | apply Kd.N_drewN | apply Kd.N_drew)); exact HO_3.out)) k_ hk, Kd.fresh' (Kd.N_lt (by (with_reducible repeat (first | apply Kd.N_alloc | apply Kd.N_drewN | apply Kd.N_drew)); exact HO_6.out)) k_ hk, Kd.fresh' (Kd.R_lt (by (with_reducible repeat (first | apply Kd.R_alloc | apply Kd.R_drewN | apply Kd.R_drew)); exact HO_245001.out)) k_ hk, Kd.freshB (g := gb244) (o := .cells #[.string t240, .slice Ao9 t241.length co9] 30 (0, 0)) (by (with_reducible repeat (first | refine blk_drewN ?_ _ | refine blk_drew ?_ | refine blk_alloc ?_ _)); exact BK244.out) k_ hk⟩) _ (Nat.le_refl _)) (Below.refl _ _) (Nat.le_refl _) (by simp) ?_; (case hd => rfl); (case hg => rfl); (case hr => first | (go_simp; done) | (go_simp; rfl)); (case hp => exact (Reps.none _ _))
                          intro v258 w70 ho71 hb hg_ hnew_
                          clear hg_ hnew_
                          (first | rw [← Ny257.out] at ho71 | (simp only [Int.reduceToNat] at ho71; rw [← Ny257.out] at ho71))
                          have n0_ := Aside0.mk (Kd.N_elder' (by (with_reducible repeat (first | apply Kd.N_alloc | apply Kd.N_drewN | apply Kd.N_drew)); exact HO_3.out) (Kd.N_base ho71) hb)
                          have n1_ := Aside0.mk (Kd.N_elder' (by (with_reducible repeat (first | apply Kd.N_alloc | apply Kd.N_drewN | apply Kd.N_drew)); exact HO_6.out) (Kd.N_base ho71) hb)
                          have n2_ := Aside0.mk (Kd.R_below (by (with_reducible repeat (first | apply Kd.R_alloc | apply Kd.R_drewN | apply Kd.R_drew)); exact HO_245001.out) hb)
                          have n3_ := Aside0.mk (Kd.N_lower ho71 (below_size (by repeat (first | (with_reducible first | exact HB.out | apply below_alloc | apply pw_below_drewN | apply below_drew1 | refine below_set ?_ GE244.out) | exact HB.out))))
                          have n4_ := Aside0.mk (blk_below (g := gb244) (o := .cells #[.string t240, .slice Ao9 t241.length co9] 30 (0, 0)) (by (with_reducible repeat (first | refine blk_drewN ?_ _ | refine blk_drew ?_ | refine blk_alloc ?_ _)); exact BK244.out) hb)
                          have n5_ := Aside0.mk (below_step (by repeat (first | (with_reducible first | exact HB.out | apply below_alloc | apply pw_below_drewN | apply below_drew1 | refine below_set ?_ GE244.out) | exact HB.out)) hb)
                          clear HO_3
                          clear HO_6
                          clear HO_245001
                          clear BK244
                          clear HB
                          have HO_3 := n0_
                          have HO_6 := n1_
                          have HO_245001 := n2_
                          have HO259 := n3_
                          have BK244 := n4_
                          have HB := n5_
                          clear n0_ n1_ n2_ n3_ n4_ n5_
                          clear hb ho71
                          refine hK.out _ _ ⟨(blk_cell BK244.out 0).trans rfl, (blk_cell BK244.out 1).trans rfl⟩ (fun hHeld => ?_)
                          clear hK K
                          refine norm_ (a' := ?_) ?_ ?_
                          rotate_left
                          · show Act.put _ (some 44) _ = _
                            simp only [Act.put, List.setIfInBounds_toArray, List.set_cons_zero, List.set_cons_succ, i64_w, i32_w]
                            rfl
                          refine two_ (i := 2) (j := 4) (Ni := some 46) (Nj := some 48) #[true, true, true, true, false, false, false] #[true, true, false, true, true, false, false] rfl rfl rfl rfl (by kernel_rfl) (by decide) (by decide) (fun K hK => ?_) (fun K hK => ?_)
                          · skip
                            refine Kd.N_append_rows_step k30 (w0 := w) w.heap.size (by rfl) (.tmp 44) (.tmp 45) 23 30 (.agg #[(.string ⟨#[]⟩), (.slice none 0 0)]) 40 rfl Try.underlying23 info30 rfl (by decide) (by omega) v258 y257 x6_2 _ _ _ (fun k_ => some k_ ≠ (.slice Ao10 t237.length co10 : Value).ownBlock ∧ k_ ≠ gb244) (fun k_ => ((fun k_ => some k_ ≠ (.slice Ao10 t237.length co10 : Value).ownBlock ∧ k_ ≠ gb244)) k_ ∧ some k_ ≠ (v258 : Value).ownBlock) rfl rfl ?aO ?aR (fun _ hk => hk) ?aF ?aB ?aS ?aL ?_
                            (case aR => exact (by skip; exact Kd.N_F (Kd.N_mono (ok' := (fun k_ => ((fun k_ => some k_ ≠ (.slice Ao10 t237.length co10 : Value).ownBlock ∧ k_ ≠ gb244)) k_ ∧ some k_ ≠ (v258 : Value).ownBlock)) (HO_6.out) (fun k_ hk => ⟨⟨(gives hk), (gives hk)⟩, hk.2⟩))))
                            (case aB => exact (by repeat (first | (with_reducible first | exact HB.out | apply below_alloc | apply pw_below_drewN | apply below_drew1 | refine below_set ?_ GE244.out) | exact HB.out)))
                            (case aF => exact (fun k_ hk => ⟨Kd.fresh' (Kd.N_lt (by (with_reducible repeat (first | apply Kd.N_alloc | apply Kd.N_drewN | apply Kd.N_drew)); exact HO_3.out)) k_ hk, Kd.freshB (g := gb244) (o := .cells #[.string t240, .slice Ao9 t241.length co9] 30 (0, 0)) (by (with_reducible repeat (first | refine blk_drewN ?_ _ | refine blk_drew ?_ | refine blk_alloc ?_ _)); exact BK244.out) k_ hk⟩))
                            (case aO => exact (by (with_reducible repeat (first | apply Kd.N_alloc | apply Kd.N_drewN | apply Kd.N_drew)); exact Kd.N_mono HO259.out (fun _ hk => ⟨hk.1, (gives hk)⟩)))
                            (case aS => exact (below_size (by repeat (first | (with_reducible first | exact HB.out | apply below_alloc | apply pw_below_drewN | apply below_drew1 | refine below_set ?_ GE244.out) | exact HB.out))))
                            (case aL => have := LMc31.out; omega)
                            intro v261 w72 ho hb hg hat
                            rw [← Ny260.out] at ho
                            have n0_ := Aside0.mk (Kd.N_afterv (ok := (fun k_ => some k_ ≠ (.slice Ao68 x6_2.length co68 : Value).ownBlock ∧ k_ ≠ gb244)) (by (with_reducible repeat (first | apply Kd.N_alloc | apply Kd.N_drewN | apply Kd.N_drew)); exact HO_3.out) hg hat)
                            have n1_ := Aside0.mk (Kd.N_afterv (ok := (fun k_ => some k_ ≠ (.slice Ao10 t237.length co10 : Value).ownBlock ∧ k_ ≠ gb244)) (by (with_reducible repeat (first | apply Kd.N_alloc | apply Kd.N_drewN | apply Kd.N_drew)); exact HO_6.out) hg hat)
                            have n2_ := Aside0.mk (Kd.R_over' (by (with_reducible repeat (first | apply Kd.R_alloc | apply Kd.R_drewN | apply Kd.R_drew)); exact HO_245001.out) (Kd.N_typed (by (with_reducible repeat (first | apply Kd.N_alloc | apply Kd.N_drewN | apply Kd.N_drew)); exact HO259.out)) (by decide) hg)
                            have n3_ := Aside0.mk (blk_grown (g := gb244) (o := .cells #[.string t240, .slice Ao9 t241.length co9] 30 (0, 0)) (by (with_reducible repeat (first | refine blk_drewN ?_ _ | refine blk_drew ?_ | refine blk_alloc ?_ _)); exact BK244.out) hg (Kd.N_away HO259.out (fun _ hk => (gives hk))))
                            have n4_ := Aside0.mk (hb)
                            have n5_ := Aside0.mk (ho)
                            clear HO_3
                            clear HO_6
                            clear HO_245001
                            clear BK244
                            clear HB
                            clear HO259
                            have HO_3 := n0_
                            have HO_6 := n1_
                            have HO_245001 := n2_
                            have BK244 := n3_
                            have HB := n4_
                            have HO262 := n5_
                            clear n0_ n1_ n2_ n3_ n4_ n5_
                            clear ho hb hg hat
                            refine hK.out _ _ ⟨(blk_cell BK244.out 0).trans rfl, (blk_cell BK244.out 1).trans rfl⟩ (fun hHeld => ?_)
                            clear hK K
                            refine norm_ (a' := ?_) ?_ ?_
                            rotate_left
                            · show Act.put _ (some 46) _ = _
                              simp only [Act.put, List.setIfInBounds_toArray, List.set_cons_zero, List.set_cons_succ, i64_w, i32_w]
                              rfl
                            refine one_ (i := 4) (N := some 48) #[true, true, true, true, true, false, false] rfl rfl (by kernel_rfl) (by decide) (fun K hK => ?_)
                            refine Kd.N_lit_step k30 _ 30 ?hg (N' := 48) ?hd (xs := ([(⟨t240, t241⟩ : S30)] : List (S30))) (inner := [.string t240, .slice Ao9 t241.length co9]) (ok := (fun k_ => some k_ ≠ (.slice Ao10 t237.length co10 : Value).ownBlock ∧ some k_ ≠ (.slice Ao68 x6_2.length co68 : Value).ownBlock ∧ some k_ ≠ (v261 : Value).ownBlock ∧ k_ ≠ gb244)) (okp := (fun k_ => some k_ ≠ (.slice Ao10 t237.length co10 : Value).ownBlock ∧ some k_ ≠ (.slice Ao68 x6_2.length co68 : Value).ownBlock ∧ some k_ ≠ (v261 : Value).ownBlock ∧ k_ ≠ gb244)) ?hr ?hp (fun _ hk => hk) ((show ∀ k_, w72.heap.size ≤ k_ → (fun k_ => some k_ ≠ (.slice Ao10 t237.length co10 : Value).ownBlock ∧ some k_ ≠ (.slice Ao68 x6_2.length co68 : Value).ownBlock ∧ some k_ ≠ (v261 : Value).ownBlock ∧ k_ ≠ gb244) k_ from fun k_ hk => ⟨Kd.fresh' (Kd.N_lt (by (with_reducible repeat (first | apply Kd.N_alloc | apply Kd.N_drewN | apply Kd.N_drew)); exact HO_3.out)) k_ hk, Kd.fresh' (Kd.N_lt (by (with_reducible repeat (first | apply Kd.N_alloc | apply Kd.N_drewN | apply Kd.N_drew)); exact HO_6.out)) k_ hk, Kd.fresh' (Kd.N_lt (by (with_reducible repeat (first | apply Kd.N_alloc | apply Kd.N_drewN | apply Kd.N_drew)); exact HO262.out)) k_ hk, Kd.freshB (g := gb244) (o := .cells #[.string t240, .slice Ao9 t241.length co9] 30 (0, 0)) (by (with_reducible repeat (first | refine blk_drewN ?_ _ | refine blk_drew ?_ | refine blk_alloc ?_ _)); exact BK244.out) k_ hk⟩) _ (Nat.le_refl _)) (Below.refl _ _) (Nat.le_refl _) (by simp) ?_; (case hd => rfl); (case hg => rfl); (case hr => first | (go_simp; done) | (go_simp; rfl)); (case hp => exact (Reps.c2 (show Kd.FK k30 _ _ (⟨t240, t241⟩ : S30) [.string t240, .slice Ao9 t241.length co9] from (k30_mkF _ _ (⟨t240, t241⟩ : S30) (Kd.R_reads' (Kd.R_mono (ok' := (fun k_ => some k_ ≠ (.slice Ao10 t237.length co10 : Value).ownBlock ∧ some k_ ≠ (.slice Ao68 x6_2.length co68 : Value).ownBlock ∧ some k_ ≠ (v261 : Value).ownBlock ∧ k_ ≠ gb244)) (Kd.R_types (Kd.R_apart' (Kd.R_apart' (Kd.R_apart' (HO_245001.out) (Kd.N_typed HO_3.out) (by decide)) (Kd.N_typed HO_6.out) (by decide)) (Kd.N_typed HO262.out) (by decide)) BK244.out (by decide)) (fun k_ hk => ⟨(gives hk), ⟨(gives hk), ⟨(gives hk), hk.2⟩⟩⟩))).2.1 (Kd.R_F (Kd.R_mono (ok' := (fun k_ => some k_ ≠ (.slice Ao10 t237.length co10 : Value).ownBlock ∧ some k_ ≠ (.slice Ao68 x6_2.length co68 : Value).ownBlock ∧ some k_ ≠ (v261 : Value).ownBlock ∧ k_ ≠ gb244)) (Kd.R_types (Kd.R_apart' (Kd.R_apart' (Kd.R_apart' (HO_245001.out) (Kd.N_typed HO_3.out) (by decide)) (Kd.N_typed HO_6.out) (by decide)) (Kd.N_typed HO262.out) (by decide)) BK244.out (by decide)) (fun k_ hk => ⟨(gives hk), ⟨(gives hk), ⟨(gives hk), hk.2⟩⟩⟩))))) (Reps.none _ _)))
                            intro v264 w73 ho74 hb hg_ hnew_
                            clear hg_ hnew_
                            (first | rw [← Ny263.out] at ho74 | (simp only [Int.reduceToNat] at ho74; rw [← Ny263.out] at ho74))
                            have n0_ := Aside0.mk (Kd.N_elder' (by (with_reducible repeat (first | apply Kd.N_alloc | apply Kd.N_drewN | apply Kd.N_drew)); exact HO_3.out) (Kd.N_base ho74) hb)
                            have n1_ := Aside0.mk (Kd.N_elder' (by (with_reducible repeat (first | apply Kd.N_alloc | apply Kd.N_drewN | apply Kd.N_drew)); exact HO_6.out) (Kd.N_base ho74) hb)
                            have n2_ := Aside0.mk (Kd.N_elder' (by (with_reducible repeat (first | apply Kd.N_alloc | apply Kd.N_drewN | apply Kd.N_drew)); exact HO262.out) (Kd.N_base ho74) hb)
                            have n3_ := Aside0.mk (Kd.N_lower ho74 (below_size (by repeat (first | (with_reducible first | exact HB.out | apply below_alloc | apply pw_below_drewN | apply below_drew1 | refine below_set ?_ GE244.out) | exact HB.out))))
                            have n4_ := Aside0.mk (blk_below (g := gb244) (o := .cells #[.string t240, .slice Ao9 t241.length co9] 30 (0, 0)) (by (with_reducible repeat (first | refine blk_drewN ?_ _ | refine blk_drew ?_ | refine blk_alloc ?_ _)); exact BK244.out) hb)
                            have n5_ := Aside0.mk (below_step (by repeat (first | (with_reducible first | exact HB.out | apply below_alloc | apply pw_below_drewN | apply below_drew1 | refine below_set ?_ GE244.out) | exact HB.out)) hb)
                            clear HO_3
                            clear HO_6
                            clear HO262
                            clear BK244
                            clear HB
                            clear HO_245001
                            have HO_3 := n0_
                            have HO_6 := n1_
                            have HO262 := n2_
                            have HO265 := n3_
                            have BK244 := n4_
                            have HB := n5_
                            clear n0_ n1_ n2_ n3_ n4_ n5_
                            clear hb ho74
                            refine hK.out _ _ ⟨(blk_cell BK244.out 0).trans rfl, (blk_cell BK244.out 1).trans rfl⟩ (fun hHeld => ?_)
                            clear hK K
                            refine norm_ (a' := ?_) ?_ ?_
                            rotate_left
                            · show Act.put _ (some 48) _ = _
                              simp only [Act.put, List.setIfInBounds_toArray, List.set_cons_zero, List.set_cons_succ, i64_w, i32_w]
                              rfl
                            exact norm_ (by simp only [putAll, Act.put, List.setIfInBounds_toArray, List.set_cons_zero, List.set_cons_succ]) (hCont (v258, v261, v264) _ ⟨hHeld, (by (with_reducible repeat (first | apply Kd.N_alloc | apply Kd.N_drewN | apply Kd.N_drew)); exact Kd.N_mono HO262.out (fun _ hk => ⟨hk.2, ⟨(gives hk), (gives hk)⟩⟩)), (by (with_reducible repeat (first | apply Kd.N_alloc | apply Kd.N_drewN | apply Kd.N_drew)); exact Kd.N_mono HO265.out (fun _ hk => ⟨(gives hk), ⟨hk.1, ⟨(gives hk), (gives hk)⟩⟩⟩)), (by (with_reducible repeat (first | apply Kd.N_alloc | apply Kd.N_drewN | apply Kd.N_drew)); exact Kd.N_mono HO_3.out (fun _ hk => ⟨(gives hk), ⟨hk.2, ⟨(gives hk), (gives hk)⟩⟩⟩)), (by (with_reducible repeat (first | apply Kd.N_alloc | apply Kd.N_drewN | apply Kd.N_drew)); exact Kd.N_mono HO_6.out (fun _ hk => ⟨(gives hk), ⟨hk.2, ⟨(gives hk), (gives hk)⟩⟩⟩)), (by (with_reducible repeat (first | refine blk_drewN ?_ _ | refine blk_drew ?_ | refine blk_alloc ?_ _)); exact BK244.out), (by repeat (first | (with_reducible first | exact HB.out | apply below_alloc | apply pw_below_drewN | apply below_drew1 | refine below_set ?_ GE244.out) | exact HB.out))⟩)
                          · skip
                            refine Kd.N_lit_step k30 _ 30 ?hg (N' := 48) ?hd (xs := ([(⟨t240, t241⟩ : S30)] : List (S30))) (inner := [.string t240, .slice Ao9 t241.length co9]) (ok := (fun k_ => some k_ ≠ (.slice Ao10 t237.length co10 : Value).ownBlock ∧ some k_ ≠ (.slice Ao68 x6_2.length co68 : Value).ownBlock ∧ some k_ ≠ (v258 : Value).ownBlock ∧ k_ ≠ gb244)) (okp := (fun k_ => some k_ ≠ (.slice Ao10 t237.length co10 : Value).ownBlock ∧ some k_ ≠ (.slice Ao68 x6_2.length co68 : Value).ownBlock ∧ some k_ ≠ (v258 : Value).ownBlock ∧ k_ ≠ gb244)) ?hr ?hp (fun _ hk => hk) ((show ∀ k_, w70.heap.size ≤ k_ → (fun k_ => some k_ ≠ (.slice Ao10 t237.length co10 : Value).ownBlock ∧ some k_ ≠ (.slice Ao68 x6_2.length co68 : Value).ownBlock ∧ some k_ ≠ (v258 : Value).ownBlock ∧ k_ ≠ gb244) k_ from fun k_ hk => ⟨Kd.fresh' (Kd.N_lt (by (with_reducible repeat (first | apply Kd.N_alloc | apply Kd.N_drewN | apply Kd.N_drew)); exact HO_3.out)) k_ hk, Kd.fresh' (Kd.N_lt (by (with_reducible repeat (first | apply Kd.N_alloc | apply Kd.N_drewN | apply Kd.N_drew)); exact HO_6.out)) k_ hk, Kd.fresh' (Kd.N_lt (by (with_reducible repeat (first | apply Kd.N_alloc | apply Kd.N_drewN | apply Kd.N_drew)); exact HO259.out)) k_ hk, Kd.freshB (g := gb244) (o := .cells #[.string t240, .slice Ao9 t241.length co9] 30 (0, 0)) (by (with_reducible repeat (first | refine blk_drewN ?_ _ | refine blk_drew ?_ | refine blk_alloc ?_ _)); exact BK244.out) k_ hk⟩) _ (Nat.le_refl _)) (Below.refl _ _) (Nat.le_refl _) (by simp) ?_; (case hd => rfl); (case hg => rfl); (case hr => first | (go_simp; done) | (go_simp; rfl)); (case hp => exact (Reps.c2 (show Kd.FK k30 _ _ (⟨t240, t241⟩ : S30) [.string t240, .slice Ao9 t241.length co9] from (k30_mkF _ _ (⟨t240, t241⟩ : S30) (Kd.R_reads' (Kd.R_mono (ok' := (fun k_ => some k_ ≠ (.slice Ao10 t237.length co10 : Value).ownBlock ∧ some k_ ≠ (.slice Ao68 x6_2.length co68 : Value).ownBlock ∧ some k_ ≠ (v258 : Value).ownBlock ∧ k_ ≠ gb244)) (Kd.R_types (Kd.R_apart' (Kd.R_apart' (Kd.R_apart' (HO_245001.out) (Kd.N_typed HO_3.out) (by decide)) (Kd.N_typed HO_6.out) (by decide)) (Kd.N_typed HO259.out) (by decide)) BK244.out (by decide)) (fun k_ hk => ⟨(gives hk), ⟨(gives hk), ⟨(gives hk), hk.2⟩⟩⟩))).2.1 (Kd.R_F (Kd.R_mono (ok' := (fun k_ => some k_ ≠ (.slice Ao10 t237.length co10 : Value).ownBlock ∧ some k_ ≠ (.slice Ao68 x6_2.length co68 : Value).ownBlock ∧ some k_ ≠ (v258 : Value).ownBlock ∧ k_ ≠ gb244)) (Kd.R_types (Kd.R_apart' (Kd.R_apart' (Kd.R_apart' (HO_245001.out) (Kd.N_typed HO_3.out) (by decide)) (Kd.N_typed HO_6.out) (by decide)) (Kd.N_typed HO259.out) (by decide)) BK244.out (by decide)) (fun k_ hk => ⟨(gives hk), ⟨(gives hk), ⟨(gives hk), hk.2⟩⟩⟩))))) (Reps.none _ _)))
                            intro v264 w72 ho73 hb hg_ hnew_
                            clear hg_ hnew_
                            (first | rw [← Ny263.out] at ho73 | (simp only [Int.reduceToNat] at ho73; rw [← Ny263.out] at ho73))
                            have n0_ := Aside0.mk (Kd.N_elder' (by (with_reducible repeat (first | apply Kd.N_alloc | apply Kd.N_drewN | apply Kd.N_drew)); exact HO_3.out) (Kd.N_base ho73) hb)
                            have n1_ := Aside0.mk (Kd.N_elder' (by (with_reducible repeat (first | apply Kd.N_alloc | apply Kd.N_drewN | apply Kd.N_drew)); exact HO_6.out) (Kd.N_base ho73) hb)
                            have n2_ := Aside0.mk (Kd.N_elder' (by (with_reducible repeat (first | apply Kd.N_alloc | apply Kd.N_drewN | apply Kd.N_drew)); exact HO259.out) (Kd.N_base ho73) hb)
                            have n3_ := Aside0.mk (Kd.N_lower ho73 (below_size (by repeat (first | (with_reducible first | exact HB.out | apply below_alloc | apply pw_below_drewN | apply below_drew1 | refine below_set ?_ GE244.out) | exact HB.out))))
                            have n4_ := Aside0.mk (blk_below (g := gb244) (o := .cells #[.string t240, .slice Ao9 t241.length co9] 30 (0, 0)) (by (with_reducible repeat (first | refine blk_drewN ?_ _ | refine blk_drew ?_ | refine blk_alloc ?_ _)); exact BK244.out) hb)
                            have n5_ := Aside0.mk (below_step (by repeat (first | (with_reducible first | exact HB.out | apply below_alloc | apply pw_below_drewN | apply below_drew1 | refine below_set ?_ GE244.out) | exact HB.out)) hb)
                            clear HO_3
                            clear HO_6
                            clear HO259
                            clear BK244
                            clear HB
                            clear HO_245001
                            have HO_3 := n0_
                            have HO_6 := n1_
                            have HO259 := n2_
                            have HO265 := n3_
                            have BK244 := n4_
                            have HB := n5_
                            clear n0_ n1_ n2_ n3_ n4_ n5_
                            clear hb ho73
                            refine hK.out _ _ ⟨(blk_cell BK244.out 0).trans rfl, (blk_cell BK244.out 1).trans rfl⟩ (fun hHeld => ?_)
                            clear hK K
                            refine norm_ (a' := ?_) ?_ ?_
                            rotate_left
                            · show Act.put _ (some 48) _ = _
                              simp only [Act.put, List.setIfInBounds_toArray, List.set_cons_zero, List.set_cons_succ, i64_w, i32_w]
                              rfl
                            refine one_ (i := 2) (N := some 46) #[true, true, true, true, true, false, false] rfl rfl (by kernel_rfl) (by decide) (fun K hK => ?_)
                            refine Kd.N_append_rows_step k30 (w0 := w) w.heap.size (by rfl) (.tmp 44) (.tmp 45) 23 30 (.agg #[(.string ⟨#[]⟩), (.slice none 0 0)]) 40 rfl Try.underlying23 info30 rfl (by decide) (by omega) v258 y257 x6_2 _ _ _ (fun k_ => some k_ ≠ (.slice Ao10 t237.length co10 : Value).ownBlock ∧ some k_ ≠ (v264 : Value).ownBlock ∧ k_ ≠ gb244) (fun k_ => ((fun k_ => some k_ ≠ (.slice Ao10 t237.length co10 : Value).ownBlock ∧ some k_ ≠ (v264 : Value).ownBlock ∧ k_ ≠ gb244)) k_ ∧ some k_ ≠ (v258 : Value).ownBlock) rfl rfl ?aO ?aR (fun _ hk => hk) ?aF ?aB ?aS ?aL ?_
                            (case aR => exact (by skip; exact Kd.N_F (Kd.N_mono (ok' := (fun k_ => ((fun k_ => some k_ ≠ (.slice Ao10 t237.length co10 : Value).ownBlock ∧ some k_ ≠ (v264 : Value).ownBlock ∧ k_ ≠ gb244)) k_ ∧ some k_ ≠ (v258 : Value).ownBlock)) (HO_6.out) (fun k_ hk => ⟨⟨(gives hk), ⟨hk.2, (gives hk)⟩⟩, (gives hk)⟩))))
                            (case aB => exact (by repeat (first | (with_reducible first | exact HB.out | apply below_alloc | apply pw_below_drewN | apply below_drew1 | refine below_set ?_ GE244.out) | exact HB.out)))
                            (case aF => exact (fun k_ hk => ⟨Kd.fresh' (Kd.N_lt (by (with_reducible repeat (first | apply Kd.N_alloc | apply Kd.N_drewN | apply Kd.N_drew)); exact HO_3.out)) k_ hk, Kd.fresh' (Kd.N_lt (by (with_reducible repeat (first | apply Kd.N_alloc | apply Kd.N_drewN | apply Kd.N_drew)); exact HO265.out)) k_ hk, Kd.freshB (g := gb244) (o := .cells #[.string t240, .slice Ao9 t241.length co9] 30 (0, 0)) (by (with_reducible repeat (first | refine blk_drewN ?_ _ | refine blk_drew ?_ | refine blk_alloc ?_ _)); exact BK244.out) k_ hk⟩))
                            (case aO => exact (by (with_reducible repeat (first | apply Kd.N_alloc | apply Kd.N_drewN | apply Kd.N_drew)); exact Kd.N_mono HO259.out (fun _ hk => ⟨(gives hk), ⟨hk.2, (gives hk)⟩⟩)))
                            (case aS => exact (below_size (by repeat (first | (with_reducible first | exact HB.out | apply below_alloc | apply pw_below_drewN | apply below_drew1 | refine below_set ?_ GE244.out) | exact HB.out))))
                            (case aL => have := LMc31.out; omega)
                            intro v261 w74 ho hb hg hat
                            rw [← Ny260.out] at ho
                            have n0_ := Aside0.mk (Kd.N_afterv (ok := (fun k_ => some k_ ≠ (.slice Ao68 x6_2.length co68 : Value).ownBlock ∧ some k_ ≠ (v264 : Value).ownBlock ∧ k_ ≠ gb244)) (by (with_reducible repeat (first | apply Kd.N_alloc | apply Kd.N_drewN | apply Kd.N_drew)); exact Kd.N_mono HO_3.out (fun _ hk => ⟨⟨(gives hk), ⟨hk.2, (gives hk)⟩⟩, (gives hk)⟩)) hg hat)
                            have n1_ := Aside0.mk (Kd.N_afterv (ok := (fun k_ => some k_ ≠ (.slice Ao10 t237.length co10 : Value).ownBlock ∧ some k_ ≠ (v264 : Value).ownBlock ∧ k_ ≠ gb244)) (by (with_reducible repeat (first | apply Kd.N_alloc | apply Kd.N_drewN | apply Kd.N_drew)); exact Kd.N_mono HO_6.out (fun _ hk => ⟨⟨(gives hk), ⟨hk.2, (gives hk)⟩⟩, (gives hk)⟩)) hg hat)
                            have n2_ := Aside0.mk (blk_grown (g := gb244) (o := .cells #[.string t240, .slice Ao9 t241.length co9] 30 (0, 0)) (by (with_reducible repeat (first | refine blk_drewN ?_ _ | refine blk_drew ?_ | refine blk_alloc ?_ _)); exact BK244.out) hg (Kd.N_away HO259.out (fun _ hk => (gives hk))))
                            have n3_ := Aside0.mk (Kd.N_afterv (ok := (fun k_ => some k_ ≠ (.slice Ao10 t237.length co10 : Value).ownBlock ∧ some k_ ≠ (.slice Ao68 x6_2.length co68 : Value).ownBlock ∧ k_ ≠ gb244)) (by (with_reducible repeat (first | apply Kd.N_alloc | apply Kd.N_drewN | apply Kd.N_drew)); exact Kd.N_mono HO265.out (fun _ hk => ⟨⟨hk.1, ⟨(gives hk), (gives hk)⟩⟩, (gives hk)⟩)) hg hat)
                            have n4_ := Aside0.mk (hb)
                            have n5_ := Aside0.mk (ho)
                            clear HO_3
                            clear HO_6
                            clear BK244
                            clear HO265
                            clear HB
                            clear HO259
                            have HO_3 := n0_
                            have HO_6 := n1_
                            have BK244 := n2_
                            have HO265 := n3_
                            have HB := n4_
                            have HO262 := n5_
                            clear n0_ n1_ n2_ n3_ n4_ n5_
                            clear ho hb hg hat
                            refine hK.out _ _ ⟨(blk_cell BK244.out 0).trans rfl, (blk_cell BK244.out 1).trans rfl⟩ (fun hHeld => ?_)
                            clear hK K
                            refine norm_ (a' := ?_) ?_ ?_
                            rotate_left
                            · show Act.put _ (some 46) _ = _
                              simp only [Act.put, List.setIfInBounds_toArray, List.set_cons_zero, List.set_cons_succ, i64_w, i32_w]
                              rfl
                            exact norm_ (by simp only [putAll, Act.put, List.setIfInBounds_toArray, List.set_cons_zero, List.set_cons_succ]) (hCont (v258, v261, v264) _ ⟨hHeld, (by (with_reducible repeat (first | apply Kd.N_alloc | apply Kd.N_drewN | apply Kd.N_drew)); exact Kd.N_mono HO262.out (fun _ hk => ⟨(gives hk), ⟨hk.1, (gives hk)⟩⟩)), (by (with_reducible repeat (first | apply Kd.N_alloc | apply Kd.N_drewN | apply Kd.N_drew)); exact Kd.N_mono HO265.out (fun _ hk => ⟨hk.2, ⟨(gives hk), ⟨(gives hk), (gives hk)⟩⟩⟩)), (by (with_reducible repeat (first | apply Kd.N_alloc | apply Kd.N_drewN | apply Kd.N_drew)); exact Kd.N_mono HO_3.out (fun _ hk => ⟨hk.2, ⟨(gives hk), ⟨(gives hk), (gives hk)⟩⟩⟩)), (by (with_reducible repeat (first | apply Kd.N_alloc | apply Kd.N_drewN | apply Kd.N_drew)); exact Kd.N_mono HO_6.out (fun _ hk => ⟨hk.2, ⟨(gives hk), ⟨(gives hk), (gives hk)⟩⟩⟩)), (by (with_reducible repeat (first | refine blk_drewN ?_ _ | refine blk_drew ?_ | refine blk_alloc ?_ _)); exact BK244.out), (by repeat (first | (with_reducible first | exact HB.out | apply below_alloc | apply pw_below_drewN | apply below_drew1 | refine below_set ?_ GE244.out) | exact HB.out))⟩)
                        · skip
                          refine Kd.N_lit_step k30 _ 30 ?hg (N' := 48) ?hd (xs := ([(⟨t240, t241⟩ : S30)] : List (S30))) (inner := [.string t240, .slice Ao9 t241.length co9]) (ok := (fun k_ => some k_ ≠ (.slice Ao10 t237.length co10 : Value).ownBlock ∧ some k_ ≠ (.slice Ao68 x6_2.length co68 : Value).ownBlock ∧ k_ ≠ gb244)) (okp := (fun k_ => some k_ ≠ (.slice Ao10 t237.length co10 : Value).ownBlock ∧ some k_ ≠ (.slice Ao68 x6_2.length co68 : Value).ownBlock ∧ k_ ≠ gb244)) ?hr ?hp (fun _ hk => hk) ((show ∀ k_, w69.heap.size ≤ k_ → (fun k_ => some k_ ≠ (.slice Ao10 t237.length co10 : Value).ownBlock ∧ some k_ ≠ (.slice Ao68 x6_2.length co68 : Value).ownBlock ∧ k_ ≠ gb244) k_ from fun k_ hk => ⟨Kd.fresh' (Kd.N_lt (by (with_reducible repeat (first | apply Kd.N_alloc | apply Kd.N_drewN | apply Kd.N_drew)); exact HO_3.out)) k_ hk, Kd.fresh' (Kd.N_lt (by (with_reducible repeat (first | apply Kd.N_alloc | apply Kd.N_drewN | apply Kd.N_drew)); exact HO_6.out)) k_ hk, Kd.freshB (g := gb244) (o := .cells #[.string t240, .slice Ao9 t241.length co9] 30 (0, 0)) (by (with_reducible repeat (first | refine blk_drewN ?_ _ | refine blk_drew ?_ | refine blk_alloc ?_ _)); exact BK244.out) k_ hk⟩) _ (Nat.le_refl _)) (Below.refl _ _) (Nat.le_refl _) (by simp) ?_; (case hd => rfl); (case hg => rfl); (case hr => first | (go_simp; done) | (go_simp; rfl)); (case hp => exact (Reps.c2 (show Kd.FK k30 _ _ (⟨t240, t241⟩ : S30) [.string t240, .slice Ao9 t241.length co9] from (k30_mkF _ _ (⟨t240, t241⟩ : S30) (Kd.R_reads' (Kd.R_mono (ok' := (fun k_ => some k_ ≠ (.slice Ao10 t237.length co10 : Value).ownBlock ∧ some k_ ≠ (.slice Ao68 x6_2.length co68 : Value).ownBlock ∧ k_ ≠ gb244)) (Kd.R_types (Kd.R_apart' (Kd.R_apart' (HO_245001.out) (Kd.N_typed HO_3.out) (by decide)) (Kd.N_typed HO_6.out) (by decide)) BK244.out (by decide)) (fun k_ hk => ⟨(gives hk), ⟨(gives hk), hk.2⟩⟩))).2.1 (Kd.R_F (Kd.R_mono (ok' := (fun k_ => some k_ ≠ (.slice Ao10 t237.length co10 : Value).ownBlock ∧ some k_ ≠ (.slice Ao68 x6_2.length co68 : Value).ownBlock ∧ k_ ≠ gb244)) (Kd.R_types (Kd.R_apart' (Kd.R_apart' (HO_245001.out) (Kd.N_typed HO_3.out) (by decide)) (Kd.N_typed HO_6.out) (by decide)) BK244.out (by decide)) (fun k_ hk => ⟨(gives hk), ⟨(gives hk), hk.2⟩⟩))))) (Reps.none _ _)))
                          intro v264 w70 ho71 hb hg_ hnew_
                          clear hg_ hnew_
                          (first | rw [← Ny263.out] at ho71 | (simp only [Int.reduceToNat] at ho71; rw [← Ny263.out] at ho71))
                          have n0_ := Aside0.mk (Kd.N_elder' (by (with_reducible repeat (first | apply Kd.N_alloc | apply Kd.N_drewN | apply Kd.N_drew)); exact HO_3.out) (Kd.N_base ho71) hb)
                          have n1_ := Aside0.mk (Kd.N_elder' (by (with_reducible repeat (first | apply Kd.N_alloc | apply Kd.N_drewN | apply Kd.N_drew)); exact HO_6.out) (Kd.N_base ho71) hb)
                          have n2_ := Aside0.mk (Kd.N_lower ho71 (below_size (by repeat (first | (with_reducible first | exact HB.out | apply below_alloc | apply pw_below_drewN | apply below_drew1 | refine below_set ?_ GE244.out) | exact HB.out))))
                          have n3_ := Aside0.mk (blk_below (g := gb244) (o := .cells #[.string t240, .slice Ao9 t241.length co9] 30 (0, 0)) (by (with_reducible repeat (first | refine blk_drewN ?_ _ | refine blk_drew ?_ | refine blk_alloc ?_ _)); exact BK244.out) hb)
                          have n4_ := Aside0.mk (below_step (by repeat (first | (with_reducible first | exact HB.out | apply below_alloc | apply pw_below_drewN | apply below_drew1 | refine below_set ?_ GE244.out) | exact HB.out)) hb)
                          clear HO_3
                          clear HO_6
                          clear BK244
                          clear HB
                          clear HO_245001
                          have HO_3 := n0_
                          have HO_6 := n1_
                          have HO265 := n2_
                          have BK244 := n3_
                          have HB := n4_
                          clear n0_ n1_ n2_ n3_ n4_
                          clear hb ho71
                          refine hK.out _ _ ⟨(blk_cell BK244.out 0).trans rfl, (blk_cell BK244.out 1).trans rfl⟩ (fun hHeld => ?_)
                          clear hK K
                          refine norm_ (a' := ?_) ?_ ?_
                          rotate_left
                          · show Act.put _ (some 48) _ = _
                            simp only [Act.put, List.setIfInBounds_toArray, List.set_cons_zero, List.set_cons_succ, i64_w, i32_w]
                            rfl
                          refine one_ (i := 0) (N := some 44) #[true, true, false, true, true, false, false] rfl rfl (by kernel_rfl) (by decide) (fun K hK => ?_)
                          refine Kd.N_lit_step k30 _ 30 ?hg (N' := 44) ?hd (xs := ([] : List (S30))) (inner := []) (ok := (fun k_ => some k_ ≠ (.slice Ao10 t237.length co10 : Value).ownBlock ∧ some k_ ≠ (.slice Ao68 x6_2.length co68 : Value).ownBlock ∧ some k_ ≠ (v264 : Value).ownBlock ∧ k_ ≠ gb244)) (okp := (fun k_ => some k_ ≠ (.slice Ao10 t237.length co10 : Value).ownBlock ∧ some k_ ≠ (.slice Ao68 x6_2.length co68 : Value).ownBlock ∧ some k_ ≠ (v264 : Value).ownBlock ∧ k_ ≠ gb244)) ?hr ?hp (fun _ hk => hk) ((show ∀ k_, w70.heap.size ≤ k_ → (fun k_ => some k_ ≠ (.slice Ao10 t237.length co10 : Value).ownBlock ∧ some k_ ≠ (.slice Ao68 x6_2.length co68 : Value).ownBlock ∧ some k_ ≠ (v264 : Value).ownBlock ∧ k_ ≠ gb244) k_ from fun k_ hk => ⟨Kd.fresh' (Kd.N_lt (by (with_reducible repeat (first | apply Kd.N_alloc | apply Kd.N_drewN | apply Kd.N_drew)); exact HO_3.out)) k_ hk, Kd.fresh' (Kd.N_lt (by (with_reducible repeat (first | apply Kd.N_alloc | apply Kd.N_drewN | apply Kd.N_drew)); exact HO_6.out)) k_ hk, Kd.fresh' (Kd.N_lt (by (with_reducible repeat (first | apply Kd.N_alloc | apply Kd.N_drewN | apply Kd.N_drew)); exact HO265.out)) k_ hk, Kd.freshB (g := gb244) (o := .cells #[.string t240, .slice Ao9 t241.length co9] 30 (0, 0)) (by (with_reducible repeat (first | refine blk_drewN ?_ _ | refine blk_drew ?_ | refine blk_alloc ?_ _)); exact BK244.out) k_ hk⟩) _ (Nat.le_refl _)) (Below.refl _ _) (Nat.le_refl _) (by simp) ?_; (case hd => rfl); (case hg => rfl); (case hr => first | (go_simp; done) | (go_simp; rfl)); (case hp => exact (Reps.none _ _))
                          intro v258 w72 ho73 hb hg_ hnew_
                          clear hg_ hnew_
                          (first | rw [← Ny257.out] at ho73 | (simp only [Int.reduceToNat] at ho73; rw [← Ny257.out] at ho73))
                          have n0_ := Aside0.mk (Kd.N_elder' (by (with_reducible repeat (first | apply Kd.N_alloc | apply Kd.N_drewN | apply Kd.N_drew)); exact HO_3.out) (Kd.N_base ho73) hb)
                          have n1_ := Aside0.mk (Kd.N_elder' (by (with_reducible repeat (first | apply Kd.N_alloc | apply Kd.N_drewN | apply Kd.N_drew)); exact HO_6.out) (Kd.N_base ho73) hb)
                          have n2_ := Aside0.mk (Kd.N_elder' (by (with_reducible repeat (first | apply Kd.N_alloc | apply Kd.N_drewN | apply Kd.N_drew)); exact HO265.out) (Kd.N_base ho73) hb)
                          have n3_ := Aside0.mk (Kd.N_lower ho73 (below_size (by repeat (first | (with_reducible first | exact HB.out | apply below_alloc | apply pw_below_drewN | apply below_drew1 | refine below_set ?_ GE244.out) | exact HB.out))))
                          have n4_ := Aside0.mk (blk_below (g := gb244) (o := .cells #[.string t240, .slice Ao9 t241.length co9] 30 (0, 0)) (by (with_reducible repeat (first | refine blk_drewN ?_ _ | refine blk_drew ?_ | refine blk_alloc ?_ _)); exact BK244.out) hb)
                          have n5_ := Aside0.mk (below_step (by repeat (first | (with_reducible first | exact HB.out | apply below_alloc | apply pw_below_drewN | apply below_drew1 | refine below_set ?_ GE244.out) | exact HB.out)) hb)
                          clear HO_3
                          clear HO_6
                          clear HO265
                          clear BK244
                          clear HB
                          have HO_3 := n0_
                          have HO_6 := n1_
                          have HO265 := n2_
                          have HO259 := n3_
                          have BK244 := n4_
                          have HB := n5_
                          clear n0_ n1_ n2_ n3_ n4_ n5_
                          clear hb ho73
                          refine hK.out _ _ ⟨(blk_cell BK244.out 0).trans rfl, (blk_cell BK244.out 1).trans rfl⟩ (fun hHeld => ?_)
                          clear hK K
                          refine norm_ (a' := ?_) ?_ ?_
                          rotate_left
                          · show Act.put _ (some 44) _ = _
                            simp only [Act.put, List.setIfInBounds_toArray, List.set_cons_zero, List.set_cons_succ, i64_w, i32_w]
                            rfl
                          refine one_ (i := 2) (N := some 46) #[true, true, true, true, true, false, false] rfl rfl (by kernel_rfl) (by decide) (fun K hK => ?_)
                          refine Kd.N_append_rows_step k30 (w0 := w) w.heap.size (by rfl) (.tmp 44) (.tmp 45) 23 30 (.agg #[(.string ⟨#[]⟩), (.slice none 0 0)]) 40 rfl Try.underlying23 info30 rfl (by decide) (by omega) v258 y257 x6_2 _ _ _ (fun k_ => some k_ ≠ (.slice Ao10 t237.length co10 : Value).ownBlock ∧ some k_ ≠ (v264 : Value).ownBlock ∧ k_ ≠ gb244) (fun k_ => ((fun k_ => some k_ ≠ (.slice Ao10 t237.length co10 : Value).ownBlock ∧ some k_ ≠ (v264 : Value).ownBlock ∧ k_ ≠ gb244)) k_ ∧ some k_ ≠ (v258 : Value).ownBlock) rfl rfl ?aO ?aR (fun _ hk => hk) ?aF ?aB ?aS ?aL ?_
                          (case aR => exact (by skip; exact Kd.N_F (Kd.N_mono (ok' := (fun k_ => ((fun k_ => some k_ ≠ (.slice Ao10 t237.length co10 : Value).ownBlock ∧ some k_ ≠ (v264 : Value).ownBlock ∧ k_ ≠ gb244)) k_ ∧ some k_ ≠ (v258 : Value).ownBlock)) (HO_6.out) (fun k_ hk => ⟨⟨(gives hk), ⟨(gives hk), (gives hk)⟩⟩, hk.2⟩))))
                          (case aB => exact (by repeat (first | (with_reducible first | exact HB.out | apply below_alloc | apply pw_below_drewN | apply below_drew1 | refine below_set ?_ GE244.out) | exact HB.out)))
                          (case aF => exact (fun k_ hk => ⟨Kd.fresh' (Kd.N_lt (by (with_reducible repeat (first | apply Kd.N_alloc | apply Kd.N_drewN | apply Kd.N_drew)); exact HO_3.out)) k_ hk, Kd.fresh' (Kd.N_lt (by (with_reducible repeat (first | apply Kd.N_alloc | apply Kd.N_drewN | apply Kd.N_drew)); exact HO265.out)) k_ hk, Kd.freshB (g := gb244) (o := .cells #[.string t240, .slice Ao9 t241.length co9] 30 (0, 0)) (by (with_reducible repeat (first | refine blk_drewN ?_ _ | refine blk_drew ?_ | refine blk_alloc ?_ _)); exact BK244.out) k_ hk⟩))
                          (case aO => exact (by (with_reducible repeat (first | apply Kd.N_alloc | apply Kd.N_drewN | apply Kd.N_drew)); exact Kd.N_mono HO259.out (fun _ hk => ⟨hk.1, ⟨(gives hk), (gives hk)⟩⟩)))
                          (case aS => exact (below_size (by repeat (first | (with_reducible first | exact HB.out | apply below_alloc | apply pw_below_drewN | apply below_drew1 | refine below_set ?_ GE244.out) | exact HB.out))))
                          (case aL => have := LMc31.out; omega)
                          intro v261 w74 ho hb hg hat
                          rw [← Ny260.out] at ho
                          have n0_ := Aside0.mk (Kd.N_afterv (ok := (fun k_ => some k_ ≠ (.slice Ao68 x6_2.length co68 : Value).ownBlock ∧ some k_ ≠ (v264 : Value).ownBlock ∧ k_ ≠ gb244)) (by (with_reducible repeat (first | apply Kd.N_alloc | apply Kd.N_drewN | apply Kd.N_drew)); exact Kd.N_mono HO_3.out (fun _ hk => ⟨⟨(gives hk), ⟨(gives hk), (gives hk)⟩⟩, hk.2⟩)) hg hat)
                          have n1_ := Aside0.mk (Kd.N_afterv (ok := (fun k_ => some k_ ≠ (.slice Ao10 t237.length co10 : Value).ownBlock ∧ some k_ ≠ (v264 : Value).ownBlock ∧ k_ ≠ gb244)) (by (with_reducible repeat (first | apply Kd.N_alloc | apply Kd.N_drewN | apply Kd.N_drew)); exact Kd.N_mono HO_6.out (fun _ hk => ⟨⟨(gives hk), ⟨(gives hk), (gives hk)⟩⟩, hk.2⟩)) hg hat)
                          have n2_ := Aside0.mk (blk_grown (g := gb244) (o := .cells #[.string t240, .slice Ao9 t241.length co9] 30 (0, 0)) (by (with_reducible repeat (first | refine blk_drewN ?_ _ | refine blk_drew ?_ | refine blk_alloc ?_ _)); exact BK244.out) hg (Kd.N_away HO259.out (fun _ hk => (gives hk))))
                          have n3_ := Aside0.mk (Kd.N_afterv (ok := (fun k_ => some k_ ≠ (.slice Ao10 t237.length co10 : Value).ownBlock ∧ some k_ ≠ (.slice Ao68 x6_2.length co68 : Value).ownBlock ∧ k_ ≠ gb244)) (by (with_reducible repeat (first | apply Kd.N_alloc | apply Kd.N_drewN | apply Kd.N_drew)); exact HO265.out) hg hat)
                          have n4_ := Aside0.mk (hb)
                          have n5_ := Aside0.mk (ho)
                          clear HO_3
                          clear HO_6
                          clear BK244
                          clear HO265
                          clear HB
                          clear HO259
                          have HO_3 := n0_
                          have HO_6 := n1_
                          have BK244 := n2_
                          have HO265 := n3_
                          have HB := n4_
                          have HO262 := n5_
                          clear n0_ n1_ n2_ n3_ n4_ n5_
                          clear ho hb hg hat
                          refine hK.out _ _ ⟨(blk_cell BK244.out 0).trans rfl, (blk_cell BK244.out 1).trans rfl⟩ (fun hHeld => ?_)
                          clear hK K
                          refine norm_ (a' := ?_) ?_ ?_
                          rotate_left
                          · show Act.put _ (some 46) _ = _
                            simp only [Act.put, List.setIfInBounds_toArray, List.set_cons_zero, List.set_cons_succ, i64_w, i32_w]
                            rfl
                          exact norm_ (by simp only [putAll, Act.put, List.setIfInBounds_toArray, List.set_cons_zero, List.set_cons_succ]) (hCont (v258, v261, v264) _ ⟨hHeld, (by (with_reducible repeat (first | apply Kd.N_alloc | apply Kd.N_drewN | apply Kd.N_drew)); exact Kd.N_mono HO262.out (fun _ hk => ⟨(gives hk), ⟨hk.1, (gives hk)⟩⟩)), (by (with_reducible repeat (first | apply Kd.N_alloc | apply Kd.N_drewN | apply Kd.N_drew)); exact Kd.N_mono HO265.out (fun _ hk => ⟨hk.2, ⟨(gives hk), ⟨(gives hk), (gives hk)⟩⟩⟩)), (by (with_reducible repeat (first | apply Kd.N_alloc | apply Kd.N_drewN | apply Kd.N_drew)); exact Kd.N_mono HO_3.out (fun _ hk => ⟨hk.2, ⟨(gives hk), ⟨(gives hk), (gives hk)⟩⟩⟩)), (by (with_reducible repeat (first | apply Kd.N_alloc | apply Kd.N_drewN | apply Kd.N_drew)); exact Kd.N_mono HO_6.out (fun _ hk => ⟨hk.2, ⟨(gives hk), ⟨(gives hk), (gives hk)⟩⟩⟩)), (by (with_reducible repeat (first | refine blk_drewN ?_ _ | refine blk_drew ?_ | refine blk_alloc ?_ _)); exact BK244.out), (by repeat (first | (with_reducible first | exact HB.out | apply below_alloc | apply pw_below_drewN | apply below_drew1 | refine below_set ?_ GE244.out) | exact HB.out))⟩)
                      rintro ⟨v258, v261, v264⟩ w75 ⟨hS_, h0_, h1_, h2_, h3_, h4_, h5_⟩
                      have n0_ : Aside0 (Kd.N k30 30 w75 w.heap.size (fun k_ => some k_ ≠ (v264 : Value).ownBlock ∧ some k_ ≠ (.slice Ao10 t237.length co10 : Value).ownBlock ∧ k_ ≠ gb244) v261 y260) := ⟨h0_⟩
                      have n1_ : Aside0 (Kd.N k30 30 w75 w.heap.size (fun k_ => some k_ ≠ (v261 : Value).ownBlock ∧ some k_ ≠ (.slice Ao10 t237.length co10 : Value).ownBlock ∧ some k_ ≠ (.slice Ao68 x6_2.length co68 : Value).ownBlock ∧ k_ ≠ gb244) v264 y263) := ⟨h1_⟩
                      have n2_ : Aside0 (Kd.N k30 30 w75 w.heap.size (fun k_ => some k_ ≠ (v261 : Value).ownBlock ∧ some k_ ≠ (v264 : Value).ownBlock ∧ some k_ ≠ (.slice Ao68 x6_2.length co68 : Value).ownBlock ∧ k_ ≠ gb244) (.slice Ao10 t237.length co10) t237) := ⟨h2_⟩
                      have n3_ : Aside0 (Kd.N k30 30 w75 w.heap.size (fun k_ => some k_ ≠ (v261 : Value).ownBlock ∧ some k_ ≠ (v264 : Value).ownBlock ∧ some k_ ≠ (.slice Ao10 t237.length co10 : Value).ownBlock ∧ k_ ≠ gb244) (.slice Ao68 x6_2.length co68) x6_2) := ⟨h3_⟩
                      have n4_ : Aside0 (w75.heap[gb244]? = some (.cells #[.string t240, .slice Ao9 t241.length co9] 30 (0, 0))) := ⟨h4_⟩
                      have n5_ : Aside0 (Below w.heap.size w w75) := ⟨h5_⟩
                      clear HO_3
                      clear HO_6
                      clear HO_245001
                      clear BK244
                      clear HB
                      clear h0_ h1_ h2_ h3_ h4_ h5_
                      have HO262 := n0_
                      have HO265 := n1_
                      have HO_3 := n2_
                      have HO_6 := n3_
                      have BK244 := n4_
                      have HB := n5_
                      clear n0_ n1_ n2_ n3_ n4_ n5_
                      have hHeld : w75.cell? ⟨gb244, 0, none⟩ = some (.string t240) ∧ w75.cell? ⟨gb244, 1, none⟩ = some (.slice Ao9 t241.length co9) := hS_
                      obtain ⟨Ao77, co77, eo77⟩ := Kd.N_slice HO265.out
                      (first | subst eo77 | (injection eo77 with f1_ f2_ f3_; have f4_ := f1_.symm; have f5_ := f3_.symm; clear f1_ f2_ f3_; subst f4_; subst f5_))
                      refine norm_ (a' := ?_) ?_ ?_
                      rotate_left
                      · simp only [putAll, Act.put, List.setIfInBounds_toArray, List.set_cons_zero, List.set_cons_succ]
                        rfl
                      refine one_ (i := 5) (N := some 49) #[true, true, true, true, true, true, false] rfl rfl (by kernel_rfl) (by decide) (fun K hK => ?_)
                      refine Kd.N_append_rows_step k30 (w0 := w) w.heap.size (by rfl) (.tmp 46) (.tmp 48) 23 30 (.agg #[(.string ⟨#[]⟩), (.slice none 0 0)]) 40 rfl Try.underlying23 info30 rfl (by decide) (by omega) v261 y260 y263 _ _ _ (fun k_ => some k_ ≠ (.slice Ao10 t237.length co10 : Value).ownBlock ∧ k_ ≠ gb244) (fun k_ => ((fun k_ => some k_ ≠ (.slice Ao10 t237.length co10 : Value).ownBlock ∧ k_ ≠ gb244)) k_ ∧ some k_ ≠ (v261 : Value).ownBlock) rfl rfl ?aO ?aR (fun _ hk => hk) ?aF ?aB ?aS ?aL ?_
                      (case aR => exact (by skip; exact Kd.N_F (Kd.N_mono (ok' := (fun k_ => ((fun k_ => some k_ ≠ (.slice Ao10 t237.length co10 : Value).ownBlock ∧ k_ ≠ gb244)) k_ ∧ some k_ ≠ (v261 : Value).ownBlock)) (HO265.out) (fun k_ hk => ⟨⟨(gives hk), (gives hk)⟩, hk.1⟩))))
                      (case aB => exact (by repeat (first | (with_reducible first | exact HB.out | apply below_alloc | apply pw_below_drewN | apply below_drew1 | refine below_set ?_ GE244.out) | exact HB.out)))
                      (case aF => exact (fun k_ hk => ⟨Kd.fresh' (Kd.N_lt (by (with_reducible repeat (first | apply Kd.N_alloc | apply Kd.N_drewN | apply Kd.N_drew)); exact HO_3.out)) k_ hk, Kd.freshB (g := gb244) (o := .cells #[.string t240, .slice Ao9 t241.length co9] 30 (0, 0)) (by (with_reducible repeat (first | refine blk_drewN ?_ _ | refine blk_drew ?_ | refine blk_alloc ?_ _)); exact BK244.out) k_ hk⟩))
                      (case aO => exact (by (with_reducible repeat (first | apply Kd.N_alloc | apply Kd.N_drewN | apply Kd.N_drew)); exact Kd.N_mono HO262.out (fun _ hk => ⟨(gives hk), (gives hk)⟩)))
                      (case aS => exact (below_size (by repeat (first | (with_reducible first | exact HB.out | apply below_alloc | apply pw_below_drewN | apply below_drew1 | refine below_set ?_ GE244.out) | exact HB.out))))
                      (case aL => have := LMc32.out; omega)
                      intro v267 w76 ho hb hg hat
                      rw [← Ny266.out] at ho
                      have n0_ := Aside0.mk (Kd.N_afterv (ok := (fun k_ => some k_ ≠ (.slice Ao68 x6_2.length co68 : Value).ownBlock ∧ some k_ ≠ (.slice Ao77 y263.length co77 : Value).ownBlock ∧ k_ ≠ gb244)) (by (with_reducible repeat (first | apply Kd.N_alloc | apply Kd.N_drewN | apply Kd.N_drew)); exact Kd.N_mono HO_3.out (fun _ hk => ⟨⟨(gives hk), ⟨(gives hk), (gives hk)⟩⟩, hk.1⟩)) hg hat)
                      have n1_ := Aside0.mk (Kd.N_afterv (ok := (fun k_ => some k_ ≠ (.slice Ao10 t237.length co10 : Value).ownBlock ∧ some k_ ≠ (.slice Ao77 y263.length co77 : Value).ownBlock ∧ k_ ≠ gb244)) (by (with_reducible repeat (first | apply Kd.N_alloc | apply Kd.N_drewN | apply Kd.N_drew)); exact Kd.N_mono HO_6.out (fun _ hk => ⟨⟨(gives hk), ⟨(gives hk), (gives hk)⟩⟩, hk.1⟩)) hg hat)
                      have n2_ := Aside0.mk (blk_grown (g := gb244) (o := .cells #[.string t240, .slice Ao9 t241.length co9] 30 (0, 0)) (by (with_reducible repeat (first | refine blk_drewN ?_ _ | refine blk_drew ?_ | refine blk_alloc ?_ _)); exact BK244.out) hg (Kd.N_away HO262.out (fun _ hk => (gives hk))))
                      have n3_ := Aside0.mk (Kd.N_afterv (ok := (fun k_ => some k_ ≠ (.slice Ao10 t237.length co10 : Value).ownBlock ∧ some k_ ≠ (.slice Ao68 x6_2.length co68 : Value).ownBlock ∧ k_ ≠ gb244)) (by (with_reducible repeat (first | apply Kd.N_alloc | apply Kd.N_drewN | apply Kd.N_drew)); exact Kd.N_mono HO265.out (fun _ hk => ⟨⟨(gives hk), ⟨(gives hk), (gives hk)⟩⟩, hk.1⟩)) hg hat)
                      have n4_ := Aside0.mk (hb)
                      have n5_ := Aside0.mk (ho)
                      clear HO_3
                      clear HO_6
                      clear BK244
                      clear HO265
                      clear HB
                      clear HO262
                      have HO_3 := n0_
                      have HO_6 := n1_
                      have BK244 := n2_
                      have HO265 := n3_
                      have HB := n4_
                      have HO268 := n5_
                      clear n0_ n1_ n2_ n3_ n4_ n5_
                      clear ho hb hg hat
                      refine hK.out _ _ ⟨(blk_cell BK244.out 0).trans rfl, (blk_cell BK244.out 1).trans rfl⟩ (fun hHeld => ?_)
                      clear hK K
                      refine norm_ (a' := ?_) ?_ ?_
                      rotate_left
                      · show Act.put _ (some 49) _ = _
                        simp only [Act.put, List.setIfInBounds_toArray, List.set_cons_zero, List.set_cons_succ, i64_w, i32_w]
                        rfl
                      refine pure_ (i := 6) (N := some 8) (v := ?_) (a' := ?_) #[true, true, true, true, true, true, true] rfl rfl (by kernel_rfl) (fun _ _ _ h => h) (Or.inl ⟨by rfl, ?_⟩) ?_ ?_
                      rotate_left
                      · intro w'
                        go_simp
                        with_reducible rfl
                      rotate_left
                      · simp only [Act.put, List.setIfInBounds_toArray, List.set_cons_zero, List.set_cons_succ, i64_w, i32_w]
                        rfl
                      refine done_ (by kernel_rfl) ?_
                      have hcz78_0 : w76.cell? ⟨gb244, 0, none⟩ = some (.string t240) := (blk_cell BK244.out 0).trans rfl
                      have hcz78_1 : w76.cell? ⟨gb244, 1, none⟩ = some (.slice Ao9 t241.length co9) := (blk_cell BK244.out 1).trans rfl
                      have hfz78_0 := blk_frozen BK244.out 0
                      have hfz78_1 := blk_frozen BK244.out 1
                      try go_wp2_with (first | ((with_reducible refine gate_callee (f := 14) rfl ?_); refine goesL_ (some 54) rfl rfl Try.func14 (by kernel_rfl) rfl #[.slice Ao10 t237.length co10, .string t240] rfl (by (try simp only [List.map_toArray, List.map_cons, List.map_nil]); first | done | rfl | (simp only [List.length_drop, List.length_take]; rfl)) ?_; (with_reducible refine (impl_CallsOf.calls k2 _ _ t237 t240 t269 _ ?side1 ?side2 A33.out).mono ?_); (case side1 => repeat (first | exact (Kd.N_reads' HO_3.out).2.2 | (with_reducible refine Kd.C_alloc ?_ _) | (with_reducible refine Kd.C_drewN ?_ _) | (with_reducible refine Kd.C_drew ?_))); (case side2 => exact (Kd.N_reads' HO_3.out).2.1); rintro e w79 ⟨v270, rfl, ho0, hb⟩; refine ⟨_, rfl, ?_⟩; have n0_ := Aside0.mk (Kd.N_elder' (by (with_reducible repeat (first | apply Kd.N_alloc | apply Kd.N_drewN | apply Kd.N_drew)); exact HO_3.out) (Kd.S_base ho0) hb); have n1_ := Aside0.mk (Kd.N_elder' (by (with_reducible repeat (first | apply Kd.N_alloc | apply Kd.N_drewN | apply Kd.N_drew)); exact HO_6.out) (Kd.S_base ho0) hb); have n2_ := Aside0.mk (Kd.N_elder' (by (with_reducible repeat (first | apply Kd.N_alloc | apply Kd.N_drewN | apply Kd.N_drew)); exact HO265.out) (Kd.S_base ho0) hb); have n3_ := Aside0.mk (Kd.N_elder' (by (with_reducible repeat (first | apply Kd.N_alloc | apply Kd.N_drewN | apply Kd.N_drew)); exact HO268.out) (Kd.S_base ho0) hb); have n4_ := Aside0.mk (Kd.N_lower (Kd.N_mono (ok' := fun k_ => some k_ ≠ (.slice Ao10 t237.length co10 : Value).ownBlock ∧ some k_ ≠ (.slice Ao68 x6_2.length co68 : Value).ownBlock ∧ some k_ ≠ (.slice Ao77 y263.length co77 : Value).ownBlock ∧ some k_ ≠ (v267 : Value).ownBlock ∧ k_ ≠ gb244) (Kd.S_N (Kd.S_bound ho0)) (fun k_ hk_ => ⟨(Kd.fresh' (Kd.N_lt (by (with_reducible repeat (first | apply Kd.N_alloc | apply Kd.N_drewN | apply Kd.N_drew)); exact HO_3.out)) k_ hk_.2.1), (Kd.fresh' (Kd.N_lt (by (with_reducible repeat (first | apply Kd.N_alloc | apply Kd.N_drewN | apply Kd.N_drew)); exact HO_6.out)) k_ hk_.2.1), (Kd.fresh' (Kd.N_lt (by (with_reducible repeat (first | apply Kd.N_alloc | apply Kd.N_drewN | apply Kd.N_drew)); exact HO265.out)) k_ hk_.2.1), (Kd.fresh' (Kd.N_lt (by (with_reducible repeat (first | apply Kd.N_alloc | apply Kd.N_drewN | apply Kd.N_drew)); exact HO268.out)) k_ hk_.2.1), (Kd.freshB (g := gb244) (o := .cells #[.string t240, .slice Ao9 t241.length co9] 30 (0, 0)) (by (with_reducible repeat (first | refine blk_drewN ?_ _ | refine blk_drew ?_ | refine blk_alloc ?_ _)); exact BK244.out) k_ hk_.2.1)⟩)) (below_size (by repeat (first | (with_reducible first | exact HB.out | apply below_alloc | apply pw_below_drewN | apply below_drew1 | refine below_set ?_ GE244.out) | exact HB.out)))); have n5_ := Aside0.mk (blk_below (g := gb244) (o := .cells #[.string t240, .slice Ao9 t241.length co9] 30 (0, 0)) (by (with_reducible repeat (first | refine blk_drewN ?_ _ | refine blk_drew ?_ | refine blk_alloc ?_ _)); exact BK244.out) hb); have n6_ := Aside0.mk (below_step (by repeat (first | (with_reducible first | exact HB.out | apply below_alloc | apply pw_below_drewN | apply below_drew1 | refine below_set ?_ GE244.out) | exact HB.out)) hb); clear HO_3; clear HO_6; clear HO265; clear HO268; clear BK244; clear HB; have HO_3 := n0_; have HO_6 := n1_; have HO265 := n2_; have HO268 := n3_; have HO271 := n4_; have BK244 := n5_; have HB := n6_; clear n0_ n1_ n2_ n3_ n4_ n5_ n6_; (try clear hb); (try clear hb2); (try clear hk); (try clear hi); (try clear ho0); obtain ⟨Ao80, co80, eo80⟩ := Kd.N_slice HO271.out; subst eo80))
                      go_ret
                      exact ⟨by first | rfl | (simp [errW_none, errW_some] <;> rfl) | (simp [*, errW_none, errW_some] <;> rfl), by repeat (first | (with_reducible first | exact HB.out | apply below_alloc | apply pw_below_drewN | apply below_drew1 | refine below_set ?_ GE244.out) | exact HB.out)⟩
                  · rw [if_neg c32] at H
                    exact absurd H (by simp)
                · rw [if_neg c31] at H
                  exact absurd H (by simp)

/-- THE ONE PURE STATEMENT of laws_FnCountCall: yours. -/
def laws_FnCountCall.Pure : Prop := ∀ (l0 : List Int), l0.length ≤ maxLen → l0.length * 1 ≤ 140737488351232 → (∀ x ∈ l0, (Lit.int .u8 x).wf = true) → ∃ k, laws_FnCountCall.f k l0 = some true
theorem laws_FnCountCall.walk (P : laws_FnCountCall.Pure) (a0 : Option Addr) (len0 cap0 : Nat) (z0 : List Int) (w : World) (w0 : (a0 = none ∧ len0 = 0 ∧ cap0 = 0 ∧ z0 = []) ∨ ∃ x, a0 = some x ∧ len0 ≤ cap0 ∧ cap0 ≤ maxLen ∧ z0.length = cap0 ∧ (∀ i, i < z0.length → w.cell? (x.add i) = some (.int .u8 (z0.getD i 0))) ∧ ∀ n ∈ z0, (Lit.int .u8 n).wf = true) (y0 : len0 * 1 ≤ 140737488351232) :
    Calls Try.prog 7 #[.slice a0 len0 cap0] w fun e w' => e = .returned (.bool true) ∧ Below w.heap.size w w' := by
  obtain ⟨l0, rfl, hr0, hm0, hw0, hc0⟩ := ReadsInt.ofRowC w0
  obtain ⟨k, h⟩ := P l0 hm0 y0 hw0
  refine (laws_FnCountCall.calls k _ _ l0 true w (Kd.C_of_reads (d := (0 : Int)) (h1 := fun _ => rfl) hr0) hc0 h).mono ?_
  rintro e w' ⟨rfl, hd⟩
  exact ⟨rfl, hd⟩

end Go.Proofs.Ytihmgjefndkfeaa.OFnCountCall

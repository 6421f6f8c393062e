-- Written by a program of this session (the kit's printing program with additions of this session's own); Lean checks it.
import Derived.Test.YtihmgjefndkfeaaOFnAnyOrderx0
import Derived.Test.YtihmgjefndkfeaaOFnAnyOrderx1
import Derived.Test.YtihmgjefndkfeaaOFnAnyOrderx2
namespace Go.Proofs.Ytihmgjefndkfeaa.OFnAnyOrder
open Go.RowKit Go.Proofs.YtihmgjefndkfeaaW.PrintWords Go.Proofs.YtihmgjefndkfeaaW.PrintLast Go.Proofs.YtihmgjefndkfeaaW.PrintMore
attribute [local go_sem] max2_int min2_int max_two min_two max_three min_three max_four min_four   -- for this text's walks alone
set_option linter.unusedVariables false
set_option linter.unusedSimpArgs false

/-! ### spec_twoCalls: function 48 -/
def spec_twoCalls.l0 : Nat → List (S30) → List (S30) → Int → List Int → Int → Option ((List (S30)) × (List (S30)) × Int)
  | 0, _, _, _, _, _ => none
  | k + 1, x4, x5, x6, x1000, x1001 => if x6 < (x4.length : Int) then ((spec_reader_pick.f k x1000 x1001 2).bind fun bt183 => (if bt183.1 = 0 then (if 0 ≤ x6 then ((some (([(⟨(rd_T30 x4 x6).f0, (rd_T30 x4 x6).f1⟩ : S30)] : List (S30)) : List (S30))).bind fun y186 => (if x5.length + y186.length < 3518437208883 then (spec_twoCalls.l0 k x4 (x5 ++ y186) (wrap64 (x6 + 1)) x1000 bt183.2) else (none))) else (none)) else (spec_twoCalls.l0 k x4 x5 (wrap64 (x6 + 1)) x1000 bt183.2))) else ((spec_reader_pick.f k x1000 x1001 5).bind fun bt192 => (if bt192.1 = 0 then ((spec_goodCalls.f k x1000 bt192.2).bind fun bt194 => (some (x4, bt194.1, bt194.2))) else (if bt192.1 = 1 then (if (x5.length : Int) > 1 then ((some (([] : List (S30)) : List (S30))).bind fun y198 => (if 1 ≤ (x5.length : Int) then ((some (x5.drop 1 : List (S30))).bind fun y201 => (if y198.length + y201.length < 3518437208883 then ((some (y198 ++ y201 : List (S30))).bind fun y206 => (if 0 < (x5.length : Int) then ((some (([(⟨(rd_T30 x5 0).f0, (rd_T30 x5 0).f1⟩ : S30)] : List (S30)) : List (S30))).bind fun y210 => (if y206.length + y210.length < 3518437208883 then (some (x4, (y206 ++ y210), bt192.2)) else (none))) else (none))) else (none))) else (none))) else (some (x4, x5, bt192.2))) else (some (x4, x5, bt192.2)))))
def spec_twoCalls.f (k : Nat) (s0_0 : List Int) (s0_1 : Int) : Option ((List (S30)) × (List (S30)) × Int) := (spec_someCalls.f k s0_0 s0_1).bind fun bt176 => (spec_twoCalls.l0 k bt176.1 (([] : List (S30))) 0 s0_0 bt176.2)
theorem spec_twoCalls.mono_l : ∀ k, (∀ y0 y1 y2 y3 y4, LeO (spec_twoCalls.l0 k y0 y1 y2 y3 y4) (spec_twoCalls.l0 (k + 1) y0 y1 y2 y3 y4))
  | 0 => fun _ _ _ _ _ r h => by simp [spec_twoCalls.l0] at h
  | k + 1 => by
    have ih0 := spec_twoCalls.mono_l k
    · intro y0 y1 y2 y3 y4
      unfold spec_twoCalls.l0
      repeat' first
      | (with_reducible exact ih0 _ _ _ _ _)
      | (with_reducible exact spec_goodCalls.mono _ _ _)
      | (with_reducible exact spec_reader_pick.mono _ _ _ _)
      | (with_reducible exact spec_someCalls.mono _ _ _)
      | (with_reducible exact LeO.refl _)
      | (with_reducible exact LeO.none _)
      | (with_reducible refine LeO.ite ?_ ?_)
      | (with_reducible refine LeO.bind ?_ (fun _ => ?_))
      | exact ih0 _ _ _ _ _
      | exact spec_goodCalls.mono _ _ _
      | exact spec_reader_pick.mono _ _ _ _
      | exact spec_someCalls.mono _ _ _
      | exact LeO.none _
      | refine LeO.ite ?_ ?_
      | refine LeO.bind ?_ (fun _ => ?_)
theorem spec_twoCalls.mono : ∀ a0 a1 k, LeO (spec_twoCalls.f k a0 a1) (spec_twoCalls.f (k + 1) a0 a1) := by
  intro a0 a1 k
  have ih0 := spec_twoCalls.mono_l k
  unfold spec_twoCalls.f
  repeat' first
      | (with_reducible exact ih0 _ _ _ _ _)
      | (with_reducible exact spec_goodCalls.mono _ _ _)
      | (with_reducible exact spec_reader_pick.mono _ _ _ _)
      | (with_reducible exact spec_someCalls.mono _ _ _)
      | (with_reducible exact LeO.refl _)
      | (with_reducible exact LeO.none _)
      | (with_reducible refine LeO.ite ?_ ?_)
      | (with_reducible refine LeO.bind ?_ (fun _ => ?_))
      | exact ih0 _ _ _ _ _
      | exact spec_goodCalls.mono _ _ _
      | exact spec_reader_pick.mono _ _ _ _
      | exact spec_someCalls.mono _ _ _
      | exact LeO.none _
      | refine LeO.ite ?_ ?_
      | refine LeO.bind ?_ (fun _ => ?_)
def spec_twoCalls.T13 : Bool × List (List Nat × List Nat) := (true, [([], []), ([], []), ([1], [1]), ([0, 2], [0, 2]), ([], []), ([4], [4]), ([5], [5]), ([6], [6]), ([3, 7, 3], [3, 7]), ([8, 8, 0, 1, 2, 3, 4, 5, 6, 7, 8], [1, 4, 8])])
def spec_twoCalls.B13 : List Nat := [0, 0, 2, 7, 0, 16, 48, 112, 255, 511]
theorem spec_twoCalls.tab13 : rtab .any (opsOf Try.f48 13) = spec_twoCalls.T13 := by kernel_rfl
theorem spec_twoCalls.bits13 : waitsOk spec_twoCalls.T13.2 spec_twoCalls.B13 = true := by kernel_rfl
set_option maxHeartbeats 8000000 in
set_option maxRecDepth 100000 in
theorem spec_twoCalls.calls (k : Nat) (g : Nat) (s0_0 : List Int) (s0_1 : Int) (r1 : List (S30)) (r2 : List (S30)) (r3 : Int) (w0 w : World) (hI : IsS75 w0 w g s0_0 s0_1) (hB : Below w0.heap.size w0 w) (h : spec_twoCalls.f k s0_0 s0_1 = some (r1, r2, r3)) :
    Calls Try.prog 48 #[.pointer (some ⟨g, 0, none⟩)] w fun e w' => ∃ v0_ v1_ : Value, e = .returned (.tuple #[v0_, v1_]) ∧ Kd.N k30 30 w' w.heap.size (fun k_ => (w.heap.size ≤ k_) ∧ some k_ ≠ (v1_ : Value).ownBlock) v0_ r1 ∧ Kd.N k30 30 w' w.heap.size (fun k_ => (w.heap.size ≤ k_) ∧ some k_ ≠ (v0_ : Value).ownBlock) v1_ r2 ∧ IsS75 w0 w' g s0_0 r3 ∧ Below w0.heap.size w0 w' ∧ KeepBut w w' g none := by
  have hu30 := Try.underlying30
  have HI0 := Aside0.mk hI
  have HK := Aside0.mk (KeepBut.refl w g none)
  have HL := Aside0.mk hB.size
  clear hI
  have HW0 := Aside0.mk hB.size
  have HB := Aside0.mk hB
  clear hB
  have H : ((spec_someCalls.f k s0_0 s0_1).bind fun bt176 => (spec_twoCalls.l0 k bt176.1 (([] : List (S30))) 0 s0_0 bt176.2)) = some (r1, r2, r3) := h
  clear h
  replace H := Option.bind_eq_some_iff.mp H
  obtain ⟨⟨t176, t179⟩, A20, H⟩ := H
  replace H : (spec_twoCalls.l0 k t176 (([] : List (S30))) 0 s0_0 t179) = some (r1, r2, r3) := H
  have A2 := Aside0.mk A20
  clear A20
  obtain ⟨y180, hy180⟩ : ∃ y_ : List (S30), y_ = (([] : List (S30))) := ⟨_, rfl⟩
  replace H : (spec_twoCalls.l0 k t176 y180 0 s0_0 t179) = some (r1, r2, r3) := by first | (rw [hy180]; with_reducible exact H) | (have H2_ := (Option.bind_some _ _).symm.trans H; rw [hy180]; with_reducible exact H2_) | (have H2_ := (Option.bind_some _ _).symm.trans H; with_reducible exact H2_) | with_reducible exact H | (rw [hy180]; exact H) | exact H
  have Ny180 := Aside0.mk hy180
  clear hy180
  have H' := Aside0.mk H
  clear H
  go_enter Try.func48, Try.ntmps48
  go_wp2_with (first | ((with_reducible refine gate_callee (f := 36) rfl ?_); refine goesL_ (some 8) rfl rfl Try.func36 (by kernel_rfl) rfl #[.pointer (some ⟨g, 0, none⟩)] rfl (by (try simp only [List.map_toArray, List.map_cons, List.map_nil]); first | done | rfl | (simp only [List.length_drop, List.length_take]; rfl)) ?_; (with_reducible refine (spec_someCalls.calls k g s0_0 s0_1 t176 t179 w0 _ ?side1 ?side2 A2.out).mono ?_); (case side1 => repeat (first | (with_reducible first | exact HI0.out | apply IsS75.alloc | apply IsS75.drewN | apply IsS75.drew | apply IsS75.set_1) | exact HI0.out)); (case side2 => repeat (first | (with_reducible first | exact HB.out | apply below_alloc | apply pw_below_drewN | apply below_drew1 | refine below_set ?_ (IsS75.ge HI0.out)) | exact HB.out)); rintro e w3 ⟨v177, rfl, ho0, hi, hb, hk⟩; refine ⟨_, rfl, ?_⟩; have n0_ := Aside0.mk (Kd.N_lower (Kd.N_mono (ok' := fun k_ => (w.heap.size ≤ k_) ∧ k_ ≠ g) (Kd.S_N (Kd.S_bound ho0)) (fun k_ hk_ => ⟨(Nat.le_trans (keep_size (w := w) (g := g) (row := none) (by repeat (first | (with_reducible first | exact HK.out | apply KeepBut.set_ | apply keep_drewN | apply keep_drew | apply keep_alloc) | exact HK.out))) (gives hk_)), (IsS75.fresh (by repeat (first | (with_reducible first | exact HI0.out | apply IsS75.alloc | apply IsS75.drewN | apply IsS75.drew | apply IsS75.set_1) | exact HI0.out)) k_ hk_.2.1)⟩)) (keep_size (w := w) (g := g) (row := none) (by repeat (first | (with_reducible first | exact HK.out | apply KeepBut.set_ | apply keep_drewN | apply keep_drew | apply keep_alloc) | exact HK.out)))); have n1_ := Aside0.mk (KeepBut.trans (by repeat (first | (with_reducible first | exact HK.out | apply KeepBut.set_ | apply keep_drewN | apply keep_drew | apply keep_alloc) | exact HK.out)) hk (.inl rfl)); have n2_ := Aside0.mk (hb); have n3_ := Aside0.mk (hi); clear HK; clear HB; clear HI0; have HO178 := n0_; have HK := n1_; have HB := n2_; have HI0 := n3_; clear n0_ n1_ n2_ n3_; (try clear hb); (try clear hb2); (try clear hk); (try clear hi); (try clear ho0)) | ((with_reducible refine gate_dst (N := 9) rfl ?_); refine Kd.N_lit k30 _ 30 ?hg (N' := 9) ?hd (xs := ([] : List (S30))) (inner := []) (ok := (fun k_ => (w.heap.size ≤ k_) ∧ some k_ ≠ (v177 : Value).ownBlock ∧ k_ ≠ g)) (okp := (fun k_ => (w.heap.size ≤ k_) ∧ some k_ ≠ (v177 : Value).ownBlock ∧ k_ ≠ g)) ?hr ?hp (fun _ hk => hk) ((show ∀ k_, w3.heap.size ≤ k_ → (fun k_ => (w.heap.size ≤ k_) ∧ some k_ ≠ (v177 : Value).ownBlock ∧ k_ ≠ g) k_ from fun k_ hk => ⟨(Nat.le_trans (keep_size (w := w) (g := g) (row := none) (by repeat (first | (with_reducible first | exact HK.out | apply KeepBut.set_ | apply keep_drewN | apply keep_drew | apply keep_alloc) | exact HK.out))) hk), Kd.fresh' (Kd.N_lt (by (with_reducible repeat (first | apply Kd.N_alloc | apply Kd.N_drewN | apply Kd.N_drew)); exact HO178.out)) k_ hk, IsS75.fresh (by repeat (first | (with_reducible first | exact HI0.out | apply IsS75.alloc | apply IsS75.drewN | apply IsS75.drew | apply IsS75.set_1) | exact HI0.out)) k_ hk⟩) _ (Nat.le_refl _)) (Below.refl _ _) (Nat.le_refl _) (by simp) ?_; (case hd => rfl); (case hg => rfl); (case hr => first | (go_simp; done) | (go_simp; rfl)); (case hp => exact (Reps.none _ _)); intro v181 w4 ho5 hb hg_ hnew_; clear hg_ hnew_; (first | rw [← Ny180.out] at ho5 | (simp only [Int.reduceToNat] at ho5; rw [← Ny180.out] at ho5)); have n0_ := Aside0.mk (Kd.N_elder' (by (with_reducible repeat (first | apply Kd.N_alloc | apply Kd.N_drewN | apply Kd.N_drew)); exact HO178.out) (Kd.N_base ho5) hb); have n1_ := Aside0.mk (Kd.N_lower ho5 (keep_size (w := w) (g := g) (row := none) (by repeat (first | (with_reducible first | exact HK.out | apply KeepBut.set_ | apply keep_drewN | apply keep_drew | apply keep_alloc) | exact HK.out)))); have n2_ := Aside0.mk (IsS75.below (by repeat (first | (with_reducible first | exact HI0.out | apply IsS75.alloc | apply IsS75.drewN | apply IsS75.drew | apply IsS75.set_1) | exact HI0.out)) hb); have n3_ := Aside0.mk (KeepBut.trans (by repeat (first | (with_reducible first | exact HK.out | apply KeepBut.set_ | apply keep_drewN | apply keep_drew | apply keep_alloc) | exact HK.out)) (KeepBut.of_below hb g none) (.inl rfl)); have n4_ := Aside0.mk (below_step (by repeat (first | (with_reducible first | exact HB.out | apply below_alloc | apply pw_below_drewN | apply below_drew1 | refine below_set ?_ (IsS75.ge HI0.out)) | exact HB.out)) hb); clear HO178; clear HI0; clear HK; clear HB; have HO178 := n0_; have HO182 := n1_; have HI0 := n2_; have HK := n3_; have HB := n4_; clear n0_ n1_ n2_ n3_ n4_; clear hb ho5))
  go_loopg [5, 6] k (fun kq v5 v6 w' => ∃ (x5_1 : List (S30)) (x6_1 : Int) (x1001_1 : Int), v6 = .int .i64 x6_1 ∧ Aside0 (spec_twoCalls.l0 kq t176 x5_1 x6_1 s0_0 x1001_1 = some (r1, r2, r3)) ∧ Aside0 (kq ≤ k) ∧ Aside0 (Kd.N k30 30 w' w.heap.size (fun k_ => (w.heap.size ≤ k_) ∧ some k_ ≠ (v5 : Value).ownBlock ∧ k_ ≠ g) v177 t176) ∧ Aside0 (Kd.N k30 30 w' w.heap.size (fun k_ => (w.heap.size ≤ k_) ∧ some k_ ≠ (v177 : Value).ownBlock ∧ k_ ≠ g) v5 x5_1) ∧ Aside0 (IsS75 w0 w' g s0_0 x1001_1) ∧ Aside0 (KeepBut w w' g none) ∧ Aside0 (Below w0.heap.size w0 w'))
  case atStart => exact ⟨(y180), (0), (t179), (by first | rfl | (simp; done) | (simp [*]; done)), H', ⟨Nat.le_refl _⟩, ⟨by (with_reducible repeat (first | apply Kd.N_alloc | apply Kd.N_drewN | apply Kd.N_drew)); exact Kd.N_mono HO178.out (fun _ hk => ⟨(gives hk), ⟨hk.2, (gives hk)⟩⟩)⟩, ⟨by (with_reducible repeat (first | apply Kd.N_alloc | apply Kd.N_drewN | apply Kd.N_drew)); exact HO182.out⟩, ⟨by repeat (first | (with_reducible first | exact HI0.out | apply IsS75.alloc | apply IsS75.drewN | apply IsS75.drew | apply IsS75.set_1) | exact HI0.out)⟩, ⟨by repeat (first | (with_reducible first | exact HK.out | apply KeepBut.set_ | apply keep_drewN | apply keep_drew | apply keep_alloc) | exact HK.out)⟩, ⟨by repeat (first | (with_reducible first | exact HB.out | apply below_alloc | apply pw_below_drewN | apply below_drew1 | refine below_set ?_ (IsS75.ge HI0.out)) | exact HB.out)⟩⟩
  case round =>
    clear H'
    try clear p2
    try clear c3
    try clear c4
    obtain ⟨x5_1, x6_1, x1001_1, rfl, HA, HK1, HO_4, HO_5, HI0, HK, HB⟩ := hrel
    cases gk with
    | zero => exact absurd HA.out (by simp [spec_twoCalls.l0])
    | succ k1 =>
      have H := HA.out
      clear HA
      simp only [spec_twoCalls.l0] at H
      by_cases c6 : x6_1 < (t176.length : Int)
      · rw [if_pos c6] at H
        have c6b0 : decide (x6_1 < (t176.length : Int)) = true := decide_eq_true c6
        clear c6
        replace H := Option.bind_eq_some_iff.mp H
        obtain ⟨⟨t183, t184⟩, A70, H⟩ := H
        replace H : (if t183 = 0 then (if 0 ≤ x6_1 then ((some (([(⟨(rd_T30 t176 x6_1).f0, (rd_T30 t176 x6_1).f1⟩ : S30)] : List (S30)) : List (S30))).bind fun y186 => (if x5_1.length + y186.length < 3518437208883 then (spec_twoCalls.l0 k1 t176 (x5_1 ++ y186) (wrap64 (x6_1 + 1)) s0_0 t184) else (none))) else (none)) else (spec_twoCalls.l0 k1 t176 x5_1 (wrap64 (x6_1 + 1)) s0_0 t184)) = some (r1, r2, r3) := H
        have A7 := Aside0.mk A70
        clear A70
        by_cases c8 : t183 = 0
        · rw [if_pos c8] at H
          have c8b0 : (t183 == 0) = true := beq_iff_eq.mpr c8
          have c8b1 : (t183 != 0) = false := bne_eq_false_iff_eq.mpr c8
          clear c8
          by_cases c9 : 0 ≤ x6_1
          · rw [if_pos c9] at H
            have c9b0 : decide (0 ≤ x6_1) = true := decide_eq_true c9
            clear c9
            obtain ⟨y186, hy186⟩ : ∃ y_ : List (S30), y_ = (([(⟨(rd_T30 t176 x6_1).f0, (rd_T30 t176 x6_1).f1⟩ : S30)] : List (S30))) := ⟨_, rfl⟩
            replace H : (if x5_1.length + y186.length < 3518437208883 then (spec_twoCalls.l0 k1 t176 (x5_1 ++ y186) (wrap64 (x6_1 + 1)) s0_0 t184) else (none)) = some (r1, r2, r3) := by first | (rw [hy186]; with_reducible exact H) | (have H2_ := (Option.bind_some _ _).symm.trans H; rw [hy186]; with_reducible exact H2_) | (have H2_ := (Option.bind_some _ _).symm.trans H; with_reducible exact H2_) | with_reducible exact H | (rw [hy186]; exact H) | exact H
            have Ny186 := Aside0.mk hy186
            clear hy186
            by_cases c10 : x5_1.length + y186.length < 3518437208883
            · rw [if_pos c10] at H
              have LMc10 := Aside0.mk c10
              clear c10
              obtain ⟨y189, hy189⟩ : ∃ y_ : List (S30), y_ = (x5_1 ++ y186) := ⟨_, rfl⟩
              replace H : (spec_twoCalls.l0 k1 t176 y189 (wrap64 (x6_1 + 1)) s0_0 t184) = some (r1, r2, r3) := by first | (rw [hy189]; with_reducible exact H) | (have H2_ := (Option.bind_some _ _).symm.trans H; rw [hy189]; with_reducible exact H2_) | (have H2_ := (Option.bind_some _ _).symm.trans H; with_reducible exact H2_) | with_reducible exact H | (rw [hy189]; exact H) | exact H
              have Ny189 := Aside0.mk hy189
              clear hy189
              have H' := Aside0.mk H
              clear H
              obtain ⟨Ao11, co11, eo11⟩ := Kd.N_slice HO_4.out
              subst eo11
              go_wp2_with (first | ((with_reducible refine gate_callee (f := 61) rfl ?_); refine goesL_ (some 17) rfl rfl Try.func61 (by kernel_rfl) rfl #[.pointer (some ⟨g, 0, none⟩), .int .i64 2] rfl (by (try simp only [List.map_toArray, List.map_cons, List.map_nil]); first | done | rfl | (simp only [List.length_drop, List.length_take]; rfl)) ?_; (with_reducible refine (spec_reader_pick.calls k1 g s0_0 x1001_1 2 t183 t184 w0 _ ?side1 ?side2 A7.out).mono ?_); (case side1 => repeat (first | (with_reducible first | exact HI0.out | apply IsS75.alloc | apply IsS75.drewN | apply IsS75.drew | apply IsS75.set_1) | exact HI0.out)); (case side2 => repeat (first | (with_reducible first | exact HB.out | apply below_alloc | apply pw_below_drewN | apply below_drew1 | refine below_set ?_ (IsS75.ge HI0.out)) | exact HB.out)); rintro e w12 ⟨rfl, hi, hb, hk⟩; refine ⟨_, rfl, ?_⟩; have n0_ := Aside0.mk (Kd.N_mono (Kd.N_keep (Kd.N_mono (ok := fun k_ => (((w.heap.size ≤ k_)) ∧ (some k_ ≠ (u5 : Value).ownBlock ∧ k_ ≠ g))) (by (with_reducible repeat (first | apply Kd.N_alloc | apply Kd.N_drewN | apply Kd.N_drew)); exact HO_4.out) (fun k_ hk_ => (⟨hk_, (gives hk_)⟩ : _ ∧ k_ ≠ g))) hk (fun _ h => h.2)) (fun _ h => h.1)); have n1_ := Aside0.mk (Kd.N_mono (Kd.N_keep (Kd.N_mono (ok := fun k_ => (((w.heap.size ≤ k_)) ∧ (some k_ ≠ (.slice Ao11 t176.length co11 : Value).ownBlock ∧ k_ ≠ g))) (by (with_reducible repeat (first | apply Kd.N_alloc | apply Kd.N_drewN | apply Kd.N_drew)); exact HO_5.out) (fun k_ hk_ => (⟨hk_, (gives hk_)⟩ : _ ∧ k_ ≠ g))) hk (fun _ h => h.2)) (fun _ h => h.1)); have n2_ := Aside0.mk (KeepBut.trans (by repeat (first | (with_reducible first | exact HK.out | apply KeepBut.set_ | apply keep_drewN | apply keep_drew | apply keep_alloc) | exact HK.out)) hk (.inl rfl)); have n3_ := Aside0.mk (hb); have n4_ := Aside0.mk (hi); clear HO_4; clear HO_5; clear HK; clear HB; clear HI0; have HO_4 := n0_; have HO_5 := n1_; have HK := n2_; have HB := n3_; have HI0 := n4_; clear n0_ n1_ n2_ n3_ n4_; (try clear hb); (try clear hb2); (try clear hk); (try clear hi); have p185 : 0 ≤ (x6_1 : Int) := of_decide_eq_true (by first | (with_reducible assumption) | assumption); have q185 : x6_1 < (t176.length : Int) := of_decide_eq_true (by first | (with_reducible assumption) | assumption); obtain ⟨ad185, A185_1, c185_1, e185, hx185_0, hx185_1, hl185_1, hi185_1⟩ := at_T30 (Kd.N_reads' HO_4.out).2.2 x6_1 p185 q185; cases e185; obtain ⟨ce185, hce185, hMe185, hcc185⟩ := Kd.N_get HO_4.out z30 x6_1 p185 (by first | exact q185 | exact of_decide_eq_true (by first | (with_reducible assumption) | assumption) | (have e_ := (Kd.N_reads' HO_4.out).1; omega)); obtain ⟨ua185_1, uc185_1, rfl, ul185_1, ge185_1⟩ := k30_openF hMe185; have hv185_1 := hcc185 1 _ rfl; rw [add_field _ _ 1 (by omega)] at hv185_1; replace hv185_1 := Option.some.inj (hv185_1.symm.trans hx185_1); injection hv185_1 with hva_ hvn_ hvc_; rw [hva_] at ge185_1; rw [hvc_] at ul185_1; have HL185_1 := Aside0.mk (show Kd.V (Kd.int .i64) 3 _ w.heap.size _ _ ((rd_T30 t176 x6_1).f1) from Kd.V_mk ul185_1 ge185_1); clear hva_ hvn_ hvc_ ge185_1 ul185_1; clear hcc185 hce185; have HR185_1 := Aside0.mk hi185_1; have HC185_1 := Aside0.mk hl185_1; clear hi185_1 hl185_1; replace p185 := eq_true p185; replace q185 := eq_true q185) | ((with_reducible refine gate_dst (N := 24) rfl ?_); refine Kd.N_lit k30 _ 30 ?hg (N' := 24) ?hd (xs := ([(⟨(rd_T30 t176 x6_1).f0, (rd_T30 t176 x6_1).f1⟩ : S30)] : List (S30))) (inner := [.string ((rd_T30 t176 x6_1).f0), .slice A185_1 ((rd_T30 t176 x6_1).f1).length c185_1]) (ok := (fun k_ => (w.heap.size ≤ k_) ∧ some k_ ≠ (.slice (some ad185) t176.length co11 : Value).ownBlock ∧ some k_ ≠ (u5 : Value).ownBlock ∧ k_ ≠ g)) (okp := (fun k_ => (w.heap.size ≤ k_) ∧ some k_ ≠ (.slice (some ad185) t176.length co11 : Value).ownBlock ∧ some k_ ≠ (u5 : Value).ownBlock ∧ k_ ≠ g)) ?hr ?hp (fun _ hk => hk) ((show ∀ k_, w12.heap.size ≤ k_ → (fun k_ => (w.heap.size ≤ k_) ∧ some k_ ≠ (.slice (some ad185) t176.length co11 : Value).ownBlock ∧ some k_ ≠ (u5 : Value).ownBlock ∧ k_ ≠ g) k_ from fun k_ hk => ⟨(Nat.le_trans (keep_size (w := w) (g := g) (row := none) (by repeat (first | (with_reducible first | exact HK.out | apply KeepBut.set_ | apply keep_drewN | apply keep_drew | apply keep_alloc) | exact HK.out))) hk), Kd.fresh' (Kd.N_lt (by (with_reducible repeat (first | apply Kd.N_alloc | apply Kd.N_drewN | apply Kd.N_drew)); exact HO_4.out)) k_ hk, Kd.fresh' (Kd.N_lt (by (with_reducible repeat (first | apply Kd.N_alloc | apply Kd.N_drewN | apply Kd.N_drew)); exact HO_5.out)) k_ hk, IsS75.fresh (by repeat (first | (with_reducible first | exact HI0.out | apply IsS75.alloc | apply IsS75.drewN | apply IsS75.drew | apply IsS75.set_1) | exact HI0.out)) k_ hk⟩) _ (Nat.le_refl _)) (Below.refl _ _) (Nat.le_refl _) (by simp) ?_; (case hd => rfl); (case hg => rfl); (case hr => first | (go_simp; done) | (go_simp; rfl)); (case hp => exact (Reps.c2 (show Kd.FK k30 _ _ (⟨(rd_T30 t176 x6_1).f0, (rd_T30 t176 x6_1).f1⟩ : S30) [.string ((rd_T30 t176 x6_1).f0), .slice A185_1 ((rd_T30 t176 x6_1).f1).length c185_1] from (k30_mkF _ _ (⟨(rd_T30 t176 x6_1).f0, (rd_T30 t176 x6_1).f1⟩ : S30) (Kd.V_reads' (Kd.V_mono (ok' := (fun k_ => (w.heap.size ≤ k_) ∧ some k_ ≠ (.slice (some ad185) t176.length co11 : Value).ownBlock ∧ some k_ ≠ (u5 : Value).ownBlock ∧ k_ ≠ g)) (HL185_1.out) (fun k_ hk => ⟨(gives hk), ⟨hk.2, ⟨(gives hk), (gives hk)⟩⟩⟩))).2.1 (Kd.V_F (Kd.V_mono (ok' := (fun k_ => (w.heap.size ≤ k_) ∧ some k_ ≠ (.slice (some ad185) t176.length co11 : Value).ownBlock ∧ some k_ ≠ (u5 : Value).ownBlock ∧ k_ ≠ g)) (HL185_1.out) (fun k_ hk => ⟨(gives hk), ⟨hk.2, ⟨(gives hk), (gives hk)⟩⟩⟩))))) (Reps.none _ _))); intro v187 w13 ho14 hb hg_ hnew_; clear hg_ hnew_; (first | rw [← Ny186.out] at ho14 | (simp only [Int.reduceToNat] at ho14; rw [← Ny186.out] at ho14)); have n0_ := Aside0.mk (Kd.N_elder' (by (with_reducible repeat (first | apply Kd.N_alloc | apply Kd.N_drewN | apply Kd.N_drew)); exact HO_4.out) (Kd.N_base ho14) hb); have n1_ := Aside0.mk (Kd.N_elder' (by (with_reducible repeat (first | apply Kd.N_alloc | apply Kd.N_drewN | apply Kd.N_drew)); exact HO_5.out) (Kd.N_base ho14) hb); have n2_ := Aside0.mk (Kd.V_elder' (by (with_reducible repeat (first | apply Kd.V_alloc | apply Kd.V_drewN | apply Kd.V_drew)); exact HL185_1.out) (Kd.N_base ho14) hb); have n3_ := Aside0.mk (Kd.N_lower ho14 (keep_size (w := w) (g := g) (row := none) (by repeat (first | (with_reducible first | exact HK.out | apply KeepBut.set_ | apply keep_drewN | apply keep_drew | apply keep_alloc) | exact HK.out)))); have n4_ := Aside0.mk (IsS75.below (by repeat (first | (with_reducible first | exact HI0.out | apply IsS75.alloc | apply IsS75.drewN | apply IsS75.drew | apply IsS75.set_1) | exact HI0.out)) hb); have n5_ := Aside0.mk (Kd.C_below (by repeat (first | (with_reducible exact HR185_1.out) | (with_reducible refine Kd.C_alloc ?_ _) | (with_reducible refine Kd.C_drewN ?_ _) | (with_reducible refine Kd.C_drew ?_) | exact HR185_1.out)) hb); have n6_ := Aside0.mk (KeepBut.trans (by repeat (first | (with_reducible first | exact HK.out | apply KeepBut.set_ | apply keep_drewN | apply keep_drew | apply keep_alloc) | exact HK.out)) (KeepBut.of_below hb g none) (.inl rfl)); have n7_ := Aside0.mk (below_step (by repeat (first | (with_reducible first | exact HB.out | apply below_alloc | apply pw_below_drewN | apply below_drew1 | refine below_set ?_ (IsS75.ge HI0.out)) | exact HB.out)) hb); clear HO_4; clear HO_5; clear HL185_1; clear HI0; clear HR185_1; clear HK; clear HB; have HO_4 := n0_; have HO_5 := n1_; have HL185_1 := n2_; have HO188 := n3_; have HI0 := n4_; have HR185_1 := n5_; have HK := n6_; have HB := n7_; clear n0_ n1_ n2_ n3_ n4_ n5_ n6_ n7_; clear hb ho14; obtain ⟨Ao16, co16, eo16⟩ := Kd.N_slice HO188.out; subst eo16) | ((with_reducible refine gate_builtin (b := .append) (xs := #[.tmp 19, .tmp 24]) rfl ?_); at_builtin; refine Kd.N_append_rows k30 w.heap.size rfl (.tmp 19) (.tmp 24) 23 30 (.agg #[(.string ⟨#[]⟩), (.slice none 0 0)]) 40 rfl Try.underlying23 info30 rfl (by decide) (by omega) u5 x5_1 y186 _ _ _ (fun k_ => (w.heap.size ≤ k_) ∧ some k_ ≠ (.slice (some ad185) t176.length co11 : Value).ownBlock ∧ k_ ≠ g) (fun k_ => ((fun k_ => (w.heap.size ≤ k_) ∧ some k_ ≠ (.slice (some ad185) t176.length co11 : Value).ownBlock ∧ k_ ≠ g)) k_ ∧ some k_ ≠ (u5 : Value).ownBlock) rfl rfl ?aO ?aR (fun _ hk => hk) ?aF (Below.refl _ _) ?aS ?aL ?_; (case aR => exact (by skip; exact Kd.N_F (Kd.N_mono (ok' := (fun k_ => ((fun k_ => (w.heap.size ≤ k_) ∧ some k_ ≠ (.slice (some ad185) t176.length co11 : Value).ownBlock ∧ k_ ≠ g)) k_ ∧ some k_ ≠ (u5 : Value).ownBlock)) (HO188.out) (fun k_ hk => ⟨⟨hk.1, ⟨(gives hk), (gives hk)⟩⟩, (gives hk)⟩)))); (case aF => exact (fun k_ hk => ⟨(Nat.le_trans (keep_size (w := w) (g := g) (row := none) (by repeat (first | (with_reducible first | exact HK.out | apply KeepBut.set_ | apply keep_drewN | apply keep_drew | apply keep_alloc) | exact HK.out))) hk), Kd.fresh' (Kd.N_lt (by (with_reducible repeat (first | apply Kd.N_alloc | apply Kd.N_drewN | apply Kd.N_drew)); exact HO_4.out)) k_ hk, IsS75.fresh (by repeat (first | (with_reducible first | exact HI0.out | apply IsS75.alloc | apply IsS75.drewN | apply IsS75.drew | apply IsS75.set_1) | exact HI0.out)) k_ hk⟩)); (case aO => exact (by (with_reducible repeat (first | apply Kd.N_alloc | apply Kd.N_drewN | apply Kd.N_drew)); exact Kd.N_mono HO_5.out (fun _ hk => ⟨(gives hk), ⟨(gives hk), (gives hk)⟩⟩))); (case aS => exact (keep_size (w := w) (g := g) (row := none) (by repeat (first | (with_reducible first | exact HK.out | apply KeepBut.set_ | apply keep_drewN | apply keep_drew | apply keep_alloc) | exact HK.out)))); (case aL => have := LMc10.out; omega); intro v190 w15 ho hb hg hat; rw [← Ny189.out] at ho; have n0_ := Aside0.mk (Kd.N_afterv (ok := (fun k_ => (w.heap.size ≤ k_) ∧ some k_ ≠ (.slice Ao16 y186.length co16 : Value).ownBlock ∧ k_ ≠ g)) (by (with_reducible repeat (first | apply Kd.N_alloc | apply Kd.N_drewN | apply Kd.N_drew)); exact Kd.N_mono HO_4.out (fun _ hk => ⟨⟨(gives hk), ⟨hk.2, (gives hk)⟩⟩, (gives hk)⟩)) hg hat); have n1_ := Aside0.mk (IsS75.grown (by repeat (first | (with_reducible first | exact HI0.out | apply IsS75.alloc | apply IsS75.drewN | apply IsS75.drew | apply IsS75.set_1) | exact HI0.out)) hg (IsS75.own_neN HI0.out HO_5.out (by decide))); have n2_ := Aside0.mk (Kd.V_afterv (ok := (fun k_ => (w.heap.size ≤ k_) ∧ some k_ ≠ (.slice (some ad185) t176.length co11 : Value).ownBlock ∧ some k_ ≠ (.slice Ao16 y186.length co16 : Value).ownBlock ∧ k_ ≠ g)) (by (with_reducible repeat (first | apply Kd.V_alloc | apply Kd.V_drewN | apply Kd.V_drew)); exact Kd.V_mono HL185_1.out (fun _ hk => ⟨⟨(gives hk), ⟨(gives hk), ⟨hk.2, (gives hk)⟩⟩⟩, (gives hk)⟩)) hg hat); have n3_ := Aside0.mk (Kd.N_afterv (ok := (fun k_ => (w.heap.size ≤ k_) ∧ some k_ ≠ (.slice (some ad185) t176.length co11 : Value).ownBlock ∧ k_ ≠ g)) (by (with_reducible repeat (first | apply Kd.N_alloc | apply Kd.N_drewN | apply Kd.N_drew)); exact Kd.N_mono HO188.out (fun _ hk => ⟨⟨hk.1, ⟨(gives hk), (gives hk)⟩⟩, (gives hk)⟩)) hg hat); have n4_ := Aside0.mk (below_weaken (by repeat (first | (with_reducible first | exact HB.out | apply below_alloc | apply pw_below_drewN | apply below_drew1 | refine below_set ?_ (IsS75.ge HI0.out)) | exact HB.out)) HL.out hb); have n5_ := Aside0.mk (KeepBut.trans (by repeat (first | (with_reducible first | exact HK.out | apply KeepBut.set_ | apply keep_drewN | apply keep_drew | apply keep_alloc) | exact HK.out)) (KeepBut.of_grown hg g) (Kd.N_base2 HO_5.out)); have n6_ := Aside0.mk (ho); clear HO_4; clear HI0; clear HL185_1; clear HO188; clear HB; clear HK; clear HO_5; have HO_4 := n0_; have HI0 := n1_; have HL185_1 := n2_; have HO188 := n3_; have HB := n4_; have HK := n5_; have HO191 := n6_; clear n0_ n1_ n2_ n3_ n4_ n5_ n6_; clear ho hb hg hat))
              go_roundg k1
              case measure => have := HK1.out; omega
              case rel => exact ⟨(y189), (wrap64 (x6_1 + 1)), (t184), (by first | rfl | (simp; done) | (simp [*]; done)), H', ⟨by have := HK1.out; omega⟩, ⟨by (with_reducible repeat (first | apply Kd.N_alloc | apply Kd.N_drewN | apply Kd.N_drew)); exact Kd.N_mono HO_4.out (fun _ hk => ⟨(gives hk), ⟨hk.2, (gives hk)⟩⟩)⟩, ⟨by (with_reducible repeat (first | apply Kd.N_alloc | apply Kd.N_drewN | apply Kd.N_drew)); exact HO191.out⟩, ⟨by repeat (first | (with_reducible first | exact HI0.out | apply IsS75.alloc | apply IsS75.drewN | apply IsS75.drew | apply IsS75.set_1) | exact HI0.out)⟩, ⟨by repeat (first | (with_reducible first | exact HK.out | apply KeepBut.set_ | apply keep_drewN | apply keep_drew | apply keep_alloc) | exact HK.out)⟩, ⟨by repeat (first | (with_reducible first | exact HB.out | apply below_alloc | apply pw_below_drewN | apply below_drew1 | refine below_set ?_ (IsS75.ge HI0.out)) | exact HB.out)⟩⟩
            · rw [if_neg c10] at H
              exact absurd H (by simp)
          · rw [if_neg c9] at H
            exact absurd H (by simp)
        · rw [if_neg c8] at H
          have c8b0 : (t183 == 0) = false := beq_eq_false_iff_ne.mpr c8
          have c8b1 : (t183 != 0) = true := bne_iff_ne.mpr c8
          have H' := Aside0.mk H
          clear H
          obtain ⟨Ao17, co17, eo17⟩ := Kd.N_slice HO_4.out
          subst eo17
          go_wp2_with (first | ((with_reducible refine gate_callee (f := 61) rfl ?_); refine goesL_ (some 17) rfl rfl Try.func61 (by kernel_rfl) rfl #[.pointer (some ⟨g, 0, none⟩), .int .i64 2] rfl (by (try simp only [List.map_toArray, List.map_cons, List.map_nil]); first | done | rfl | (simp only [List.length_drop, List.length_take]; rfl)) ?_; (with_reducible refine (spec_reader_pick.calls k1 g s0_0 x1001_1 2 t183 t184 w0 _ ?side1 ?side2 A7.out).mono ?_); (case side1 => repeat (first | (with_reducible first | exact HI0.out | apply IsS75.alloc | apply IsS75.drewN | apply IsS75.drew | apply IsS75.set_1) | exact HI0.out)); (case side2 => repeat (first | (with_reducible first | exact HB.out | apply below_alloc | apply pw_below_drewN | apply below_drew1 | refine below_set ?_ (IsS75.ge HI0.out)) | exact HB.out)); rintro e w18 ⟨rfl, hi, hb, hk⟩; refine ⟨_, rfl, ?_⟩; have n0_ := Aside0.mk (Kd.N_mono (Kd.N_keep (Kd.N_mono (ok := fun k_ => (((w.heap.size ≤ k_)) ∧ (some k_ ≠ (u5 : Value).ownBlock ∧ k_ ≠ g))) (by (with_reducible repeat (first | apply Kd.N_alloc | apply Kd.N_drewN | apply Kd.N_drew)); exact HO_4.out) (fun k_ hk_ => (⟨hk_, (gives hk_)⟩ : _ ∧ k_ ≠ g))) hk (fun _ h => h.2)) (fun _ h => h.1)); have n1_ := Aside0.mk (Kd.N_mono (Kd.N_keep (Kd.N_mono (ok := fun k_ => (((w.heap.size ≤ k_)) ∧ (some k_ ≠ (.slice Ao17 t176.length co17 : Value).ownBlock ∧ k_ ≠ g))) (by (with_reducible repeat (first | apply Kd.N_alloc | apply Kd.N_drewN | apply Kd.N_drew)); exact HO_5.out) (fun k_ hk_ => (⟨hk_, (gives hk_)⟩ : _ ∧ k_ ≠ g))) hk (fun _ h => h.2)) (fun _ h => h.1)); have n2_ := Aside0.mk (KeepBut.trans (by repeat (first | (with_reducible first | exact HK.out | apply KeepBut.set_ | apply keep_drewN | apply keep_drew | apply keep_alloc) | exact HK.out)) hk (.inl rfl)); have n3_ := Aside0.mk (hb); have n4_ := Aside0.mk (hi); clear HO_4; clear HO_5; clear HK; clear HB; clear HI0; have HO_4 := n0_; have HO_5 := n1_; have HK := n2_; have HB := n3_; have HI0 := n4_; clear n0_ n1_ n2_ n3_ n4_; (try clear hb); (try clear hb2); (try clear hk); (try clear hi)))
          go_roundg k1
          case measure => have := HK1.out; omega
          case rel => exact ⟨(x5_1), (wrap64 (x6_1 + 1)), (t184), (by first | rfl | (simp; done) | (simp [*]; done)), H', ⟨by have := HK1.out; omega⟩, ⟨by (with_reducible repeat (first | apply Kd.N_alloc | apply Kd.N_drewN | apply Kd.N_drew)); exact HO_4.out⟩, ⟨by (with_reducible repeat (first | apply Kd.N_alloc | apply Kd.N_drewN | apply Kd.N_drew)); exact HO_5.out⟩, ⟨by repeat (first | (with_reducible first | exact HI0.out | apply IsS75.alloc | apply IsS75.drewN | apply IsS75.drew | apply IsS75.set_1) | exact HI0.out)⟩, ⟨by repeat (first | (with_reducible first | exact HK.out | apply KeepBut.set_ | apply keep_drewN | apply keep_drew | apply keep_alloc) | exact HK.out)⟩, ⟨by repeat (first | (with_reducible first | exact HB.out | apply below_alloc | apply pw_below_drewN | apply below_drew1 | refine below_set ?_ (IsS75.ge HI0.out)) | exact HB.out)⟩⟩
      · rw [if_neg c6] at H
        have c6b0 : decide (x6_1 < (t176.length : Int)) = false := decide_eq_false c6
        clear c6
        replace H := Option.bind_eq_some_iff.mp H
        obtain ⟨⟨t192, t193⟩, A190, H⟩ := H
        replace H : (if t192 = 0 then ((spec_goodCalls.f k1 s0_0 t193).bind fun bt194 => (some (t176, bt194.1, bt194.2))) else (if t192 = 1 then (if (x5_1.length : Int) > 1 then ((some (([] : List (S30)) : List (S30))).bind fun y198 => (if 1 ≤ (x5_1.length : Int) then ((some (x5_1.drop 1 : List (S30))).bind fun y201 => (if y198.length + y201.length < 3518437208883 then ((some (y198 ++ y201 : List (S30))).bind fun y206 => (if 0 < (x5_1.length : Int) then ((some (([(⟨(rd_T30 x5_1 0).f0, (rd_T30 x5_1 0).f1⟩ : S30)] : List (S30)) : List (S30))).bind fun y210 => (if y206.length + y210.length < 3518437208883 then (some (t176, (y206 ++ y210), t193)) else (none))) else (none))) else (none))) else (none))) else (some (t176, x5_1, t193))) else (some (t176, x5_1, t193)))) = some (r1, r2, r3) := H
        have A19 := Aside0.mk A190
        clear A190
        by_cases c20 : t192 = 0
        · rw [if_pos c20] at H
          have c20b0 : (t192 == 0) = true := beq_iff_eq.mpr c20
          have c20b1 : (t192 != 0) = false := bne_eq_false_iff_eq.mpr c20
          clear c20
          replace H := Option.bind_eq_some_iff.mp H
          obtain ⟨⟨t194, t197⟩, A210, H⟩ := H
          replace H : (some (t176, t194, t197)) = some (r1, r2, r3) := H
          have A21 := Aside0.mk A210
          clear A210
          simp only [Option.some.injEq, Prod.mk.injEq] at H
          obtain ⟨rfl, rfl, rfl⟩ := H
          obtain ⟨Ao22, co22, eo22⟩ := Kd.N_slice HO_4.out
          subst eo22
          go_wp2_with (first | ((with_reducible refine gate_callee (f := 61) rfl ?_); refine goesL_ (some 27) rfl rfl Try.func61 (by kernel_rfl) rfl #[.pointer (some ⟨g, 0, none⟩), .int .i64 5] rfl (by (try simp only [List.map_toArray, List.map_cons, List.map_nil]); first | done | rfl | (simp only [List.length_drop, List.length_take]; rfl)) ?_; (with_reducible refine (spec_reader_pick.calls k1 g s0_0 x1001_1 5 t192 t193 w0 _ ?side1 ?side2 A19.out).mono ?_); (case side1 => repeat (first | (with_reducible first | exact HI0.out | apply IsS75.alloc | apply IsS75.drewN | apply IsS75.drew | apply IsS75.set_1) | exact HI0.out)); (case side2 => repeat (first | (with_reducible first | exact HB.out | apply below_alloc | apply pw_below_drewN | apply below_drew1 | refine below_set ?_ (IsS75.ge HI0.out)) | exact HB.out)); rintro e w23 ⟨rfl, hi, hb, hk⟩; refine ⟨_, rfl, ?_⟩; have n0_ := Aside0.mk (Kd.N_mono (Kd.N_keep (Kd.N_mono (ok := fun k_ => (((w.heap.size ≤ k_)) ∧ (some k_ ≠ (u5 : Value).ownBlock ∧ k_ ≠ g))) (by (with_reducible repeat (first | apply Kd.N_alloc | apply Kd.N_drewN | apply Kd.N_drew)); exact HO_4.out) (fun k_ hk_ => (⟨hk_, (gives hk_)⟩ : _ ∧ k_ ≠ g))) hk (fun _ h => h.2)) (fun _ h => h.1)); have n1_ := Aside0.mk (Kd.N_mono (Kd.N_keep (Kd.N_mono (ok := fun k_ => (((w.heap.size ≤ k_)) ∧ (some k_ ≠ (.slice Ao22 t176.length co22 : Value).ownBlock ∧ k_ ≠ g))) (by (with_reducible repeat (first | apply Kd.N_alloc | apply Kd.N_drewN | apply Kd.N_drew)); exact HO_5.out) (fun k_ hk_ => (⟨hk_, (gives hk_)⟩ : _ ∧ k_ ≠ g))) hk (fun _ h => h.2)) (fun _ h => h.1)); have n2_ := Aside0.mk (KeepBut.trans (by repeat (first | (with_reducible first | exact HK.out | apply KeepBut.set_ | apply keep_drewN | apply keep_drew | apply keep_alloc) | exact HK.out)) hk (.inl rfl)); have n3_ := Aside0.mk (hb); have n4_ := Aside0.mk (hi); clear HO_4; clear HO_5; clear HK; clear HB; clear HI0; have HO_4 := n0_; have HO_5 := n1_; have HK := n2_; have HB := n3_; have HI0 := n4_; clear n0_ n1_ n2_ n3_ n4_; (try clear hb); (try clear hb2); (try clear hk); (try clear hi)) | ((with_reducible refine gate_callee (f := 60) rfl ?_); refine goesL_ (some 32) rfl rfl Try.func60 (by kernel_rfl) rfl #[.pointer (some ⟨g, 0, none⟩)] rfl (by (try simp only [List.map_toArray, List.map_cons, List.map_nil]); first | done | rfl | (simp only [List.length_drop, List.length_take]; rfl)) ?_; (with_reducible refine (spec_goodCalls.calls k1 g s0_0 t193 t194 t197 w0 _ ?side1 ?side2 A21.out).mono ?_); (case side1 => repeat (first | (with_reducible first | exact HI0.out | apply IsS75.alloc | apply IsS75.drewN | apply IsS75.drew | apply IsS75.set_1) | exact HI0.out)); (case side2 => repeat (first | (with_reducible first | exact HB.out | apply below_alloc | apply pw_below_drewN | apply below_drew1 | refine below_set ?_ (IsS75.ge HI0.out)) | exact HB.out)); rintro e w24 ⟨v195, rfl, ho0, hi, hb, hk⟩; refine ⟨_, rfl, ?_⟩; have n0_ := Aside0.mk (Kd.N_mono (Kd.N_told (Kd.N_oldK (Kd.N_mono (ok := fun k_ => (((w.heap.size ≤ k_)) ∧ (some k_ ≠ (u5 : Value).ownBlock ∧ k_ ≠ g))) (by (with_reducible repeat (first | apply Kd.N_alloc | apply Kd.N_drewN | apply Kd.N_drew)); exact HO_4.out) (fun k_ hk_ => (⟨hk_, (gives hk_)⟩ : _ ∧ k_ ≠ g))) hk) (Kd.S_base ho0)) (fun _ h_ => h_.1)); have n1_ := Aside0.mk (Kd.N_mono (Kd.N_told (Kd.N_oldK (Kd.N_mono (ok := fun k_ => (((w.heap.size ≤ k_)) ∧ (some k_ ≠ (.slice Ao22 t176.length co22 : Value).ownBlock ∧ k_ ≠ g))) (by (with_reducible repeat (first | apply Kd.N_alloc | apply Kd.N_drewN | apply Kd.N_drew)); exact HO_5.out) (fun k_ hk_ => (⟨hk_, (gives hk_)⟩ : _ ∧ k_ ≠ g))) hk) (Kd.S_base ho0)) (fun _ h_ => h_.1)); have n2_ := Aside0.mk (Kd.N_lower (Kd.N_mono (ok' := fun k_ => (w.heap.size ≤ k_) ∧ some k_ ≠ (.slice Ao22 t176.length co22 : Value).ownBlock ∧ some k_ ≠ (u5 : Value).ownBlock ∧ k_ ≠ g) (Kd.S_N (Kd.S_bound ho0)) (fun k_ hk_ => ⟨(Nat.le_trans (keep_size (w := w) (g := g) (row := none) (by repeat (first | (with_reducible first | exact HK.out | apply KeepBut.set_ | apply keep_drewN | apply keep_drew | apply keep_alloc) | exact HK.out))) (gives hk_)), (Kd.fresh' (Kd.N_lt (by (with_reducible repeat (first | apply Kd.N_alloc | apply Kd.N_drewN | apply Kd.N_drew)); exact HO_4.out)) k_ hk_.2.1), (Kd.fresh' (Kd.N_lt (by (with_reducible repeat (first | apply Kd.N_alloc | apply Kd.N_drewN | apply Kd.N_drew)); exact HO_5.out)) k_ hk_.2.1), (IsS75.fresh (by repeat (first | (with_reducible first | exact HI0.out | apply IsS75.alloc | apply IsS75.drewN | apply IsS75.drew | apply IsS75.set_1) | exact HI0.out)) k_ hk_.2.1)⟩)) (keep_size (w := w) (g := g) (row := none) (by repeat (first | (with_reducible first | exact HK.out | apply KeepBut.set_ | apply keep_drewN | apply keep_drew | apply keep_alloc) | exact HK.out)))); have n3_ := Aside0.mk (KeepBut.trans (by repeat (first | (with_reducible first | exact HK.out | apply KeepBut.set_ | apply keep_drewN | apply keep_drew | apply keep_alloc) | exact HK.out)) hk (.inl rfl)); have n4_ := Aside0.mk (hb); have n5_ := Aside0.mk (hi); clear HO_4; clear HO_5; clear HK; clear HB; clear HI0; have HO_4 := n0_; have HO_5 := n1_; have HO196 := n2_; have HK := n3_; have HB := n4_; have HI0 := n5_; clear n0_ n1_ n2_ n3_ n4_ n5_; (try clear hb); (try clear hb2); (try clear hk); (try clear hi); (try clear ho0)))
          go_ret2
          exact ⟨_, _, by first | rfl | (simp [errW_none, errW_some] <;> rfl) | (simp [*, errW_none, errW_some] <;> rfl), by (with_reducible repeat (first | apply Kd.N_alloc | apply Kd.N_drewN | apply Kd.N_drew)); exact Kd.N_mono HO_4.out (fun _ hk => ⟨(by first | exact gives hk | exact hk.1.1), hk.2⟩), by (with_reducible repeat (first | apply Kd.N_alloc | apply Kd.N_drewN | apply Kd.N_drew)); exact Kd.N_mono HO196.out (fun _ hk => ⟨hk.1, (by first | exact gives hk | exact hk.2.1)⟩), by repeat (first | (with_reducible first | exact HI0.out | apply IsS75.alloc | apply IsS75.drewN | apply IsS75.drew | apply IsS75.set_1) | exact HI0.out), by repeat (first | (with_reducible first | exact HB.out | apply below_alloc | apply pw_below_drewN | apply below_drew1 | refine below_set ?_ (IsS75.ge HI0.out)) | exact HB.out), by repeat (first | (with_reducible first | exact HK.out | apply KeepBut.set_ | apply keep_drewN | apply keep_drew | apply keep_alloc) | exact HK.out)⟩
        · rw [if_neg c20] at H
          have c20b0 : (t192 == 0) = false := beq_eq_false_iff_ne.mpr c20
          have c20b1 : (t192 != 0) = true := bne_iff_ne.mpr c20
          by_cases c25 : t192 = 1
          · rw [if_pos c25] at H
            have c25b0 : (t192 == 1) = true := beq_iff_eq.mpr c25
            have c25b1 : (t192 != 1) = false := bne_eq_false_iff_eq.mpr c25
            clear c25
            by_cases c26 : (x5_1.length : Int) > 1
            · rw [if_pos c26] at H
              have c26b0 : decide (1 < (x5_1.length : Int)) = true := decide_eq_true c26
              have c26b1 : decide (1 < x5_1.length) = true := decide_eq_true (by omega)
              clear c26
              obtain ⟨y198, hy198⟩ : ∃ y_ : List (S30), y_ = (([] : List (S30))) := ⟨_, rfl⟩
              replace H : (if 1 ≤ (x5_1.length : Int) then ((some (x5_1.drop 1 : List (S30))).bind fun y201 => (if y198.length + y201.length < 3518437208883 then ((some (y198 ++ y201 : List (S30))).bind fun y206 => (if 0 < (x5_1.length : Int) then ((some (([(⟨(rd_T30 x5_1 0).f0, (rd_T30 x5_1 0).f1⟩ : S30)] : List (S30)) : List (S30))).bind fun y210 => (if y206.length + y210.length < 3518437208883 then (some (t176, (y206 ++ y210), t193)) else (none))) else (none))) else (none))) else (none)) = some (r1, r2, r3) := by first | (rw [hy198]; with_reducible exact H) | (have H2_ := (Option.bind_some _ _).symm.trans H; rw [hy198]; with_reducible exact H2_) | (have H2_ := (Option.bind_some _ _).symm.trans H; with_reducible exact H2_) | with_reducible exact H | (rw [hy198]; exact H) | exact H
              have Ny198 := Aside0.mk hy198
              clear hy198
              by_cases c27 : 1 ≤ (x5_1.length : Int)
              · rw [if_pos c27] at H
                have c27b0 := eq_true c27
                have c27b1 : decide (1 ≤ (x5_1.length : Int)) = true := decide_eq_true c27
                clear c27
                obtain ⟨y201, hy201⟩ : ∃ y_ : List (S30), y_ = (x5_1.drop 1) := ⟨_, rfl⟩
                replace H : (if y198.length + y201.length < 3518437208883 then ((some (y198 ++ y201 : List (S30))).bind fun y206 => (if 0 < (x5_1.length : Int) then ((some (([(⟨(rd_T30 x5_1 0).f0, (rd_T30 x5_1 0).f1⟩ : S30)] : List (S30)) : List (S30))).bind fun y210 => (if y206.length + y210.length < 3518437208883 then (some (t176, (y206 ++ y210), t193)) else (none))) else (none))) else (none)) = some (r1, r2, r3) := by first | (rw [hy201]; with_reducible exact H) | (have H2_ := (Option.bind_some _ _).symm.trans H; rw [hy201]; with_reducible exact H2_) | (have H2_ := (Option.bind_some _ _).symm.trans H; with_reducible exact H2_) | with_reducible exact H | (rw [hy201]; exact H) | exact H
                have Ny201 := Aside0.mk hy201
                clear hy201
                by_cases c28 : y198.length + y201.length < 3518437208883
                · rw [if_pos c28] at H
                  have LMc28 := Aside0.mk c28
                  clear c28
                  obtain ⟨y206, hy206⟩ : ∃ y_ : List (S30), y_ = (y198 ++ y201) := ⟨_, rfl⟩
                  replace H : (if 0 < (x5_1.length : Int) then ((some (([(⟨(rd_T30 x5_1 0).f0, (rd_T30 x5_1 0).f1⟩ : S30)] : List (S30)) : List (S30))).bind fun y210 => (if y206.length + y210.length < 3518437208883 then (some (t176, (y206 ++ y210), t193)) else (none))) else (none)) = some (r1, r2, r3) := by first | (rw [hy206]; with_reducible exact H) | (have H2_ := (Option.bind_some _ _).symm.trans H; rw [hy206]; with_reducible exact H2_) | (have H2_ := (Option.bind_some _ _).symm.trans H; with_reducible exact H2_) | with_reducible exact H | (rw [hy206]; exact H) | exact H
                  have Ny206 := Aside0.mk hy206
                  clear hy206
                  by_cases c29 : 0 < (x5_1.length : Int)
                  · rw [if_pos c29] at H
                    have c29b0 : decide (0 < (x5_1.length : Int)) = true := decide_eq_true c29
                    have c29b1 : decide (0 < x5_1.length) = true := decide_eq_true (by omega)
                    clear c29
                    obtain ⟨y210, hy210⟩ : ∃ y_ : List (S30), y_ = (([(⟨(rd_T30 x5_1 0).f0, (rd_T30 x5_1 0).f1⟩ : S30)] : List (S30))) := ⟨_, rfl⟩
                    replace H : (if y206.length + y210.length < 3518437208883 then (some (t176, (y206 ++ y210), t193)) else (none)) = some (r1, r2, r3) := by first | (rw [hy210]; with_reducible exact H) | (have H2_ := (Option.bind_some _ _).symm.trans H; rw [hy210]; with_reducible exact H2_) | (have H2_ := (Option.bind_some _ _).symm.trans H; with_reducible exact H2_) | with_reducible exact H | (rw [hy210]; exact H) | exact H
                    have Ny210 := Aside0.mk hy210
                    clear hy210
                    by_cases c30 : y206.length + y210.length < 3518437208883
                    · rw [if_pos c30] at H
                      have LMc30 := Aside0.mk c30
                      clear c30
                      obtain ⟨y213, hy213⟩ : ∃ y_ : List (S30), y_ = (y206 ++ y210) := ⟨_, rfl⟩
                      replace H : (some (t176, y213, t193)) = some (r1, r2, r3) := by first | (rw [hy213]; with_reducible exact H) | (have H2_ := (Option.bind_some _ _).symm.trans H; rw [hy213]; with_reducible exact H2_) | (have H2_ := (Option.bind_some _ _).symm.trans H; with_reducible exact H2_) | with_reducible exact H | (rw [hy213]; exact H) | exact H
                      have Ny213 := Aside0.mk hy213
                      clear hy213
                      simp only [Option.some.injEq, Prod.mk.injEq] at H
                      obtain ⟨rfl, rfl, rfl⟩ := H
                      obtain ⟨Ao31, co31, eo31⟩ := Kd.N_slice HO_4.out
                      subst eo31
                      try go_wp2_with (first | ((with_reducible refine gate_callee (f := 61) rfl ?_); refine goesL_ (some 27) rfl rfl Try.func61 (by kernel_rfl) rfl #[.pointer (some ⟨g, 0, none⟩), .int .i64 5] rfl (by (try simp only [List.map_toArray, List.map_cons, List.map_nil]); first | done | rfl | (simp only [List.length_drop, List.length_take]; rfl)) ?_; (with_reducible refine (spec_reader_pick.calls k1 g s0_0 x1001_1 5 t192 t193 w0 _ ?side1 ?side2 A19.out).mono ?_); (case side1 => repeat (first | (with_reducible first | exact HI0.out | apply IsS75.alloc | apply IsS75.drewN | apply IsS75.drew | apply IsS75.set_1) | exact HI0.out)); (case side2 => repeat (first | (with_reducible first | exact HB.out | apply below_alloc | apply pw_below_drewN | apply below_drew1 | refine below_set ?_ (IsS75.ge HI0.out)) | exact HB.out)); rintro e w32 ⟨rfl, hi, hb, hk⟩; refine ⟨_, rfl, ?_⟩; have n0_ := Aside0.mk (Kd.N_mono (Kd.N_keep (Kd.N_mono (ok := fun k_ => (((w.heap.size ≤ k_)) ∧ (some k_ ≠ (u5 : Value).ownBlock ∧ k_ ≠ g))) (by (with_reducible repeat (first | apply Kd.N_alloc | apply Kd.N_drewN | apply Kd.N_drew)); exact HO_4.out) (fun k_ hk_ => (⟨hk_, (gives hk_)⟩ : _ ∧ k_ ≠ g))) hk (fun _ h => h.2)) (fun _ h => h.1)); have n1_ := Aside0.mk (Kd.N_mono (Kd.N_keep (Kd.N_mono (ok := fun k_ => (((w.heap.size ≤ k_)) ∧ (some k_ ≠ (.slice Ao31 t176.length co31 : Value).ownBlock ∧ k_ ≠ g))) (by (with_reducible repeat (first | apply Kd.N_alloc | apply Kd.N_drewN | apply Kd.N_drew)); exact HO_5.out) (fun k_ hk_ => (⟨hk_, (gives hk_)⟩ : _ ∧ k_ ≠ g))) hk (fun _ h => h.2)) (fun _ h => h.1)); have n2_ := Aside0.mk (KeepBut.trans (by repeat (first | (with_reducible first | exact HK.out | apply KeepBut.set_ | apply keep_drewN | apply keep_drew | apply keep_alloc) | exact HK.out)) hk (.inl rfl)); have n3_ := Aside0.mk (hb); have n4_ := Aside0.mk (hi); clear HO_4; clear HO_5; clear HK; clear HB; clear HI0; have HO_4 := n0_; have HO_5 := n1_; have HK := n2_; have HB := n3_; have HI0 := n4_; clear n0_ n1_ n2_ n3_ n4_; (try clear hb); (try clear hb2); (try clear hk); (try clear hi); obtain ⟨Ao33, co33, eo33⟩ := Kd.N_slice HO_5.out; subst eo33))
                      have n0_ := Aside0.mk (Kd.N_drew HO_4.out)
                      have n1_ := Aside0.mk (Kd.N_drew HO_5.out)
                      have n2_ := Aside0.mk (IsS75.drew HI0.out)
                      have n3_ := Aside0.mk (keep_drew HK.out)
                      have n4_ := Aside0.mk (below_drew1 HB.out)
                      clear HO_4
                      clear HO_5
                      clear HI0
                      clear HK
                      clear HB
                      have HO_4 := n0_
                      have HO_5 := n1_
                      have HI0 := n2_
                      have HK := n3_
                      have HB := n4_
                      clear n0_ n1_ n2_ n3_ n4_
                      have q35 : (1 : Int) ≤ ((x5_1.length : Int) : Int) := of_decide_eq_true (by first | (with_reducible assumption) | assumption)
                      obtain ⟨i035, hi035, _, hsz35, _⟩ := info_parts info30
                      have hroom35 : x5_1.length ≤ co33 := (Kd.N_reads' HO_5.out).2.1
                      have hC35 : Kd.F k30 _ _ Ao33 x5_1.length x5_1 := (Kd.V_at (base := w.heap.size) (Kd.N_V HO_5.out)).2.2
                      have hcut35 := cut_from (P := Try.prog) 23 30 .i64 Try.underlying23 hi035 2 hsz35 Ao33 x5_1.length co33 1 (by omega) q35
                      have hr35 := Kd.F_cut (m := (1 : Int).toNat) (c := co33) hC35 (by omega) hroom35
                      obtain ⟨A35, hA35⟩ : ∃ A1, A1 = (if co33 = (1 : Int).toNat then Ao33 else (Ao33 : Option Addr).map (·.add ((1 : Int).toNat * 2))) := ⟨_, rfl⟩
                      obtain ⟨c35, hc35⟩ : ∃ c1, c1 = co33 - (1 : Int).toNat := ⟨_, rfl⟩
                      have hy35 : y201.length = x5_1.length - (1 : Int).toNat := (by rw [Ny201.out, List.length_drop] <;> omega)
                      rw [show (x5_1).drop (1 : Int).toNat = y201 from Ny201.out.symm] at hr35
                      replace hr35 : Kd.F k30 _ _ A35 y201.length y201 := (by rw [hA35]; exact hr35)
                      rw [← hy35, ← hA35, ← hc35] at hcut35
                      have HO205 := Aside0.mk (show Kd.V k30 30 _ w.heap.size _ (.slice A35 y201.length c35) y201 from Kd.V_mk (by rw [hy35, hc35]; exact Nat.sub_le_sub_right hroom35 _) hr35)
                      have HC205 := Aside0.mk (show y201.length ≤ c35 from by rw [hy35, hc35]; exact Nat.sub_le_sub_right hroom35 _)
                      clear hr35 hC35 hroom35 hi035 hsz35 hc35
                      have KY35 := Aside0.mk hy35
                      have KA35 := Aside0.mk hA35
                      clear hy35 hA35
                      replace q35 := eq_true q35
                      have p209 : 0 ≤ (0 : Int) := (by omega)
                      have q209 : 0 < (x5_1.length : Int) := of_decide_eq_true (by first | (with_reducible assumption) | assumption)
                      obtain ⟨ad209, A209_1, c209_1, e209, hx209_0, hx209_1, hl209_1, hi209_1⟩ := at_T30 (Kd.N_reads' HO_5.out).2.2 0 p209 q209
                      cases e209
                      obtain ⟨ce209, hce209, hMe209, hcc209⟩ := Kd.N_get HO_5.out z30 0 p209 (by first | exact q209 | exact of_decide_eq_true (by first | (with_reducible assumption) | assumption) | (have e_ := (Kd.N_reads' HO_5.out).1; omega))
                      obtain ⟨ua209_1, uc209_1, rfl, ul209_1, ge209_1⟩ := k30_openF hMe209
                      have hv209_1 := hcc209 1 _ rfl
                      rw [add_field _ _ 1 (by omega)] at hv209_1
                      replace hv209_1 := Option.some.inj (hv209_1.symm.trans hx209_1)
                      injection hv209_1 with hva_ hvn_ hvc_
                      rw [hva_] at ge209_1
                      rw [hvc_] at ul209_1
                      have HL209_1 := Aside0.mk (show Kd.V (Kd.int .i64) 3 _ w.heap.size _ _ ((rd_T30 x5_1 0).f1) from Kd.V_mk ul209_1 ge209_1)
                      clear hva_ hvn_ hvc_ ge209_1 ul209_1
                      clear hcc209 hce209
                      have qi209 : (0 < x5_1.length) = True := eq_true (by omega)
                      (try rw [show ((0 : Int)).toNat = 0 from rfl] at hx209_0)
                      (try rw [show 0 * 2 = 0 from rfl] at hx209_0)
                      (try rw [Addr.add_zero'] at hx209_0)
                      (try rw [show ((0 : Int)).toNat = 0 from rfl] at hx209_1)
                      (try rw [show 0 * 2 = 0 from rfl] at hx209_1)
                      (try rw [Addr.add_zero'] at hx209_1)
                      have HR209_1 := Aside0.mk hi209_1
                      have HC209_1 := Aside0.mk hl209_1
                      clear hi209_1 hl209_1
                      replace p209 := eq_true p209
                      replace q209 := eq_true q209
                      refine start_ (n := 10) (S := fun w' => w'.cell? ad209 = some (.string ((rd_T30 x5_1 0).f0)) ∧ w'.cell? ⟨ad209.block, ad209.off + 1, none⟩ = some (.slice A209_1 ((rd_T30 x5_1 0).f1).length c209_1)) (ds := []) #[false, false, false, false, false, false, false, false, false, false] (by kernel_rfl) rfl rfl ⟨hx209_0, hx209_1⟩ (fun hHeld => ?_); refine with_tabW spec_twoCalls.tab13 spec_twoCalls.bits13 (fun HT_ HW_ => ?_)
                      generalize w32.drew = w34 at HO_4 HO_5 HI0 HK HB HL209_1 HO205 HR209_1 hx209_0 hx209_1 hHeld ⊢
                      refine pure_ (i := 1) (N := some 39) (v := ?_) (a' := ?_) #[false, true, false, false, false, false, false, false, false, false] rfl rfl (any_of HT_.out (by kernel_rfl)) (fun _ _ _ h => h) (Or.inl ⟨by rfl, ?_⟩) ?_ ?_
                      rotate_left
                      · intro w'
                        go_simp
                        with_reducible rfl
                      rotate_left
                      · simp only [Act.put, List.setIfInBounds_toArray, List.set_cons_zero, List.set_cons_succ, i64_w, i32_w]
                        rfl
                      refine pure_ (i := 2) (N := some 40) (v := ?_) (a' := ?_) #[false, true, true, false, false, false, false, false, false, false] rfl rfl (any_of HT_.out (by kernel_rfl)) (fun _ _ _ h => h) (Or.inl ⟨by rfl, ?_⟩) ?_ ?_
                      rotate_left
                      · intro w'
                        go_simp
                        with_reducible rfl
                      rotate_left
                      · simp only [Act.put, List.setIfInBounds_toArray, List.set_cons_zero, List.set_cons_succ, i64_w, i32_w]
                        rfl
                      refine pure_ (i := 4) (N := some 42) (v := ?_) (a' := ?_) #[false, true, true, false, true, false, false, false, false, false] rfl rfl (any_of HT_.out (by kernel_rfl)) (fun _ _ _ h => h) (Or.inl ⟨by rfl, ?_⟩) ?_ ?_
                      rotate_left
                      · intro w'
                        go_simp
                        with_reducible rfl
                      rotate_left
                      · simp only [Act.put, List.setIfInBounds_toArray, List.set_cons_zero, List.set_cons_succ, i64_w, i32_w]
                        rfl
                      refine pure_ (i := 5) (N := some 43) (v := ?_) (a' := ?_) #[false, true, true, false, true, true, false, false, false, false] rfl rfl (any_of HT_.out (by kernel_rfl)) (fun _ _ _ h => h) (Or.inl ⟨by rfl, ?_⟩) ?_ ?_
                      rotate_left
                      · intro w'
                        go_simp
                        with_reducible rfl
                      rotate_left
                      · simp only [Act.put, List.setIfInBounds_toArray, List.set_cons_zero, List.set_cons_succ, i64_w, i32_w]
                        rfl
                      refine take_ (i := 6) (N := some 44) (v := ?_) (a' := ?_) #[false, true, true, false, true, true, true, false, false, false] rfl rfl (take_ofW HT_.out HW_.out (by kernel_rfl)) (fun _ _ _ h => h) (Or.inl ⟨by rfl, ?_⟩) hHeld ?_ ?_
                      rotate_left
                      · rintro w' ⟨s0, s1⟩
                        go_simp
                        with_reducible rfl
                      rotate_left
                      · simp only [Act.put, List.setIfInBounds_toArray, List.set_cons_zero, List.set_cons_succ, i64_w, i32_w]
                        rfl
                      refine join_ (σ := Value × Value × Value) 2 #[true, true, true, true, true, true, true, true, false, false] (fun s_ => [(38, s_.1), (41, s_.2.1), (45, s_.2.2)]) (fun s_ w' => (w'.cell? ad209 = some (.string ((rd_T30 x5_1 0).f0)) ∧ w'.cell? ⟨ad209.block, ad209.off + 1, none⟩ = some (.slice A209_1 ((rd_T30 x5_1 0).f1).length c209_1)) ∧ (Kd.V (Kd.int .i64) 3 w' w.heap.size (fun k_ => (w.heap.size ≤ k_) ∧ some k_ ≠ (s_.2.1 : Value).ownBlock ∧ some k_ ≠ (s_.2.2 : Value).ownBlock ∧ some k_ ≠ (.slice Ao31 t176.length co31 : Value).ownBlock ∧ some k_ ≠ (.slice (some ad209) x5_1.length co33 : Value).ownBlock ∧ k_ ≠ g) (.slice A209_1 ((rd_T30 x5_1 0).f1).length c209_1) ((rd_T30 x5_1 0).f1)) ∧ (Kd.V k30 30 w' w.heap.size (fun k_ => (w.heap.size ≤ k_) ∧ some k_ ≠ (s_.2.1 : Value).ownBlock ∧ some k_ ≠ (s_.2.2 : Value).ownBlock ∧ some k_ ≠ (.slice Ao31 t176.length co31 : Value).ownBlock ∧ k_ ≠ g) (.slice A35 y201.length c35) y201) ∧ (Kd.N k30 30 w' w.heap.size (fun k_ => (w.heap.size ≤ k_) ∧ some k_ ≠ (s_.2.2 : Value).ownBlock ∧ some k_ ≠ (.slice Ao31 t176.length co31 : Value).ownBlock ∧ k_ ≠ g) s_.2.1 y206) ∧ (Kd.N k30 30 w' w.heap.size (fun k_ => (w.heap.size ≤ k_) ∧ some k_ ≠ (s_.2.1 : Value).ownBlock ∧ some k_ ≠ (.slice Ao31 t176.length co31 : Value).ownBlock ∧ some k_ ≠ (.slice (some ad209) x5_1.length co33 : Value).ownBlock ∧ k_ ≠ g) s_.2.2 y210) ∧ (Kd.N k30 30 w' w.heap.size (fun k_ => (w.heap.size ≤ k_) ∧ some k_ ≠ (s_.2.1 : Value).ownBlock ∧ some k_ ≠ (s_.2.2 : Value).ownBlock ∧ some k_ ≠ (.slice (some ad209) x5_1.length co33 : Value).ownBlock ∧ k_ ≠ g) (.slice Ao31 t176.length co31) t176) ∧ (Kd.N k30 30 w' w.heap.size (fun k_ => (w.heap.size ≤ k_) ∧ some k_ ≠ (s_.2.1 : Value).ownBlock ∧ some k_ ≠ (s_.2.2 : Value).ownBlock ∧ some k_ ≠ (.slice Ao31 t176.length co31 : Value).ownBlock ∧ k_ ≠ g) (.slice (some ad209) x5_1.length co33) x5_1) ∧ (IsS75 w0 w' g s0_0 t193) ∧ (KeepBut w w' g none) ∧ (Below w0.heap.size w0 w')) ?_ ?_
                      rotate_left
                      · intro hCont
                        refine two_ (i := 0) (j := 7) (Ni := some 38) (Nj := some 45) #[true, true, true, false, true, true, true, false, false, false] #[false, true, true, false, true, true, true, true, false, false] rfl rfl rfl rfl (two_of HT_.out (by kernel_rfl)) (by decide) (by decide) (fun K hK => ?_) (fun K hK => ?_)
                        · skip
                          refine Kd.N_lit_step k30 _ 30 ?hg (N' := 38) ?hd (xs := ([] : List (S30))) (inner := []) (ok := (fun k_ => (w.heap.size ≤ k_) ∧ some k_ ≠ (.slice Ao31 t176.length co31 : Value).ownBlock ∧ some k_ ≠ (.slice (some ad209) x5_1.length co33 : Value).ownBlock ∧ k_ ≠ g)) (okp := (fun k_ => (w.heap.size ≤ k_) ∧ some k_ ≠ (.slice Ao31 t176.length co31 : Value).ownBlock ∧ some k_ ≠ (.slice (some ad209) x5_1.length co33 : Value).ownBlock ∧ k_ ≠ g)) ?hr ?hp (fun _ hk => hk) ((show ∀ k_, w34.heap.size ≤ k_ → (fun k_ => (w.heap.size ≤ k_) ∧ some k_ ≠ (.slice Ao31 t176.length co31 : Value).ownBlock ∧ some k_ ≠ (.slice (some ad209) x5_1.length co33 : Value).ownBlock ∧ k_ ≠ g) k_ from fun k_ hk => ⟨(Nat.le_trans (keep_size (w := w) (g := g) (row := none) (by repeat (first | (with_reducible first | exact HK.out | apply KeepBut.set_ | apply keep_drewN | apply keep_drew | apply keep_alloc) | exact HK.out))) hk), Kd.fresh' (Kd.N_lt (by (with_reducible repeat (first | apply Kd.N_alloc | apply Kd.N_drewN | apply Kd.N_drew)); exact HO_4.out)) k_ hk, Kd.fresh' (Kd.N_lt (by (with_reducible repeat (first | apply Kd.N_alloc | apply Kd.N_drewN | apply Kd.N_drew)); exact HO_5.out)) k_ hk, IsS75.fresh (by repeat (first | (with_reducible first | exact HI0.out | apply IsS75.alloc | apply IsS75.drewN | apply IsS75.drew | apply IsS75.set_1) | exact HI0.out)) k_ hk⟩) _ (Nat.le_refl _)) (Below.refl _ _) (Nat.le_refl _) (by simp) ?_; (case hd => rfl); (case hg => rfl); (case hr => first | (go_simp; done) | (go_simp; rfl)); (case hp => exact (Reps.none _ _))
                          intro v199 w36 ho37 hb hg_ hnew_
                          have HS0_ := (hb.cell (World.block_lt_of_cell? _ _ (hHeld.1))).trans (hHeld.1)
                          have HS1_ := (hb.cell (World.block_lt_of_cell? _ _ (hHeld.2))).trans (hHeld.2)
                          clear hg_ hnew_
                          (first | rw [← Ny198.out] at ho37 | (simp only [Int.reduceToNat] at ho37; rw [← Ny198.out] at ho37))
                          have n0_ := Aside0.mk (Kd.N_elder' (by (with_reducible repeat (first | apply Kd.N_alloc | apply Kd.N_drewN | apply Kd.N_drew)); exact HO_4.out) (Kd.N_base ho37) hb)
                          have n1_ := Aside0.mk (Kd.N_elder' (by (with_reducible repeat (first | apply Kd.N_alloc | apply Kd.N_drewN | apply Kd.N_drew)); exact HO_5.out) (Kd.N_base ho37) hb)
                          have n2_ := Aside0.mk (Kd.V_elder' (by (with_reducible repeat (first | apply Kd.V_alloc | apply Kd.V_drewN | apply Kd.V_drew)); exact HO205.out) (Kd.N_base ho37) hb)
                          have n3_ := Aside0.mk (Kd.V_elder' (by (with_reducible repeat (first | apply Kd.V_alloc | apply Kd.V_drewN | apply Kd.V_drew)); exact HL209_1.out) (Kd.N_base ho37) hb)
                          have n4_ := Aside0.mk (Kd.N_lower ho37 (keep_size (w := w) (g := g) (row := none) (by repeat (first | (with_reducible first | exact HK.out | apply KeepBut.set_ | apply keep_drewN | apply keep_drew | apply keep_alloc) | exact HK.out))))
                          have n5_ := Aside0.mk (IsS75.below (by repeat (first | (with_reducible first | exact HI0.out | apply IsS75.alloc | apply IsS75.drewN | apply IsS75.drew | apply IsS75.set_1) | exact HI0.out)) hb)
                          have n6_ := Aside0.mk (Kd.C_below (by repeat (first | (with_reducible exact HR209_1.out) | (with_reducible refine Kd.C_alloc ?_ _) | (with_reducible refine Kd.C_drewN ?_ _) | (with_reducible refine Kd.C_drew ?_) | exact HR209_1.out)) hb)
                          have n7_ := Aside0.mk (KeepBut.trans (by repeat (first | (with_reducible first | exact HK.out | apply KeepBut.set_ | apply keep_drewN | apply keep_drew | apply keep_alloc) | exact HK.out)) (KeepBut.of_below hb g none) (.inl rfl))
                          have n8_ := Aside0.mk (below_step (by repeat (first | (with_reducible first | exact HB.out | apply below_alloc | apply pw_below_drewN | apply below_drew1 | refine below_set ?_ (IsS75.ge HI0.out)) | exact HB.out)) hb)
                          clear HO_4
                          clear HO_5
                          clear HO205
                          clear HL209_1
                          clear HI0
                          clear HR209_1
                          clear HK
                          clear HB
                          have HO_4 := n0_
                          have HO_5 := n1_
                          have HO205 := n2_
                          have HL209_1 := n3_
                          have HO200 := n4_
                          have HI0 := n5_
                          have HR209_1 := n6_
                          have HK := n7_
                          have HB := n8_
                          clear n0_ n1_ n2_ n3_ n4_ n5_ n6_ n7_ n8_
                          clear hb ho37
                          refine hK.out _ _ ⟨HS0_, HS1_⟩ (fun hHeld => ?_)
                          clear hK K
                          refine norm_ (a' := ?_) ?_ ?_
                          rotate_left
                          · show Act.put _ (some 38) _ = _
                            simp only [Act.put, List.setIfInBounds_toArray, List.set_cons_zero, List.set_cons_succ, i64_w, i32_w]
                            rfl
                          refine two_ (i := 3) (j := 7) (Ni := some 41) (Nj := some 45) #[true, true, true, true, true, true, true, false, false, false] #[true, true, true, false, true, true, true, true, false, false] rfl rfl rfl rfl (two_of HT_.out (by kernel_rfl)) (by decide) (by decide) (fun K hK => ?_) (fun K hK => ?_)
                          · skip
                            refine Kd.N_append_rows_step k30 w.heap.size (by rfl) (.tmp 38) (.tmp 40) 23 30 (.agg #[(.string ⟨#[]⟩), (.slice none 0 0)]) 40 rfl Try.underlying23 info30 rfl (by decide) (by omega) v199 y198 y201 _ _ _ (fun k_ => (w.heap.size ≤ k_) ∧ some k_ ≠ (.slice Ao31 t176.length co31 : Value).ownBlock ∧ k_ ≠ g) (fun k_ => ((fun k_ => (w.heap.size ≤ k_) ∧ some k_ ≠ (.slice Ao31 t176.length co31 : Value).ownBlock ∧ k_ ≠ g)) k_ ∧ some k_ ≠ (v199 : Value).ownBlock) rfl rfl ?aO ?aR (fun _ hk => hk) ?aF (Below.refl _ _) ?aS ?aL ?_
                            (case aR => exact (by skip; exact Kd.V_F (Kd.V_mono (ok' := (fun k_ => ((fun k_ => (w.heap.size ≤ k_) ∧ some k_ ≠ (.slice Ao31 t176.length co31 : Value).ownBlock ∧ k_ ≠ g)) k_ ∧ some k_ ≠ (v199 : Value).ownBlock)) (HO205.out) (fun k_ hk => ⟨⟨(gives hk), ⟨(gives hk), (gives hk)⟩⟩, hk.2⟩))))
                            (case aF => exact (fun k_ hk => ⟨(Nat.le_trans (keep_size (w := w) (g := g) (row := none) (by repeat (first | (with_reducible first | exact HK.out | apply KeepBut.set_ | apply keep_drewN | apply keep_drew | apply keep_alloc) | exact HK.out))) hk), Kd.fresh' (Kd.N_lt (by (with_reducible repeat (first | apply Kd.N_alloc | apply Kd.N_drewN | apply Kd.N_drew)); exact HO_4.out)) k_ hk, IsS75.fresh (by repeat (first | (with_reducible first | exact HI0.out | apply IsS75.alloc | apply IsS75.drewN | apply IsS75.drew | apply IsS75.set_1) | exact HI0.out)) k_ hk⟩))
                            (case aO => exact (by (with_reducible repeat (first | apply Kd.N_alloc | apply Kd.N_drewN | apply Kd.N_drew)); exact Kd.N_mono HO200.out (fun _ hk => ⟨hk.1, ⟨(gives hk), (gives hk)⟩⟩)))
                            (case aS => exact (keep_size (w := w) (g := g) (row := none) (by repeat (first | (with_reducible first | exact HK.out | apply KeepBut.set_ | apply keep_drewN | apply keep_drew | apply keep_alloc) | exact HK.out))))
                            (case aL => have := LMc28.out; omega)
                            intro v207 w38 ho hb hg hat
                            (first | have HS0_ := cell_grown hg (hHeld.1) (by have h_ := HO_5.out.1 _ rfl; first | (rw [add_block]; first | with_reducible exact h_.2 | with_reducible exact h_.1 | with_reducible exact h_.1.2 | with_reducible exact h_.2.1 | with_reducible exact h_.2.2 | with_reducible exact h_.1.1 | with_reducible exact h_.2.2.1 | with_reducible exact h_.2.2.2 | with_reducible exact h_.2.2.2.1 | with_reducible exact h_.2.2.2.2 | with_reducible exact h_.1.2.1 | with_reducible exact h_.1.2.2 | with_reducible exact h_.2.2.2.2.1 | with_reducible exact h_.1.1.2 | with_reducible exact h_.1.2.2.1) | (first | with_reducible exact h_.2 | with_reducible exact h_.1 | with_reducible exact h_.1.2 | with_reducible exact h_.2.1 | with_reducible exact h_.2.2 | with_reducible exact h_.1.1 | with_reducible exact h_.2.2.1 | with_reducible exact h_.2.2.2 | with_reducible exact h_.2.2.2.1 | with_reducible exact h_.2.2.2.2 | with_reducible exact h_.1.2.1 | with_reducible exact h_.1.2.2 | with_reducible exact h_.2.2.2.2.1 | with_reducible exact h_.1.1.2 | with_reducible exact h_.1.2.2.1) | (simp only [add_block]; first | with_reducible exact h_.2 | with_reducible exact h_.1 | with_reducible exact h_.1.2 | with_reducible exact h_.2.1 | with_reducible exact h_.2.2 | with_reducible exact h_.1.1 | with_reducible exact h_.2.2.1 | with_reducible exact h_.2.2.2 | with_reducible exact h_.2.2.2.1 | with_reducible exact h_.2.2.2.2 | with_reducible exact h_.1.2.1 | with_reducible exact h_.1.2.2 | with_reducible exact h_.2.2.2.2.1 | with_reducible exact h_.1.1.2 | with_reducible exact h_.1.2.2.1)) | have HS0_ := cell_grown hg (cell_unalloc (hHeld.1) (Kd.N_lt HO_5.out _ rfl)) (by have h_ := HO_5.out.1 _ rfl; first | (rw [add_block]; first | with_reducible exact h_.2 | with_reducible exact h_.1 | with_reducible exact h_.1.2 | with_reducible exact h_.2.1 | with_reducible exact h_.2.2 | with_reducible exact h_.1.1 | with_reducible exact h_.2.2.1 | with_reducible exact h_.2.2.2 | with_reducible exact h_.2.2.2.1 | with_reducible exact h_.2.2.2.2 | with_reducible exact h_.1.2.1 | with_reducible exact h_.1.2.2 | with_reducible exact h_.2.2.2.2.1 | with_reducible exact h_.1.1.2 | with_reducible exact h_.1.2.2.1) | (first | with_reducible exact h_.2 | with_reducible exact h_.1 | with_reducible exact h_.1.2 | with_reducible exact h_.2.1 | with_reducible exact h_.2.2 | with_reducible exact h_.1.1 | with_reducible exact h_.2.2.1 | with_reducible exact h_.2.2.2 | with_reducible exact h_.2.2.2.1 | with_reducible exact h_.2.2.2.2 | with_reducible exact h_.1.2.1 | with_reducible exact h_.1.2.2 | with_reducible exact h_.2.2.2.2.1 | with_reducible exact h_.1.1.2 | with_reducible exact h_.1.2.2.1) | (simp only [add_block]; first | with_reducible exact h_.2 | with_reducible exact h_.1 | with_reducible exact h_.1.2 | with_reducible exact h_.2.1 | with_reducible exact h_.2.2 | with_reducible exact h_.1.1 | with_reducible exact h_.2.2.1 | with_reducible exact h_.2.2.2 | with_reducible exact h_.2.2.2.1 | with_reducible exact h_.2.2.2.2 | with_reducible exact h_.1.2.1 | with_reducible exact h_.1.2.2 | with_reducible exact h_.2.2.2.2.1 | with_reducible exact h_.1.1.2 | with_reducible exact h_.1.2.2.1)))
                            (first | have HS1_ := cell_grown hg (hHeld.2) (by have h_ := HO_5.out.1 _ rfl; first | (rw [add_block]; first | with_reducible exact h_.2 | with_reducible exact h_.1 | with_reducible exact h_.1.2 | with_reducible exact h_.2.1 | with_reducible exact h_.2.2 | with_reducible exact h_.1.1 | with_reducible exact h_.2.2.1 | with_reducible exact h_.2.2.2 | with_reducible exact h_.2.2.2.1 | with_reducible exact h_.2.2.2.2 | with_reducible exact h_.1.2.1 | with_reducible exact h_.1.2.2 | with_reducible exact h_.2.2.2.2.1 | with_reducible exact h_.1.1.2 | with_reducible exact h_.1.2.2.1) | (first | with_reducible exact h_.2 | with_reducible exact h_.1 | with_reducible exact h_.1.2 | with_reducible exact h_.2.1 | with_reducible exact h_.2.2 | with_reducible exact h_.1.1 | with_reducible exact h_.2.2.1 | with_reducible exact h_.2.2.2 | with_reducible exact h_.2.2.2.1 | with_reducible exact h_.2.2.2.2 | with_reducible exact h_.1.2.1 | with_reducible exact h_.1.2.2 | with_reducible exact h_.2.2.2.2.1 | with_reducible exact h_.1.1.2 | with_reducible exact h_.1.2.2.1) | (simp only [add_block]; first | with_reducible exact h_.2 | with_reducible exact h_.1 | with_reducible exact h_.1.2 | with_reducible exact h_.2.1 | with_reducible exact h_.2.2 | with_reducible exact h_.1.1 | with_reducible exact h_.2.2.1 | with_reducible exact h_.2.2.2 | with_reducible exact h_.2.2.2.1 | with_reducible exact h_.2.2.2.2 | with_reducible exact h_.1.2.1 | with_reducible exact h_.1.2.2 | with_reducible exact h_.2.2.2.2.1 | with_reducible exact h_.1.1.2 | with_reducible exact h_.1.2.2.1)) | have HS1_ := cell_grown hg (cell_unalloc (hHeld.2) (Kd.N_lt HO_5.out _ rfl)) (by have h_ := HO_5.out.1 _ rfl; first | (rw [add_block]; first | with_reducible exact h_.2 | with_reducible exact h_.1 | with_reducible exact h_.1.2 | with_reducible exact h_.2.1 | with_reducible exact h_.2.2 | with_reducible exact h_.1.1 | with_reducible exact h_.2.2.1 | with_reducible exact h_.2.2.2 | with_reducible exact h_.2.2.2.1 | with_reducible exact h_.2.2.2.2 | with_reducible exact h_.1.2.1 | with_reducible exact h_.1.2.2 | with_reducible exact h_.2.2.2.2.1 | with_reducible exact h_.1.1.2 | with_reducible exact h_.1.2.2.1) | (first | with_reducible exact h_.2 | with_reducible exact h_.1 | with_reducible exact h_.1.2 | with_reducible exact h_.2.1 | with_reducible exact h_.2.2 | with_reducible exact h_.1.1 | with_reducible exact h_.2.2.1 | with_reducible exact h_.2.2.2 | with_reducible exact h_.2.2.2.1 | with_reducible exact h_.2.2.2.2 | with_reducible exact h_.1.2.1 | with_reducible exact h_.1.2.2 | with_reducible exact h_.2.2.2.2.1 | with_reducible exact h_.1.1.2 | with_reducible exact h_.1.2.2.1) | (simp only [add_block]; first | with_reducible exact h_.2 | with_reducible exact h_.1 | with_reducible exact h_.1.2 | with_reducible exact h_.2.1 | with_reducible exact h_.2.2 | with_reducible exact h_.1.1 | with_reducible exact h_.2.2.1 | with_reducible exact h_.2.2.2 | with_reducible exact h_.2.2.2.1 | with_reducible exact h_.2.2.2.2 | with_reducible exact h_.1.2.1 | with_reducible exact h_.1.2.2 | with_reducible exact h_.2.2.2.2.1 | with_reducible exact h_.1.1.2 | with_reducible exact h_.1.2.2.1)))
                            rw [← Ny206.out] at ho
                            have n0_ := Aside0.mk (Kd.N_afterv (ok := (fun k_ => (w.heap.size ≤ k_) ∧ some k_ ≠ (.slice (some ad209) x5_1.length co33 : Value).ownBlock ∧ k_ ≠ g)) (by (with_reducible repeat (first | apply Kd.N_alloc | apply Kd.N_drewN | apply Kd.N_drew)); exact HO_4.out) hg hat)
                            have n1_ := Aside0.mk (Kd.N_afterv (ok := (fun k_ => (w.heap.size ≤ k_) ∧ some k_ ≠ (.slice Ao31 t176.length co31 : Value).ownBlock ∧ k_ ≠ g)) (by (with_reducible repeat (first | apply Kd.N_alloc | apply Kd.N_drewN | apply Kd.N_drew)); exact HO_5.out) hg hat)
                            have n2_ := Aside0.mk (IsS75.grown (by repeat (first | (with_reducible first | exact HI0.out | apply IsS75.alloc | apply IsS75.drewN | apply IsS75.drew | apply IsS75.set_1) | exact HI0.out)) hg (IsS75.own_neN HI0.out HO200.out (by decide)))
                            have n3_ := Aside0.mk (Kd.V_afterv (ok := (fun k_ => (w.heap.size ≤ k_) ∧ some k_ ≠ (.slice Ao31 t176.length co31 : Value).ownBlock ∧ k_ ≠ g)) (by (with_reducible repeat (first | apply Kd.V_alloc | apply Kd.V_drewN | apply Kd.V_drew)); exact HO205.out) hg hat)
                            have n4_ := Aside0.mk (Kd.V_afterv (ok := (fun k_ => (w.heap.size ≤ k_) ∧ some k_ ≠ (.slice Ao31 t176.length co31 : Value).ownBlock ∧ some k_ ≠ (.slice (some ad209) x5_1.length co33 : Value).ownBlock ∧ k_ ≠ g)) (by (with_reducible repeat (first | apply Kd.V_alloc | apply Kd.V_drewN | apply Kd.V_drew)); exact Kd.V_mono HL209_1.out (fun _ hk => ⟨⟨(gives hk), ⟨(gives hk), ⟨(gives hk), (gives hk)⟩⟩⟩, hk.2⟩)) hg hat)
                            have n5_ := Aside0.mk (below_weaken (by repeat (first | (with_reducible first | exact HB.out | apply below_alloc | apply pw_below_drewN | apply below_drew1 | refine below_set ?_ (IsS75.ge HI0.out)) | exact HB.out)) HL.out hb)
                            have n6_ := Aside0.mk (KeepBut.trans (by repeat (first | (with_reducible first | exact HK.out | apply KeepBut.set_ | apply keep_drewN | apply keep_drew | apply keep_alloc) | exact HK.out)) (KeepBut.of_grown hg g) (Kd.N_base2 HO200.out))
                            have n7_ := Aside0.mk (ho)
                            clear HO_4
                            clear HO_5
                            clear HI0
                            clear HO205
                            clear HL209_1
                            clear HB
                            clear HK
                            clear HO200
                            have HO_4 := n0_
                            have HO_5 := n1_
                            have HI0 := n2_
                            have HO205 := n3_
                            have HL209_1 := n4_
                            have HB := n5_
                            have HK := n6_
                            have HO208 := n7_
                            clear n0_ n1_ n2_ n3_ n4_ n5_ n6_ n7_
                            clear ho hb hg hat
                            refine hK.out _ _ ⟨HS0_, HS1_⟩ (fun hHeld => ?_)
                            clear hK K
                            refine norm_ (a' := ?_) ?_ ?_
                            rotate_left
                            · show Act.put _ (some 41) _ = _
                              simp only [Act.put, List.setIfInBounds_toArray, List.set_cons_zero, List.set_cons_succ, i64_w, i32_w]
                              rfl
                            refine one_ (i := 7) (N := some 45) #[true, true, true, true, true, true, true, true, false, false] rfl rfl (one_of HT_.out (by kernel_rfl)) (by decide) (fun K hK => ?_)
                            refine Kd.N_lit_step k30 _ 30 ?hg (N' := 45) ?hd (xs := ([(⟨(rd_T30 x5_1 0).f0, (rd_T30 x5_1 0).f1⟩ : S30)] : List (S30))) (inner := [.string ((rd_T30 x5_1 0).f0), .slice A209_1 ((rd_T30 x5_1 0).f1).length c209_1]) (ok := (fun k_ => (w.heap.size ≤ k_) ∧ some k_ ≠ (.slice Ao31 t176.length co31 : Value).ownBlock ∧ some k_ ≠ (.slice (some ad209) x5_1.length co33 : Value).ownBlock ∧ some k_ ≠ (v207 : Value).ownBlock ∧ k_ ≠ g)) (okp := (fun k_ => (w.heap.size ≤ k_) ∧ some k_ ≠ (.slice Ao31 t176.length co31 : Value).ownBlock ∧ some k_ ≠ (.slice (some ad209) x5_1.length co33 : Value).ownBlock ∧ some k_ ≠ (v207 : Value).ownBlock ∧ k_ ≠ g)) ?hr ?hp (fun _ hk => hk) ((show ∀ k_, w38.heap.size ≤ k_ → (fun k_ => (w.heap.size ≤ k_) ∧ some k_ ≠ (.slice Ao31 t176.length co31 : Value).ownBlock ∧ some k_ ≠ (.slice (some ad209) x5_1.length co33 : Value).ownBlock ∧ some k_ ≠ (v207 : Value).ownBlock ∧ k_ ≠ g) k_ from fun k_ hk => ⟨(Nat.le_trans (keep_size (w := w) (g := g) (row := none) (by repeat (first | (with_reducible first | exact HK.out | apply KeepBut.set_ | apply keep_drewN | apply keep_drew | apply keep_alloc) | exact HK.out))) hk), Kd.fresh' (Kd.N_lt (by (with_reducible repeat (first | apply Kd.N_alloc | apply Kd.N_drewN | apply Kd.N_drew)); exact HO_4.out)) k_ hk, Kd.fresh' (Kd.N_lt (by (with_reducible repeat (first | apply Kd.N_alloc | apply Kd.N_drewN | apply Kd.N_drew)); exact HO_5.out)) k_ hk, Kd.fresh' (Kd.N_lt (by (with_reducible repeat (first | apply Kd.N_alloc | apply Kd.N_drewN | apply Kd.N_drew)); exact HO208.out)) k_ hk, IsS75.fresh (by repeat (first | (with_reducible first | exact HI0.out | apply IsS75.alloc | apply IsS75.drewN | apply IsS75.drew | apply IsS75.set_1) | exact HI0.out)) k_ hk⟩) _ (Nat.le_refl _)) (Below.refl _ _) (Nat.le_refl _) (by simp) ?_; (case hd => rfl); (case hg => rfl); (case hr => first | (go_simp; done) | (go_simp; rfl)); (case hp => exact (Reps.c2 (show Kd.FK k30 _ _ (⟨(rd_T30 x5_1 0).f0, (rd_T30 x5_1 0).f1⟩ : S30) [.string ((rd_T30 x5_1 0).f0), .slice A209_1 ((rd_T30 x5_1 0).f1).length c209_1] from (k30_mkF _ _ (⟨(rd_T30 x5_1 0).f0, (rd_T30 x5_1 0).f1⟩ : S30) (Kd.V_reads' (Kd.V_mono (ok' := (fun k_ => (w.heap.size ≤ k_) ∧ some k_ ≠ (.slice Ao31 t176.length co31 : Value).ownBlock ∧ some k_ ≠ (.slice (some ad209) x5_1.length co33 : Value).ownBlock ∧ some k_ ≠ (v207 : Value).ownBlock ∧ k_ ≠ g)) (HL209_1.out) (fun k_ hk => ⟨(gives hk), ⟨(gives hk), ⟨(gives hk), ⟨hk.2, (gives hk)⟩⟩⟩⟩))).2.1 (Kd.V_F (Kd.V_mono (ok' := (fun k_ => (w.heap.size ≤ k_) ∧ some k_ ≠ (.slice Ao31 t176.length co31 : Value).ownBlock ∧ some k_ ≠ (.slice (some ad209) x5_1.length co33 : Value).ownBlock ∧ some k_ ≠ (v207 : Value).ownBlock ∧ k_ ≠ g)) (HL209_1.out) (fun k_ hk => ⟨(gives hk), ⟨(gives hk), ⟨(gives hk), ⟨hk.2, (gives hk)⟩⟩⟩⟩))))) (Reps.none _ _)))
                            intro v211 w39 ho40 hb hg_ hnew_
                            have HS0_ := (hb.cell (World.block_lt_of_cell? _ _ (hHeld.1))).trans (hHeld.1)
                            have HS1_ := (hb.cell (World.block_lt_of_cell? _ _ (hHeld.2))).trans (hHeld.2)
                            clear hg_ hnew_
                            (first | rw [← Ny210.out] at ho40 | (simp only [Int.reduceToNat] at ho40; rw [← Ny210.out] at ho40))
                            have n0_ := Aside0.mk (Kd.N_elder' (by (with_reducible repeat (first | apply Kd.N_alloc | apply Kd.N_drewN | apply Kd.N_drew)); exact HO_4.out) (Kd.N_base ho40) hb)
                            have n1_ := Aside0.mk (Kd.N_elder' (by (with_reducible repeat (first | apply Kd.N_alloc | apply Kd.N_drewN | apply Kd.N_drew)); exact HO_5.out) (Kd.N_base ho40) hb)
                            have n2_ := Aside0.mk (Kd.V_elder' (by (with_reducible repeat (first | apply Kd.V_alloc | apply Kd.V_drewN | apply Kd.V_drew)); exact HO205.out) (Kd.N_base ho40) hb)
                            have n3_ := Aside0.mk (Kd.V_elder' (by (with_reducible repeat (first | apply Kd.V_alloc | apply Kd.V_drewN | apply Kd.V_drew)); exact HL209_1.out) (Kd.N_base ho40) hb)
                            have n4_ := Aside0.mk (Kd.N_elder' (by (with_reducible repeat (first | apply Kd.N_alloc | apply Kd.N_drewN | apply Kd.N_drew)); exact HO208.out) (Kd.N_base ho40) hb)
                            have n5_ := Aside0.mk (Kd.N_lower ho40 (keep_size (w := w) (g := g) (row := none) (by repeat (first | (with_reducible first | exact HK.out | apply KeepBut.set_ | apply keep_drewN | apply keep_drew | apply keep_alloc) | exact HK.out))))
                            have n6_ := Aside0.mk (IsS75.below (by repeat (first | (with_reducible first | exact HI0.out | apply IsS75.alloc | apply IsS75.drewN | apply IsS75.drew | apply IsS75.set_1) | exact HI0.out)) hb)
                            have n7_ := Aside0.mk (KeepBut.trans (by repeat (first | (with_reducible first | exact HK.out | apply KeepBut.set_ | apply keep_drewN | apply keep_drew | apply keep_alloc) | exact HK.out)) (KeepBut.of_below hb g none) (.inl rfl))
                            have n8_ := Aside0.mk (below_step (by repeat (first | (with_reducible first | exact HB.out | apply below_alloc | apply pw_below_drewN | apply below_drew1 | refine below_set ?_ (IsS75.ge HI0.out)) | exact HB.out)) hb)
                            clear HO_4
                            clear HO_5
                            clear HO205
                            clear HL209_1
                            clear HO208
                            clear HI0
                            clear HK
                            clear HB
                            have HO_4 := n0_
                            have HO_5 := n1_
                            have HO205 := n2_
                            have HL209_1 := n3_
                            have HO208 := n4_
                            have HO212 := n5_
                            have HI0 := n6_
                            have HK := n7_
                            have HB := n8_
                            clear n0_ n1_ n2_ n3_ n4_ n5_ n6_ n7_ n8_
                            clear hb ho40
                            refine hK.out _ _ ⟨HS0_, HS1_⟩ (fun hHeld => ?_)
                            clear hK K
                            refine norm_ (a' := ?_) ?_ ?_
                            rotate_left
                            · show Act.put _ (some 45) _ = _
                              simp only [Act.put, List.setIfInBounds_toArray, List.set_cons_zero, List.set_cons_succ, i64_w, i32_w]
                              rfl
                            exact norm_ (by simp only [putAll, Act.put, List.setIfInBounds_toArray, List.set_cons_zero, List.set_cons_succ]) (hCont (v199, v207, v211) _ ⟨hHeld, (by (with_reducible repeat (first | apply Kd.V_alloc | apply Kd.V_drewN | apply Kd.V_drew)); exact Kd.V_mono HL209_1.out (fun _ hk => ⟨(gives hk), ⟨(gives hk), ⟨hk.2, ⟨(gives hk), ⟨(gives hk), (gives hk)⟩⟩⟩⟩⟩)), (by (with_reducible repeat (first | apply Kd.V_alloc | apply Kd.V_drewN | apply Kd.V_drew)); exact Kd.V_mono HO205.out (fun _ hk => ⟨(gives hk), ⟨(gives hk), ⟨hk.2, ⟨(gives hk), (gives hk)⟩⟩⟩⟩)), (by (with_reducible repeat (first | apply Kd.N_alloc | apply Kd.N_drewN | apply Kd.N_drew)); exact Kd.N_mono HO208.out (fun _ hk => ⟨(gives hk), ⟨hk.2, ⟨(gives hk), (gives hk)⟩⟩⟩)), (by (with_reducible repeat (first | apply Kd.N_alloc | apply Kd.N_drewN | apply Kd.N_drew)); exact Kd.N_mono HO212.out (fun _ hk => ⟨hk.1, ⟨(gives hk), ⟨(gives hk), ⟨(gives hk), (gives hk)⟩⟩⟩⟩)), (by (with_reducible repeat (first | apply Kd.N_alloc | apply Kd.N_drewN | apply Kd.N_drew)); exact Kd.N_mono HO_4.out (fun _ hk => ⟨(gives hk), ⟨(gives hk), ⟨hk.2, ⟨(gives hk), (gives hk)⟩⟩⟩⟩)), (by (with_reducible repeat (first | apply Kd.N_alloc | apply Kd.N_drewN | apply Kd.N_drew)); exact Kd.N_mono HO_5.out (fun _ hk => ⟨(gives hk), ⟨(gives hk), ⟨hk.2, ⟨(gives hk), (gives hk)⟩⟩⟩⟩)), (by repeat (first | (with_reducible first | exact HI0.out | apply IsS75.alloc | apply IsS75.drewN | apply IsS75.drew | apply IsS75.set_1) | exact HI0.out)), (by repeat (first | (with_reducible first | exact HK.out | apply KeepBut.set_ | apply keep_drewN | apply keep_drew | apply keep_alloc) | exact HK.out)), (by repeat (first | (with_reducible first | exact HB.out | apply below_alloc | apply pw_below_drewN | apply below_drew1 | refine below_set ?_ (IsS75.ge HI0.out)) | exact HB.out))⟩)
                          · skip
                            refine Kd.N_lit_step k30 _ 30 ?hg (N' := 45) ?hd (xs := ([(⟨(rd_T30 x5_1 0).f0, (rd_T30 x5_1 0).f1⟩ : S30)] : List (S30))) (inner := [.string ((rd_T30 x5_1 0).f0), .slice A209_1 ((rd_T30 x5_1 0).f1).length c209_1]) (ok := (fun k_ => (w.heap.size ≤ k_) ∧ some k_ ≠ (.slice Ao31 t176.length co31 : Value).ownBlock ∧ some k_ ≠ (.slice (some ad209) x5_1.length co33 : Value).ownBlock ∧ some k_ ≠ (v199 : Value).ownBlock ∧ k_ ≠ g)) (okp := (fun k_ => (w.heap.size ≤ k_) ∧ some k_ ≠ (.slice Ao31 t176.length co31 : Value).ownBlock ∧ some k_ ≠ (.slice (some ad209) x5_1.length co33 : Value).ownBlock ∧ some k_ ≠ (v199 : Value).ownBlock ∧ k_ ≠ g)) ?hr ?hp (fun _ hk => hk) ((show ∀ k_, w36.heap.size ≤ k_ → (fun k_ => (w.heap.size ≤ k_) ∧ some k_ ≠ (.slice Ao31 t176.length co31 : Value).ownBlock ∧ some k_ ≠ (.slice (some ad209) x5_1.length co33 : Value).ownBlock ∧ some k_ ≠ (v199 : Value).ownBlock ∧ k_ ≠ g) k_ from fun k_ hk => ⟨(Nat.le_trans (keep_size (w := w) (g := g) (row := none) (by repeat (first | (with_reducible first | exact HK.out | apply KeepBut.set_ | apply keep_drewN | apply keep_drew | apply keep_alloc) | exact HK.out))) hk), Kd.fresh' (Kd.N_lt (by (with_reducible repeat (first | apply Kd.N_alloc | apply Kd.N_drewN | apply Kd.N_drew)); exact HO_4.out)) k_ hk, Kd.fresh' (Kd.N_lt (by (with_reducible repeat (first | apply Kd.N_alloc | apply Kd.N_drewN | apply Kd.N_drew)); exact HO_5.out)) k_ hk, Kd.fresh' (Kd.N_lt (by (with_reducible repeat (first | apply Kd.N_alloc | apply Kd.N_drewN | apply Kd.N_drew)); exact HO200.out)) k_ hk, IsS75.fresh (by repeat (first | (with_reducible first | exact HI0.out | apply IsS75.alloc | apply IsS75.drewN | apply IsS75.drew | apply IsS75.set_1) | exact HI0.out)) k_ hk⟩) _ (Nat.le_refl _)) (Below.refl _ _) (Nat.le_refl _) (by simp) ?_; (case hd => rfl); (case hg => rfl); (case hr => first | (go_simp; done) | (go_simp; rfl)); (case hp => exact (Reps.c2 (show Kd.FK k30 _ _ (⟨(rd_T30 x5_1 0).f0, (rd_T30 x5_1 0).f1⟩ : S30) [.string ((rd_T30 x5_1 0).f0), .slice A209_1 ((rd_T30 x5_1 0).f1).length c209_1] from (k30_mkF _ _ (⟨(rd_T30 x5_1 0).f0, (rd_T30 x5_1 0).f1⟩ : S30) (Kd.V_reads' (Kd.V_mono (ok' := (fun k_ => (w.heap.size ≤ k_) ∧ some k_ ≠ (.slice Ao31 t176.length co31 : Value).ownBlock ∧ some k_ ≠ (.slice (some ad209) x5_1.length co33 : Value).ownBlock ∧ some k_ ≠ (v199 : Value).ownBlock ∧ k_ ≠ g)) (HL209_1.out) (fun k_ hk => ⟨(gives hk), ⟨(gives hk), ⟨(gives hk), ⟨hk.2, (gives hk)⟩⟩⟩⟩))).2.1 (Kd.V_F (Kd.V_mono (ok' := (fun k_ => (w.heap.size ≤ k_) ∧ some k_ ≠ (.slice Ao31 t176.length co31 : Value).ownBlock ∧ some k_ ≠ (.slice (some ad209) x5_1.length co33 : Value).ownBlock ∧ some k_ ≠ (v199 : Value).ownBlock ∧ k_ ≠ g)) (HL209_1.out) (fun k_ hk => ⟨(gives hk), ⟨(gives hk), ⟨(gives hk), ⟨hk.2, (gives hk)⟩⟩⟩⟩))))) (Reps.none _ _)))
                            intro v211 w38 ho39 hb hg_ hnew_
                            have HS0_ := (hb.cell (World.block_lt_of_cell? _ _ (hHeld.1))).trans (hHeld.1)
                            have HS1_ := (hb.cell (World.block_lt_of_cell? _ _ (hHeld.2))).trans (hHeld.2)
                            clear hg_ hnew_
                            (first | rw [← Ny210.out] at ho39 | (simp only [Int.reduceToNat] at ho39; rw [← Ny210.out] at ho39))
                            have n0_ := Aside0.mk (Kd.N_elder' (by (with_reducible repeat (first | apply Kd.N_alloc | apply Kd.N_drewN | apply Kd.N_drew)); exact HO_4.out) (Kd.N_base ho39) hb)
                            have n1_ := Aside0.mk (Kd.N_elder' (by (with_reducible repeat (first | apply Kd.N_alloc | apply Kd.N_drewN | apply Kd.N_drew)); exact HO_5.out) (Kd.N_base ho39) hb)
                            have n2_ := Aside0.mk (Kd.V_elder' (by (with_reducible repeat (first | apply Kd.V_alloc | apply Kd.V_drewN | apply Kd.V_drew)); exact HO205.out) (Kd.N_base ho39) hb)
                            have n3_ := Aside0.mk (Kd.V_elder' (by (with_reducible repeat (first | apply Kd.V_alloc | apply Kd.V_drewN | apply Kd.V_drew)); exact HL209_1.out) (Kd.N_base ho39) hb)
                            have n4_ := Aside0.mk (Kd.N_elder' (by (with_reducible repeat (first | apply Kd.N_alloc | apply Kd.N_drewN | apply Kd.N_drew)); exact HO200.out) (Kd.N_base ho39) hb)
                            have n5_ := Aside0.mk (Kd.N_lower ho39 (keep_size (w := w) (g := g) (row := none) (by repeat (first | (with_reducible first | exact HK.out | apply KeepBut.set_ | apply keep_drewN | apply keep_drew | apply keep_alloc) | exact HK.out))))
                            have n6_ := Aside0.mk (IsS75.below (by repeat (first | (with_reducible first | exact HI0.out | apply IsS75.alloc | apply IsS75.drewN | apply IsS75.drew | apply IsS75.set_1) | exact HI0.out)) hb)
                            have n7_ := Aside0.mk (Kd.C_below (by repeat (first | (with_reducible exact HR209_1.out) | (with_reducible refine Kd.C_alloc ?_ _) | (with_reducible refine Kd.C_drewN ?_ _) | (with_reducible refine Kd.C_drew ?_) | exact HR209_1.out)) hb)
                            have n8_ := Aside0.mk (KeepBut.trans (by repeat (first | (with_reducible first | exact HK.out | apply KeepBut.set_ | apply keep_drewN | apply keep_drew | apply keep_alloc) | exact HK.out)) (KeepBut.of_below hb g none) (.inl rfl))
                            have n9_ := Aside0.mk (below_step (by repeat (first | (with_reducible first | exact HB.out | apply below_alloc | apply pw_below_drewN | apply below_drew1 | refine below_set ?_ (IsS75.ge HI0.out)) | exact HB.out)) hb)
                            clear HO_4
                            clear HO_5
                            clear HO205
                            clear HL209_1
                            clear HO200
                            clear HI0
                            clear HR209_1
                            clear HK
                            clear HB
                            have HO_4 := n0_
                            have HO_5 := n1_
                            have HO205 := n2_
                            have HL209_1 := n3_
                            have HO200 := n4_
                            have HO212 := n5_
                            have HI0 := n6_
                            have HR209_1 := n7_
                            have HK := n8_
                            have HB := n9_
                            clear n0_ n1_ n2_ n3_ n4_ n5_ n6_ n7_ n8_ n9_
                            clear hb ho39
                            refine hK.out _ _ ⟨HS0_, HS1_⟩ (fun hHeld => ?_)
                            clear hK K
                            refine norm_ (a' := ?_) ?_ ?_
                            rotate_left
                            · show Act.put _ (some 45) _ = _
                              simp only [Act.put, List.setIfInBounds_toArray, List.set_cons_zero, List.set_cons_succ, i64_w, i32_w]
                              rfl
                            refine one_ (i := 3) (N := some 41) #[true, true, true, true, true, true, true, true, false, false] rfl rfl (one_of HT_.out (by kernel_rfl)) (by decide) (fun K hK => ?_)
                            refine Kd.N_append_rows_step k30 w.heap.size (by rfl) (.tmp 38) (.tmp 40) 23 30 (.agg #[(.string ⟨#[]⟩), (.slice none 0 0)]) 40 rfl Try.underlying23 info30 rfl (by decide) (by omega) v199 y198 y201 _ _ _ (fun k_ => (w.heap.size ≤ k_) ∧ some k_ ≠ (.slice Ao31 t176.length co31 : Value).ownBlock ∧ some k_ ≠ (v211 : Value).ownBlock ∧ k_ ≠ g) (fun k_ => ((fun k_ => (w.heap.size ≤ k_) ∧ some k_ ≠ (.slice Ao31 t176.length co31 : Value).ownBlock ∧ some k_ ≠ (v211 : Value).ownBlock ∧ k_ ≠ g)) k_ ∧ some k_ ≠ (v199 : Value).ownBlock) rfl rfl ?aO ?aR (fun _ hk => hk) ?aF (Below.refl _ _) ?aS ?aL ?_
                            (case aR => exact (by skip; exact Kd.V_F (Kd.V_mono (ok' := (fun k_ => ((fun k_ => (w.heap.size ≤ k_) ∧ some k_ ≠ (.slice Ao31 t176.length co31 : Value).ownBlock ∧ some k_ ≠ (v211 : Value).ownBlock ∧ k_ ≠ g)) k_ ∧ some k_ ≠ (v199 : Value).ownBlock)) (HO205.out) (fun k_ hk => ⟨⟨(gives hk), ⟨(gives hk), ⟨hk.2, (gives hk)⟩⟩⟩, (gives hk)⟩))))
                            (case aF => exact (fun k_ hk => ⟨(Nat.le_trans (keep_size (w := w) (g := g) (row := none) (by repeat (first | (with_reducible first | exact HK.out | apply KeepBut.set_ | apply keep_drewN | apply keep_drew | apply keep_alloc) | exact HK.out))) hk), Kd.fresh' (Kd.N_lt (by (with_reducible repeat (first | apply Kd.N_alloc | apply Kd.N_drewN | apply Kd.N_drew)); exact HO_4.out)) k_ hk, Kd.fresh' (Kd.N_lt (by (with_reducible repeat (first | apply Kd.N_alloc | apply Kd.N_drewN | apply Kd.N_drew)); exact HO212.out)) k_ hk, IsS75.fresh (by repeat (first | (with_reducible first | exact HI0.out | apply IsS75.alloc | apply IsS75.drewN | apply IsS75.drew | apply IsS75.set_1) | exact HI0.out)) k_ hk⟩))
                            (case aO => exact (by (with_reducible repeat (first | apply Kd.N_alloc | apply Kd.N_drewN | apply Kd.N_drew)); exact Kd.N_mono HO200.out (fun _ hk => ⟨(gives hk), ⟨(gives hk), ⟨hk.2, (gives hk)⟩⟩⟩)))
                            (case aS => exact (keep_size (w := w) (g := g) (row := none) (by repeat (first | (with_reducible first | exact HK.out | apply KeepBut.set_ | apply keep_drewN | apply keep_drew | apply keep_alloc) | exact HK.out))))
                            (case aL => have := LMc28.out; omega)
                            intro v207 w40 ho hb hg hat
                            (first | have HS0_ := cell_grown hg (hHeld.1) (by have h_ := HO_5.out.1 _ rfl; first | (rw [add_block]; first | with_reducible exact h_.2 | with_reducible exact h_.1 | with_reducible exact h_.1.2 | with_reducible exact h_.2.1 | with_reducible exact h_.2.2 | with_reducible exact h_.1.1 | with_reducible exact h_.2.2.1 | with_reducible exact h_.2.2.2 | with_reducible exact h_.2.2.2.1 | with_reducible exact h_.2.2.2.2 | with_reducible exact h_.1.2.1 | with_reducible exact h_.1.2.2 | with_reducible exact h_.2.2.2.2.1 | with_reducible exact h_.1.1.2 | with_reducible exact h_.1.2.2.1) | (first | with_reducible exact h_.2 | with_reducible exact h_.1 | with_reducible exact h_.1.2 | with_reducible exact h_.2.1 | with_reducible exact h_.2.2 | with_reducible exact h_.1.1 | with_reducible exact h_.2.2.1 | with_reducible exact h_.2.2.2 | with_reducible exact h_.2.2.2.1 | with_reducible exact h_.2.2.2.2 | with_reducible exact h_.1.2.1 | with_reducible exact h_.1.2.2 | with_reducible exact h_.2.2.2.2.1 | with_reducible exact h_.1.1.2 | with_reducible exact h_.1.2.2.1) | (simp only [add_block]; first | with_reducible exact h_.2 | with_reducible exact h_.1 | with_reducible exact h_.1.2 | with_reducible exact h_.2.1 | with_reducible exact h_.2.2 | with_reducible exact h_.1.1 | with_reducible exact h_.2.2.1 | with_reducible exact h_.2.2.2 | with_reducible exact h_.2.2.2.1 | with_reducible exact h_.2.2.2.2 | with_reducible exact h_.1.2.1 | with_reducible exact h_.1.2.2 | with_reducible exact h_.2.2.2.2.1 | with_reducible exact h_.1.1.2 | with_reducible exact h_.1.2.2.1)) | have HS0_ := cell_grown hg (cell_unalloc (hHeld.1) (Kd.N_lt HO_5.out _ rfl)) (by have h_ := HO_5.out.1 _ rfl; first | (rw [add_block]; first | with_reducible exact h_.2 | with_reducible exact h_.1 | with_reducible exact h_.1.2 | with_reducible exact h_.2.1 | with_reducible exact h_.2.2 | with_reducible exact h_.1.1 | with_reducible exact h_.2.2.1 | with_reducible exact h_.2.2.2 | with_reducible exact h_.2.2.2.1 | with_reducible exact h_.2.2.2.2 | with_reducible exact h_.1.2.1 | with_reducible exact h_.1.2.2 | with_reducible exact h_.2.2.2.2.1 | with_reducible exact h_.1.1.2 | with_reducible exact h_.1.2.2.1) | (first | with_reducible exact h_.2 | with_reducible exact h_.1 | with_reducible exact h_.1.2 | with_reducible exact h_.2.1 | with_reducible exact h_.2.2 | with_reducible exact h_.1.1 | with_reducible exact h_.2.2.1 | with_reducible exact h_.2.2.2 | with_reducible exact h_.2.2.2.1 | with_reducible exact h_.2.2.2.2 | with_reducible exact h_.1.2.1 | with_reducible exact h_.1.2.2 | with_reducible exact h_.2.2.2.2.1 | with_reducible exact h_.1.1.2 | with_reducible exact h_.1.2.2.1) | (simp only [add_block]; first | with_reducible exact h_.2 | with_reducible exact h_.1 | with_reducible exact h_.1.2 | with_reducible exact h_.2.1 | with_reducible exact h_.2.2 | with_reducible exact h_.1.1 | with_reducible exact h_.2.2.1 | with_reducible exact h_.2.2.2 | with_reducible exact h_.2.2.2.1 | with_reducible exact h_.2.2.2.2 | with_reducible exact h_.1.2.1 | with_reducible exact h_.1.2.2 | with_reducible exact h_.2.2.2.2.1 | with_reducible exact h_.1.1.2 | with_reducible exact h_.1.2.2.1)))
                            (first | have HS1_ := cell_grown hg (hHeld.2) (by have h_ := HO_5.out.1 _ rfl; first | (rw [add_block]; first | with_reducible exact h_.2 | with_reducible exact h_.1 | with_reducible exact h_.1.2 | with_reducible exact h_.2.1 | with_reducible exact h_.2.2 | with_reducible exact h_.1.1 | with_reducible exact h_.2.2.1 | with_reducible exact h_.2.2.2 | with_reducible exact h_.2.2.2.1 | with_reducible exact h_.2.2.2.2 | with_reducible exact h_.1.2.1 | with_reducible exact h_.1.2.2 | with_reducible exact h_.2.2.2.2.1 | with_reducible exact h_.1.1.2 | with_reducible exact h_.1.2.2.1) | (first | with_reducible exact h_.2 | with_reducible exact h_.1 | with_reducible exact h_.1.2 | with_reducible exact h_.2.1 | with_reducible exact h_.2.2 | with_reducible exact h_.1.1 | with_reducible exact h_.2.2.1 | with_reducible exact h_.2.2.2 | with_reducible exact h_.2.2.2.1 | with_reducible exact h_.2.2.2.2 | with_reducible exact h_.1.2.1 | with_reducible exact h_.1.2.2 | with_reducible exact h_.2.2.2.2.1 | with_reducible exact h_.1.1.2 | with_reducible exact h_.1.2.2.1) | (simp only [add_block]; first | with_reducible exact h_.2 | with_reducible exact h_.1 | with_reducible exact h_.1.2 | with_reducible exact h_.2.1 | with_reducible exact h_.2.2 | with_reducible exact h_.1.1 | with_reducible exact h_.2.2.1 | with_reducible exact h_.2.2.2 | with_reducible exact h_.2.2.2.1 | with_reducible exact h_.2.2.2.2 | with_reducible exact h_.1.2.1 | with_reducible exact h_.1.2.2 | with_reducible exact h_.2.2.2.2.1 | with_reducible exact h_.1.1.2 | with_reducible exact h_.1.2.2.1)) | have HS1_ := cell_grown hg (cell_unalloc (hHeld.2) (Kd.N_lt HO_5.out _ rfl)) (by have h_ := HO_5.out.1 _ rfl; first | (rw [add_block]; first | with_reducible exact h_.2 | with_reducible exact h_.1 | with_reducible exact h_.1.2 | with_reducible exact h_.2.1 | with_reducible exact h_.2.2 | with_reducible exact h_.1.1 | with_reducible exact h_.2.2.1 | with_reducible exact h_.2.2.2 | with_reducible exact h_.2.2.2.1 | with_reducible exact h_.2.2.2.2 | with_reducible exact h_.1.2.1 | with_reducible exact h_.1.2.2 | with_reducible exact h_.2.2.2.2.1 | with_reducible exact h_.1.1.2 | with_reducible exact h_.1.2.2.1) | (first | with_reducible exact h_.2 | with_reducible exact h_.1 | with_reducible exact h_.1.2 | with_reducible exact h_.2.1 | with_reducible exact h_.2.2 | with_reducible exact h_.1.1 | with_reducible exact h_.2.2.1 | with_reducible exact h_.2.2.2 | with_reducible exact h_.2.2.2.1 | with_reducible exact h_.2.2.2.2 | with_reducible exact h_.1.2.1 | with_reducible exact h_.1.2.2 | with_reducible exact h_.2.2.2.2.1 | with_reducible exact h_.1.1.2 | with_reducible exact h_.1.2.2.1) | (simp only [add_block]; first | with_reducible exact h_.2 | with_reducible exact h_.1 | with_reducible exact h_.1.2 | with_reducible exact h_.2.1 | with_reducible exact h_.2.2 | with_reducible exact h_.1.1 | with_reducible exact h_.2.2.1 | with_reducible exact h_.2.2.2 | with_reducible exact h_.2.2.2.1 | with_reducible exact h_.2.2.2.2 | with_reducible exact h_.1.2.1 | with_reducible exact h_.1.2.2 | with_reducible exact h_.2.2.2.2.1 | with_reducible exact h_.1.1.2 | with_reducible exact h_.1.2.2.1)))
                            rw [← Ny206.out] at ho
                            have n0_ := Aside0.mk (Kd.N_afterv (ok := (fun k_ => (w.heap.size ≤ k_) ∧ some k_ ≠ (.slice (some ad209) x5_1.length co33 : Value).ownBlock ∧ some k_ ≠ (v211 : Value).ownBlock ∧ k_ ≠ g)) (by (with_reducible repeat (first | apply Kd.N_alloc | apply Kd.N_drewN | apply Kd.N_drew)); exact Kd.N_mono HO_4.out (fun _ hk => ⟨⟨(gives hk), ⟨(gives hk), ⟨hk.2, (gives hk)⟩⟩⟩, (gives hk)⟩)) hg hat)
                            have n1_ := Aside0.mk (Kd.N_afterv (ok := (fun k_ => (w.heap.size ≤ k_) ∧ some k_ ≠ (.slice Ao31 t176.length co31 : Value).ownBlock ∧ some k_ ≠ (v211 : Value).ownBlock ∧ k_ ≠ g)) (by (with_reducible repeat (first | apply Kd.N_alloc | apply Kd.N_drewN | apply Kd.N_drew)); exact Kd.N_mono HO_5.out (fun _ hk => ⟨⟨(gives hk), ⟨(gives hk), ⟨hk.2, (gives hk)⟩⟩⟩, (gives hk)⟩)) hg hat)
                            have n2_ := Aside0.mk (IsS75.grown (by repeat (first | (with_reducible first | exact HI0.out | apply IsS75.alloc | apply IsS75.drewN | apply IsS75.drew | apply IsS75.set_1) | exact HI0.out)) hg (IsS75.own_neN HI0.out HO200.out (by decide)))
                            have n3_ := Aside0.mk (Kd.V_afterv (ok := (fun k_ => (w.heap.size ≤ k_) ∧ some k_ ≠ (.slice Ao31 t176.length co31 : Value).ownBlock ∧ some k_ ≠ (v211 : Value).ownBlock ∧ k_ ≠ g)) (by (with_reducible repeat (first | apply Kd.V_alloc | apply Kd.V_drewN | apply Kd.V_drew)); exact Kd.V_mono HO205.out (fun _ hk => ⟨⟨(gives hk), ⟨(gives hk), ⟨hk.2, (gives hk)⟩⟩⟩, (gives hk)⟩)) hg hat)
                            have n4_ := Aside0.mk (Kd.V_afterv (ok := (fun k_ => (w.heap.size ≤ k_) ∧ some k_ ≠ (.slice Ao31 t176.length co31 : Value).ownBlock ∧ some k_ ≠ (.slice (some ad209) x5_1.length co33 : Value).ownBlock ∧ some k_ ≠ (v211 : Value).ownBlock ∧ k_ ≠ g)) (by (with_reducible repeat (first | apply Kd.V_alloc | apply Kd.V_drewN | apply Kd.V_drew)); exact Kd.V_mono HL209_1.out (fun _ hk => ⟨⟨(gives hk), ⟨(gives hk), ⟨(gives hk), ⟨hk.2, (gives hk)⟩⟩⟩⟩, (gives hk)⟩)) hg hat)
                            have n5_ := Aside0.mk (Kd.N_afterv (ok := (fun k_ => (w.heap.size ≤ k_) ∧ some k_ ≠ (.slice Ao31 t176.length co31 : Value).ownBlock ∧ some k_ ≠ (.slice (some ad209) x5_1.length co33 : Value).ownBlock ∧ k_ ≠ g)) (by (with_reducible repeat (first | apply Kd.N_alloc | apply Kd.N_drewN | apply Kd.N_drew)); exact Kd.N_mono HO212.out (fun _ hk => ⟨⟨hk.1, ⟨(gives hk), ⟨(gives hk), (gives hk)⟩⟩⟩, (gives hk)⟩)) hg hat)
                            have n6_ := Aside0.mk (below_weaken (by repeat (first | (with_reducible first | exact HB.out | apply below_alloc | apply pw_below_drewN | apply below_drew1 | refine below_set ?_ (IsS75.ge HI0.out)) | exact HB.out)) HL.out hb)
                            have n7_ := Aside0.mk (KeepBut.trans (by repeat (first | (with_reducible first | exact HK.out | apply KeepBut.set_ | apply keep_drewN | apply keep_drew | apply keep_alloc) | exact HK.out)) (KeepBut.of_grown hg g) (Kd.N_base2 HO200.out))
                            have n8_ := Aside0.mk (ho)
                            clear HO_4
                            clear HO_5
                            clear HI0
                            clear HO205
                            clear HL209_1
                            clear HO212
                            clear HB
                            clear HK
                            clear HO200
                            have HO_4 := n0_
                            have HO_5 := n1_
                            have HI0 := n2_
                            have HO205 := n3_
                            have HL209_1 := n4_
                            have HO212 := n5_
                            have HB := n6_
                            have HK := n7_
                            have HO208 := n8_
                            clear n0_ n1_ n2_ n3_ n4_ n5_ n6_ n7_ n8_
                            clear ho hb hg hat
                            refine hK.out _ _ ⟨HS0_, HS1_⟩ (fun hHeld => ?_)
                            clear hK K
                            refine norm_ (a' := ?_) ?_ ?_
                            rotate_left
                            · show Act.put _ (some 41) _ = _
                              simp only [Act.put, List.setIfInBounds_toArray, List.set_cons_zero, List.set_cons_succ, i64_w, i32_w]
                              rfl
                            exact norm_ (by simp only [putAll, Act.put, List.setIfInBounds_toArray, List.set_cons_zero, List.set_cons_succ]) (hCont (v199, v207, v211) _ ⟨hHeld, (by (with_reducible repeat (first | apply Kd.V_alloc | apply Kd.V_drewN | apply Kd.V_drew)); exact Kd.V_mono HL209_1.out (fun _ hk => ⟨(gives hk), ⟨hk.2, ⟨(gives hk), ⟨(gives hk), ⟨(gives hk), (gives hk)⟩⟩⟩⟩⟩)), (by (with_reducible repeat (first | apply Kd.V_alloc | apply Kd.V_drewN | apply Kd.V_drew)); exact Kd.V_mono HO205.out (fun _ hk => ⟨(gives hk), ⟨hk.2, ⟨(gives hk), ⟨(gives hk), (gives hk)⟩⟩⟩⟩)), (by (with_reducible repeat (first | apply Kd.N_alloc | apply Kd.N_drewN | apply Kd.N_drew)); exact Kd.N_mono HO208.out (fun _ hk => ⟨hk.1, ⟨(gives hk), ⟨(gives hk), (gives hk)⟩⟩⟩)), (by (with_reducible repeat (first | apply Kd.N_alloc | apply Kd.N_drewN | apply Kd.N_drew)); exact Kd.N_mono HO212.out (fun _ hk => ⟨(gives hk), ⟨hk.2, ⟨(gives hk), ⟨(gives hk), (gives hk)⟩⟩⟩⟩)), (by (with_reducible repeat (first | apply Kd.N_alloc | apply Kd.N_drewN | apply Kd.N_drew)); exact Kd.N_mono HO_4.out (fun _ hk => ⟨(gives hk), ⟨hk.2, ⟨(gives hk), ⟨(gives hk), (gives hk)⟩⟩⟩⟩)), (by (with_reducible repeat (first | apply Kd.N_alloc | apply Kd.N_drewN | apply Kd.N_drew)); exact Kd.N_mono HO_5.out (fun _ hk => ⟨(gives hk), ⟨hk.2, ⟨(gives hk), ⟨(gives hk), (gives hk)⟩⟩⟩⟩)), (by repeat (first | (with_reducible first | exact HI0.out | apply IsS75.alloc | apply IsS75.drewN | apply IsS75.drew | apply IsS75.set_1) | exact HI0.out)), (by repeat (first | (with_reducible first | exact HK.out | apply KeepBut.set_ | apply keep_drewN | apply keep_drew | apply keep_alloc) | exact HK.out)), (by repeat (first | (with_reducible first | exact HB.out | apply below_alloc | apply pw_below_drewN | apply below_drew1 | refine below_set ?_ (IsS75.ge HI0.out)) | exact HB.out))⟩)
                        · skip
                          refine Kd.N_lit_step k30 _ 30 ?hg (N' := 45) ?hd (xs := ([(⟨(rd_T30 x5_1 0).f0, (rd_T30 x5_1 0).f1⟩ : S30)] : List (S30))) (inner := [.string ((rd_T30 x5_1 0).f0), .slice A209_1 ((rd_T30 x5_1 0).f1).length c209_1]) (ok := (fun k_ => (w.heap.size ≤ k_) ∧ some k_ ≠ (.slice Ao31 t176.length co31 : Value).ownBlock ∧ some k_ ≠ (.slice (some ad209) x5_1.length co33 : Value).ownBlock ∧ k_ ≠ g)) (okp := (fun k_ => (w.heap.size ≤ k_) ∧ some k_ ≠ (.slice Ao31 t176.length co31 : Value).ownBlock ∧ some k_ ≠ (.slice (some ad209) x5_1.length co33 : Value).ownBlock ∧ k_ ≠ g)) ?hr ?hp (fun _ hk => hk) ((show ∀ k_, w34.heap.size ≤ k_ → (fun k_ => (w.heap.size ≤ k_) ∧ some k_ ≠ (.slice Ao31 t176.length co31 : Value).ownBlock ∧ some k_ ≠ (.slice (some ad209) x5_1.length co33 : Value).ownBlock ∧ k_ ≠ g) k_ from fun k_ hk => ⟨(Nat.le_trans (keep_size (w := w) (g := g) (row := none) (by repeat (first | (with_reducible first | exact HK.out | apply KeepBut.set_ | apply keep_drewN | apply keep_drew | apply keep_alloc) | exact HK.out))) hk), Kd.fresh' (Kd.N_lt (by (with_reducible repeat (first | apply Kd.N_alloc | apply Kd.N_drewN | apply Kd.N_drew)); exact HO_4.out)) k_ hk, Kd.fresh' (Kd.N_lt (by (with_reducible repeat (first | apply Kd.N_alloc | apply Kd.N_drewN | apply Kd.N_drew)); exact HO_5.out)) k_ hk, IsS75.fresh (by repeat (first | (with_reducible first | exact HI0.out | apply IsS75.alloc | apply IsS75.drewN | apply IsS75.drew | apply IsS75.set_1) | exact HI0.out)) k_ hk⟩) _ (Nat.le_refl _)) (Below.refl _ _) (Nat.le_refl _) (by simp) ?_; (case hd => rfl); (case hg => rfl); (case hr => first | (go_simp; done) | (go_simp; rfl)); (case hp => exact (Reps.c2 (show Kd.FK k30 _ _ (⟨(rd_T30 x5_1 0).f0, (rd_T30 x5_1 0).f1⟩ : S30) [.string ((rd_T30 x5_1 0).f0), .slice A209_1 ((rd_T30 x5_1 0).f1).length c209_1] from (k30_mkF _ _ (⟨(rd_T30 x5_1 0).f0, (rd_T30 x5_1 0).f1⟩ : S30) (Kd.V_reads' (Kd.V_mono (ok' := (fun k_ => (w.heap.size ≤ k_) ∧ some k_ ≠ (.slice Ao31 t176.length co31 : Value).ownBlock ∧ some k_ ≠ (.slice (some ad209) x5_1.length co33 : Value).ownBlock ∧ k_ ≠ g)) (HL209_1.out) (fun k_ hk => ⟨(gives hk), ⟨(gives hk), ⟨hk.2, (gives hk)⟩⟩⟩))).2.1 (Kd.V_F (Kd.V_mono (ok' := (fun k_ => (w.heap.size ≤ k_) ∧ some k_ ≠ (.slice Ao31 t176.length co31 : Value).ownBlock ∧ some k_ ≠ (.slice (some ad209) x5_1.length co33 : Value).ownBlock ∧ k_ ≠ g)) (HL209_1.out) (fun k_ hk => ⟨(gives hk), ⟨(gives hk), ⟨hk.2, (gives hk)⟩⟩⟩))))) (Reps.none _ _)))
                          intro v211 w36 ho37 hb hg_ hnew_
                          have HS0_ := (hb.cell (World.block_lt_of_cell? _ _ (hHeld.1))).trans (hHeld.1)
                          have HS1_ := (hb.cell (World.block_lt_of_cell? _ _ (hHeld.2))).trans (hHeld.2)
                          clear hg_ hnew_
                          (first | rw [← Ny210.out] at ho37 | (simp only [Int.reduceToNat] at ho37; rw [← Ny210.out] at ho37))
                          have n0_ := Aside0.mk (Kd.N_elder' (by (with_reducible repeat (first | apply Kd.N_alloc | apply Kd.N_drewN | apply Kd.N_drew)); exact HO_4.out) (Kd.N_base ho37) hb)
                          have n1_ := Aside0.mk (Kd.N_elder' (by (with_reducible repeat (first | apply Kd.N_alloc | apply Kd.N_drewN | apply Kd.N_drew)); exact HO_5.out) (Kd.N_base ho37) hb)
                          have n2_ := Aside0.mk (Kd.V_elder' (by (with_reducible repeat (first | apply Kd.V_alloc | apply Kd.V_drewN | apply Kd.V_drew)); exact HO205.out) (Kd.N_base ho37) hb)
                          have n3_ := Aside0.mk (Kd.V_elder' (by (with_reducible repeat (first | apply Kd.V_alloc | apply Kd.V_drewN | apply Kd.V_drew)); exact HL209_1.out) (Kd.N_base ho37) hb)
                          have n4_ := Aside0.mk (Kd.N_lower ho37 (keep_size (w := w) (g := g) (row := none) (by repeat (first | (with_reducible first | exact HK.out | apply KeepBut.set_ | apply keep_drewN | apply keep_drew | apply keep_alloc) | exact HK.out))))
                          have n5_ := Aside0.mk (IsS75.below (by repeat (first | (with_reducible first | exact HI0.out | apply IsS75.alloc | apply IsS75.drewN | apply IsS75.drew | apply IsS75.set_1) | exact HI0.out)) hb)
                          have n6_ := Aside0.mk (Kd.C_below (by repeat (first | (with_reducible exact HR209_1.out) | (with_reducible refine Kd.C_alloc ?_ _) | (with_reducible refine Kd.C_drewN ?_ _) | (with_reducible refine Kd.C_drew ?_) | exact HR209_1.out)) hb)
                          have n7_ := Aside0.mk (KeepBut.trans (by repeat (first | (with_reducible first | exact HK.out | apply KeepBut.set_ | apply keep_drewN | apply keep_drew | apply keep_alloc) | exact HK.out)) (KeepBut.of_below hb g none) (.inl rfl))
                          have n8_ := Aside0.mk (below_step (by repeat (first | (with_reducible first | exact HB.out | apply below_alloc | apply pw_below_drewN | apply below_drew1 | refine below_set ?_ (IsS75.ge HI0.out)) | exact HB.out)) hb)
                          clear HO_4
                          clear HO_5
                          clear HO205
                          clear HL209_1
                          clear HI0
                          clear HR209_1
                          clear HK
                          clear HB
                          have HO_4 := n0_
                          have HO_5 := n1_
                          have HO205 := n2_
                          have HL209_1 := n3_
                          have HO212 := n4_
                          have HI0 := n5_
                          have HR209_1 := n6_
                          have HK := n7_
                          have HB := n8_
                          clear n0_ n1_ n2_ n3_ n4_ n5_ n6_ n7_ n8_
                          clear hb ho37
                          refine hK.out _ _ ⟨HS0_, HS1_⟩ (fun hHeld => ?_)
                          clear hK K
                          refine norm_ (a' := ?_) ?_ ?_
                          rotate_left
                          · show Act.put _ (some 45) _ = _
                            simp only [Act.put, List.setIfInBounds_toArray, List.set_cons_zero, List.set_cons_succ, i64_w, i32_w]
                            rfl
                          refine one_ (i := 0) (N := some 38) #[true, true, true, false, true, true, true, true, false, false] rfl rfl (one_of HT_.out (by kernel_rfl)) (by decide) (fun K hK => ?_)
                          refine Kd.N_lit_step k30 _ 30 ?hg (N' := 38) ?hd (xs := ([] : List (S30))) (inner := []) (ok := (fun k_ => (w.heap.size ≤ k_) ∧ some k_ ≠ (.slice Ao31 t176.length co31 : Value).ownBlock ∧ some k_ ≠ (.slice (some ad209) x5_1.length co33 : Value).ownBlock ∧ some k_ ≠ (v211 : Value).ownBlock ∧ k_ ≠ g)) (okp := (fun k_ => (w.heap.size ≤ k_) ∧ some k_ ≠ (.slice Ao31 t176.length co31 : Value).ownBlock ∧ some k_ ≠ (.slice (some ad209) x5_1.length co33 : Value).ownBlock ∧ some k_ ≠ (v211 : Value).ownBlock ∧ k_ ≠ g)) ?hr ?hp (fun _ hk => hk) ((show ∀ k_, w36.heap.size ≤ k_ → (fun k_ => (w.heap.size ≤ k_) ∧ some k_ ≠ (.slice Ao31 t176.length co31 : Value).ownBlock ∧ some k_ ≠ (.slice (some ad209) x5_1.length co33 : Value).ownBlock ∧ some k_ ≠ (v211 : Value).ownBlock ∧ k_ ≠ g) k_ from fun k_ hk => ⟨(Nat.le_trans (keep_size (w := w) (g := g) (row := none) (by repeat (first | (with_reducible first | exact HK.out | apply KeepBut.set_ | apply keep_drewN | apply keep_drew | apply keep_alloc) | exact HK.out))) hk), Kd.fresh' (Kd.N_lt (by (with_reducible repeat (first | apply Kd.N_alloc | apply Kd.N_drewN | apply Kd.N_drew)); exact HO_4.out)) k_ hk, Kd.fresh' (Kd.N_lt (by (with_reducible repeat (first | apply Kd.N_alloc | apply Kd.N_drewN | apply Kd.N_drew)); exact HO_5.out)) k_ hk, Kd.fresh' (Kd.N_lt (by (with_reducible repeat (first | apply Kd.N_alloc | apply Kd.N_drewN | apply Kd.N_drew)); exact HO212.out)) k_ hk, IsS75.fresh (by repeat (first | (with_reducible first | exact HI0.out | apply IsS75.alloc | apply IsS75.drewN | apply IsS75.drew | apply IsS75.set_1) | exact HI0.out)) k_ hk⟩) _ (Nat.le_refl _)) (Below.refl _ _) (Nat.le_refl _) (by simp) ?_; (case hd => rfl); (case hg => rfl); (case hr => first | (go_simp; done) | (go_simp; rfl)); (case hp => exact (Reps.none _ _))
                          intro v199 w38 ho39 hb hg_ hnew_
                          have HS0_ := (hb.cell (World.block_lt_of_cell? _ _ (hHeld.1))).trans (hHeld.1)
                          have HS1_ := (hb.cell (World.block_lt_of_cell? _ _ (hHeld.2))).trans (hHeld.2)
                          clear hg_ hnew_
                          (first | rw [← Ny198.out] at ho39 | (simp only [Int.reduceToNat] at ho39; rw [← Ny198.out] at ho39))
                          have n0_ := Aside0.mk (Kd.N_elder' (by (with_reducible repeat (first | apply Kd.N_alloc | apply Kd.N_drewN | apply Kd.N_drew)); exact HO_4.out) (Kd.N_base ho39) hb)
                          have n1_ := Aside0.mk (Kd.N_elder' (by (with_reducible repeat (first | apply Kd.N_alloc | apply Kd.N_drewN | apply Kd.N_drew)); exact HO_5.out) (Kd.N_base ho39) hb)
                          have n2_ := Aside0.mk (Kd.V_elder' (by (with_reducible repeat (first | apply Kd.V_alloc | apply Kd.V_drewN | apply Kd.V_drew)); exact HO205.out) (Kd.N_base ho39) hb)
                          have n3_ := Aside0.mk (Kd.V_elder' (by (with_reducible repeat (first | apply Kd.V_alloc | apply Kd.V_drewN | apply Kd.V_drew)); exact HL209_1.out) (Kd.N_base ho39) hb)
                          have n4_ := Aside0.mk (Kd.N_elder' (by (with_reducible repeat (first | apply Kd.N_alloc | apply Kd.N_drewN | apply Kd.N_drew)); exact HO212.out) (Kd.N_base ho39) hb)
                          have n5_ := Aside0.mk (Kd.N_lower ho39 (keep_size (w := w) (g := g) (row := none) (by repeat (first | (with_reducible first | exact HK.out | apply KeepBut.set_ | apply keep_drewN | apply keep_drew | apply keep_alloc) | exact HK.out))))
                          have n6_ := Aside0.mk (IsS75.below (by repeat (first | (with_reducible first | exact HI0.out | apply IsS75.alloc | apply IsS75.drewN | apply IsS75.drew | apply IsS75.set_1) | exact HI0.out)) hb)
                          have n7_ := Aside0.mk (Kd.C_below (by repeat (first | (with_reducible exact HR209_1.out) | (with_reducible refine Kd.C_alloc ?_ _) | (with_reducible refine Kd.C_drewN ?_ _) | (with_reducible refine Kd.C_drew ?_) | exact HR209_1.out)) hb)
                          have n8_ := Aside0.mk (KeepBut.trans (by repeat (first | (with_reducible first | exact HK.out | apply KeepBut.set_ | apply keep_drewN | apply keep_drew | apply keep_alloc) | exact HK.out)) (KeepBut.of_below hb g none) (.inl rfl))
                          have n9_ := Aside0.mk (below_step (by repeat (first | (with_reducible first | exact HB.out | apply below_alloc | apply pw_below_drewN | apply below_drew1 | refine below_set ?_ (IsS75.ge HI0.out)) | exact HB.out)) hb)
                          clear HO_4
                          clear HO_5
                          clear HO205
                          clear HL209_1
                          clear HO212
                          clear HI0
                          clear HR209_1
                          clear HK
                          clear HB
                          have HO_4 := n0_
                          have HO_5 := n1_
                          have HO205 := n2_
                          have HL209_1 := n3_
                          have HO212 := n4_
                          have HO200 := n5_
                          have HI0 := n6_
                          have HR209_1 := n7_
                          have HK := n8_
                          have HB := n9_
                          clear n0_ n1_ n2_ n3_ n4_ n5_ n6_ n7_ n8_ n9_
                          clear hb ho39
                          refine hK.out _ _ ⟨HS0_, HS1_⟩ (fun hHeld => ?_)
                          clear hK K
                          refine norm_ (a' := ?_) ?_ ?_
                          rotate_left
                          · show Act.put _ (some 38) _ = _
                            simp only [Act.put, List.setIfInBounds_toArray, List.set_cons_zero, List.set_cons_succ, i64_w, i32_w]
                            rfl
                          refine one_ (i := 3) (N := some 41) #[true, true, true, true, true, true, true, true, false, false] rfl rfl (one_of HT_.out (by kernel_rfl)) (by decide) (fun K hK => ?_)
                          refine Kd.N_append_rows_step k30 w.heap.size (by rfl) (.tmp 38) (.tmp 40) 23 30 (.agg #[(.string ⟨#[]⟩), (.slice none 0 0)]) 40 rfl Try.underlying23 info30 rfl (by decide) (by omega) v199 y198 y201 _ _ _ (fun k_ => (w.heap.size ≤ k_) ∧ some k_ ≠ (.slice Ao31 t176.length co31 : Value).ownBlock ∧ some k_ ≠ (v211 : Value).ownBlock ∧ k_ ≠ g) (fun k_ => ((fun k_ => (w.heap.size ≤ k_) ∧ some k_ ≠ (.slice Ao31 t176.length co31 : Value).ownBlock ∧ some k_ ≠ (v211 : Value).ownBlock ∧ k_ ≠ g)) k_ ∧ some k_ ≠ (v199 : Value).ownBlock) rfl rfl ?aO ?aR (fun _ hk => hk) ?aF (Below.refl _ _) ?aS ?aL ?_
                          (case aR => exact (by skip; exact Kd.V_F (Kd.V_mono (ok' := (fun k_ => ((fun k_ => (w.heap.size ≤ k_) ∧ some k_ ≠ (.slice Ao31 t176.length co31 : Value).ownBlock ∧ some k_ ≠ (v211 : Value).ownBlock ∧ k_ ≠ g)) k_ ∧ some k_ ≠ (v199 : Value).ownBlock)) (HO205.out) (fun k_ hk => ⟨⟨(gives hk), ⟨(gives hk), ⟨(gives hk), (gives hk)⟩⟩⟩, hk.2⟩))))
                          (case aF => exact (fun k_ hk => ⟨(Nat.le_trans (keep_size (w := w) (g := g) (row := none) (by repeat (first | (with_reducible first | exact HK.out | apply KeepBut.set_ | apply keep_drewN | apply keep_drew | apply keep_alloc) | exact HK.out))) hk), Kd.fresh' (Kd.N_lt (by (with_reducible repeat (first | apply Kd.N_alloc | apply Kd.N_drewN | apply Kd.N_drew)); exact HO_4.out)) k_ hk, Kd.fresh' (Kd.N_lt (by (with_reducible repeat (first | apply Kd.N_alloc | apply Kd.N_drewN | apply Kd.N_drew)); exact HO212.out)) k_ hk, IsS75.fresh (by repeat (first | (with_reducible first | exact HI0.out | apply IsS75.alloc | apply IsS75.drewN | apply IsS75.drew | apply IsS75.set_1) | exact HI0.out)) k_ hk⟩))
                          (case aO => exact (by (with_reducible repeat (first | apply Kd.N_alloc | apply Kd.N_drewN | apply Kd.N_drew)); exact Kd.N_mono HO200.out (fun _ hk => ⟨hk.1, ⟨(gives hk), ⟨(gives hk), (gives hk)⟩⟩⟩)))
                          (case aS => exact (keep_size (w := w) (g := g) (row := none) (by repeat (first | (with_reducible first | exact HK.out | apply KeepBut.set_ | apply keep_drewN | apply keep_drew | apply keep_alloc) | exact HK.out))))
                          (case aL => have := LMc28.out; omega)
                          intro v207 w40 ho hb hg hat
                          (first | have HS0_ := cell_grown hg (hHeld.1) (by have h_ := HO_5.out.1 _ rfl; first | (rw [add_block]; first | with_reducible exact h_.2 | with_reducible exact h_.1 | with_reducible exact h_.1.2 | with_reducible exact h_.2.1 | with_reducible exact h_.2.2 | with_reducible exact h_.1.1 | with_reducible exact h_.2.2.1 | with_reducible exact h_.2.2.2 | with_reducible exact h_.2.2.2.1 | with_reducible exact h_.2.2.2.2 | with_reducible exact h_.1.2.1 | with_reducible exact h_.1.2.2 | with_reducible exact h_.2.2.2.2.1 | with_reducible exact h_.1.1.2 | with_reducible exact h_.1.2.2.1) | (first | with_reducible exact h_.2 | with_reducible exact h_.1 | with_reducible exact h_.1.2 | with_reducible exact h_.2.1 | with_reducible exact h_.2.2 | with_reducible exact h_.1.1 | with_reducible exact h_.2.2.1 | with_reducible exact h_.2.2.2 | with_reducible exact h_.2.2.2.1 | with_reducible exact h_.2.2.2.2 | with_reducible exact h_.1.2.1 | with_reducible exact h_.1.2.2 | with_reducible exact h_.2.2.2.2.1 | with_reducible exact h_.1.1.2 | with_reducible exact h_.1.2.2.1) | (simp only [add_block]; first | with_reducible exact h_.2 | with_reducible exact h_.1 | with_reducible exact h_.1.2 | with_reducible exact h_.2.1 | with_reducible exact h_.2.2 | with_reducible exact h_.1.1 | with_reducible exact h_.2.2.1 | with_reducible exact h_.2.2.2 | with_reducible exact h_.2.2.2.1 | with_reducible exact h_.2.2.2.2 | with_reducible exact h_.1.2.1 | with_reducible exact h_.1.2.2 | with_reducible exact h_.2.2.2.2.1 | with_reducible exact h_.1.1.2 | with_reducible exact h_.1.2.2.1)) | have HS0_ := cell_grown hg (cell_unalloc (hHeld.1) (Kd.N_lt HO_5.out _ rfl)) (by have h_ := HO_5.out.1 _ rfl; first | (rw [add_block]; first | with_reducible exact h_.2 | with_reducible exact h_.1 | with_reducible exact h_.1.2 | with_reducible exact h_.2.1 | with_reducible exact h_.2.2 | with_reducible exact h_.1.1 | with_reducible exact h_.2.2.1 | with_reducible exact h_.2.2.2 | with_reducible exact h_.2.2.2.1 | with_reducible exact h_.2.2.2.2 | with_reducible exact h_.1.2.1 | with_reducible exact h_.1.2.2 | with_reducible exact h_.2.2.2.2.1 | with_reducible exact h_.1.1.2 | with_reducible exact h_.1.2.2.1) | (first | with_reducible exact h_.2 | with_reducible exact h_.1 | with_reducible exact h_.1.2 | with_reducible exact h_.2.1 | with_reducible exact h_.2.2 | with_reducible exact h_.1.1 | with_reducible exact h_.2.2.1 | with_reducible exact h_.2.2.2 | with_reducible exact h_.2.2.2.1 | with_reducible exact h_.2.2.2.2 | with_reducible exact h_.1.2.1 | with_reducible exact h_.1.2.2 | with_reducible exact h_.2.2.2.2.1 | with_reducible exact h_.1.1.2 | with_reducible exact h_.1.2.2.1) | (simp only [add_block]; first | with_reducible exact h_.2 | with_reducible exact h_.1 | with_reducible exact h_.1.2 | with_reducible exact h_.2.1 | with_reducible exact h_.2.2 | with_reducible exact h_.1.1 | with_reducible exact h_.2.2.1 | with_reducible exact h_.2.2.2 | with_reducible exact h_.2.2.2.1 | with_reducible exact h_.2.2.2.2 | with_reducible exact h_.1.2.1 | with_reducible exact h_.1.2.2 | with_reducible exact h_.2.2.2.2.1 | with_reducible exact h_.1.1.2 | with_reducible exact h_.1.2.2.1)))
                          (first | have HS1_ := cell_grown hg (hHeld.2) (by have h_ := HO_5.out.1 _ rfl; first | (rw [add_block]; first | with_reducible exact h_.2 | with_reducible exact h_.1 | with_reducible exact h_.1.2 | with_reducible exact h_.2.1 | with_reducible exact h_.2.2 | with_reducible exact h_.1.1 | with_reducible exact h_.2.2.1 | with_reducible exact h_.2.2.2 | with_reducible exact h_.2.2.2.1 | with_reducible exact h_.2.2.2.2 | with_reducible exact h_.1.2.1 | with_reducible exact h_.1.2.2 | with_reducible exact h_.2.2.2.2.1 | with_reducible exact h_.1.1.2 | with_reducible exact h_.1.2.2.1) | (first | with_reducible exact h_.2 | with_reducible exact h_.1 | with_reducible exact h_.1.2 | with_reducible exact h_.2.1 | with_reducible exact h_.2.2 | with_reducible exact h_.1.1 | with_reducible exact h_.2.2.1 | with_reducible exact h_.2.2.2 | with_reducible exact h_.2.2.2.1 | with_reducible exact h_.2.2.2.2 | with_reducible exact h_.1.2.1 | with_reducible exact h_.1.2.2 | with_reducible exact h_.2.2.2.2.1 | with_reducible exact h_.1.1.2 | with_reducible exact h_.1.2.2.1) | (simp only [add_block]; first | with_reducible exact h_.2 | with_reducible exact h_.1 | with_reducible exact h_.1.2 | with_reducible exact h_.2.1 | with_reducible exact h_.2.2 | with_reducible exact h_.1.1 | with_reducible exact h_.2.2.1 | with_reducible exact h_.2.2.2 | with_reducible exact h_.2.2.2.1 | with_reducible exact h_.2.2.2.2 | with_reducible exact h_.1.2.1 | with_reducible exact h_.1.2.2 | with_reducible exact h_.2.2.2.2.1 | with_reducible exact h_.1.1.2 | with_reducible exact h_.1.2.2.1)) | have HS1_ := cell_grown hg (cell_unalloc (hHeld.2) (Kd.N_lt HO_5.out _ rfl)) (by have h_ := HO_5.out.1 _ rfl; first | (rw [add_block]; first | with_reducible exact h_.2 | with_reducible exact h_.1 | with_reducible exact h_.1.2 | with_reducible exact h_.2.1 | with_reducible exact h_.2.2 | with_reducible exact h_.1.1 | with_reducible exact h_.2.2.1 | with_reducible exact h_.2.2.2 | with_reducible exact h_.2.2.2.1 | with_reducible exact h_.2.2.2.2 | with_reducible exact h_.1.2.1 | with_reducible exact h_.1.2.2 | with_reducible exact h_.2.2.2.2.1 | with_reducible exact h_.1.1.2 | with_reducible exact h_.1.2.2.1) | (first | with_reducible exact h_.2 | with_reducible exact h_.1 | with_reducible exact h_.1.2 | with_reducible exact h_.2.1 | with_reducible exact h_.2.2 | with_reducible exact h_.1.1 | with_reducible exact h_.2.2.1 | with_reducible exact h_.2.2.2 | with_reducible exact h_.2.2.2.1 | with_reducible exact h_.2.2.2.2 | with_reducible exact h_.1.2.1 | with_reducible exact h_.1.2.2 | with_reducible exact h_.2.2.2.2.1 | with_reducible exact h_.1.1.2 | with_reducible exact h_.1.2.2.1) | (simp only [add_block]; first | with_reducible exact h_.2 | with_reducible exact h_.1 | with_reducible exact h_.1.2 | with_reducible exact h_.2.1 | with_reducible exact h_.2.2 | with_reducible exact h_.1.1 | with_reducible exact h_.2.2.1 | with_reducible exact h_.2.2.2 | with_reducible exact h_.2.2.2.1 | with_reducible exact h_.2.2.2.2 | with_reducible exact h_.1.2.1 | with_reducible exact h_.1.2.2 | with_reducible exact h_.2.2.2.2.1 | with_reducible exact h_.1.1.2 | with_reducible exact h_.1.2.2.1)))
                          rw [← Ny206.out] at ho
                          have n0_ := Aside0.mk (Kd.N_afterv (ok := (fun k_ => (w.heap.size ≤ k_) ∧ some k_ ≠ (.slice (some ad209) x5_1.length co33 : Value).ownBlock ∧ some k_ ≠ (v211 : Value).ownBlock ∧ k_ ≠ g)) (by (with_reducible repeat (first | apply Kd.N_alloc | apply Kd.N_drewN | apply Kd.N_drew)); exact Kd.N_mono HO_4.out (fun _ hk => ⟨⟨(gives hk), ⟨(gives hk), ⟨(gives hk), (gives hk)⟩⟩⟩, hk.2⟩)) hg hat)
                          have n1_ := Aside0.mk (Kd.N_afterv (ok := (fun k_ => (w.heap.size ≤ k_) ∧ some k_ ≠ (.slice Ao31 t176.length co31 : Value).ownBlock ∧ some k_ ≠ (v211 : Value).ownBlock ∧ k_ ≠ g)) (by (with_reducible repeat (first | apply Kd.N_alloc | apply Kd.N_drewN | apply Kd.N_drew)); exact Kd.N_mono HO_5.out (fun _ hk => ⟨⟨(gives hk), ⟨(gives hk), ⟨(gives hk), (gives hk)⟩⟩⟩, hk.2⟩)) hg hat)
                          have n2_ := Aside0.mk (IsS75.grown (by repeat (first | (with_reducible first | exact HI0.out | apply IsS75.alloc | apply IsS75.drewN | apply IsS75.drew | apply IsS75.set_1) | exact HI0.out)) hg (IsS75.own_neN HI0.out HO200.out (by decide)))
                          have n3_ := Aside0.mk (Kd.V_afterv (ok := (fun k_ => (w.heap.size ≤ k_) ∧ some k_ ≠ (.slice Ao31 t176.length co31 : Value).ownBlock ∧ some k_ ≠ (v211 : Value).ownBlock ∧ k_ ≠ g)) (by (with_reducible repeat (first | apply Kd.V_alloc | apply Kd.V_drewN | apply Kd.V_drew)); exact Kd.V_mono HO205.out (fun _ hk => ⟨⟨(gives hk), ⟨(gives hk), ⟨(gives hk), (gives hk)⟩⟩⟩, hk.2⟩)) hg hat)
                          have n4_ := Aside0.mk (Kd.V_afterv (ok := (fun k_ => (w.heap.size ≤ k_) ∧ some k_ ≠ (.slice Ao31 t176.length co31 : Value).ownBlock ∧ some k_ ≠ (.slice (some ad209) x5_1.length co33 : Value).ownBlock ∧ some k_ ≠ (v211 : Value).ownBlock ∧ k_ ≠ g)) (by (with_reducible repeat (first | apply Kd.V_alloc | apply Kd.V_drewN | apply Kd.V_drew)); exact Kd.V_mono HL209_1.out (fun _ hk => ⟨⟨(gives hk), ⟨(gives hk), ⟨(gives hk), ⟨(gives hk), (gives hk)⟩⟩⟩⟩, hk.2⟩)) hg hat)
                          have n5_ := Aside0.mk (Kd.N_afterv (ok := (fun k_ => (w.heap.size ≤ k_) ∧ some k_ ≠ (.slice Ao31 t176.length co31 : Value).ownBlock ∧ some k_ ≠ (.slice (some ad209) x5_1.length co33 : Value).ownBlock ∧ k_ ≠ g)) (by (with_reducible repeat (first | apply Kd.N_alloc | apply Kd.N_drewN | apply Kd.N_drew)); exact HO212.out) hg hat)
                          have n6_ := Aside0.mk (below_weaken (by repeat (first | (with_reducible first | exact HB.out | apply below_alloc | apply pw_below_drewN | apply below_drew1 | refine below_set ?_ (IsS75.ge HI0.out)) | exact HB.out)) HL.out hb)
                          have n7_ := Aside0.mk (KeepBut.trans (by repeat (first | (with_reducible first | exact HK.out | apply KeepBut.set_ | apply keep_drewN | apply keep_drew | apply keep_alloc) | exact HK.out)) (KeepBut.of_grown hg g) (Kd.N_base2 HO200.out))
                          have n8_ := Aside0.mk (ho)
                          clear HO_4
                          clear HO_5
                          clear HI0
                          clear HO205
                          clear HL209_1
                          clear HO212
                          clear HB
                          clear HK
                          clear HO200
                          have HO_4 := n0_
                          have HO_5 := n1_
                          have HI0 := n2_
                          have HO205 := n3_
                          have HL209_1 := n4_
                          have HO212 := n5_
                          have HB := n6_
                          have HK := n7_
                          have HO208 := n8_
                          clear n0_ n1_ n2_ n3_ n4_ n5_ n6_ n7_ n8_
                          clear ho hb hg hat
                          refine hK.out _ _ ⟨HS0_, HS1_⟩ (fun hHeld => ?_)
                          clear hK K
                          refine norm_ (a' := ?_) ?_ ?_
                          rotate_left
                          · show Act.put _ (some 41) _ = _
                            simp only [Act.put, List.setIfInBounds_toArray, List.set_cons_zero, List.set_cons_succ, i64_w, i32_w]
                            rfl
                          exact norm_ (by simp only [putAll, Act.put, List.setIfInBounds_toArray, List.set_cons_zero, List.set_cons_succ]) (hCont (v199, v207, v211) _ ⟨hHeld, (by (with_reducible repeat (first | apply Kd.V_alloc | apply Kd.V_drewN | apply Kd.V_drew)); exact Kd.V_mono HL209_1.out (fun _ hk => ⟨(gives hk), ⟨hk.2, ⟨(gives hk), ⟨(gives hk), ⟨(gives hk), (gives hk)⟩⟩⟩⟩⟩)), (by (with_reducible repeat (first | apply Kd.V_alloc | apply Kd.V_drewN | apply Kd.V_drew)); exact Kd.V_mono HO205.out (fun _ hk => ⟨(gives hk), ⟨hk.2, ⟨(gives hk), ⟨(gives hk), (gives hk)⟩⟩⟩⟩)), (by (with_reducible repeat (first | apply Kd.N_alloc | apply Kd.N_drewN | apply Kd.N_drew)); exact Kd.N_mono HO208.out (fun _ hk => ⟨hk.1, ⟨(gives hk), ⟨(gives hk), (gives hk)⟩⟩⟩)), (by (with_reducible repeat (first | apply Kd.N_alloc | apply Kd.N_drewN | apply Kd.N_drew)); exact Kd.N_mono HO212.out (fun _ hk => ⟨(gives hk), ⟨hk.2, ⟨(gives hk), ⟨(gives hk), (gives hk)⟩⟩⟩⟩)), (by (with_reducible repeat (first | apply Kd.N_alloc | apply Kd.N_drewN | apply Kd.N_drew)); exact Kd.N_mono HO_4.out (fun _ hk => ⟨(gives hk), ⟨hk.2, ⟨(gives hk), ⟨(gives hk), (gives hk)⟩⟩⟩⟩)), (by (with_reducible repeat (first | apply Kd.N_alloc | apply Kd.N_drewN | apply Kd.N_drew)); exact Kd.N_mono HO_5.out (fun _ hk => ⟨(gives hk), ⟨hk.2, ⟨(gives hk), ⟨(gives hk), (gives hk)⟩⟩⟩⟩)), (by repeat (first | (with_reducible first | exact HI0.out | apply IsS75.alloc | apply IsS75.drewN | apply IsS75.drew | apply IsS75.set_1) | exact HI0.out)), (by repeat (first | (with_reducible first | exact HK.out | apply KeepBut.set_ | apply keep_drewN | apply keep_drew | apply keep_alloc) | exact HK.out)), (by repeat (first | (with_reducible first | exact HB.out | apply below_alloc | apply pw_below_drewN | apply below_drew1 | refine below_set ?_ (IsS75.ge HI0.out)) | exact HB.out))⟩)
                      rintro ⟨v199, v207, v211⟩ w41 ⟨hS_, h0_, h1_, h2_, h3_, h4_, h5_, h6_, h7_, h8_⟩
                      have n0_ : Aside0 (Kd.V (Kd.int .i64) 3 w41 w.heap.size (fun k_ => (w.heap.size ≤ k_) ∧ some k_ ≠ (v207 : Value).ownBlock ∧ some k_ ≠ (v211 : Value).ownBlock ∧ some k_ ≠ (.slice Ao31 t176.length co31 : Value).ownBlock ∧ some k_ ≠ (.slice (some ad209) x5_1.length co33 : Value).ownBlock ∧ k_ ≠ g) (.slice A209_1 ((rd_T30 x5_1 0).f1).length c209_1) ((rd_T30 x5_1 0).f1)) := ⟨h0_⟩
                      have n1_ : Aside0 (Kd.V k30 30 w41 w.heap.size (fun k_ => (w.heap.size ≤ k_) ∧ some k_ ≠ (v207 : Value).ownBlock ∧ some k_ ≠ (v211 : Value).ownBlock ∧ some k_ ≠ (.slice Ao31 t176.length co31 : Value).ownBlock ∧ k_ ≠ g) (.slice A35 y201.length c35) y201) := ⟨h1_⟩
                      have n2_ : Aside0 (Kd.N k30 30 w41 w.heap.size (fun k_ => (w.heap.size ≤ k_) ∧ some k_ ≠ (v211 : Value).ownBlock ∧ some k_ ≠ (.slice Ao31 t176.length co31 : Value).ownBlock ∧ k_ ≠ g) v207 y206) := ⟨h2_⟩
                      have n3_ : Aside0 (Kd.N k30 30 w41 w.heap.size (fun k_ => (w.heap.size ≤ k_) ∧ some k_ ≠ (v207 : Value).ownBlock ∧ some k_ ≠ (.slice Ao31 t176.length co31 : Value).ownBlock ∧ some k_ ≠ (.slice (some ad209) x5_1.length co33 : Value).ownBlock ∧ k_ ≠ g) v211 y210) := ⟨h3_⟩
                      have n4_ : Aside0 (Kd.N k30 30 w41 w.heap.size (fun k_ => (w.heap.size ≤ k_) ∧ some k_ ≠ (v207 : Value).ownBlock ∧ some k_ ≠ (v211 : Value).ownBlock ∧ some k_ ≠ (.slice (some ad209) x5_1.length co33 : Value).ownBlock ∧ k_ ≠ g) (.slice Ao31 t176.length co31) t176) := ⟨h4_⟩
                      have n5_ : Aside0 (Kd.N k30 30 w41 w.heap.size (fun k_ => (w.heap.size ≤ k_) ∧ some k_ ≠ (v207 : Value).ownBlock ∧ some k_ ≠ (v211 : Value).ownBlock ∧ some k_ ≠ (.slice Ao31 t176.length co31 : Value).ownBlock ∧ k_ ≠ g) (.slice (some ad209) x5_1.length co33) x5_1) := ⟨h5_⟩
                      have n6_ : Aside0 (IsS75 w0 w41 g s0_0 t193) := ⟨h6_⟩
                      have n7_ : Aside0 (KeepBut w w41 g none) := ⟨h7_⟩
                      have n8_ : Aside0 (Below w0.heap.size w0 w41) := ⟨h8_⟩
                      clear HO_4
                      clear HO_5
                      clear HI0
                      clear HK
                      clear HB
                      clear h0_ h1_ h2_ h3_ h4_ h5_ h6_ h7_ h8_
                      have HL209_1 := n0_
                      have HO205 := n1_
                      have HO208 := n2_
                      have HO212 := n3_
                      have HO_4 := n4_
                      have HO_5 := n5_
                      have HI0 := n6_
                      have HK := n7_
                      have HB := n8_
                      clear n0_ n1_ n2_ n3_ n4_ n5_ n6_ n7_ n8_
                      have hHeld : w41.cell? ad209 = some (.string ((rd_T30 x5_1 0).f0)) ∧ w41.cell? ⟨ad209.block, ad209.off + 1, none⟩ = some (.slice A209_1 ((rd_T30 x5_1 0).f1).length c209_1) := hS_
                      obtain ⟨Ao43, co43, eo43⟩ := Kd.N_slice HO212.out
                      (first | subst eo43 | (injection eo43 with f1_ f2_ f3_; have f4_ := f1_.symm; have f5_ := f3_.symm; clear f1_ f2_ f3_; subst f4_; subst f5_))
                      refine norm_ (a' := ?_) ?_ ?_
                      rotate_left
                      · simp only [putAll, Act.put, List.setIfInBounds_toArray, List.set_cons_zero, List.set_cons_succ]
                        rfl
                      refine one_ (i := 8) (N := some 46) #[true, true, true, true, true, true, true, true, true, false] rfl rfl (one_of HT_.out (by kernel_rfl)) (by decide) (fun K hK => ?_)
                      refine Kd.N_append_rows_step k30 w.heap.size (by rfl) (.tmp 41) (.tmp 45) 23 30 (.agg #[(.string ⟨#[]⟩), (.slice none 0 0)]) 40 rfl Try.underlying23 info30 rfl (by decide) (by omega) v207 y206 y210 _ _ _ (fun k_ => (w.heap.size ≤ k_) ∧ some k_ ≠ (.slice Ao31 t176.length co31 : Value).ownBlock ∧ k_ ≠ g) (fun k_ => ((fun k_ => (w.heap.size ≤ k_) ∧ some k_ ≠ (.slice Ao31 t176.length co31 : Value).ownBlock ∧ k_ ≠ g)) k_ ∧ some k_ ≠ (v207 : Value).ownBlock) rfl rfl ?aO ?aR (fun _ hk => hk) ?aF (Below.refl _ _) ?aS ?aL ?_
                      (case aR => exact (by skip; exact Kd.N_F (Kd.N_mono (ok' := (fun k_ => ((fun k_ => (w.heap.size ≤ k_) ∧ some k_ ≠ (.slice Ao31 t176.length co31 : Value).ownBlock ∧ k_ ≠ g)) k_ ∧ some k_ ≠ (v207 : Value).ownBlock)) (HO212.out) (fun k_ hk => ⟨⟨hk.1, ⟨(gives hk), (gives hk)⟩⟩, (gives hk)⟩))))
                      (case aF => exact (fun k_ hk => ⟨(Nat.le_trans (keep_size (w := w) (g := g) (row := none) (by repeat (first | (with_reducible first | exact HK.out | apply KeepBut.set_ | apply keep_drewN | apply keep_drew | apply keep_alloc) | exact HK.out))) hk), Kd.fresh' (Kd.N_lt (by (with_reducible repeat (first | apply Kd.N_alloc | apply Kd.N_drewN | apply Kd.N_drew)); exact HO_4.out)) k_ hk, IsS75.fresh (by repeat (first | (with_reducible first | exact HI0.out | apply IsS75.alloc | apply IsS75.drewN | apply IsS75.drew | apply IsS75.set_1) | exact HI0.out)) k_ hk⟩))
                      (case aO => exact (by (with_reducible repeat (first | apply Kd.N_alloc | apply Kd.N_drewN | apply Kd.N_drew)); exact Kd.N_mono HO208.out (fun _ hk => ⟨hk.1, ⟨(gives hk), (gives hk)⟩⟩)))
                      (case aS => exact (keep_size (w := w) (g := g) (row := none) (by repeat (first | (with_reducible first | exact HK.out | apply KeepBut.set_ | apply keep_drewN | apply keep_drew | apply keep_alloc) | exact HK.out))))
                      (case aL => have := LMc30.out; omega)
                      intro v214 w42 ho hb hg hat
                      (first | have HS0_ := cell_grown hg (hHeld.1) (by have h_ := HO_5.out.1 _ rfl; first | (rw [add_block]; first | with_reducible exact h_.2 | with_reducible exact h_.1 | with_reducible exact h_.1.2 | with_reducible exact h_.2.1 | with_reducible exact h_.2.2 | with_reducible exact h_.1.1 | with_reducible exact h_.2.2.1 | with_reducible exact h_.2.2.2 | with_reducible exact h_.2.2.2.1 | with_reducible exact h_.2.2.2.2 | with_reducible exact h_.1.2.1 | with_reducible exact h_.1.2.2 | with_reducible exact h_.2.2.2.2.1 | with_reducible exact h_.1.1.2 | with_reducible exact h_.1.2.2.1) | (first | with_reducible exact h_.2 | with_reducible exact h_.1 | with_reducible exact h_.1.2 | with_reducible exact h_.2.1 | with_reducible exact h_.2.2 | with_reducible exact h_.1.1 | with_reducible exact h_.2.2.1 | with_reducible exact h_.2.2.2 | with_reducible exact h_.2.2.2.1 | with_reducible exact h_.2.2.2.2 | with_reducible exact h_.1.2.1 | with_reducible exact h_.1.2.2 | with_reducible exact h_.2.2.2.2.1 | with_reducible exact h_.1.1.2 | with_reducible exact h_.1.2.2.1) | (simp only [add_block]; first | with_reducible exact h_.2 | with_reducible exact h_.1 | with_reducible exact h_.1.2 | with_reducible exact h_.2.1 | with_reducible exact h_.2.2 | with_reducible exact h_.1.1 | with_reducible exact h_.2.2.1 | with_reducible exact h_.2.2.2 | with_reducible exact h_.2.2.2.1 | with_reducible exact h_.2.2.2.2 | with_reducible exact h_.1.2.1 | with_reducible exact h_.1.2.2 | with_reducible exact h_.2.2.2.2.1 | with_reducible exact h_.1.1.2 | with_reducible exact h_.1.2.2.1)) | have HS0_ := cell_grown hg (cell_unalloc (hHeld.1) (Kd.N_lt HO_5.out _ rfl)) (by have h_ := HO_5.out.1 _ rfl; first | (rw [add_block]; first | with_reducible exact h_.2 | with_reducible exact h_.1 | with_reducible exact h_.1.2 | with_reducible exact h_.2.1 | with_reducible exact h_.2.2 | with_reducible exact h_.1.1 | with_reducible exact h_.2.2.1 | with_reducible exact h_.2.2.2 | with_reducible exact h_.2.2.2.1 | with_reducible exact h_.2.2.2.2 | with_reducible exact h_.1.2.1 | with_reducible exact h_.1.2.2 | with_reducible exact h_.2.2.2.2.1 | with_reducible exact h_.1.1.2 | with_reducible exact h_.1.2.2.1) | (first | with_reducible exact h_.2 | with_reducible exact h_.1 | with_reducible exact h_.1.2 | with_reducible exact h_.2.1 | with_reducible exact h_.2.2 | with_reducible exact h_.1.1 | with_reducible exact h_.2.2.1 | with_reducible exact h_.2.2.2 | with_reducible exact h_.2.2.2.1 | with_reducible exact h_.2.2.2.2 | with_reducible exact h_.1.2.1 | with_reducible exact h_.1.2.2 | with_reducible exact h_.2.2.2.2.1 | with_reducible exact h_.1.1.2 | with_reducible exact h_.1.2.2.1) | (simp only [add_block]; first | with_reducible exact h_.2 | with_reducible exact h_.1 | with_reducible exact h_.1.2 | with_reducible exact h_.2.1 | with_reducible exact h_.2.2 | with_reducible exact h_.1.1 | with_reducible exact h_.2.2.1 | with_reducible exact h_.2.2.2 | with_reducible exact h_.2.2.2.1 | with_reducible exact h_.2.2.2.2 | with_reducible exact h_.1.2.1 | with_reducible exact h_.1.2.2 | with_reducible exact h_.2.2.2.2.1 | with_reducible exact h_.1.1.2 | with_reducible exact h_.1.2.2.1)))
                      (first | have HS1_ := cell_grown hg (hHeld.2) (by have h_ := HO_5.out.1 _ rfl; first | (rw [add_block]; first | with_reducible exact h_.2 | with_reducible exact h_.1 | with_reducible exact h_.1.2 | with_reducible exact h_.2.1 | with_reducible exact h_.2.2 | with_reducible exact h_.1.1 | with_reducible exact h_.2.2.1 | with_reducible exact h_.2.2.2 | with_reducible exact h_.2.2.2.1 | with_reducible exact h_.2.2.2.2 | with_reducible exact h_.1.2.1 | with_reducible exact h_.1.2.2 | with_reducible exact h_.2.2.2.2.1 | with_reducible exact h_.1.1.2 | with_reducible exact h_.1.2.2.1) | (first | with_reducible exact h_.2 | with_reducible exact h_.1 | with_reducible exact h_.1.2 | with_reducible exact h_.2.1 | with_reducible exact h_.2.2 | with_reducible exact h_.1.1 | with_reducible exact h_.2.2.1 | with_reducible exact h_.2.2.2 | with_reducible exact h_.2.2.2.1 | with_reducible exact h_.2.2.2.2 | with_reducible exact h_.1.2.1 | with_reducible exact h_.1.2.2 | with_reducible exact h_.2.2.2.2.1 | with_reducible exact h_.1.1.2 | with_reducible exact h_.1.2.2.1) | (simp only [add_block]; first | with_reducible exact h_.2 | with_reducible exact h_.1 | with_reducible exact h_.1.2 | with_reducible exact h_.2.1 | with_reducible exact h_.2.2 | with_reducible exact h_.1.1 | with_reducible exact h_.2.2.1 | with_reducible exact h_.2.2.2 | with_reducible exact h_.2.2.2.1 | with_reducible exact h_.2.2.2.2 | with_reducible exact h_.1.2.1 | with_reducible exact h_.1.2.2 | with_reducible exact h_.2.2.2.2.1 | with_reducible exact h_.1.1.2 | with_reducible exact h_.1.2.2.1)) | have HS1_ := cell_grown hg (cell_unalloc (hHeld.2) (Kd.N_lt HO_5.out _ rfl)) (by have h_ := HO_5.out.1 _ rfl; first | (rw [add_block]; first | with_reducible exact h_.2 | with_reducible exact h_.1 | with_reducible exact h_.1.2 | with_reducible exact h_.2.1 | with_reducible exact h_.2.2 | with_reducible exact h_.1.1 | with_reducible exact h_.2.2.1 | with_reducible exact h_.2.2.2 | with_reducible exact h_.2.2.2.1 | with_reducible exact h_.2.2.2.2 | with_reducible exact h_.1.2.1 | with_reducible exact h_.1.2.2 | with_reducible exact h_.2.2.2.2.1 | with_reducible exact h_.1.1.2 | with_reducible exact h_.1.2.2.1) | (first | with_reducible exact h_.2 | with_reducible exact h_.1 | with_reducible exact h_.1.2 | with_reducible exact h_.2.1 | with_reducible exact h_.2.2 | with_reducible exact h_.1.1 | with_reducible exact h_.2.2.1 | with_reducible exact h_.2.2.2 | with_reducible exact h_.2.2.2.1 | with_reducible exact h_.2.2.2.2 | with_reducible exact h_.1.2.1 | with_reducible exact h_.1.2.2 | with_reducible exact h_.2.2.2.2.1 | with_reducible exact h_.1.1.2 | with_reducible exact h_.1.2.2.1) | (simp only [add_block]; first | with_reducible exact h_.2 | with_reducible exact h_.1 | with_reducible exact h_.1.2 | with_reducible exact h_.2.1 | with_reducible exact h_.2.2 | with_reducible exact h_.1.1 | with_reducible exact h_.2.2.1 | with_reducible exact h_.2.2.2 | with_reducible exact h_.2.2.2.1 | with_reducible exact h_.2.2.2.2 | with_reducible exact h_.1.2.1 | with_reducible exact h_.1.2.2 | with_reducible exact h_.2.2.2.2.1 | with_reducible exact h_.1.1.2 | with_reducible exact h_.1.2.2.1)))
                      rw [← Ny213.out] at ho
                      have n0_ := Aside0.mk (Kd.N_afterv (ok := (fun k_ => (w.heap.size ≤ k_) ∧ some k_ ≠ (.slice (some ad209) x5_1.length co33 : Value).ownBlock ∧ some k_ ≠ (.slice Ao43 y210.length co43 : Value).ownBlock ∧ k_ ≠ g)) (by (with_reducible repeat (first | apply Kd.N_alloc | apply Kd.N_drewN | apply Kd.N_drew)); exact Kd.N_mono HO_4.out (fun _ hk => ⟨⟨hk.1, ⟨(gives hk), ⟨(gives hk), (gives hk)⟩⟩⟩, (gives hk)⟩)) hg hat)
                      have n1_ := Aside0.mk (Kd.N_afterv (ok := (fun k_ => (w.heap.size ≤ k_) ∧ some k_ ≠ (.slice Ao31 t176.length co31 : Value).ownBlock ∧ some k_ ≠ (.slice Ao43 y210.length co43 : Value).ownBlock ∧ k_ ≠ g)) (by (with_reducible repeat (first | apply Kd.N_alloc | apply Kd.N_drewN | apply Kd.N_drew)); exact Kd.N_mono HO_5.out (fun _ hk => ⟨⟨hk.1, ⟨(gives hk), ⟨(gives hk), (gives hk)⟩⟩⟩, (gives hk)⟩)) hg hat)
                      have n2_ := Aside0.mk (IsS75.grown (by repeat (first | (with_reducible first | exact HI0.out | apply IsS75.alloc | apply IsS75.drewN | apply IsS75.drew | apply IsS75.set_1) | exact HI0.out)) hg (IsS75.own_neN HI0.out HO208.out (by decide)))
                      have n3_ := Aside0.mk (Kd.V_afterv (ok := (fun k_ => (w.heap.size ≤ k_) ∧ some k_ ≠ (.slice Ao31 t176.length co31 : Value).ownBlock ∧ some k_ ≠ (.slice Ao43 y210.length co43 : Value).ownBlock ∧ k_ ≠ g)) (by (with_reducible repeat (first | apply Kd.V_alloc | apply Kd.V_drewN | apply Kd.V_drew)); exact Kd.V_mono HO205.out (fun _ hk => ⟨⟨hk.1, ⟨(gives hk), ⟨(gives hk), (gives hk)⟩⟩⟩, (gives hk)⟩)) hg hat)
                      have n4_ := Aside0.mk (Kd.V_afterv (ok := (fun k_ => (w.heap.size ≤ k_) ∧ some k_ ≠ (.slice Ao31 t176.length co31 : Value).ownBlock ∧ some k_ ≠ (.slice (some ad209) x5_1.length co33 : Value).ownBlock ∧ some k_ ≠ (.slice Ao43 y210.length co43 : Value).ownBlock ∧ k_ ≠ g)) (by (with_reducible repeat (first | apply Kd.V_alloc | apply Kd.V_drewN | apply Kd.V_drew)); exact Kd.V_mono HL209_1.out (fun _ hk => ⟨⟨hk.1, ⟨(gives hk), ⟨(gives hk), ⟨(gives hk), (gives hk)⟩⟩⟩⟩, (gives hk)⟩)) hg hat)
                      have n5_ := Aside0.mk (Kd.N_afterv (ok := (fun k_ => (w.heap.size ≤ k_) ∧ some k_ ≠ (.slice Ao31 t176.length co31 : Value).ownBlock ∧ some k_ ≠ (.slice (some ad209) x5_1.length co33 : Value).ownBlock ∧ k_ ≠ g)) (by (with_reducible repeat (first | apply Kd.N_alloc | apply Kd.N_drewN | apply Kd.N_drew)); exact Kd.N_mono HO212.out (fun _ hk => ⟨⟨hk.1, ⟨(gives hk), ⟨(gives hk), (gives hk)⟩⟩⟩, (gives hk)⟩)) hg hat)
                      have n6_ := Aside0.mk (below_weaken (by repeat (first | (with_reducible first | exact HB.out | apply below_alloc | apply pw_below_drewN | apply below_drew1 | refine below_set ?_ (IsS75.ge HI0.out)) | exact HB.out)) HL.out hb)
                      have n7_ := Aside0.mk (KeepBut.trans (by repeat (first | (with_reducible first | exact HK.out | apply KeepBut.set_ | apply keep_drewN | apply keep_drew | apply keep_alloc) | exact HK.out)) (KeepBut.of_grown hg g) (Kd.N_base2 HO208.out))
                      have n8_ := Aside0.mk (ho)
                      clear HO_4
                      clear HO_5
                      clear HI0
                      clear HO205
                      clear HL209_1
                      clear HO212
                      clear HB
                      clear HK
                      clear HO208
                      have HO_4 := n0_
                      have HO_5 := n1_
                      have HI0 := n2_
                      have HO205 := n3_
                      have HL209_1 := n4_
                      have HO212 := n5_
                      have HB := n6_
                      have HK := n7_
                      have HO215 := n8_
                      clear n0_ n1_ n2_ n3_ n4_ n5_ n6_ n7_ n8_
                      clear ho hb hg hat
                      refine hK.out _ _ ⟨HS0_, HS1_⟩ (fun hHeld => ?_)
                      clear hK K
                      refine norm_ (a' := ?_) ?_ ?_
                      rotate_left
                      · show Act.put _ (some 46) _ = _
                        simp only [Act.put, List.setIfInBounds_toArray, List.set_cons_zero, List.set_cons_succ, i64_w, i32_w]
                        rfl
                      refine pure_ (i := 9) (N := some 5) (v := ?_) (a' := ?_) #[true, true, true, true, true, true, true, true, true, true] rfl rfl (any_of HT_.out (by kernel_rfl)) (fun _ _ _ h => h) (Or.inl ⟨by rfl, ?_⟩) ?_ ?_
                      rotate_left
                      · intro w'
                        go_simp
                        with_reducible rfl
                      rotate_left
                      · simp only [Act.put, List.setIfInBounds_toArray, List.set_cons_zero, List.set_cons_succ, i64_w, i32_w]
                        rfl
                      refine done_ (done_of HT_.out (by kernel_rfl)) ?_
                      try go_wp2
                      go_ret2
                      exact ⟨_, _, by first | rfl | (simp [errW_none, errW_some] <;> rfl) | (simp [*, errW_none, errW_some] <;> rfl), by (with_reducible repeat (first | apply Kd.N_alloc | apply Kd.N_drewN | apply Kd.N_drew)); exact Kd.N_mono HO_4.out (fun _ hk => ⟨(by first | exact gives hk | exact hk.1.1), hk.2⟩), by (with_reducible repeat (first | apply Kd.N_alloc | apply Kd.N_drewN | apply Kd.N_drew)); exact Kd.N_mono HO215.out (fun _ hk => ⟨hk.1, (by first | exact gives hk | exact hk.2.1)⟩), by repeat (first | (with_reducible first | exact HI0.out | apply IsS75.alloc | apply IsS75.drewN | apply IsS75.drew | apply IsS75.set_1) | exact HI0.out), by repeat (first | (with_reducible first | exact HB.out | apply below_alloc | apply pw_below_drewN | apply below_drew1 | refine below_set ?_ (IsS75.ge HI0.out)) | exact HB.out), by repeat (first | (with_reducible first | exact HK.out | apply KeepBut.set_ | apply keep_drewN | apply keep_drew | apply keep_alloc) | exact HK.out)⟩
                    · rw [if_neg c30] at H
                      exact absurd H (by simp)
                  · rw [if_neg c29] at H
                    exact absurd H (by simp)
                · rw [if_neg c28] at H
                  exact absurd H (by simp)
              · rw [if_neg c27] at H
                exact absurd H (by simp)
            · rw [if_neg c26] at H
              have c26b0 : decide (1 < (x5_1.length : Int)) = false := decide_eq_false c26
              have c26b1 : decide (1 < x5_1.length) = false := decide_eq_false (by omega)
              clear c26
              simp only [Option.some.injEq, Prod.mk.injEq] at H
              obtain ⟨rfl, rfl, rfl⟩ := H
              obtain ⟨Ao44, co44, eo44⟩ := Kd.N_slice HO_4.out
              subst eo44
              go_wp2_with (first | ((with_reducible refine gate_callee (f := 61) rfl ?_); refine goesL_ (some 27) rfl rfl Try.func61 (by kernel_rfl) rfl #[.pointer (some ⟨g, 0, none⟩), .int .i64 5] rfl (by (try simp only [List.map_toArray, List.map_cons, List.map_nil]); first | done | rfl | (simp only [List.length_drop, List.length_take]; rfl)) ?_; (with_reducible refine (spec_reader_pick.calls k1 g s0_0 x1001_1 5 t192 t193 w0 _ ?side1 ?side2 A19.out).mono ?_); (case side1 => repeat (first | (with_reducible first | exact HI0.out | apply IsS75.alloc | apply IsS75.drewN | apply IsS75.drew | apply IsS75.set_1) | exact HI0.out)); (case side2 => repeat (first | (with_reducible first | exact HB.out | apply below_alloc | apply pw_below_drewN | apply below_drew1 | refine below_set ?_ (IsS75.ge HI0.out)) | exact HB.out)); rintro e w45 ⟨rfl, hi, hb, hk⟩; refine ⟨_, rfl, ?_⟩; have n0_ := Aside0.mk (Kd.N_mono (Kd.N_keep (Kd.N_mono (ok := fun k_ => (((w.heap.size ≤ k_)) ∧ (some k_ ≠ (u5 : Value).ownBlock ∧ k_ ≠ g))) (by (with_reducible repeat (first | apply Kd.N_alloc | apply Kd.N_drewN | apply Kd.N_drew)); exact HO_4.out) (fun k_ hk_ => (⟨hk_, (gives hk_)⟩ : _ ∧ k_ ≠ g))) hk (fun _ h => h.2)) (fun _ h => h.1)); have n1_ := Aside0.mk (Kd.N_mono (Kd.N_keep (Kd.N_mono (ok := fun k_ => (((w.heap.size ≤ k_)) ∧ (some k_ ≠ (.slice Ao44 t176.length co44 : Value).ownBlock ∧ k_ ≠ g))) (by (with_reducible repeat (first | apply Kd.N_alloc | apply Kd.N_drewN | apply Kd.N_drew)); exact HO_5.out) (fun k_ hk_ => (⟨hk_, (gives hk_)⟩ : _ ∧ k_ ≠ g))) hk (fun _ h => h.2)) (fun _ h => h.1)); have n2_ := Aside0.mk (KeepBut.trans (by repeat (first | (with_reducible first | exact HK.out | apply KeepBut.set_ | apply keep_drewN | apply keep_drew | apply keep_alloc) | exact HK.out)) hk (.inl rfl)); have n3_ := Aside0.mk (hb); have n4_ := Aside0.mk (hi); clear HO_4; clear HO_5; clear HK; clear HB; clear HI0; have HO_4 := n0_; have HO_5 := n1_; have HK := n2_; have HB := n3_; have HI0 := n4_; clear n0_ n1_ n2_ n3_ n4_; (try clear hb); (try clear hb2); (try clear hk); (try clear hi); obtain ⟨Ao46, co46, eo46⟩ := Kd.N_slice HO_5.out; subst eo46))
              go_ret2
              exact ⟨_, _, by first | rfl | (simp [errW_none, errW_some] <;> rfl) | (simp [*, errW_none, errW_some] <;> rfl), by (with_reducible repeat (first | apply Kd.N_alloc | apply Kd.N_drewN | apply Kd.N_drew)); exact Kd.N_mono HO_4.out (fun _ hk => ⟨hk.1, (by first | exact gives hk | exact hk.2.1)⟩), by (with_reducible repeat (first | apply Kd.N_alloc | apply Kd.N_drewN | apply Kd.N_drew)); exact Kd.N_mono HO_5.out (fun _ hk => ⟨hk.1, (by first | exact gives hk | exact hk.2.1)⟩), by repeat (first | (with_reducible first | exact HI0.out | apply IsS75.alloc | apply IsS75.drewN | apply IsS75.drew | apply IsS75.set_1) | exact HI0.out), by repeat (first | (with_reducible first | exact HB.out | apply below_alloc | apply pw_below_drewN | apply below_drew1 | refine below_set ?_ (IsS75.ge HI0.out)) | exact HB.out), by repeat (first | (with_reducible first | exact HK.out | apply KeepBut.set_ | apply keep_drewN | apply keep_drew | apply keep_alloc) | exact HK.out)⟩
          · rw [if_neg c25] at H
            have c25b0 : (t192 == 1) = false := beq_eq_false_iff_ne.mpr c25
            have c25b1 : (t192 != 1) = true := bne_iff_ne.mpr c25
            simp only [Option.some.injEq, Prod.mk.injEq] at H
            obtain ⟨rfl, rfl, rfl⟩ := H
            obtain ⟨Ao47, co47, eo47⟩ := Kd.N_slice HO_4.out
            subst eo47
            go_wp2_with (first | ((with_reducible refine gate_callee (f := 61) rfl ?_); refine goesL_ (some 27) rfl rfl Try.func61 (by kernel_rfl) rfl #[.pointer (some ⟨g, 0, none⟩), .int .i64 5] rfl (by (try simp only [List.map_toArray, List.map_cons, List.map_nil]); first | done | rfl | (simp only [List.length_drop, List.length_take]; rfl)) ?_; (with_reducible refine (spec_reader_pick.calls k1 g s0_0 x1001_1 5 t192 t193 w0 _ ?side1 ?side2 A19.out).mono ?_); (case side1 => repeat (first | (with_reducible first | exact HI0.out | apply IsS75.alloc | apply IsS75.drewN | apply IsS75.drew | apply IsS75.set_1) | exact HI0.out)); (case side2 => repeat (first | (with_reducible first | exact HB.out | apply below_alloc | apply pw_below_drewN | apply below_drew1 | refine below_set ?_ (IsS75.ge HI0.out)) | exact HB.out)); rintro e w48 ⟨rfl, hi, hb, hk⟩; refine ⟨_, rfl, ?_⟩; have n0_ := Aside0.mk (Kd.N_mono (Kd.N_keep (Kd.N_mono (ok := fun k_ => (((w.heap.size ≤ k_)) ∧ (some k_ ≠ (u5 : Value).ownBlock ∧ k_ ≠ g))) (by (with_reducible repeat (first | apply Kd.N_alloc | apply Kd.N_drewN | apply Kd.N_drew)); exact HO_4.out) (fun k_ hk_ => (⟨hk_, (gives hk_)⟩ : _ ∧ k_ ≠ g))) hk (fun _ h => h.2)) (fun _ h => h.1)); have n1_ := Aside0.mk (Kd.N_mono (Kd.N_keep (Kd.N_mono (ok := fun k_ => (((w.heap.size ≤ k_)) ∧ (some k_ ≠ (.slice Ao47 t176.length co47 : Value).ownBlock ∧ k_ ≠ g))) (by (with_reducible repeat (first | apply Kd.N_alloc | apply Kd.N_drewN | apply Kd.N_drew)); exact HO_5.out) (fun k_ hk_ => (⟨hk_, (gives hk_)⟩ : _ ∧ k_ ≠ g))) hk (fun _ h => h.2)) (fun _ h => h.1)); have n2_ := Aside0.mk (KeepBut.trans (by repeat (first | (with_reducible first | exact HK.out | apply KeepBut.set_ | apply keep_drewN | apply keep_drew | apply keep_alloc) | exact HK.out)) hk (.inl rfl)); have n3_ := Aside0.mk (hb); have n4_ := Aside0.mk (hi); clear HO_4; clear HO_5; clear HK; clear HB; clear HI0; have HO_4 := n0_; have HO_5 := n1_; have HK := n2_; have HB := n3_; have HI0 := n4_; clear n0_ n1_ n2_ n3_ n4_; (try clear hb); (try clear hb2); (try clear hk); (try clear hi)))
            go_ret2
            exact ⟨_, _, by first | rfl | (simp [errW_none, errW_some] <;> rfl) | (simp [*, errW_none, errW_some] <;> rfl), by (with_reducible repeat (first | apply Kd.N_alloc | apply Kd.N_drewN | apply Kd.N_drew)); exact Kd.N_mono HO_4.out (fun _ hk => ⟨hk.1, (by first | exact gives hk | exact hk.2.1)⟩), by (with_reducible repeat (first | apply Kd.N_alloc | apply Kd.N_drewN | apply Kd.N_drew)); exact Kd.N_mono HO_5.out (fun _ hk => ⟨hk.1, (by first | exact gives hk | exact hk.2.1)⟩), by repeat (first | (with_reducible first | exact HI0.out | apply IsS75.alloc | apply IsS75.drewN | apply IsS75.drew | apply IsS75.set_1) | exact HI0.out), by repeat (first | (with_reducible first | exact HB.out | apply below_alloc | apply pw_below_drewN | apply below_drew1 | refine below_set ?_ (IsS75.ge HI0.out)) | exact HB.out), by repeat (first | (with_reducible first | exact HK.out | apply KeepBut.set_ | apply keep_drewN | apply keep_drew | apply keep_alloc) | exact HK.out)⟩

/-! ### spec_DrawAnyOrder: function 22 -/
def spec_DrawAnyOrder.f (k : Nat) (l0 : List Int) : Option ((List (S30)) × (List (S30))) := (spec_newReader.f l0).bind fun bt216 => ((spec_twoCalls.f k bt216.1 bt216.2).bind fun bt219 => (some (bt219.1, bt219.2.1)))
theorem spec_DrawAnyOrder.mono : ∀ a0 k, LeO (spec_DrawAnyOrder.f k a0) (spec_DrawAnyOrder.f (k + 1) a0) := by
  intro a0 k
  unfold spec_DrawAnyOrder.f
  repeat' first
      | (with_reducible exact spec_twoCalls.mono _ _ _)
      | (with_reducible exact LeO.refl _)
      | (with_reducible exact LeO.none _)
      | (with_reducible refine LeO.ite ?_ ?_)
      | (with_reducible refine LeO.bind ?_ (fun _ => ?_))
      | exact spec_twoCalls.mono _ _ _
      | exact LeO.none _
      | refine LeO.ite ?_ ?_
      | refine LeO.bind ?_ (fun _ => ?_)
set_option maxHeartbeats 8000000 in
set_option maxRecDepth 100000 in
theorem spec_DrawAnyOrder.calls (k : Nat) (A0 : Option Addr) (c0 : Nat) (l0 : List Int) (r1 : List (S30)) (r2 : List (S30)) (w : World) (hr0 : Kd.C (Kd.int .u8) w A0 l0.length l0) (hc0 : l0.length ≤ c0) (h : spec_DrawAnyOrder.f k l0 = some (r1, r2)) :
    Calls Try.prog 22 #[.slice A0 l0.length c0] w fun e w' => ∃ v0_ v1_ : Value, e = .returned (.tuple #[v0_, v1_]) ∧ Kd.N k30 30 w' w.heap.size (fun k_ => (w.heap.size ≤ k_) ∧ some k_ ≠ (v1_ : Value).ownBlock) v0_ r1 ∧ Kd.N k30 30 w' w.heap.size (fun k_ => (w.heap.size ≤ k_) ∧ some k_ ≠ (v0_ : Value).ownBlock) v1_ r2 ∧ Below w.heap.size w w' := by
  have HR0 := Aside0.mk hr0
  have HC0 := Aside0.mk hc0
  clear hr0 hc0
  have HB := Aside0.mk (Below.refl w.heap.size w)
  have H : ((spec_newReader.f l0).bind fun bt216 => ((spec_twoCalls.f k bt216.1 bt216.2).bind fun bt219 => (some (bt219.1, bt219.2.1)))) = some (r1, r2) := h
  clear h
  replace H := Option.bind_eq_some_iff.mp H
  obtain ⟨⟨t216, t217⟩, A20, H⟩ := H
  replace H : ((spec_twoCalls.f k t216 t217).bind fun bt219 => (some (bt219.1, bt219.2.1))) = some (r1, r2) := H
  have A2 := Aside0.mk A20
  clear A20
  replace H := Option.bind_eq_some_iff.mp H
  obtain ⟨⟨t219, t222, t225⟩, A30, H⟩ := H
  replace H : (some (t219, t222)) = some (r1, r2) := H
  have A3 := Aside0.mk A30
  clear A30
  simp only [Option.some.injEq, Prod.mk.injEq] at H
  obtain ⟨rfl, rfl⟩ := H
  go_enter Try.func22, Try.ntmps22
  go_wp2_with (first | ((with_reducible refine gate_callee (f := 37) rfl ?_); refine goesL_ (some 5) rfl rfl Try.func37 (by kernel_rfl) rfl #[.slice A0 l0.length c0] rfl (by (try simp only [List.map_toArray, List.map_cons, List.map_nil]); first | done | rfl | (simp only [List.length_drop, List.length_take]; rfl)) ?_; (with_reducible refine (spec_newReader.calls _ _ l0 t216 t217 w _ ?side1 ?side2 ?side3 A2.out).mono ?_); (case side1 => repeat (first | (with_reducible first | exact HB.out | apply below_alloc | apply pw_below_drewN | apply below_drew1) | exact HB.out)); (case side2 => exact HR0.out); (case side3 => exact HC0.out); rintro e w4 ⟨g218, rfl, hi, hb, hb2⟩; refine ⟨_, rfl, ?_⟩; have n0_ := Aside0.mk (hb); have n1_ := Aside0.mk (hi); clear HB; have HB := n0_; have HI218 := n1_; clear n0_ n1_; (try clear hb); (try clear hb2); (try clear hk); (try clear hi)) | ((with_reducible refine gate_callee (f := 48) rfl ?_); refine goesL_ (some 6) rfl rfl Try.func48 (by kernel_rfl) rfl #[.pointer (some ⟨g218, 0, none⟩)] rfl (by (try simp only [List.map_toArray, List.map_cons, List.map_nil]); first | done | rfl | (simp only [List.length_drop, List.length_take]; rfl)) ?_; (with_reducible refine (spec_twoCalls.calls k g218 t216 t217 t219 t222 t225 w _ ?side1 ?side2 A3.out).mono ?_); (case side1 => repeat (first | (with_reducible first | exact HI218.out | apply IsS75.alloc | apply IsS75.drewN | apply IsS75.drew | apply IsS75.set_1) | exact HI218.out)); (case side2 => repeat (first | (with_reducible first | exact HB.out | apply below_alloc | apply pw_below_drewN | apply below_drew1 | refine below_set ?_ (IsS75.ge HI218.out)) | exact HB.out)); rintro e w5 ⟨v220, v223, rfl, ho0, ho1, hi, hb, hk⟩; refine ⟨_, rfl, ?_⟩; have n0_ := Aside0.mk (Kd.N_lower (Kd.N_mono (ok' := fun k_ => (w.heap.size ≤ k_) ∧ some k_ ≠ (v223 : Value).ownBlock ∧ k_ ≠ g218) ho0 (fun k_ hk_ => ⟨(Nat.le_trans (below_size (by repeat (first | (with_reducible first | exact HB.out | apply below_alloc | apply pw_below_drewN | apply below_drew1 | refine below_set ?_ (IsS75.ge HI218.out)) | exact HB.out))) hk_.1), hk_.2, (IsS75.fresh (by repeat (first | (with_reducible first | exact HI218.out | apply IsS75.alloc | apply IsS75.drewN | apply IsS75.drew | apply IsS75.set_1) | exact HI218.out)) k_ hk_.1)⟩)) (below_size (by repeat (first | (with_reducible first | exact HB.out | apply below_alloc | apply pw_below_drewN | apply below_drew1 | refine below_set ?_ (IsS75.ge HI218.out)) | exact HB.out)))); have n1_ := Aside0.mk (Kd.N_lower (Kd.N_mono (ok' := fun k_ => (w.heap.size ≤ k_) ∧ some k_ ≠ (v220 : Value).ownBlock ∧ k_ ≠ g218) ho1 (fun k_ hk_ => ⟨(Nat.le_trans (below_size (by repeat (first | (with_reducible first | exact HB.out | apply below_alloc | apply pw_below_drewN | apply below_drew1 | refine below_set ?_ (IsS75.ge HI218.out)) | exact HB.out))) hk_.1), hk_.2, (IsS75.fresh (by repeat (first | (with_reducible first | exact HI218.out | apply IsS75.alloc | apply IsS75.drewN | apply IsS75.drew | apply IsS75.set_1) | exact HI218.out)) k_ hk_.1)⟩)) (below_size (by repeat (first | (with_reducible first | exact HB.out | apply below_alloc | apply pw_below_drewN | apply below_drew1 | refine below_set ?_ (IsS75.ge HI218.out)) | exact HB.out)))); have n2_ := Aside0.mk (hb); have n3_ := Aside0.mk (hi); clear HB; clear HI218; have HO221 := n0_; have HO224 := n1_; have HB := n2_; have HI218 := n3_; clear n0_ n1_ n2_ n3_; (try clear hb); (try clear hb2); (try clear hk); (try clear hi); (try clear ho0); (try clear ho1)))
  go_ret2
  exact ⟨_, _, by first | rfl | (simp [errW_none, errW_some] <;> rfl) | (simp [*, errW_none, errW_some] <;> rfl), by (with_reducible repeat (first | apply Kd.N_alloc | apply Kd.N_drewN | apply Kd.N_drew)); exact Kd.N_mono HO221.out (fun _ hk => ⟨hk.1, (by first | exact gives hk | exact hk.2.1)⟩), by (with_reducible repeat (first | apply Kd.N_alloc | apply Kd.N_drewN | apply Kd.N_drew)); exact Kd.N_mono HO224.out (fun _ hk => ⟨hk.1, (by first | exact gives hk | exact hk.2.1)⟩), by repeat (first | (with_reducible first | exact HB.out | apply below_alloc | apply pw_below_drewN | apply below_drew1 | refine below_set ?_ (IsS75.ge HI218.out)) | exact HB.out)⟩

end Go.Proofs.Ytihmgjefndkfeaa.OFnAnyOrder

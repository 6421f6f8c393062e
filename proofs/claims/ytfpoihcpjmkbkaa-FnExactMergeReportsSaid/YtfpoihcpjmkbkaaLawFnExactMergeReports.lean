/- The row of the law FnExactMergeReports: for every input that reads as data the call returns true and the input reads as before. No conditions. -/
import Derived.Test.YtfpoihcpjmkbkaaRows
import Derived.Test.YtfpoihcpjmkbkaaOFnExactMergeReportsx7
import Derived.Test.YtfpoihcpjmkbkaaPureFnExactMergeReports
import Derived.Test.YtfpoihcpjmkbkaaOpen
import Derived.Test.YtfpoihcpjmkbkaaWSized
import Derived.WalkKit
import Derived.ProofKit
import Derived.OpenShut
import Derived.ShutString
import Derived.ChangeOld
import Derived.Below
import Derived.SizedLaws
namespace Go.Proofs.Ytfpoihcpjmkbkaa.fnExactMergeReports
open Go.ChangeShapes Go.WideShapes Go.ChangeAt Go.RowKit
open Go.ChangeMaps (open_string shut_string)
open Go.Proofs.YtfpoihcpjmkbkaaW.PrintWords Go.Proofs.Ytfpoihcpjmkbkaa.OFnExactMergeReports Go.Proofs.Ytfpoihcpjmkbkaa.Open Go.Proofs.Ytfpoihcpjmkbkaa.Pure.QFnExactMergeReports
set_option linter.unusedVariables false
theorem own : ownKnob Try.prog.godebug = none := by kernel_rfl
theorem laidOut : laidOutB Try.prog = true := by kernel_rfl
theorem op80 : Opens Try.prog 80 k80 Q80 :=
  opens_iso (fun x : S80 => (x.f0, x.f1)) (fun y => ⟨y.1, y.2⟩) (fun _ => rfl) (opens_struct Try.underlying80 rfl (by kernel_rfl) (opensAt_cons rfl (by kernel_rfl) (opens_string Try.underlying9) (opensAt_one rfl (by kernel_rfl) (opens_int Try.underlying3))))
set_option maxRecDepth 100000 in
theorem lifted (os : Os) (started : os.Started) (H : Type) (enc : TypeId × Value → H) :
    ReturnsInHanded {} Try.checked os 9 .any (Rows.fnExactMergeReportsSpec.pre6 enc Try.prog Try.f9 Rows.fnExactMergeReportsRow.domain false) (Rows.fnExactMergeReportsSpec.post enc Try.prog Try.f9 false true false false) := by
  refine returnsInHanded_of_change_sized (C := Try.checked) own started (by kernel_rfl) Try.func9
    (ChangeSpec.witness6 (enc := enc) (C := Try.checked) false ⟨#[], #[.agg #[.slice none 0 0, .slice none 0 0], .agg #[.slice none 0 0, .slice none 0 0]], []⟩ 12 (by kernel_rfl) (by kernel_rfl) (by kernel_rfl) (by kernel_rfl)) ?_
  intro W base args ds gs before hval0 hW hcnd hsz0 _
  have hsz : (DataW.weightsEach Try.prog (Try.f9.params.toList ++ Rows.fnExactMergeReportsSpec.plain.varTypes Try.prog) (ds ++ gs)).all (· ≤ reachBytes) = true := hsz0
  have hval : ∀ (j : Nat) t v, Try.f9.params[j]? = some t → args[j]? = some v → Value.okWide Try.prog W .any base t v := hval0
  have hW' := hW
  obtain ⟨p, q, hA0, hV, rfl, hfz, hnd⟩ := hW
  have hA : DataW.TrodAll enc Try.prog W 0 (fun _ => true) true Try.f9.params.toList args.toList ds p := hA0
  rw [Try.params9] at hA hval hsz
  obtain ⟨v0, vs0, d0, ds0, p0, q0, hargs, rfl, rfl, h0, r0⟩ := trodAll_cons hA
  obtain ⟨v1, vs1, d1, ds1, p1, q1, rfl, rfl, rfl, h1, r1⟩ := trodAll_cons r0
  obtain ⟨rfl, rfl, rfl⟩ := trodAll_nil r1
  obtain rfl : args = #[v0, v1] := by cases args; simp_all
  obtain ⟨rfl, rfl⟩ := trodVars_none hV
  obtain ⟨cs0, rfl, hsz0⟩ := okWide_struct Try.underlying41 (hval 0 41 v0 rfl rfl)
  have k0 := h0
  have lt0 : ∀ x ∈ p0, x.block < W.heap.size := by obtain ⟨m, hm⟩ := k0; exact DataW.trod_lt m _ _ _ hm
  obtain ⟨⟨l0_0, l0_1⟩, hK0, hq0⟩ := arg_any (d := (Kd.pair (Kd.slice 80 k80) (Kd.slice 9 Kd.string))) (opens_struct Try.underlying41 rfl (by kernel_rfl) (opensAt_cons rfl (by kernel_rfl) (opens_slice _ Try.underlying39 (by kernel_rfl) op80) (opensAt_one rfl (by kernel_rfl) (opens_slice _ Try.underlying24 (by kernel_rfl) (opens_string Try.underlying9))))) h0
  have hq0 : ((l0_0.length ≤ 9223372036854775807 ∧ ∀ y ∈ l0_0, Q80 y)) ∧ ((l0_1.length ≤ 9223372036854775807 ∧ ∀ y ∈ l0_1, y.size ≤ 9223372036854775807)) := hq0
  obtain ⟨c0_0, d0_0, e0_0, hk0_0, hK0_1⟩ := hK0
  have hk0_1 := hK0_1
  obtain ⟨a0_0, cap0_0, s0_0, hc0_0, hr0_0⟩ := hk0_0
  obtain ⟨a0_1, cap0_1, s0_1, hc0_1, hr0_1⟩ := hk0_1
  obtain rfl : cs0 = #[.slice a0_0 l0_0.length cap0_0, .slice a0_1 l0_1.length cap0_1] := by
    apply Array.toList_inj.1
    have z0 : (Value.agg cs0).cells.toList = cs0.toList := rfl
    have z : cs0.toList = [.slice a0_0 l0_0.length cap0_0, .slice a0_1 l0_1.length cap0_1] := by first | (rw [← z0, e0_0, s0_0, s0_1]; done) | (rw [← z0, e0_0, s0_0, s0_1]; rfl)
    exact z
  obtain ⟨cs1, rfl, hsz1⟩ := okWide_struct Try.underlying41 (hval 1 41 v1 rfl rfl)
  have k1 := h1
  have lt1 : ∀ x ∈ p1, x.block < W.heap.size := by obtain ⟨m, hm⟩ := k1; exact DataW.trod_lt m _ _ _ hm
  obtain ⟨⟨l1_0, l1_1⟩, hK1, hq1⟩ := arg_any (d := (Kd.pair (Kd.slice 80 k80) (Kd.slice 9 Kd.string))) (opens_struct Try.underlying41 rfl (by kernel_rfl) (opensAt_cons rfl (by kernel_rfl) (opens_slice _ Try.underlying39 (by kernel_rfl) op80) (opensAt_one rfl (by kernel_rfl) (opens_slice _ Try.underlying24 (by kernel_rfl) (opens_string Try.underlying9))))) h1
  have hq1 : ((l1_0.length ≤ 9223372036854775807 ∧ ∀ y ∈ l1_0, Q80 y)) ∧ ((l1_1.length ≤ 9223372036854775807 ∧ ∀ y ∈ l1_1, y.size ≤ 9223372036854775807)) := hq1
  obtain ⟨c1_0, d1_0, e1_0, hk1_0, hK1_1⟩ := hK1
  have hk1_1 := hK1_1
  obtain ⟨a1_0, cap1_0, s1_0, hc1_0, hr1_0⟩ := hk1_0
  obtain ⟨a1_1, cap1_1, s1_1, hc1_1, hr1_1⟩ := hk1_1
  obtain rfl : cs1 = #[.slice a1_0 l1_0.length cap1_0, .slice a1_1 l1_1.length cap1_1] := by
    apply Array.toList_inj.1
    have z0 : (Value.agg cs1).cells.toList = cs1.toList := rfl
    have z : cs1.toList = [.slice a1_0 l1_0.length cap1_0, .slice a1_1 l1_1.length cap1_1] := by first | (rw [← z0, e1_0, s1_0, s1_1]; done) | (rw [← z0, e1_0, s1_0, s1_1]; rfl)
    exact z
  clear hA0 hval0 hsz0 hsz
  obtain ⟨k, hk⟩ := main l0_0 l0_1 hq0 l1_0 l1_1 hq1
  refine (laws_FnExactMergeReports.calls k a0_0 cap0_0 l0_0 a0_1 cap0_1 l0_1 a1_0 cap1_0 l1_0 a1_1 cap1_1 l1_1 true W hr0_0 hc0_0 hr0_1 hc0_1 hr1_0 hc1_0 hr1_1 hc1_1 hk).mono fun e W' ⟨he, bel⟩ => ?_
  subst he
  exact ⟨_, rfl, _, _, _, [], _, [], hW', trodAll_mk1 (shut_bool Try.underlying4 _), (trodAll_cons_mk (Below.trod laidOut (by kernel_rfl) (of_decide_eq_true (by kernel_rfl)) k0 bel lt0) (trodAll_cons_mk (Below.trod laidOut (by kernel_rfl) (of_decide_eq_true (by kernel_rfl)) k1 bel lt1) trodAll_mk0)), rfl, bel.frame _, fun h => by cases h⟩
theorem over : Rows.fnExactMergeReportsRow.holds Try.pinned (OpenSpec.ofChange Rows.fnExactMergeReportsSpec) :=
  OpenClaim.holds_of_wide 9 Try.f9 rfl rfl rfl rfl rfl rfl rfl ⟨rfl, rfl, rfl, rfl, rfl⟩ rfl rfl rfl rfl rfl (by kernel_rfl) Try.func9 (by kernel_rfl)
    (of_decide_eq_true (by kernel_rfl)) (by unfold Func.isWrapper; first | (rw [if_pos (by decide +kernel)]; kernel_rfl) | (rw [if_neg (by decide +kernel)]; exact ⟨rfl, rfl⟩))
    (fun os started H enc _ => lifted os started H enc)
theorem proved : Rows.FnExactMergeReportsSaid := over
#print axioms proved
end Go.Proofs.Ytfpoihcpjmkbkaa.fnExactMergeReports
namespace Go.Proofs.Ytfpoihcpjmkbkaa
/-- The row, under a short name, for the claim. -/
theorem fnExactMergeReports_holds : Rows.FnExactMergeReportsSaid := fnExactMergeReports.proved
end Go.Proofs.Ytfpoihcpjmkbkaa

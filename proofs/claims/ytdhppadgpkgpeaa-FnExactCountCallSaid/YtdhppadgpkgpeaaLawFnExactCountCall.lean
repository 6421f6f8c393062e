/- The row of the law FnExactCountCall: for every input that reads as data the call returns true and the input reads as before. No conditions. -/
import Derived.Test.YtdhppadgpkgpeaaRows
import Derived.Test.YtdhppadgpkgpeaaOFnExactCountCallx6
import Derived.Test.YtdhppadgpkgpeaaPureFnExactCountCall
import Derived.Test.YtdhppadgpkgpeaaOpen
import Derived.Test.YtdhppadgpkgpeaaWSized
import Derived.WalkKit
import Derived.ProofKit
import Derived.OpenShut
import Derived.ShutString
import Derived.ChangeOld
import Derived.Below
import Derived.SizedLaws
namespace Go.Proofs.Ytdhppadgpkgpeaa.fnExactCountCall
open Go.ChangeShapes Go.WideShapes Go.ChangeAt Go.RowKit
open Go.ChangeMaps (open_string shut_string)
open Go.Proofs.YtdhppadgpkgpeaaW.PrintWords Go.Proofs.Ytdhppadgpkgpeaa.OFnExactCountCall Go.Proofs.Ytdhppadgpkgpeaa.Open Go.Proofs.Ytdhppadgpkgpeaa.Pure.QFnExactCountCall
set_option linter.unusedVariables false
theorem own : ownKnob Try.prog.godebug = none := by kernel_rfl
theorem laidOut : laidOutB Try.prog = true := by kernel_rfl
theorem op42 : Opens Try.prog 42 k42 Q42 :=
  opens_iso (fun x : S42 => (x.f0, x.f1)) (fun y => ⟨y.1, y.2⟩) (fun _ => rfl) (opens_struct Try.underlying42 rfl (by kernel_rfl) (opensAt_cons rfl (by kernel_rfl) (opens_string Try.underlying9) (opensAt_one rfl (by kernel_rfl) (opens_slice _ Try.underlying40 (by kernel_rfl) (opens_int Try.underlying3)))))
set_option maxRecDepth 100000 in
theorem lifted (os : Os) (started : os.Started) (H : Type) (enc : TypeId × Value → H) :
    ReturnsInHanded {} Try.checked os 5 .any (Rows.fnExactCountCallSpec.pre6 enc Try.prog Try.f5 Rows.fnExactCountCallRow.domain false) (Rows.fnExactCountCallSpec.post enc Try.prog Try.f5 false true false false) := by
  refine returnsInHanded_of_change_sized (C := Try.checked) own started (by kernel_rfl) Try.func5
    (ChangeSpec.witness6 (enc := enc) (C := Try.checked) false ⟨#[], #[.slice none 0 0, .agg #[.string ByteArray.empty, .slice none 0 0]], []⟩ 12 (by kernel_rfl) (by kernel_rfl) (by kernel_rfl) (by kernel_rfl)) ?_
  intro W base args ds gs before hval0 hW hcnd hsz0 _
  have hsz : (DataW.weightsEach Try.prog (Try.f5.params.toList ++ Rows.fnExactCountCallSpec.plain.varTypes Try.prog) (ds ++ gs)).all (· ≤ reachBytes) = true := hsz0
  have hval : ∀ (j : Nat) t v, Try.f5.params[j]? = some t → args[j]? = some v → Value.okWide Try.prog W .any base t v := hval0
  have hW' := hW
  obtain ⟨p, q, hA0, hV, rfl, hfz, hnd⟩ := hW
  have hA : DataW.TrodAll enc Try.prog W 0 (fun _ => true) true Try.f5.params.toList args.toList ds p := hA0
  rw [Try.params5] at hA hval hsz
  obtain ⟨v0, vs0, d0, ds0, p0, q0, hargs, rfl, rfl, h0, r0⟩ := trodAll_cons hA
  obtain ⟨v1, vs1, d1, ds1, p1, q1, rfl, rfl, rfl, h1, r1⟩ := trodAll_cons r0
  obtain ⟨rfl, rfl, rfl⟩ := trodAll_nil r1
  obtain rfl : args = #[v0, v1] := by cases args; simp_all
  obtain ⟨rfl, rfl⟩ := trodVars_none hV
  obtain ⟨a0, len0, cap0, rfl⟩ := okWide_slice Try.underlying22 (hval 0 22 v0 rfl rfl)
  have k0 := h0
  have lt0 : ∀ x ∈ p0, x.block < W.heap.size := by obtain ⟨m, hm⟩ := k0; exact DataW.trod_lt m _ _ _ hm
  obtain ⟨l0, rfl, hc0, hr0, hm0, hq0⟩ := arg_slice Try.underlying22 (by kernel_rfl) op42 h0
  obtain ⟨cs1, rfl, hsz1⟩ := okWide_struct Try.underlying42 (hval 1 42 v1 rfl rfl)
  have k1 := h1
  have lt1 : ∀ x ∈ p1, x.block < W.heap.size := by obtain ⟨m, hm⟩ := k1; exact DataW.trod_lt m _ _ _ hm
  obtain ⟨⟨l1_0, l1_1⟩, hK1, hq1⟩ := arg_any (d := (Kd.pair Kd.string (Kd.slice 3 (Kd.int .i64)))) (opens_struct Try.underlying42 rfl (by kernel_rfl) (opensAt_cons rfl (by kernel_rfl) (opens_string Try.underlying9) (opensAt_one rfl (by kernel_rfl) (opens_slice _ Try.underlying40 (by kernel_rfl) (opens_int Try.underlying3))))) h1
  have hq1 : (l1_0.size ≤ 9223372036854775807) ∧ ((l1_1.length ≤ 9223372036854775807 ∧ ∀ y ∈ l1_1, (Lit.int .i64 y).wf = true)) := hq1
  obtain ⟨c1_0, d1_0, e1_0, hk1_0, hK1_1⟩ := hK1
  have hk1_1 := hK1_1
  have s1_0 := hk1_0
  obtain ⟨a1_1, cap1_1, s1_1, hc1_1, hr1_1⟩ := hk1_1
  obtain rfl : cs1 = #[.string l1_0, .slice a1_1 l1_1.length cap1_1] := by
    apply Array.toList_inj.1
    have z0 : (Value.agg cs1).cells.toList = cs1.toList := rfl
    have z : cs1.toList = [.string l1_0, .slice a1_1 l1_1.length cap1_1] := by first | (rw [← z0, e1_0, s1_0, s1_1]; done) | (rw [← z0, e1_0, s1_0, s1_1]; rfl)
    exact z
  clear hA0 hval0 hsz0 hsz
  obtain ⟨k, hk⟩ := main l0 hm0 hq0 l1_0 l1_1 hq1
  refine (laws_FnExactCountCall.calls k a0 cap0 l0 l1_0 a1_1 cap1_1 l1_1 true W hr0 hc0 hr1_1 hc1_1 hk).mono fun e W' ⟨he, bel⟩ => ?_
  subst he
  exact ⟨_, rfl, _, _, _, [], _, [], hW', trodAll_mk1 (shut_bool Try.underlying4 _), (trodAll_cons_mk (Below.trod laidOut (by kernel_rfl) (of_decide_eq_true (by kernel_rfl)) k0 bel lt0) (trodAll_cons_mk (Below.trod laidOut (by kernel_rfl) (of_decide_eq_true (by kernel_rfl)) k1 bel lt1) trodAll_mk0)), rfl, bel.frame _, fun h => by cases h⟩
theorem over : Rows.fnExactCountCallRow.holds Try.pinned (OpenSpec.ofChange Rows.fnExactCountCallSpec) :=
  OpenClaim.holds_of_wide 5 Try.f5 rfl rfl rfl rfl rfl rfl rfl ⟨rfl, rfl, rfl, rfl, rfl⟩ rfl rfl rfl rfl rfl (by kernel_rfl) Try.func5 (by kernel_rfl)
    (of_decide_eq_true (by kernel_rfl)) (by unfold Func.isWrapper; first | (rw [if_pos (by decide +kernel)]; kernel_rfl) | (rw [if_neg (by decide +kernel)]; exact ⟨rfl, rfl⟩))
    (fun os started H enc _ => lifted os started H enc)
theorem proved : Rows.FnExactCountCallSaid := over
#print axioms proved
end Go.Proofs.Ytdhppadgpkgpeaa.fnExactCountCall
namespace Go.Proofs.Ytdhppadgpkgpeaa
/-- The row, under a short name, for the claim. -/
theorem fnExactCountCall_holds : Rows.FnExactCountCallSaid := fnExactCountCall.proved
end Go.Proofs.Ytdhppadgpkgpeaa

/- The row of the law FnExactValidDouble: for every input that reads as data the call returns true and the input reads as before. No conditions. -/
import Derived.Test.YtdhppadgpkgpeaaRows
import Derived.Test.YtdhppadgpkgpeaaOFnExactValidDoublex5
import Derived.Test.YtdhppadgpkgpeaaPureFnExactValidDouble
import Derived.Test.YtdhppadgpkgpeaaOpen
import Derived.Test.YtdhppadgpkgpeaaWSized
import Derived.WalkKit
import Derived.ProofKit
import Derived.OpenShut
import Derived.ShutString
import Derived.ChangeOld
import Derived.Below
import Derived.SizedLaws
namespace Go.Proofs.Ytdhppadgpkgpeaa.fnExactValidDouble
open Go.ChangeShapes Go.WideShapes Go.ChangeAt Go.RowKit
open Go.ChangeMaps (open_string shut_string)
open Go.Proofs.YtdhppadgpkgpeaaW.PrintWords Go.Proofs.Ytdhppadgpkgpeaa.OFnExactValidDouble Go.Proofs.Ytdhppadgpkgpeaa.Open Go.Proofs.Ytdhppadgpkgpeaa.Pure.QFnExactValidDouble
set_option linter.unusedVariables false
theorem own : ownKnob Try.prog.godebug = none := by kernel_rfl
theorem laidOut : laidOutB Try.prog = true := by kernel_rfl
theorem op69 : Opens Try.prog 69 k69 Q69 :=
  opens_iso (fun x : S69 => (x.f0, x.f1)) (fun y => ⟨y.1, y.2⟩) (fun _ => rfl) (opens_struct Try.underlying69 rfl (by kernel_rfl) (opensAt_cons rfl (by kernel_rfl) (opens_string Try.underlying9) (opensAt_one rfl (by kernel_rfl) (opens_slice _ Try.underlying40 (by kernel_rfl) (opens_int Try.underlying3)))))
set_option maxRecDepth 100000 in
theorem lifted (os : Os) (started : os.Started) (H : Type) (enc : TypeId × Value → H) :
    ReturnsInHanded {} Try.checked os 4 .any (Rows.fnExactValidDoubleSpec.pre6 enc Try.prog Try.f4 Rows.fnExactValidDoubleRow.domain false) (Rows.fnExactValidDoubleSpec.post enc Try.prog Try.f4 false true false false) := by
  refine returnsInHanded_of_change_sized (C := Try.checked) own started (by kernel_rfl) Try.func4
    (ChangeSpec.witness6 (enc := enc) (C := Try.checked) false ⟨#[], #[.agg #[.slice none 0 0]], []⟩ 12 (by kernel_rfl) (by kernel_rfl) (by kernel_rfl) (by kernel_rfl)) ?_
  intro W base args ds gs before hval0 hW hcnd hsz0 _
  have hsz : (DataW.weightsEach Try.prog (Try.f4.params.toList ++ Rows.fnExactValidDoubleSpec.plain.varTypes Try.prog) (ds ++ gs)).all (· ≤ reachBytes) = true := hsz0
  have hval : ∀ (j : Nat) t v, Try.f4.params[j]? = some t → args[j]? = some v → Value.okWide Try.prog W .any base t v := hval0
  have hW' := hW
  obtain ⟨p, q, hA0, hV, rfl, hfz, hnd⟩ := hW
  have hA : DataW.TrodAll enc Try.prog W 0 (fun _ => true) true Try.f4.params.toList args.toList ds p := hA0
  rw [Try.params4] at hA hval hsz
  obtain ⟨v0, vs0, d0, ds0, p0, q0, hargs, rfl, rfl, h0, r0⟩ := trodAll_cons hA
  obtain ⟨rfl, rfl, rfl⟩ := trodAll_nil r0
  obtain rfl : args = #[v0] := by cases args; simp_all
  obtain ⟨rfl, rfl⟩ := trodVars_none hV
  obtain ⟨cs0, rfl, hsz0⟩ := okWide_struct Try.underlying31 (hval 0 31 v0 rfl rfl)
  have k0 := h0
  have lt0 : ∀ x ∈ p0, x.block < W.heap.size := by obtain ⟨m, hm⟩ := k0; exact DataW.trod_lt m _ _ _ hm
  obtain ⟨l0_0, hK0, hq0⟩ := arg_any (d := (Kd.slice 69 k69)) (opens_struct Try.underlying31 rfl (by kernel_rfl) (opensAt_one rfl (by kernel_rfl) (opens_slice _ Try.underlying29 (by kernel_rfl) op69))) h0
  have hq0 : ((l0_0.length ≤ 9223372036854775807 ∧ ∀ y ∈ l0_0, Q69 y)) := hq0
  have hk0_0 := hK0
  obtain ⟨a0_0, cap0_0, s0_0, hc0_0, hr0_0⟩ := hk0_0
  obtain rfl : cs0 = #[.slice a0_0 l0_0.length cap0_0] := by
    apply Array.toList_inj.1
    have z0 : (Value.agg cs0).cells.toList = cs0.toList := rfl
    have z : cs0.toList = [.slice a0_0 l0_0.length cap0_0] := by first | (rw [← z0, s0_0]; done) | (rw [← z0, s0_0]; rfl)
    exact z
  clear hA0 hval0 hsz0 hsz
  obtain ⟨k, hk⟩ := main l0_0 hq0
  refine (laws_FnExactValidDouble.calls k a0_0 cap0_0 l0_0 true W hr0_0 hc0_0 hk).mono fun e W' ⟨he, bel⟩ => ?_
  subst he
  exact ⟨_, rfl, _, _, _, [], _, [], hW', trodAll_mk1 (shut_bool Try.underlying4 _), (trodAll_cons_mk (Below.trod laidOut (by kernel_rfl) (of_decide_eq_true (by kernel_rfl)) k0 bel lt0) trodAll_mk0), rfl, bel.frame _, fun h => by cases h⟩
theorem over : Rows.fnExactValidDoubleRow.holds Try.pinned (OpenSpec.ofChange Rows.fnExactValidDoubleSpec) :=
  OpenClaim.holds_of_wide 4 Try.f4 rfl rfl rfl rfl rfl rfl rfl ⟨rfl, rfl, rfl, rfl, rfl⟩ rfl rfl rfl rfl rfl (by kernel_rfl) Try.func4 (by kernel_rfl)
    (of_decide_eq_true (by kernel_rfl)) (by unfold Func.isWrapper; first | (rw [if_pos (by decide +kernel)]; kernel_rfl) | (rw [if_neg (by decide +kernel)]; exact ⟨rfl, rfl⟩))
    (fun os started H enc _ => lifted os started H enc)
theorem proved : Rows.FnExactValidDoubleSaid := over
#print axioms proved
end Go.Proofs.Ytdhppadgpkgpeaa.fnExactValidDouble
namespace Go.Proofs.Ytdhppadgpkgpeaa
/-- The row, under a short name, for the claim. -/
theorem fnExactValidDouble_holds : Rows.FnExactValidDoubleSaid := fnExactValidDouble.proved
end Go.Proofs.Ytdhppadgpkgpeaa

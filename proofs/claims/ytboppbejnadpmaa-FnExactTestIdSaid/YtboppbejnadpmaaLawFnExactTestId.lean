/- The row of the law FnExactTestId: for every input that reads as data the call returns true and the input reads as before. No conditions. -/
import Derived.Test.YtboppbejnadpmaaRows
import Derived.Test.YtboppbejnadpmaaOFnExactTestIdx4
import Derived.Test.YtboppbejnadpmaaPureFnExactTestId
import Derived.Test.YtboppbejnadpmaaOpen
import Derived.Test.YtboppbejnadpmaaWSized
import Derived.WalkKit
import Derived.ProofKit
import Derived.OpenShut
import Derived.ShutString
import Derived.ChangeOld
import Derived.Below
import Derived.SizedLaws
namespace Go.Proofs.Ytboppbejnadpmaa.fnExactTestId
open Go.ChangeShapes Go.WideShapes Go.ChangeAt Go.RowKit
open Go.ChangeMaps (open_string shut_string)
open Go.Proofs.YtboppbejnadpmaaW.PrintWords Go.Proofs.Ytboppbejnadpmaa.OFnExactTestId Go.Proofs.Ytboppbejnadpmaa.Open Go.Proofs.Ytboppbejnadpmaa.Pure.QFnExactTestId
set_option linter.unusedVariables false
theorem own : ownKnob Try.prog.godebug = none := by kernel_rfl
theorem laidOut : laidOutB Try.prog = true := by kernel_rfl
set_option maxRecDepth 100000 in
theorem lifted (os : Os) (started : os.Started) (H : Type) (enc : TypeId × Value → H) :
    ReturnsInHanded {} Try.checked os 6 .any (Rows.fnExactTestIdSpec.pre6 enc Try.prog Try.f6 Rows.fnExactTestIdRow.domain false) (Rows.fnExactTestIdSpec.post enc Try.prog Try.f6 false true false false) := by
  refine returnsInHanded_of_change_sized (C := Try.checked) own started (by kernel_rfl) Try.func6
    (ChangeSpec.witness6 (enc := enc) (C := Try.checked) false ⟨#[], #[.agg #[.string ByteArray.empty, .string ByteArray.empty, .slice none 0 0, .slice none 0 0]], []⟩ 12 (by kernel_rfl) (by kernel_rfl) (by kernel_rfl) (by kernel_rfl)) ?_
  intro W base args ds gs before hval0 hW hcnd hsz0 _
  have hsz : (DataW.weightsEach Try.prog (Try.f6.params.toList ++ Rows.fnExactTestIdSpec.plain.varTypes Try.prog) (ds ++ gs)).all (· ≤ reachBytes) = true := hsz0
  have hval : ∀ (j : Nat) t v, Try.f6.params[j]? = some t → args[j]? = some v → Value.okWide Try.prog W .any base t v := hval0
  have hW' := hW
  obtain ⟨p, q, hA0, hV, rfl, hfz, hnd⟩ := hW
  have hA : DataW.TrodAll enc Try.prog W 0 (fun _ => true) true Try.f6.params.toList args.toList ds p := hA0
  rw [Try.params6] at hA hval hsz
  obtain ⟨v0, vs0, d0, ds0, p0, q0, hargs, rfl, rfl, h0, r0⟩ := trodAll_cons hA
  obtain ⟨rfl, rfl, rfl⟩ := trodAll_nil r0
  obtain rfl : args = #[v0] := by cases args; simp_all
  obtain ⟨rfl, rfl⟩ := trodVars_none hV
  obtain ⟨cs0, rfl, hsz0⟩ := okWide_struct Try.underlying40 (hval 0 40 v0 rfl rfl)
  have k0 := h0
  have lt0 : ∀ x ∈ p0, x.block < W.heap.size := by obtain ⟨m, hm⟩ := k0; exact DataW.trod_lt m _ _ _ hm
  obtain ⟨⟨l0_0, l0_1, l0_2, l0_3⟩, hK0, hq0⟩ := arg_any (d := (Kd.pair Kd.string (Kd.pair Kd.string (Kd.pair (Kd.slice 9 Kd.string) (Kd.slice 9 Kd.string))))) (opens_struct Try.underlying40 rfl (by kernel_rfl) (opensAt_cons rfl (by kernel_rfl) (opens_string Try.underlying9) (opensAt_cons rfl (by kernel_rfl) (opens_string Try.underlying9) (opensAt_cons rfl (by kernel_rfl) (opens_slice _ Try.underlying27 (by kernel_rfl) (opens_string Try.underlying9)) (opensAt_one rfl (by kernel_rfl) (opens_slice _ Try.underlying27 (by kernel_rfl) (opens_string Try.underlying9))))))) h0
  have hq0 : (l0_0.size ≤ 9223372036854775807) ∧ (l0_1.size ≤ 9223372036854775807) ∧ ((l0_2.length ≤ 9223372036854775807 ∧ ∀ y ∈ l0_2, y.size ≤ 9223372036854775807)) ∧ ((l0_3.length ≤ 9223372036854775807 ∧ ∀ y ∈ l0_3, y.size ≤ 9223372036854775807)) := hq0
  obtain ⟨c0_0, d0_0, e0_0, hk0_0, hK0_1⟩ := hK0
  obtain ⟨c0_1, d0_1, e0_1, hk0_1, hK0_2⟩ := hK0_1
  obtain ⟨c0_2, d0_2, e0_2, hk0_2, hK0_3⟩ := hK0_2
  have hk0_3 := hK0_3
  have s0_0 := hk0_0
  have s0_1 := hk0_1
  obtain ⟨a0_2, cap0_2, s0_2, hc0_2, hr0_2⟩ := hk0_2
  obtain ⟨a0_3, cap0_3, s0_3, hc0_3, hr0_3⟩ := hk0_3
  obtain rfl : cs0 = #[.string l0_0, .string l0_1, .slice a0_2 l0_2.length cap0_2, .slice a0_3 l0_3.length cap0_3] := by
    apply Array.toList_inj.1
    have z0 : (Value.agg cs0).cells.toList = cs0.toList := rfl
    have z : cs0.toList = [.string l0_0, .string l0_1, .slice a0_2 l0_2.length cap0_2, .slice a0_3 l0_3.length cap0_3] := by first | (rw [← z0, e0_0, e0_1, e0_2, s0_0, s0_1, s0_2, s0_3]; done) | (rw [← z0, e0_0, e0_1, e0_2, s0_0, s0_1, s0_2, s0_3]; rfl)
    exact z
  clear hA0 hval0 hsz0 hsz
  obtain ⟨k, hk⟩ := main l0_0 l0_1 l0_2 l0_3 hq0
  refine (laws_FnExactTestId.calls k l0_0 l0_1 a0_2 cap0_2 l0_2 a0_3 cap0_3 l0_3 true W hr0_2 hc0_2 hr0_3 hc0_3 hk).mono fun e W' ⟨he, bel⟩ => ?_
  subst he
  exact ⟨_, rfl, _, _, _, [], _, [], hW', trodAll_mk1 (shut_bool Try.underlying4 _), (trodAll_cons_mk (Below.trod laidOut (by kernel_rfl) (of_decide_eq_true (by kernel_rfl)) k0 bel lt0) trodAll_mk0), rfl, bel.frame _, fun h => by cases h⟩
theorem over : Rows.fnExactTestIdRow.holds Try.pinned (OpenSpec.ofChange Rows.fnExactTestIdSpec) :=
  OpenClaim.holds_of_wide 6 Try.f6 rfl rfl rfl rfl rfl rfl rfl ⟨rfl, rfl, rfl, rfl, rfl⟩ rfl rfl rfl rfl rfl (by kernel_rfl) Try.func6 (by kernel_rfl)
    (of_decide_eq_true (by kernel_rfl)) (by unfold Func.isWrapper; first | (rw [if_pos (by decide +kernel)]; kernel_rfl) | (rw [if_neg (by decide +kernel)]; exact ⟨rfl, rfl⟩))
    (fun os started H enc _ => lifted os started H enc)
theorem proved : Rows.FnExactTestIdSaid := over
#print axioms proved
end Go.Proofs.Ytboppbejnadpmaa.fnExactTestId
namespace Go.Proofs.Ytboppbejnadpmaa
/-- The row, under a short name, for the claim. -/
theorem fnExactTestId_holds : Rows.FnExactTestIdSaid := fnExactTestId.proved
end Go.Proofs.Ytboppbejnadpmaa

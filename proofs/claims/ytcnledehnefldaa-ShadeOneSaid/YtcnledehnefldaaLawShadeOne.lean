-- Written by a program of the prover's (lt.py). Not trusted: Lean checks it.
import Derived.Test.YtcnledehnefldaaRows
import Derived.Test.YtcnledehnefldaaOpen
import Derived.Test.YtcnledehnefldaaRk
import Derived.Test.YtcnledehnefldaaOw
import Derived.WalkKit
import Derived.ProofKit
import Derived.OpenShut
import Derived.ShutString
import Derived.ChangeOld
import Derived.Below
import Derived.SizedLaws
import Derived.Carry
namespace Go.Proofs.Ytcnledehnefldaa.shadeOne
open Go.ChangeShapes Go.WideShapes Go.ChangeAt Go.RowKit
open Go.ChangeMaps (open_string shut_string)
set_option linter.unusedVariables false
theorem own : ownKnob Try.prog.godebug = none := by kernel_rfl
theorem laidOut : laidOutB Try.prog = true := by kernel_rfl
set_option maxRecDepth 100000 in
theorem lifted (os : Os) (started : os.Started) (H : Type) (enc : TypeId × Value → H) :
    ReturnsInHanded {} Try.checked os 4 .any (Rows.shadeOneSpec.pre6 enc Try.prog Try.f4 Rows.shadeOneRow.domain false) (Rows.shadeOneSpec.post enc Try.prog Try.f4 false true false false) := by
  refine returnsInHanded_of_change_sized (C := Try.checked) own started (by kernel_rfl) Try.func4
    (ChangeSpec.witness6 (enc := enc) (C := Try.checked) false ⟨#[], #[.agg #[.int .i64 0, .int .i64 0, .int .i64 0, .int .u64 0, .slice none 0 0, .bool false]], []⟩ 8 (by kernel_rfl) (by kernel_rfl) (by kernel_rfl) (by kernel_rfl)) ?_
  intro W base args ds gs before hval0 hW hcnd hsz0 _
  have hsz : (DataW.weightsEach Try.prog (Try.f4.params.toList ++ Rows.shadeOneSpec.plain.varTypes Try.prog) (ds ++ gs)).all (· ≤ reachBytes) = true := hsz0
  have hval : ∀ (j : Nat) t v, Try.f4.params[j]? = some t → args[j]? = some v → Value.okWide Try.prog W .any base t v := hval0
  have hW' := hW
  obtain ⟨p, q, hA0, hV, rfl, hfz, hnd⟩ := hW
  have hA : DataW.TrodAll enc Try.prog W 0 (fun _ => true) true Try.f4.params.toList args.toList ds p := hA0
  rw [Try.params4] at hA hval hsz
  obtain ⟨v0, vs0, d0, ds0, p0, q0, hargs, rfl, rfl, h0, r0⟩ := trodAll_cons hA
  obtain ⟨rfl, rfl, rfl⟩ := trodAll_nil r0
  obtain rfl : args = #[v0] := by cases args; simp_all
  obtain ⟨rfl, rfl⟩ := trodVars_none hV
  have k0 := h0
  have lt0 := Open.trod_places k0
  obtain ⟨cs0, rfl, _⟩ : ∃ cs : Array Value, v0 = .agg cs ∧ True := by
    have hv := (hval 0 46 v0 rfl rfl)
    unfold Value.okWide at hv
    rw [Try.underlying46] at hv
    obtain ⟨cs, rfl, _, _⟩ := hv
    exact ⟨cs, rfl, trivial⟩
  obtain ⟨b0, w0, x0⟩ := Rk.open_agg (ks := [.int .i64, .int .i64, .int .i64, .int .u64, .slice [.int .i64], .bool]) (Ar.op46) 8 (by kernel_rfl) h0
  clear hA0 hval0 hsz0 hsz
  refine ((Ar.one_row cs0 b0 W w0 x0.2.2.2.1)).mono fun e W' ⟨he, bel⟩ => ?_
  subst he
  exact ⟨_, rfl, _, _, _, [], _, [], hW', trodAll_mk1 (shut_bool Try.underlying4 _), (trodAll_cons_mk (Below.trod laidOut (by kernel_rfl) (of_decide_eq_true (by kernel_rfl)) k0 bel lt0) trodAll_mk0), rfl, bel.frame _, fun h => by cases h⟩
theorem over : Rows.shadeOneRow.holds Try.pinned (OpenSpec.ofChange Rows.shadeOneSpec) :=
  OpenClaim.holds_of_wide 4 Try.f4 rfl rfl rfl rfl rfl rfl rfl ⟨rfl, rfl, rfl, rfl, rfl⟩ rfl rfl rfl rfl rfl (by kernel_rfl) Try.func4 (by kernel_rfl)
    (of_decide_eq_true (by kernel_rfl)) (by unfold Func.isWrapper; first | (rw [if_pos (by decide +kernel)]; kernel_rfl) | (rw [if_neg (by decide +kernel)]; exact ⟨rfl, rfl⟩))
    (fun os started H enc _ => lifted os started H enc)
theorem proved : Rows.ShadeOneSaid := over
#print axioms proved
end Go.Proofs.Ytcnledehnefldaa.shadeOne
namespace Go.Proofs.Ytcnledehnefldaa
/-- The row, under a short name, for the claim. -/
theorem shadeOne_holds : Rows.ShadeOneSaid := shadeOne.proved
end Go.Proofs.Ytcnledehnefldaa

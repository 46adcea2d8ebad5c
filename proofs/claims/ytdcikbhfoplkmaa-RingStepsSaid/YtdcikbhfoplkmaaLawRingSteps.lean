import Derived.Test.YtdcikbhfoplkmaaRows
import Derived.Test.YtdcikbhfoplkmaaOpen
import Derived.Test.YtdcikbhfoplkmaaRk
import Derived.Test.YtdcikbhfoplkmaaRst
import Derived.WalkKit
import Derived.ProofKit
import Derived.OpenShut
import Derived.ShutString
import Derived.ChangeOld
import Derived.Below
import Derived.SizedLaws
import Derived.Carry
-- Written by a program of the prover's (lt.py). Not trusted: Lean checks it.
namespace Go.Proofs.Ytdcikbhfoplkmaa.ringSteps
open Go.ChangeShapes Go.WideShapes Go.ChangeAt Go.RowKit
open Go.ChangeMaps (open_string shut_string)
set_option linter.unusedVariables false
theorem own : ownKnob Try.prog.godebug = none := by kernel_rfl
theorem laidOut : laidOutB Try.prog = true := by kernel_rfl
set_option maxRecDepth 100000 in
theorem lifted (os : Os) (started : os.Started) (H : Type) (enc : TypeId × Value → H) :
    ReturnsInHanded {} Try.checked os 7 .any (Rows.ringStepsSpec.pre6 enc Try.prog Try.f7 Rows.ringStepsRow.domain false) (Rows.ringStepsSpec.post enc Try.prog Try.f7 false true false false) := by
  refine returnsInHanded_of_change_sized (C := Try.checked) own started (by kernel_rfl) Try.func7
    (ChangeSpec.witness6 (enc := enc) (C := Try.checked) false ⟨#[], #[.agg #[.int .i64 0, .int .i64 0, .int .i64 0], .slice none 0 0], []⟩ 8 (by kernel_rfl) (by kernel_rfl) (by kernel_rfl) (by kernel_rfl)) ?_
  intro W base args ds gs before hval0 hW hcnd hsz0 _
  have hsz : (DataW.weightsEach Try.prog (Try.f7.params.toList ++ Rows.ringStepsSpec.plain.varTypes Try.prog) (ds ++ gs)).all (· ≤ reachBytes) = true := hsz0
  have hval : ∀ (j : Nat) t v, Try.f7.params[j]? = some t → args[j]? = some v → Value.okWide Try.prog W .any base t v := hval0
  have hW' := hW
  obtain ⟨p, q, hA0, hV, rfl, hfz, hnd⟩ := hW
  have hA : DataW.TrodAll enc Try.prog W 0 (fun _ => true) true Try.f7.params.toList args.toList ds p := hA0
  rw [Try.params7] at hA hval hsz
  obtain ⟨v0, vs0, d0, ds0, p0, q0, hargs, rfl, rfl, h0, r0⟩ := trodAll_cons hA
  obtain ⟨v1, vs1, d1, ds1, p1, q1, rfl, rfl, rfl, h1, r1⟩ := trodAll_cons r0
  obtain ⟨rfl, rfl, rfl⟩ := trodAll_nil r1
  obtain rfl : args = #[v0, v1] := by cases args; simp_all
  obtain ⟨rfl, rfl⟩ := trodVars_none hV
  have k0 := h0
  have lt0 := Open.trod_places k0
  obtain ⟨cs0, rfl, F0_0⟩ := Open.open_struct (n := 8) (ks := [Open.FK.int .i64, Open.FK.int .i64, Open.FK.int .i64]) Try.underlying23 (by kernel_rfl) (hval 0 23 v0 rfl rfl) h0
  obtain ⟨_, _, rfl, ⟨a0_0, rfl, w0_0⟩, F0_1⟩ := F0_0
  obtain ⟨_, _, rfl, ⟨a0_1, rfl, w0_1⟩, F0_2⟩ := F0_1
  obtain ⟨_, _, rfl, ⟨a0_2, rfl, w0_2⟩, F0_3⟩ := F0_2
  obtain rfl := F0_3
  obtain ⟨a1, len1, cap1, rfl⟩ := okWide_slice Try.underlying69 (hval 1 69 v1 rfl rfl)
  have k1 := h1
  have lt1 := Open.trod_places k1
  obtain ⟨l1, rfl, w1, y1, m1, x1⟩ := Rk.open_row (ks := [.int .i64, .int .i64, .int .u64, .bool]) (Dd.opOp) 8 (by kernel_rfl) h1
  clear hA0 hval0 hsz0 hsz
  refine ((Dd.steps_row a0_0 a0_1 a0_2 a1 cap1 l1 W w1 x1)).mono fun e W' ⟨he, bel⟩ => ?_
  subst he
  exact ⟨_, rfl, _, _, _, [], _, [], hW', trodAll_mk1 (shut_bool Try.underlying4 _), (trodAll_cons_mk (Below.trod laidOut (by kernel_rfl) (of_decide_eq_true (by kernel_rfl)) k0 bel lt0) (trodAll_cons_mk (Below.trod laidOut (by kernel_rfl) (of_decide_eq_true (by kernel_rfl)) k1 bel lt1) trodAll_mk0)), rfl, bel.frame _, fun h => by cases h⟩
theorem over : Rows.ringStepsRow.holds Try.pinned (OpenSpec.ofChange Rows.ringStepsSpec) :=
  OpenClaim.holds_of_wide 7 Try.f7 rfl rfl rfl rfl rfl rfl rfl ⟨rfl, rfl, rfl, rfl, rfl⟩ rfl rfl rfl rfl rfl (by kernel_rfl) Try.func7 (by kernel_rfl)
    (of_decide_eq_true (by kernel_rfl)) (by unfold Func.isWrapper; first | (rw [if_pos (by decide +kernel)]; kernel_rfl) | (rw [if_neg (by decide +kernel)]; exact ⟨rfl, rfl⟩))
    (fun os started H enc _ => lifted os started H enc)
theorem proved : Rows.RingStepsSaid := over
#print axioms proved
end Go.Proofs.Ytdcikbhfoplkmaa.ringSteps
namespace Go.Proofs.Ytdcikbhfoplkmaa
/-- The row, under a short name, for the claim. -/
theorem ringSteps_holds : Rows.RingStepsSaid := ringSteps.proved
end Go.Proofs.Ytdcikbhfoplkmaa

-- Written by a program of the prover's (lt.py). Not trusted: Lean checks it.
import Derived.Test.YtneppenmhbjfkaaRows
import Derived.Test.YtneppenmhbjfkaaOpen
import Derived.Test.YtneppenmhbjfkaaRk
import Derived.Test.YtneppenmhbjfkaaAoth
import Derived.WalkKit
import Derived.ProofKit
import Derived.OpenShut
import Derived.ShutString
import Derived.ChangeOld
import Derived.Below
import Derived.SizedLaws
import Derived.Carry
namespace Go.Proofs.Ytneppenmhbjfkaa.arenaOthers
open Go.ChangeShapes Go.WideShapes Go.ChangeAt Go.RowKit
open Go.ChangeMaps (open_string shut_string)
set_option linter.unusedVariables false
theorem own : ownKnob Try.prog.godebug = none := by kernel_rfl
theorem laidOut : laidOutB Try.prog = true := by kernel_rfl
set_option maxRecDepth 100000 in
theorem lifted (os : Os) (started : os.Started) (H : Type) (enc : TypeId × Value → H) :
    ReturnsInHanded {} Try.checked os 3 .any (Rows.arenaOthersSpec.pre6 enc Try.prog Try.f3 Rows.arenaOthersRow.domain false) (Rows.arenaOthersSpec.post enc Try.prog Try.f3 false true false false) := by
  refine returnsInHanded_of_change_sized (C := Try.checked) own started (by kernel_rfl) Try.func3
    (ChangeSpec.witness6 (enc := enc) (C := Try.checked) false ⟨#[], #[.slice none 0 0, .agg #[.int .i64 0, .int .i64 0, .int .i64 0, .int .u64 0, .int .u64 0]], []⟩ 8 (by kernel_rfl) (by kernel_rfl) (by kernel_rfl) (by kernel_rfl)) ?_
  intro W base args ds gs before hval0 hW hcnd hsz0 _
  have hsz : (DataW.weightsEach Try.prog (Try.f3.params.toList ++ Rows.arenaOthersSpec.plain.varTypes Try.prog) (ds ++ gs)).all (· ≤ reachBytes) = true := hsz0
  have hval : ∀ (j : Nat) t v, Try.f3.params[j]? = some t → args[j]? = some v → Value.okWide Try.prog W .any base t v := hval0
  have hW' := hW
  obtain ⟨p, q, hA0, hV, rfl, hfz, hnd⟩ := hW
  have hA : DataW.TrodAll enc Try.prog W 0 (fun _ => true) true Try.f3.params.toList args.toList ds p := hA0
  rw [Try.params3] at hA hval hsz
  obtain ⟨v0, vs0, d0, ds0, p0, q0, hargs, rfl, rfl, h0, r0⟩ := trodAll_cons hA
  obtain ⟨v1, vs1, d1, ds1, p1, q1, rfl, rfl, rfl, h1, r1⟩ := trodAll_cons r0
  obtain ⟨rfl, rfl, rfl⟩ := trodAll_nil r1
  obtain rfl : args = #[v0, v1] := by cases args; simp_all
  obtain ⟨rfl, rfl⟩ := trodVars_none hV
  obtain ⟨a0, len0, cap0, rfl⟩ := okWide_slice Try.underlying22 (hval 0 22 v0 rfl rfl)
  have k0 := h0
  have lt0 := Open.trod_places k0
  obtain ⟨l0, rfl, w0, y0, m0, x0⟩ := Rk.open_row (ks := [.int .u64]) (Rk.opens_int .u64) 8 (by kernel_rfl) h0
  have k1 := h1
  have lt1 := Open.trod_places k1
  obtain ⟨cs1, rfl, F1_0⟩ := Open.open_struct (n := 8) (ks := [Open.FK.int .i64, Open.FK.int .i64, Open.FK.int .i64, Open.FK.int .u64, Open.FK.int .u64]) Try.underlying25 (by kernel_rfl) (hval 1 25 v1 rfl rfl) h1
  obtain ⟨_, _, rfl, ⟨a1_0, rfl, w1_0⟩, F1_1⟩ := F1_0
  obtain ⟨_, _, rfl, ⟨a1_1, rfl, w1_1⟩, F1_2⟩ := F1_1
  obtain ⟨_, _, rfl, ⟨a1_2, rfl, w1_2⟩, F1_3⟩ := F1_2
  obtain ⟨_, _, rfl, ⟨a1_3, rfl, w1_3⟩, F1_4⟩ := F1_3
  obtain ⟨_, _, rfl, ⟨a1_4, rfl, w1_4⟩, F1_5⟩ := F1_4
  obtain rfl := F1_5
  clear hA0 hval0 hsz0 hsz
  refine (Ar.others a0 cap0 l0 a1_0 a1_1 a1_2 a1_3 a1_4 W w0 y0).mono fun e W' ⟨he, bel⟩ => ?_
  subst he
  exact ⟨_, rfl, _, _, _, [], _, [], hW', trodAll_mk1 (shut_bool Try.underlying4 _), (trodAll_cons_mk (Below.trod laidOut (by kernel_rfl) (of_decide_eq_true (by kernel_rfl)) k0 bel lt0) (trodAll_cons_mk (Below.trod laidOut (by kernel_rfl) (of_decide_eq_true (by kernel_rfl)) k1 bel lt1) trodAll_mk0)), rfl, bel.frame _, fun h => by cases h⟩
theorem over : Rows.arenaOthersRow.holds Try.pinned (OpenSpec.ofChange Rows.arenaOthersSpec) :=
  OpenClaim.holds_of_wide 3 Try.f3 rfl rfl rfl rfl rfl rfl rfl ⟨rfl, rfl, rfl, rfl, rfl⟩ rfl rfl rfl rfl rfl (by kernel_rfl) Try.func3 (by kernel_rfl)
    (of_decide_eq_true (by kernel_rfl)) (by unfold Func.isWrapper; first | (rw [if_pos (by decide +kernel)]; kernel_rfl) | (rw [if_neg (by decide +kernel)]; exact ⟨rfl, rfl⟩))
    (fun os started H enc _ => lifted os started H enc)
theorem proved : Rows.ArenaOthersSaid := over
#print axioms proved
end Go.Proofs.Ytneppenmhbjfkaa.arenaOthers
namespace Go.Proofs.Ytneppenmhbjfkaa
/-- The row, under a short name, for the claim. -/
theorem arenaOthers_holds : Rows.ArenaOthersSaid := arenaOthers.proved
end Go.Proofs.Ytneppenmhbjfkaa
